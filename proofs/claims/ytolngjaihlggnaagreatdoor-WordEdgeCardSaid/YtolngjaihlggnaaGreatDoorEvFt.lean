import Derived.Test.YtolngjaihlggnaaGreatDoorEvPg0
import Derived.Test.YtolngjaihlggnaaGreatDoorEvCall
import Derived.Test.YtolngjaihlggnaaGreatDoorProg
import Derived.KernelRfl
/-! The table of the functions, and that each is the program's. -/
namespace Go.Proofs.YtolngjaihlggnaaGreatDoor
open Go.Ev Go.Ev.Pg
theorem r3 : rFunc Tryz.prog 3 = some rf3 := by kernel_rfl
theorem r4 : rFunc Tryz.prog 4 = some rf4 := by kernel_rfl
theorem r5 : rFunc Tryz.prog 5 = some rf5 := by kernel_rfl
theorem r6 : rFunc Tryz.prog 6 = some rf6 := by kernel_rfl
theorem r7 : rFunc Tryz.prog 7 = some rf7 := by kernel_rfl
theorem r8 : rFunc Tryz.prog 8 = some rf8 := by kernel_rfl
theorem r9 : rFunc Tryz.prog 9 = some rf9 := by kernel_rfl
theorem r10 : rFunc Tryz.prog 10 = some rf10 := by kernel_rfl
theorem r11 : rFunc Tryz.prog 11 = some rf11 := by kernel_rfl
theorem r12 : rFunc Tryz.prog 12 = some rf12 := by kernel_rfl
theorem r13 : rFunc Tryz.prog 13 = some rf13 := by kernel_rfl
theorem r14 : rFunc Tryz.prog 14 = some rf14 := by kernel_rfl
theorem r15 : rFunc Tryz.prog 15 = some rf15 := by kernel_rfl
theorem r16 : rFunc Tryz.prog 16 = some rf16 := by kernel_rfl
theorem r17 : rFunc Tryz.prog 17 = some rf17 := by kernel_rfl
theorem r18 : rFunc Tryz.prog 18 = some rf18 := by kernel_rfl
theorem r19 : rFunc Tryz.prog 19 = some rf19 := by kernel_rfl
theorem r20 : rFunc Tryz.prog 20 = some rf20 := by kernel_rfl
theorem r21 : rFunc Tryz.prog 21 = some rf21 := by kernel_rfl
theorem r22 : rFunc Tryz.prog 22 = some rf22 := by kernel_rfl
theorem r23 : rFunc Tryz.prog 23 = some rf23 := by kernel_rfl
theorem r24 : rFunc Tryz.prog 24 = some rf24 := by kernel_rfl
theorem r25 : rFunc Tryz.prog 25 = some rf25 := by kernel_rfl
theorem r26 : rFunc Tryz.prog 26 = some rf26 := by kernel_rfl
theorem r27 : rFunc Tryz.prog 27 = some rf27 := by kernel_rfl
theorem r28 : rFunc Tryz.prog 28 = some rf28 := by kernel_rfl
theorem r29 : rFunc Tryz.prog 29 = some rf29 := by kernel_rfl
theorem r30 : rFunc Tryz.prog 30 = some rf30 := by kernel_rfl
theorem r31 : rFunc Tryz.prog 31 = some rf31 := by kernel_rfl
theorem r32 : rFunc Tryz.prog 32 = some rf32 := by kernel_rfl
theorem r33 : rFunc Tryz.prog 33 = some rf33 := by kernel_rfl
theorem r34 : rFunc Tryz.prog 34 = some rf34 := by kernel_rfl
theorem r35 : rFunc Tryz.prog 35 = some rf35 := by kernel_rfl
theorem r36 : rFunc Tryz.prog 36 = some rf36 := by kernel_rfl
theorem r37 : rFunc Tryz.prog 37 = some rf37 := by kernel_rfl
theorem r38 : rFunc Tryz.prog 38 = some rf38 := by kernel_rfl
theorem r39 : rFunc Tryz.prog 39 = some rf39 := by kernel_rfl
theorem r40 : rFunc Tryz.prog 40 = some rf40 := by kernel_rfl
theorem r41 : rFunc Tryz.prog 41 = some rf41 := by kernel_rfl
theorem r42 : rFunc Tryz.prog 42 = some rf42 := by kernel_rfl
theorem r43 : rFunc Tryz.prog 43 = some rf43 := by kernel_rfl
theorem r44 : rFunc Tryz.prog 44 = some rf44 := by kernel_rfl
theorem r45 : rFunc Tryz.prog 45 = some rf45 := by kernel_rfl
theorem r46 : rFunc Tryz.prog 46 = some rf46 := by kernel_rfl
theorem r47 : rFunc Tryz.prog 47 = some rf47 := by kernel_rfl
theorem r48 : rFunc Tryz.prog 48 = some rf48 := by kernel_rfl
theorem r49 : rFunc Tryz.prog 49 = some rf49 := by kernel_rfl
theorem r50 : rFunc Tryz.prog 50 = some rf50 := by kernel_rfl
theorem r51 : rFunc Tryz.prog 51 = some rf51 := by kernel_rfl
theorem r52 : rFunc Tryz.prog 52 = some rf52 := by kernel_rfl
theorem r53 : rFunc Tryz.prog 53 = some rf53 := by kernel_rfl
theorem r54 : rFunc Tryz.prog 54 = some rf54 := by kernel_rfl
theorem r55 : rFunc Tryz.prog 55 = some rf55 := by kernel_rfl
theorem r56 : rFunc Tryz.prog 56 = some rf56 := by kernel_rfl
theorem r57 : rFunc Tryz.prog 57 = some rf57 := by kernel_rfl
theorem r58 : rFunc Tryz.prog 58 = some rf58 := by kernel_rfl
theorem r59 : rFunc Tryz.prog 59 = some rf59 := by kernel_rfl
theorem r60 : rFunc Tryz.prog 60 = some rf60 := by kernel_rfl
theorem r61 : rFunc Tryz.prog 61 = some rf61 := by kernel_rfl
theorem r62 : rFunc Tryz.prog 62 = some rf62 := by kernel_rfl
theorem r63 : rFunc Tryz.prog 63 = some rf63 := by kernel_rfl
theorem r64 : rFunc Tryz.prog 64 = some rf64 := by kernel_rfl
theorem r65 : rFunc Tryz.prog 65 = some rf65 := by kernel_rfl
theorem r66 : rFunc Tryz.prog 66 = some rf66 := by kernel_rfl
theorem r68 : rFunc Tryz.prog 68 = some rf68 := by kernel_rfl
theorem r69 : rFunc Tryz.prog 69 = some rf69 := by kernel_rfl
theorem r70 : rFunc Tryz.prog 70 = some rf70 := by kernel_rfl
theorem r71 : rFunc Tryz.prog 71 = some rf71 := by kernel_rfl
theorem r72 : rFunc Tryz.prog 72 = some rf72 := by kernel_rfl
theorem r73 : rFunc Tryz.prog 73 = some rf73 := by kernel_rfl
theorem r74 : rFunc Tryz.prog 74 = some rf74 := by kernel_rfl
theorem r75 : rFunc Tryz.prog 75 = some rf75 := by kernel_rfl
theorem r76 : rFunc Tryz.prog 76 = some rf76 := by kernel_rfl
theorem r77 : rFunc Tryz.prog 77 = some rf77 := by kernel_rfl
theorem r78 : rFunc Tryz.prog 78 = some rf78 := by kernel_rfl
theorem r81 : rFunc Tryz.prog 81 = some rf81 := by kernel_rfl
theorem r82 : rFunc Tryz.prog 82 = some rf82 := by kernel_rfl
theorem r107 : rFunc Tryz.prog 107 = some rf107 := by kernel_rfl
theorem r108 : rFunc Tryz.prog 108 = some rf108 := by kernel_rfl
theorem r109 : rFunc Tryz.prog 109 = some rf109 := by kernel_rfl
theorem r110 : rFunc Tryz.prog 110 = some rf110 := by kernel_rfl
theorem r111 : rFunc Tryz.prog 111 = some rf111 := by kernel_rfl
theorem r112 : rFunc Tryz.prog 112 = some rf112 := by kernel_rfl
theorem r113 : rFunc Tryz.prog 113 = some rf113 := by kernel_rfl
theorem r114 : rFunc Tryz.prog 114 = some rf114 := by kernel_rfl
theorem r115 : rFunc Tryz.prog 115 = some rf115 := by kernel_rfl
theorem r116 : rFunc Tryz.prog 116 = some rf116 := by kernel_rfl
theorem r117 : rFunc Tryz.prog 117 = some rf117 := by kernel_rfl
theorem r118 : rFunc Tryz.prog 118 = some rf118 := by kernel_rfl
theorem r119 : rFunc Tryz.prog 119 = some rf119 := by kernel_rfl
theorem r120 : rFunc Tryz.prog 120 = some rf120 := by kernel_rfl
theorem r121 : rFunc Tryz.prog 121 = some rf121 := by kernel_rfl
theorem r122 : rFunc Tryz.prog 122 = some rf122 := by kernel_rfl
theorem r123 : rFunc Tryz.prog 123 = some rf123 := by kernel_rfl
def ftp : List (Nat × RFunc) := [(3, rf3), (4, rf4), (5, rf5), (6, rf6), (7, rf7), (8, rf8), (9, rf9), (10, rf10), (11, rf11), (12, rf12), (13, rf13), (14, rf14), (15, rf15), (16, rf16), (17, rf17), (18, rf18), (19, rf19), (20, rf20), (21, rf21), (22, rf22), (23, rf23), (24, rf24), (25, rf25), (26, rf26), (27, rf27), (28, rf28), (29, rf29), (30, rf30), (31, rf31), (32, rf32), (33, rf33), (34, rf34), (35, rf35), (36, rf36), (37, rf37), (38, rf38), (39, rf39), (40, rf40), (41, rf41), (42, rf42), (43, rf43), (44, rf44), (45, rf45), (46, rf46), (47, rf47), (48, rf48), (49, rf49), (50, rf50), (51, rf51), (52, rf52), (53, rf53), (54, rf54), (55, rf55), (56, rf56), (57, rf57), (58, rf58), (59, rf59), (60, rf60), (61, rf61), (62, rf62), (63, rf63), (64, rf64), (65, rf65), (66, rf66), (68, rf68), (69, rf69), (70, rf70), (71, rf71), (72, rf72), (73, rf73), (74, rf74), (75, rf75), (76, rf76), (77, rf77), (78, rf78), (81, rf81), (82, rf82), (107, rf107), (108, rf108), (109, rf109), (110, rf110), (111, rf111), (112, rf112), (113, rf113), (114, rf114), (115, rf115), (116, rf116), (117, rf117), (118, rf118), (119, rf119), (120, rf120), (121, rf121), (122, rf122), (123, rf123)]
def ft : T RFunc := (.node none (.node none (.node (some rf3) (.node (some rf7) (.node (some rf15) (.node (some rf31) (.node (some rf63) .nil .nil) .nil) (.node (some rf47) .nil (.node (some rf111) .nil .nil))) (.node (some rf23) (.node (some rf39) (.node (some rf71) .nil .nil) .nil) (.node (some rf55) .nil (.node (some rf119) .nil .nil)))) (.node (some rf11) (.node (some rf19) (.node (some rf35) .nil .nil) (.node (some rf51) .nil (.node (some rf115) .nil .nil))) (.node (some rf27) (.node (some rf43) (.node (some rf75) .nil .nil) (.node (some rf107) .nil .nil)) (.node (some rf59) .nil (.node (some rf123) .nil .nil))))) (.node (some rf5) (.node (some rf9) (.node (some rf17) (.node (some rf33) (.node (some rf65) .nil .nil) .nil) (.node (some rf49) (.node (some rf81) .nil .nil) (.node (some rf113) .nil .nil))) (.node (some rf25) (.node (some rf41) (.node (some rf73) .nil .nil) .nil) (.node (some rf57) .nil (.node (some rf121) .nil .nil)))) (.node (some rf13) (.node (some rf21) (.node (some rf37) (.node (some rf69) .nil .nil) .nil) (.node (some rf53) .nil (.node (some rf117) .nil .nil))) (.node (some rf29) (.node (some rf45) (.node (some rf77) .nil .nil) (.node (some rf109) .nil .nil)) (.node (some rf61) .nil .nil))))) (.node none (.node (some rf4) (.node (some rf8) (.node (some rf16) (.node (some rf32) (.node (some rf64) .nil .nil) .nil) (.node (some rf48) .nil (.node (some rf112) .nil .nil))) (.node (some rf24) (.node (some rf40) (.node (some rf72) .nil .nil) .nil) (.node (some rf56) .nil (.node (some rf120) .nil .nil)))) (.node (some rf12) (.node (some rf20) (.node (some rf36) (.node (some rf68) .nil .nil) .nil) (.node (some rf52) .nil (.node (some rf116) .nil .nil))) (.node (some rf28) (.node (some rf44) (.node (some rf76) .nil .nil) (.node (some rf108) .nil .nil)) (.node (some rf60) .nil .nil)))) (.node (some rf6) (.node (some rf10) (.node (some rf18) (.node (some rf34) (.node (some rf66) .nil .nil) .nil) (.node (some rf50) (.node (some rf82) .nil .nil) (.node (some rf114) .nil .nil))) (.node (some rf26) (.node (some rf42) (.node (some rf74) .nil .nil) .nil) (.node (some rf58) .nil (.node (some rf122) .nil .nil)))) (.node (some rf14) (.node (some rf22) (.node (some rf38) (.node (some rf70) .nil .nil) .nil) (.node (some rf54) .nil (.node (some rf118) .nil .nil))) (.node (some rf30) (.node (some rf46) (.node (some rf78) .nil .nil) (.node (some rf110) .nil .nil)) (.node (some rf62) .nil .nil))))))
def mkT : List (Nat × RFunc) → T RFunc
  | [] => .nil
  | p :: r => (mkT r).set p.1 p.2
theorem ft_eq : ft = mkT ftp := by kernel_rfl
def AllR (P : Program) : List (Nat × RFunc) → Prop
  | [] => True
  | p :: r => rFunc P p.1 = some p.2 ∧ AllR P r
theorem mkT_ok (P : Program) : ∀ l, AllR P l → FtOk P (mkT l) := by
  intro l
  induction l with
  | nil => intro _ f rf h; simp [mkT, T.get] at h
  | cons p l ih =>
    intro ⟨h1, h2⟩ f rf h
    simp only [mkT] at h
    by_cases hp : p.1 = f
    · subst hp
      rw [T.get_set_same] at h
      cases h
      exact h1
    · rw [T.get_set_ne _ _ hp] at h
      exact ih h2 f rf h
theorem ft_ok : FtOk Tryz.prog ft := by
  rw [ft_eq]
  exact mkT_ok _ _ ⟨r3, r4, r5, r6, r7, r8, r9, r10, r11, r12, r13, r14, r15, r16, r17, r18, r19, r20, r21, r22, r23, r24, r25, r26, r27, r28, r29, r30, r31, r32, r33, r34, r35, r36, r37, r38, r39, r40, r41, r42, r43, r44, r45, r46, r47, r48, r49, r50, r51, r52, r53, r54, r55, r56, r57, r58, r59, r60, r61, r62, r63, r64, r65, r66, r68, r69, r70, r71, r72, r73, r74, r75, r76, r77, r78, r81, r82, r107, r108, r109, r110, r111, r112, r113, r114, r115, r116, r117, r118, r119, r120, r121, r122, r123, trivial⟩
end Go.Proofs.YtolngjaihlggnaaGreatDoor
