import Derived.Test.YtolngjaihlggnaaGreatDoorEvPg0
import Derived.Test.YtolngjaihlggnaaGreatDoorEvPg1
import Derived.Test.YtolngjaihlggnaaGreatDoorEvFastC
import Derived.Test.YtolngjaihlggnaaGreatDoorProg
import Derived.KernelRfl
/-! The table of the functions, and that each is the program's. -/
namespace Go.Proofs.YtolngjaihlggnaaGreatDoor
open Go.Ev Go.Ev.Pg
theorem r3 : rFunc Tryz.prog 3 = some (FFunc.toRF ff3) := by kernel_rfl
theorem r4 : rFunc Tryz.prog 4 = some (FFunc.toRF ff4) := by kernel_rfl
theorem r5 : rFunc Tryz.prog 5 = some (FFunc.toRF ff5) := by kernel_rfl
theorem r6 : rFunc Tryz.prog 6 = some (FFunc.toRF ff6) := by kernel_rfl
theorem r7 : rFunc Tryz.prog 7 = some (FFunc.toRF ff7) := by kernel_rfl
theorem r8 : rFunc Tryz.prog 8 = some (FFunc.toRF ff8) := by kernel_rfl
theorem r9 : rFunc Tryz.prog 9 = some (FFunc.toRF ff9) := by kernel_rfl
theorem r10 : rFunc Tryz.prog 10 = some (FFunc.toRF ff10) := by kernel_rfl
theorem r11 : rFunc Tryz.prog 11 = some (FFunc.toRF ff11) := by kernel_rfl
theorem r12 : rFunc Tryz.prog 12 = some (FFunc.toRF ff12) := by kernel_rfl
theorem r13 : rFunc Tryz.prog 13 = some (FFunc.toRF ff13) := by kernel_rfl
theorem r14 : rFunc Tryz.prog 14 = some (FFunc.toRF ff14) := by kernel_rfl
theorem r15 : rFunc Tryz.prog 15 = some (FFunc.toRF ff15) := by kernel_rfl
theorem r16 : rFunc Tryz.prog 16 = some (FFunc.toRF ff16) := by kernel_rfl
theorem r17 : rFunc Tryz.prog 17 = some (FFunc.toRF ff17) := by kernel_rfl
theorem r18 : rFunc Tryz.prog 18 = some (FFunc.toRF ff18) := by kernel_rfl
theorem r19 : rFunc Tryz.prog 19 = some (FFunc.toRF ff19) := by kernel_rfl
theorem r20 : rFunc Tryz.prog 20 = some (FFunc.toRF ff20) := by kernel_rfl
theorem r21 : rFunc Tryz.prog 21 = some (FFunc.toRF ff21) := by kernel_rfl
theorem r22 : rFunc Tryz.prog 22 = some (FFunc.toRF ff22) := by kernel_rfl
theorem r23 : rFunc Tryz.prog 23 = some (FFunc.toRF ff23) := by kernel_rfl
theorem r24 : rFunc Tryz.prog 24 = some (FFunc.toRF ff24) := by kernel_rfl
theorem r25 : rFunc Tryz.prog 25 = some (FFunc.toRF ff25) := by kernel_rfl
theorem r26 : rFunc Tryz.prog 26 = some (FFunc.toRF ff26) := by kernel_rfl
theorem r27 : rFunc Tryz.prog 27 = some (FFunc.toRF ff27) := by kernel_rfl
theorem r28 : rFunc Tryz.prog 28 = some (FFunc.toRF ff28) := by kernel_rfl
theorem r29 : rFunc Tryz.prog 29 = some (FFunc.toRF ff29) := by kernel_rfl
theorem r30 : rFunc Tryz.prog 30 = some (FFunc.toRF ff30) := by kernel_rfl
theorem r31 : rFunc Tryz.prog 31 = some (FFunc.toRF ff31) := by kernel_rfl
theorem r32 : rFunc Tryz.prog 32 = some (FFunc.toRF ff32) := by kernel_rfl
theorem r33 : rFunc Tryz.prog 33 = some (FFunc.toRF ff33) := by kernel_rfl
theorem r34 : rFunc Tryz.prog 34 = some (FFunc.toRF ff34) := by kernel_rfl
theorem r35 : rFunc Tryz.prog 35 = some (FFunc.toRF ff35) := by kernel_rfl
theorem r36 : rFunc Tryz.prog 36 = some (FFunc.toRF ff36) := by kernel_rfl
theorem r37 : rFunc Tryz.prog 37 = some (FFunc.toRF ff37) := by kernel_rfl
theorem r38 : rFunc Tryz.prog 38 = some (FFunc.toRF ff38) := by kernel_rfl
theorem r39 : rFunc Tryz.prog 39 = some (FFunc.toRF ff39) := by kernel_rfl
theorem r40 : rFunc Tryz.prog 40 = some (FFunc.toRF ff40) := by kernel_rfl
theorem r41 : rFunc Tryz.prog 41 = some (FFunc.toRF ff41) := by kernel_rfl
theorem r42 : rFunc Tryz.prog 42 = some (FFunc.toRF ff42) := by kernel_rfl
theorem r43 : rFunc Tryz.prog 43 = some (FFunc.toRF ff43) := by kernel_rfl
theorem r44 : rFunc Tryz.prog 44 = some (FFunc.toRF ff44) := by kernel_rfl
theorem r45 : rFunc Tryz.prog 45 = some (FFunc.toRF ff45) := by kernel_rfl
theorem r46 : rFunc Tryz.prog 46 = some (FFunc.toRF ff46) := by kernel_rfl
theorem r47 : rFunc Tryz.prog 47 = some (FFunc.toRF ff47) := by kernel_rfl
theorem r48 : rFunc Tryz.prog 48 = some (FFunc.toRF ff48) := by kernel_rfl
theorem r49 : rFunc Tryz.prog 49 = some (FFunc.toRF ff49) := by kernel_rfl
theorem r50 : rFunc Tryz.prog 50 = some (FFunc.toRF ff50) := by kernel_rfl
theorem r51 : rFunc Tryz.prog 51 = some (FFunc.toRF ff51) := by kernel_rfl
theorem r52 : rFunc Tryz.prog 52 = some (FFunc.toRF ff52) := by kernel_rfl
theorem r53 : rFunc Tryz.prog 53 = some (FFunc.toRF ff53) := by kernel_rfl
theorem r54 : rFunc Tryz.prog 54 = some (FFunc.toRF ff54) := by kernel_rfl
theorem r55 : rFunc Tryz.prog 55 = some (FFunc.toRF ff55) := by kernel_rfl
theorem r56 : rFunc Tryz.prog 56 = some (FFunc.toRF ff56) := by kernel_rfl
theorem r57 : rFunc Tryz.prog 57 = some (FFunc.toRF ff57) := by kernel_rfl
theorem r58 : rFunc Tryz.prog 58 = some (FFunc.toRF ff58) := by kernel_rfl
theorem r59 : rFunc Tryz.prog 59 = some (FFunc.toRF ff59) := by kernel_rfl
theorem r60 : rFunc Tryz.prog 60 = some (FFunc.toRF ff60) := by kernel_rfl
theorem r61 : rFunc Tryz.prog 61 = some (FFunc.toRF ff61) := by kernel_rfl
theorem r62 : rFunc Tryz.prog 62 = some (FFunc.toRF ff62) := by kernel_rfl
theorem r63 : rFunc Tryz.prog 63 = some (FFunc.toRF ff63) := by kernel_rfl
theorem r64 : rFunc Tryz.prog 64 = some (FFunc.toRF ff64) := by kernel_rfl
theorem r65 : rFunc Tryz.prog 65 = some (FFunc.toRF ff65) := by kernel_rfl
theorem r66 : rFunc Tryz.prog 66 = some (FFunc.toRF ff66) := by kernel_rfl
theorem r68 : rFunc Tryz.prog 68 = some (FFunc.toRF ff68) := by kernel_rfl
theorem r69 : rFunc Tryz.prog 69 = some (FFunc.toRF ff69) := by kernel_rfl
theorem r70 : rFunc Tryz.prog 70 = some (FFunc.toRF ff70) := by kernel_rfl
theorem r71 : rFunc Tryz.prog 71 = some (FFunc.toRF ff71) := by kernel_rfl
theorem r72 : rFunc Tryz.prog 72 = some (FFunc.toRF ff72) := by kernel_rfl
theorem r73 : rFunc Tryz.prog 73 = some (FFunc.toRF ff73) := by kernel_rfl
theorem r74 : rFunc Tryz.prog 74 = some (FFunc.toRF ff74) := by kernel_rfl
theorem r75 : rFunc Tryz.prog 75 = some (FFunc.toRF ff75) := by kernel_rfl
theorem r76 : rFunc Tryz.prog 76 = some (FFunc.toRF ff76) := by kernel_rfl
theorem r77 : rFunc Tryz.prog 77 = some (FFunc.toRF ff77) := by kernel_rfl
theorem r78 : rFunc Tryz.prog 78 = some (FFunc.toRF ff78) := by kernel_rfl
theorem r81 : rFunc Tryz.prog 81 = some (FFunc.toRF ff81) := by kernel_rfl
theorem r82 : rFunc Tryz.prog 82 = some (FFunc.toRF ff82) := by kernel_rfl
theorem r107 : rFunc Tryz.prog 107 = some (FFunc.toRF ff107) := by kernel_rfl
theorem r108 : rFunc Tryz.prog 108 = some (FFunc.toRF ff108) := by kernel_rfl
theorem r109 : rFunc Tryz.prog 109 = some (FFunc.toRF ff109) := by kernel_rfl
theorem r110 : rFunc Tryz.prog 110 = some (FFunc.toRF ff110) := by kernel_rfl
theorem r111 : rFunc Tryz.prog 111 = some (FFunc.toRF ff111) := by kernel_rfl
theorem r112 : rFunc Tryz.prog 112 = some (FFunc.toRF ff112) := by kernel_rfl
theorem r113 : rFunc Tryz.prog 113 = some (FFunc.toRF ff113) := by kernel_rfl
theorem r114 : rFunc Tryz.prog 114 = some (FFunc.toRF ff114) := by kernel_rfl
theorem r115 : rFunc Tryz.prog 115 = some (FFunc.toRF ff115) := by kernel_rfl
theorem r116 : rFunc Tryz.prog 116 = some (FFunc.toRF ff116) := by kernel_rfl
theorem r117 : rFunc Tryz.prog 117 = some (FFunc.toRF ff117) := by kernel_rfl
theorem r118 : rFunc Tryz.prog 118 = some (FFunc.toRF ff118) := by kernel_rfl
theorem r119 : rFunc Tryz.prog 119 = some (FFunc.toRF ff119) := by kernel_rfl
theorem r120 : rFunc Tryz.prog 120 = some (FFunc.toRF ff120) := by kernel_rfl
theorem r121 : rFunc Tryz.prog 121 = some (FFunc.toRF ff121) := by kernel_rfl
theorem r122 : rFunc Tryz.prog 122 = some (FFunc.toRF ff122) := by kernel_rfl
theorem r123 : rFunc Tryz.prog 123 = some (FFunc.toRF ff123) := by kernel_rfl
noncomputable def ftp : List (Nat × FFunc) := [(3, ff3), (4, ff4), (5, ff5), (6, ff6), (7, ff7), (8, ff8), (9, ff9), (10, ff10), (11, ff11), (12, ff12), (13, ff13), (14, ff14), (15, ff15), (16, ff16), (17, ff17), (18, ff18), (19, ff19), (20, ff20), (21, ff21), (22, ff22), (23, ff23), (24, ff24), (25, ff25), (26, ff26), (27, ff27), (28, ff28), (29, ff29), (30, ff30), (31, ff31), (32, ff32), (33, ff33), (34, ff34), (35, ff35), (36, ff36), (37, ff37), (38, ff38), (39, ff39), (40, ff40), (41, ff41), (42, ff42), (43, ff43), (44, ff44), (45, ff45), (46, ff46), (47, ff47), (48, ff48), (49, ff49), (50, ff50), (51, ff51), (52, ff52), (53, ff53), (54, ff54), (55, ff55), (56, ff56), (57, ff57), (58, ff58), (59, ff59), (60, ff60), (61, ff61), (62, ff62), (63, ff63), (64, ff64), (65, ff65), (66, ff66), (68, ff68), (69, ff69), (70, ff70), (71, ff71), (72, ff72), (73, ff73), (74, ff74), (75, ff75), (76, ff76), (77, ff77), (78, ff78), (81, ff81), (82, ff82), (107, ff107), (108, ff108), (109, ff109), (110, ff110), (111, ff111), (112, ff112), (113, ff113), (114, ff114), (115, ff115), (116, ff116), (117, ff117), (118, ff118), (119, ff119), (120, ff120), (121, ff121), (122, ff122), (123, ff123)]
noncomputable def fft : T FFunc := (.node none (.node none (.node (some ff3) (.node (some ff7) (.node (some ff15) (.node (some ff31) (.node (some ff63) .nil .nil) .nil) (.node (some ff47) .nil (.node (some ff111) .nil .nil))) (.node (some ff23) (.node (some ff39) (.node (some ff71) .nil .nil) .nil) (.node (some ff55) .nil (.node (some ff119) .nil .nil)))) (.node (some ff11) (.node (some ff19) (.node (some ff35) .nil .nil) (.node (some ff51) .nil (.node (some ff115) .nil .nil))) (.node (some ff27) (.node (some ff43) (.node (some ff75) .nil .nil) (.node (some ff107) .nil .nil)) (.node (some ff59) .nil (.node (some ff123) .nil .nil))))) (.node (some ff5) (.node (some ff9) (.node (some ff17) (.node (some ff33) (.node (some ff65) .nil .nil) .nil) (.node (some ff49) (.node (some ff81) .nil .nil) (.node (some ff113) .nil .nil))) (.node (some ff25) (.node (some ff41) (.node (some ff73) .nil .nil) .nil) (.node (some ff57) .nil (.node (some ff121) .nil .nil)))) (.node (some ff13) (.node (some ff21) (.node (some ff37) (.node (some ff69) .nil .nil) .nil) (.node (some ff53) .nil (.node (some ff117) .nil .nil))) (.node (some ff29) (.node (some ff45) (.node (some ff77) .nil .nil) (.node (some ff109) .nil .nil)) (.node (some ff61) .nil .nil))))) (.node none (.node (some ff4) (.node (some ff8) (.node (some ff16) (.node (some ff32) (.node (some ff64) .nil .nil) .nil) (.node (some ff48) .nil (.node (some ff112) .nil .nil))) (.node (some ff24) (.node (some ff40) (.node (some ff72) .nil .nil) .nil) (.node (some ff56) .nil (.node (some ff120) .nil .nil)))) (.node (some ff12) (.node (some ff20) (.node (some ff36) (.node (some ff68) .nil .nil) .nil) (.node (some ff52) .nil (.node (some ff116) .nil .nil))) (.node (some ff28) (.node (some ff44) (.node (some ff76) .nil .nil) (.node (some ff108) .nil .nil)) (.node (some ff60) .nil .nil)))) (.node (some ff6) (.node (some ff10) (.node (some ff18) (.node (some ff34) (.node (some ff66) .nil .nil) .nil) (.node (some ff50) (.node (some ff82) .nil .nil) (.node (some ff114) .nil .nil))) (.node (some ff26) (.node (some ff42) (.node (some ff74) .nil .nil) .nil) (.node (some ff58) .nil (.node (some ff122) .nil .nil)))) (.node (some ff14) (.node (some ff22) (.node (some ff38) (.node (some ff70) .nil .nil) .nil) (.node (some ff54) .nil (.node (some ff118) .nil .nil))) (.node (some ff30) (.node (some ff46) (.node (some ff78) .nil .nil) (.node (some ff110) .nil .nil)) (.node (some ff62) .nil .nil))))))
def mkT : List (Nat × FFunc) → T FFunc
  | [] => .nil
  | p :: r => (mkT r).set p.1 p.2
theorem ft_eq : fft = mkT ftp := by kernel_rfl
def AllR (P : Program) : List (Nat × FFunc) → Prop
  | [] => True
  | p :: r => rFunc P p.1 = some p.2.toRF ∧ AllR P r
theorem mkT_ok (P : Program) : ∀ l, AllR P l → ∀ f ff, (mkT l).get f = some ff → rFunc P f = some ff.toRF := by
  intro l
  induction l with
  | nil => intro _ f rf h; simp [mkT, T.get] at h
  | cons p l ih =>
    intro ⟨h1, h2⟩ f rf h
    simp only [mkT] at h
    by_cases hp : p.1 = f
    · subst hp
      rw [T.get_set_same] at h
      cases h
      exact h1
    · rw [T.get_set_ne _ _ hp] at h
      exact ih h2 f rf h
theorem ft_ok : FtOk Tryz.prog (fft.map FFunc.toRF) := by
  intro f rf h
  rw [T.get_map, Option.map_eq_some_iff] at h
  obtain ⟨ff, h1, rfl⟩ := h
  rw [ft_eq] at h1
  exact mkT_ok Tryz.prog ftp ⟨r3, r4, r5, r6, r7, r8, r9, r10, r11, r12, r13, r14, r15, r16, r17, r18, r19, r20, r21, r22, r23, r24, r25, r26, r27, r28, r29, r30, r31, r32, r33, r34, r35, r36, r37, r38, r39, r40, r41, r42, r43, r44, r45, r46, r47, r48, r49, r50, r51, r52, r53, r54, r55, r56, r57, r58, r59, r60, r61, r62, r63, r64, r65, r66, r68, r69, r70, r71, r72, r73, r74, r75, r76, r77, r78, r81, r82, r107, r108, r109, r110, r111, r112, r113, r114, r115, r116, r117, r118, r119, r120, r121, r122, r123, trivial⟩ f ff h1
end Go.Proofs.YtolngjaihlggnaaGreatDoor
