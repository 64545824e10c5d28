import Derived.Test.YtinopjbpjopdcaaGreatDoorEvBegun
import Derived.Test.YtinopjbpjopdcaaGreatDoorEvSymD
/-! CapsRights: the pieces, run; the loop by its states. -/
namespace Go.Proofs.YtinopjbpjopdcaaGreatDoor.CR
open Go.Ev Go.Ev.Pg

def NM0 : Nat := 5
def I (n : Nat) : V := .int .i64 (.ofNat n)
noncomputable def body : FCode := ff4.body
noncomputable def lp : FCode := body.suf 7 |>.fst |>.snd |>.inn |>.inn
/-- The slots: those ahead are not looked at any more; the last one; empty ones. -/
def caps : Nat → Nat → Nat → List V
  | 0, _, _ => []
  | k + 1, 0, has => [I 1, I has, .top, .top] ++ caps0 k
  | k + 1, at' + 1, has => [.top, .top, .top, .top] ++ caps k at' has
where caps0 : Nat → List V
  | 0 => []
  | k + 1 => [I 0, I 0, I 0, I 0] ++ caps0 k
/-- At the loop's head: round i; the last slot that is filled, and its rights; what is seen of the caller's numbers. -/
def pat (i at' has lo : Nat) (cs : List V) : Pat :=
  ⟨[(.n0, .n0, .slv NM0 0 0 lo), (.n0, .n4, .ptr 6 0), (.n0, .n5, I has), (.n0, .n6, I at'), (.n0, .n7, I i)],
   [(NM0, .cells cs true), (6, .cells [.slc 7 0 1 1 0] false), (7, .cells (caps 8 at' has) false)], 8⟩
/-- Ahead of the loop; behind it. -/
def pat0 : Pat :=
  ⟨[(.n0, .n0, .slv NM0 0 0 0), (.n0, .n4, .ptr 6 0), (.n0, .n5, I 3), (.n0, .n6, I 0)],
   [(NM0, .cells [] true), (6, .cells [.slc 7 0 1 1 0] false), (7, .cells (caps 8 0 3) false)], 8⟩
def patX (at' has : Nat) : Pat :=
  ⟨[(.n0, .n4, .ptr 6 0), (.n0, .n5, I has), (.n0, .n6, I at')],
   [(NM0, .cells [] true), (6, .cells [.slc 7 0 1 1 0] false), (7, .cells (caps 8 at' has) false)], 8⟩
def patI : Pat := ⟨[(.n0, .n0, .slv NM0 0 0 0)], pbIn 0 4 174 67 [NM0], 6⟩
def sg (i : Nat) : V := .sym .i64 i

@[reducible] noncomputable def t0 : Tab := tabK [] []
theorem run0 : endPat 4 [NM0] sg .nrm pat0 (runF t0 cx1 100000 50 (body.pre 7) patI) = true := by kernel_rfl
theorem run1 : endPat 4 [NM0] sg .nrm (pat 0 0 3 0 []) (runF t0 cx1 100000 50 (body.suf 7 |>.fst |>.fst) pat0) = true := by kernel_rfl

/-- The round's number: 0: less than 1; 1, 2, 3: itself; 4: more than 3. -/
def cell (i c : Nat) : V := bif Nat.ble 1 c && Nat.ble c 3 then I c else .sym .i64 (i + 1)
def row : Nat → V → List V
  | 0, v => [v]
  | i + 1, v => .top :: row i v
def ansL (i : Nat) (b : Bool) : List Ans := [⟨.lss, I i, .sym .i64 0, .bool b⟩]
def ansR (i c : Nat) : List Ans := bif Nat.beq c 0 then [⟨.geq, .sym .i64 (i + 1), I 1, .bool false⟩] else bif Nat.beq c 4 then [⟨.geq, .sym .i64 (i + 1), I 1, .bool true⟩, ⟨.leq, .sym .i64 (i + 1), I 3, .bool false⟩] else []
def within (c has : Nat) : Bool := Nat.ble 1 c && Nat.ble c 3 && (Nat.beq has 3 || Nat.beq c has)
/-- What a round comes to. -/
def nxt (i at' has c : Nat) : Pat := bif within c has then pat (i + 1) (at' + 1) c 0 [] else pat (i + 1) at' has 0 []
@[reducible] noncomputable def tabR (i c : Nat) : Tab := tabK (ansL i true ++ ansR i c) []
noncomputable def rnd (i at' has c : Nat) : Bool := endPat 4 [NM0] sg .nrm (nxt i at' has c) (runF (tabR i c) cx1 100000 50 lp (pat i at' has (i + 1) (row i (cell i c))))
noncomputable def rnds (i at' : Nat) : Bool := [1, 2, 3].all fun has => [0, 1, 2, 3, 4].all fun c => rnd i at' has c
noncomputable def rndsN (q : Nat) : Bool := rnds (Nat.div q 7) (Nat.mod q 7)
/-- The loop is left: no more numbers; seven; twenty. -/
noncomputable def lv (i at' has : Nat) (b : Bool) : Bool := endPat 4 [NM0] sg (.exit 0) (patX at' has) (runF (tabK (ansL i b) []) cx1 100000 50 lp (pat i at' has 0 []))
noncomputable def lvs (i : Nat) : Bool := (List.range 8).all fun at' => [1, 2, 3].all fun has => lv i at' has false && (bif Nat.beq at' 7 || Nat.beq i 20 then lv i at' has true else true)
noncomputable def ends (q : Nat) : Bool := [1, 2, 3].all fun has => endTrue ff4.res (runF t0 cx1 100000 50 (body.suf 8) (patX q has))

theorem rn_0 : ((List.range 1).all fun d => rndsN (0 + d)) = true := by kernel_rfl
theorem rn_1 : ((List.range 1).all fun d => rndsN (1 + d)) = true := by kernel_rfl
theorem rn_2 : ((List.range 1).all fun d => rndsN (2 + d)) = true := by kernel_rfl
theorem rn_3 : ((List.range 1).all fun d => rndsN (3 + d)) = true := by kernel_rfl
theorem rn_4 : ((List.range 1).all fun d => rndsN (4 + d)) = true := by kernel_rfl
theorem rn_5 : ((List.range 1).all fun d => rndsN (5 + d)) = true := by kernel_rfl
theorem rn_6 : ((List.range 1).all fun d => rndsN (6 + d)) = true := by kernel_rfl
theorem rn_7 : ((List.range 1).all fun d => rndsN (7 + d)) = true := by kernel_rfl
theorem rn_8 : ((List.range 1).all fun d => rndsN (8 + d)) = true := by kernel_rfl
theorem rn_9 : ((List.range 1).all fun d => rndsN (9 + d)) = true := by kernel_rfl
theorem rn_10 : ((List.range 1).all fun d => rndsN (10 + d)) = true := by kernel_rfl
theorem rn_11 : ((List.range 1).all fun d => rndsN (11 + d)) = true := by kernel_rfl
theorem rn_12 : ((List.range 1).all fun d => rndsN (12 + d)) = true := by kernel_rfl
theorem rn_13 : ((List.range 1).all fun d => rndsN (13 + d)) = true := by kernel_rfl
theorem rn_14 : ((List.range 1).all fun d => rndsN (14 + d)) = true := by kernel_rfl
theorem rn_15 : ((List.range 1).all fun d => rndsN (15 + d)) = true := by kernel_rfl
theorem rn_16 : ((List.range 1).all fun d => rndsN (16 + d)) = true := by kernel_rfl
theorem rn_17 : ((List.range 1).all fun d => rndsN (17 + d)) = true := by kernel_rfl
theorem rn_18 : ((List.range 1).all fun d => rndsN (18 + d)) = true := by kernel_rfl
theorem rn_19 : ((List.range 1).all fun d => rndsN (19 + d)) = true := by kernel_rfl
theorem rn_20 : ((List.range 1).all fun d => rndsN (20 + d)) = true := by kernel_rfl
theorem rn_21 : ((List.range 1).all fun d => rndsN (21 + d)) = true := by kernel_rfl
theorem rn_22 : ((List.range 1).all fun d => rndsN (22 + d)) = true := by kernel_rfl
theorem rn_23 : ((List.range 1).all fun d => rndsN (23 + d)) = true := by kernel_rfl
theorem rn_24 : ((List.range 1).all fun d => rndsN (24 + d)) = true := by kernel_rfl
theorem rn_25 : ((List.range 1).all fun d => rndsN (25 + d)) = true := by kernel_rfl
theorem rn_26 : ((List.range 1).all fun d => rndsN (26 + d)) = true := by kernel_rfl
theorem rn_27 : ((List.range 1).all fun d => rndsN (27 + d)) = true := by kernel_rfl
theorem rn_28 : ((List.range 1).all fun d => rndsN (28 + d)) = true := by kernel_rfl
theorem rn_29 : ((List.range 1).all fun d => rndsN (29 + d)) = true := by kernel_rfl
theorem rn_30 : ((List.range 1).all fun d => rndsN (30 + d)) = true := by kernel_rfl
theorem rn_31 : ((List.range 1).all fun d => rndsN (31 + d)) = true := by kernel_rfl
theorem rn_32 : ((List.range 1).all fun d => rndsN (32 + d)) = true := by kernel_rfl
theorem rn_33 : ((List.range 1).all fun d => rndsN (33 + d)) = true := by kernel_rfl
theorem rn_34 : ((List.range 1).all fun d => rndsN (34 + d)) = true := by kernel_rfl
theorem rn_35 : ((List.range 1).all fun d => rndsN (35 + d)) = true := by kernel_rfl
theorem rn_36 : ((List.range 1).all fun d => rndsN (36 + d)) = true := by kernel_rfl
theorem rn_37 : ((List.range 1).all fun d => rndsN (37 + d)) = true := by kernel_rfl
theorem rn_38 : ((List.range 1).all fun d => rndsN (38 + d)) = true := by kernel_rfl
theorem rn_39 : ((List.range 1).all fun d => rndsN (39 + d)) = true := by kernel_rfl
theorem rn_40 : ((List.range 1).all fun d => rndsN (40 + d)) = true := by kernel_rfl
theorem rn_41 : ((List.range 1).all fun d => rndsN (41 + d)) = true := by kernel_rfl
theorem rn_42 : ((List.range 1).all fun d => rndsN (42 + d)) = true := by kernel_rfl
theorem rn_43 : ((List.range 1).all fun d => rndsN (43 + d)) = true := by kernel_rfl
theorem rn_44 : ((List.range 1).all fun d => rndsN (44 + d)) = true := by kernel_rfl
theorem rn_45 : ((List.range 1).all fun d => rndsN (45 + d)) = true := by kernel_rfl
theorem rn_46 : ((List.range 1).all fun d => rndsN (46 + d)) = true := by kernel_rfl
theorem rn_47 : ((List.range 1).all fun d => rndsN (47 + d)) = true := by kernel_rfl
theorem rn_48 : ((List.range 1).all fun d => rndsN (48 + d)) = true := by kernel_rfl
theorem rn_49 : ((List.range 1).all fun d => rndsN (49 + d)) = true := by kernel_rfl
theorem rn_50 : ((List.range 1).all fun d => rndsN (50 + d)) = true := by kernel_rfl
theorem rn_51 : ((List.range 1).all fun d => rndsN (51 + d)) = true := by kernel_rfl
theorem rn_52 : ((List.range 1).all fun d => rndsN (52 + d)) = true := by kernel_rfl
theorem rn_53 : ((List.range 1).all fun d => rndsN (53 + d)) = true := by kernel_rfl
theorem rn_54 : ((List.range 1).all fun d => rndsN (54 + d)) = true := by kernel_rfl
theorem rn_55 : ((List.range 1).all fun d => rndsN (55 + d)) = true := by kernel_rfl
theorem rn_56 : ((List.range 1).all fun d => rndsN (56 + d)) = true := by kernel_rfl
theorem rn_57 : ((List.range 1).all fun d => rndsN (57 + d)) = true := by kernel_rfl
theorem rn_58 : ((List.range 1).all fun d => rndsN (58 + d)) = true := by kernel_rfl
theorem rn_59 : ((List.range 1).all fun d => rndsN (59 + d)) = true := by kernel_rfl
theorem rn_60 : ((List.range 1).all fun d => rndsN (60 + d)) = true := by kernel_rfl
theorem rn_61 : ((List.range 1).all fun d => rndsN (61 + d)) = true := by kernel_rfl
theorem rn_62 : ((List.range 1).all fun d => rndsN (62 + d)) = true := by kernel_rfl
theorem rn_63 : ((List.range 1).all fun d => rndsN (63 + d)) = true := by kernel_rfl
theorem rn_64 : ((List.range 1).all fun d => rndsN (64 + d)) = true := by kernel_rfl
theorem rn_65 : ((List.range 1).all fun d => rndsN (65 + d)) = true := by kernel_rfl
theorem rn_66 : ((List.range 1).all fun d => rndsN (66 + d)) = true := by kernel_rfl
theorem rn_67 : ((List.range 1).all fun d => rndsN (67 + d)) = true := by kernel_rfl
theorem rn_68 : ((List.range 1).all fun d => rndsN (68 + d)) = true := by kernel_rfl
theorem rn_69 : ((List.range 1).all fun d => rndsN (69 + d)) = true := by kernel_rfl
theorem rn_70 : ((List.range 1).all fun d => rndsN (70 + d)) = true := by kernel_rfl
theorem rn_71 : ((List.range 1).all fun d => rndsN (71 + d)) = true := by kernel_rfl
theorem rn_72 : ((List.range 1).all fun d => rndsN (72 + d)) = true := by kernel_rfl
theorem rn_73 : ((List.range 1).all fun d => rndsN (73 + d)) = true := by kernel_rfl
theorem rn_74 : ((List.range 1).all fun d => rndsN (74 + d)) = true := by kernel_rfl
theorem rn_75 : ((List.range 1).all fun d => rndsN (75 + d)) = true := by kernel_rfl
theorem rn_76 : ((List.range 1).all fun d => rndsN (76 + d)) = true := by kernel_rfl
theorem rn_77 : ((List.range 1).all fun d => rndsN (77 + d)) = true := by kernel_rfl
theorem rn_78 : ((List.range 1).all fun d => rndsN (78 + d)) = true := by kernel_rfl
theorem rn_79 : ((List.range 1).all fun d => rndsN (79 + d)) = true := by kernel_rfl
theorem rn_80 : ((List.range 1).all fun d => rndsN (80 + d)) = true := by kernel_rfl
theorem rn_81 : ((List.range 1).all fun d => rndsN (81 + d)) = true := by kernel_rfl
theorem rn_82 : ((List.range 1).all fun d => rndsN (82 + d)) = true := by kernel_rfl
theorem rn_83 : ((List.range 1).all fun d => rndsN (83 + d)) = true := by kernel_rfl
theorem rn_84 : ((List.range 1).all fun d => rndsN (84 + d)) = true := by kernel_rfl
theorem rn_85 : ((List.range 1).all fun d => rndsN (85 + d)) = true := by kernel_rfl
theorem rn_86 : ((List.range 1).all fun d => rndsN (86 + d)) = true := by kernel_rfl
theorem rn_87 : ((List.range 1).all fun d => rndsN (87 + d)) = true := by kernel_rfl
theorem rn_88 : ((List.range 1).all fun d => rndsN (88 + d)) = true := by kernel_rfl
theorem rn_89 : ((List.range 1).all fun d => rndsN (89 + d)) = true := by kernel_rfl
theorem rn_90 : ((List.range 1).all fun d => rndsN (90 + d)) = true := by kernel_rfl
theorem rn_91 : ((List.range 1).all fun d => rndsN (91 + d)) = true := by kernel_rfl
theorem rn_92 : ((List.range 1).all fun d => rndsN (92 + d)) = true := by kernel_rfl
theorem rn_93 : ((List.range 1).all fun d => rndsN (93 + d)) = true := by kernel_rfl
theorem rn_94 : ((List.range 1).all fun d => rndsN (94 + d)) = true := by kernel_rfl
theorem rn_95 : ((List.range 1).all fun d => rndsN (95 + d)) = true := by kernel_rfl
theorem rn_96 : ((List.range 1).all fun d => rndsN (96 + d)) = true := by kernel_rfl
theorem rn_97 : ((List.range 1).all fun d => rndsN (97 + d)) = true := by kernel_rfl
theorem rn_98 : ((List.range 1).all fun d => rndsN (98 + d)) = true := by kernel_rfl
theorem rn_99 : ((List.range 1).all fun d => rndsN (99 + d)) = true := by kernel_rfl
theorem rn_100 : ((List.range 1).all fun d => rndsN (100 + d)) = true := by kernel_rfl
theorem rn_101 : ((List.range 1).all fun d => rndsN (101 + d)) = true := by kernel_rfl
theorem rn_102 : ((List.range 1).all fun d => rndsN (102 + d)) = true := by kernel_rfl
theorem rn_103 : ((List.range 1).all fun d => rndsN (103 + d)) = true := by kernel_rfl
theorem rn_104 : ((List.range 1).all fun d => rndsN (104 + d)) = true := by kernel_rfl
theorem rn_105 : ((List.range 1).all fun d => rndsN (105 + d)) = true := by kernel_rfl
theorem rn_106 : ((List.range 1).all fun d => rndsN (106 + d)) = true := by kernel_rfl
theorem rn_107 : ((List.range 1).all fun d => rndsN (107 + d)) = true := by kernel_rfl
theorem rn_108 : ((List.range 1).all fun d => rndsN (108 + d)) = true := by kernel_rfl
theorem rn_109 : ((List.range 1).all fun d => rndsN (109 + d)) = true := by kernel_rfl
theorem rn_110 : ((List.range 1).all fun d => rndsN (110 + d)) = true := by kernel_rfl
theorem rn_111 : ((List.range 1).all fun d => rndsN (111 + d)) = true := by kernel_rfl
theorem rn_112 : ((List.range 1).all fun d => rndsN (112 + d)) = true := by kernel_rfl
theorem rn_113 : ((List.range 1).all fun d => rndsN (113 + d)) = true := by kernel_rfl
theorem rn_114 : ((List.range 1).all fun d => rndsN (114 + d)) = true := by kernel_rfl
theorem rn_115 : ((List.range 1).all fun d => rndsN (115 + d)) = true := by kernel_rfl
theorem rn_116 : ((List.range 1).all fun d => rndsN (116 + d)) = true := by kernel_rfl
theorem rn_117 : ((List.range 1).all fun d => rndsN (117 + d)) = true := by kernel_rfl
theorem rn_118 : ((List.range 1).all fun d => rndsN (118 + d)) = true := by kernel_rfl
theorem rn_119 : ((List.range 1).all fun d => rndsN (119 + d)) = true := by kernel_rfl
theorem rn_120 : ((List.range 1).all fun d => rndsN (120 + d)) = true := by kernel_rfl
theorem rn_121 : ((List.range 1).all fun d => rndsN (121 + d)) = true := by kernel_rfl
theorem rn_122 : ((List.range 1).all fun d => rndsN (122 + d)) = true := by kernel_rfl
theorem rn_123 : ((List.range 1).all fun d => rndsN (123 + d)) = true := by kernel_rfl
theorem rn_124 : ((List.range 1).all fun d => rndsN (124 + d)) = true := by kernel_rfl
theorem rn_125 : ((List.range 1).all fun d => rndsN (125 + d)) = true := by kernel_rfl
theorem rn_126 : ((List.range 1).all fun d => rndsN (126 + d)) = true := by kernel_rfl
theorem rn_127 : ((List.range 1).all fun d => rndsN (127 + d)) = true := by kernel_rfl
theorem rn_128 : ((List.range 1).all fun d => rndsN (128 + d)) = true := by kernel_rfl
theorem rn_129 : ((List.range 1).all fun d => rndsN (129 + d)) = true := by kernel_rfl
theorem rn_130 : ((List.range 1).all fun d => rndsN (130 + d)) = true := by kernel_rfl
theorem rn_131 : ((List.range 1).all fun d => rndsN (131 + d)) = true := by kernel_rfl
theorem rn_132 : ((List.range 1).all fun d => rndsN (132 + d)) = true := by kernel_rfl
theorem rn_133 : ((List.range 1).all fun d => rndsN (133 + d)) = true := by kernel_rfl
theorem rn_134 : ((List.range 1).all fun d => rndsN (134 + d)) = true := by kernel_rfl
theorem rn_135 : ((List.range 1).all fun d => rndsN (135 + d)) = true := by kernel_rfl
theorem rn_136 : ((List.range 1).all fun d => rndsN (136 + d)) = true := by kernel_rfl
theorem rn_137 : ((List.range 1).all fun d => rndsN (137 + d)) = true := by kernel_rfl
theorem rn_138 : ((List.range 1).all fun d => rndsN (138 + d)) = true := by kernel_rfl
theorem rn_139 : ((List.range 1).all fun d => rndsN (139 + d)) = true := by kernel_rfl
theorem rn_all : ∀ i, i < 140 → rndsN i = true := by
  intro i hi
  have hq : i = 1 * (i / 1) + i % 1 := (Nat.div_add_mod i 1).symm
  have hr : i % 1 < 1 := Nat.mod_lt _ (by decide)
  have hd : i / 1 < 140 := by omega
  generalize i / 1 = q at hq hd
  generalize i % 1 = r at hq hr
  subst hq
  match q, hd with
  | 0, _ => exact List.all_eq_true.1 rn_0 r (List.mem_range.2 (by omega))
  | 1, _ => exact List.all_eq_true.1 rn_1 r (List.mem_range.2 (by omega))
  | 2, _ => exact List.all_eq_true.1 rn_2 r (List.mem_range.2 (by omega))
  | 3, _ => exact List.all_eq_true.1 rn_3 r (List.mem_range.2 (by omega))
  | 4, _ => exact List.all_eq_true.1 rn_4 r (List.mem_range.2 (by omega))
  | 5, _ => exact List.all_eq_true.1 rn_5 r (List.mem_range.2 (by omega))
  | 6, _ => exact List.all_eq_true.1 rn_6 r (List.mem_range.2 (by omega))
  | 7, _ => exact List.all_eq_true.1 rn_7 r (List.mem_range.2 (by omega))
  | 8, _ => exact List.all_eq_true.1 rn_8 r (List.mem_range.2 (by omega))
  | 9, _ => exact List.all_eq_true.1 rn_9 r (List.mem_range.2 (by omega))
  | 10, _ => exact List.all_eq_true.1 rn_10 r (List.mem_range.2 (by omega))
  | 11, _ => exact List.all_eq_true.1 rn_11 r (List.mem_range.2 (by omega))
  | 12, _ => exact List.all_eq_true.1 rn_12 r (List.mem_range.2 (by omega))
  | 13, _ => exact List.all_eq_true.1 rn_13 r (List.mem_range.2 (by omega))
  | 14, _ => exact List.all_eq_true.1 rn_14 r (List.mem_range.2 (by omega))
  | 15, _ => exact List.all_eq_true.1 rn_15 r (List.mem_range.2 (by omega))
  | 16, _ => exact List.all_eq_true.1 rn_16 r (List.mem_range.2 (by omega))
  | 17, _ => exact List.all_eq_true.1 rn_17 r (List.mem_range.2 (by omega))
  | 18, _ => exact List.all_eq_true.1 rn_18 r (List.mem_range.2 (by omega))
  | 19, _ => exact List.all_eq_true.1 rn_19 r (List.mem_range.2 (by omega))
  | 20, _ => exact List.all_eq_true.1 rn_20 r (List.mem_range.2 (by omega))
  | 21, _ => exact List.all_eq_true.1 rn_21 r (List.mem_range.2 (by omega))
  | 22, _ => exact List.all_eq_true.1 rn_22 r (List.mem_range.2 (by omega))
  | 23, _ => exact List.all_eq_true.1 rn_23 r (List.mem_range.2 (by omega))
  | 24, _ => exact List.all_eq_true.1 rn_24 r (List.mem_range.2 (by omega))
  | 25, _ => exact List.all_eq_true.1 rn_25 r (List.mem_range.2 (by omega))
  | 26, _ => exact List.all_eq_true.1 rn_26 r (List.mem_range.2 (by omega))
  | 27, _ => exact List.all_eq_true.1 rn_27 r (List.mem_range.2 (by omega))
  | 28, _ => exact List.all_eq_true.1 rn_28 r (List.mem_range.2 (by omega))
  | 29, _ => exact List.all_eq_true.1 rn_29 r (List.mem_range.2 (by omega))
  | 30, _ => exact List.all_eq_true.1 rn_30 r (List.mem_range.2 (by omega))
  | 31, _ => exact List.all_eq_true.1 rn_31 r (List.mem_range.2 (by omega))
  | 32, _ => exact List.all_eq_true.1 rn_32 r (List.mem_range.2 (by omega))
  | 33, _ => exact List.all_eq_true.1 rn_33 r (List.mem_range.2 (by omega))
  | 34, _ => exact List.all_eq_true.1 rn_34 r (List.mem_range.2 (by omega))
  | 35, _ => exact List.all_eq_true.1 rn_35 r (List.mem_range.2 (by omega))
  | 36, _ => exact List.all_eq_true.1 rn_36 r (List.mem_range.2 (by omega))
  | 37, _ => exact List.all_eq_true.1 rn_37 r (List.mem_range.2 (by omega))
  | 38, _ => exact List.all_eq_true.1 rn_38 r (List.mem_range.2 (by omega))
  | 39, _ => exact List.all_eq_true.1 rn_39 r (List.mem_range.2 (by omega))
  | 40, _ => exact List.all_eq_true.1 rn_40 r (List.mem_range.2 (by omega))
  | 41, _ => exact List.all_eq_true.1 rn_41 r (List.mem_range.2 (by omega))
  | 42, _ => exact List.all_eq_true.1 rn_42 r (List.mem_range.2 (by omega))
  | 43, _ => exact List.all_eq_true.1 rn_43 r (List.mem_range.2 (by omega))
  | 44, _ => exact List.all_eq_true.1 rn_44 r (List.mem_range.2 (by omega))
  | 45, _ => exact List.all_eq_true.1 rn_45 r (List.mem_range.2 (by omega))
  | 46, _ => exact List.all_eq_true.1 rn_46 r (List.mem_range.2 (by omega))
  | 47, _ => exact List.all_eq_true.1 rn_47 r (List.mem_range.2 (by omega))
  | 48, _ => exact List.all_eq_true.1 rn_48 r (List.mem_range.2 (by omega))
  | 49, _ => exact List.all_eq_true.1 rn_49 r (List.mem_range.2 (by omega))
  | 50, _ => exact List.all_eq_true.1 rn_50 r (List.mem_range.2 (by omega))
  | 51, _ => exact List.all_eq_true.1 rn_51 r (List.mem_range.2 (by omega))
  | 52, _ => exact List.all_eq_true.1 rn_52 r (List.mem_range.2 (by omega))
  | 53, _ => exact List.all_eq_true.1 rn_53 r (List.mem_range.2 (by omega))
  | 54, _ => exact List.all_eq_true.1 rn_54 r (List.mem_range.2 (by omega))
  | 55, _ => exact List.all_eq_true.1 rn_55 r (List.mem_range.2 (by omega))
  | 56, _ => exact List.all_eq_true.1 rn_56 r (List.mem_range.2 (by omega))
  | 57, _ => exact List.all_eq_true.1 rn_57 r (List.mem_range.2 (by omega))
  | 58, _ => exact List.all_eq_true.1 rn_58 r (List.mem_range.2 (by omega))
  | 59, _ => exact List.all_eq_true.1 rn_59 r (List.mem_range.2 (by omega))
  | 60, _ => exact List.all_eq_true.1 rn_60 r (List.mem_range.2 (by omega))
  | 61, _ => exact List.all_eq_true.1 rn_61 r (List.mem_range.2 (by omega))
  | 62, _ => exact List.all_eq_true.1 rn_62 r (List.mem_range.2 (by omega))
  | 63, _ => exact List.all_eq_true.1 rn_63 r (List.mem_range.2 (by omega))
  | 64, _ => exact List.all_eq_true.1 rn_64 r (List.mem_range.2 (by omega))
  | 65, _ => exact List.all_eq_true.1 rn_65 r (List.mem_range.2 (by omega))
  | 66, _ => exact List.all_eq_true.1 rn_66 r (List.mem_range.2 (by omega))
  | 67, _ => exact List.all_eq_true.1 rn_67 r (List.mem_range.2 (by omega))
  | 68, _ => exact List.all_eq_true.1 rn_68 r (List.mem_range.2 (by omega))
  | 69, _ => exact List.all_eq_true.1 rn_69 r (List.mem_range.2 (by omega))
  | 70, _ => exact List.all_eq_true.1 rn_70 r (List.mem_range.2 (by omega))
  | 71, _ => exact List.all_eq_true.1 rn_71 r (List.mem_range.2 (by omega))
  | 72, _ => exact List.all_eq_true.1 rn_72 r (List.mem_range.2 (by omega))
  | 73, _ => exact List.all_eq_true.1 rn_73 r (List.mem_range.2 (by omega))
  | 74, _ => exact List.all_eq_true.1 rn_74 r (List.mem_range.2 (by omega))
  | 75, _ => exact List.all_eq_true.1 rn_75 r (List.mem_range.2 (by omega))
  | 76, _ => exact List.all_eq_true.1 rn_76 r (List.mem_range.2 (by omega))
  | 77, _ => exact List.all_eq_true.1 rn_77 r (List.mem_range.2 (by omega))
  | 78, _ => exact List.all_eq_true.1 rn_78 r (List.mem_range.2 (by omega))
  | 79, _ => exact List.all_eq_true.1 rn_79 r (List.mem_range.2 (by omega))
  | 80, _ => exact List.all_eq_true.1 rn_80 r (List.mem_range.2 (by omega))
  | 81, _ => exact List.all_eq_true.1 rn_81 r (List.mem_range.2 (by omega))
  | 82, _ => exact List.all_eq_true.1 rn_82 r (List.mem_range.2 (by omega))
  | 83, _ => exact List.all_eq_true.1 rn_83 r (List.mem_range.2 (by omega))
  | 84, _ => exact List.all_eq_true.1 rn_84 r (List.mem_range.2 (by omega))
  | 85, _ => exact List.all_eq_true.1 rn_85 r (List.mem_range.2 (by omega))
  | 86, _ => exact List.all_eq_true.1 rn_86 r (List.mem_range.2 (by omega))
  | 87, _ => exact List.all_eq_true.1 rn_87 r (List.mem_range.2 (by omega))
  | 88, _ => exact List.all_eq_true.1 rn_88 r (List.mem_range.2 (by omega))
  | 89, _ => exact List.all_eq_true.1 rn_89 r (List.mem_range.2 (by omega))
  | 90, _ => exact List.all_eq_true.1 rn_90 r (List.mem_range.2 (by omega))
  | 91, _ => exact List.all_eq_true.1 rn_91 r (List.mem_range.2 (by omega))
  | 92, _ => exact List.all_eq_true.1 rn_92 r (List.mem_range.2 (by omega))
  | 93, _ => exact List.all_eq_true.1 rn_93 r (List.mem_range.2 (by omega))
  | 94, _ => exact List.all_eq_true.1 rn_94 r (List.mem_range.2 (by omega))
  | 95, _ => exact List.all_eq_true.1 rn_95 r (List.mem_range.2 (by omega))
  | 96, _ => exact List.all_eq_true.1 rn_96 r (List.mem_range.2 (by omega))
  | 97, _ => exact List.all_eq_true.1 rn_97 r (List.mem_range.2 (by omega))
  | 98, _ => exact List.all_eq_true.1 rn_98 r (List.mem_range.2 (by omega))
  | 99, _ => exact List.all_eq_true.1 rn_99 r (List.mem_range.2 (by omega))
  | 100, _ => exact List.all_eq_true.1 rn_100 r (List.mem_range.2 (by omega))
  | 101, _ => exact List.all_eq_true.1 rn_101 r (List.mem_range.2 (by omega))
  | 102, _ => exact List.all_eq_true.1 rn_102 r (List.mem_range.2 (by omega))
  | 103, _ => exact List.all_eq_true.1 rn_103 r (List.mem_range.2 (by omega))
  | 104, _ => exact List.all_eq_true.1 rn_104 r (List.mem_range.2 (by omega))
  | 105, _ => exact List.all_eq_true.1 rn_105 r (List.mem_range.2 (by omega))
  | 106, _ => exact List.all_eq_true.1 rn_106 r (List.mem_range.2 (by omega))
  | 107, _ => exact List.all_eq_true.1 rn_107 r (List.mem_range.2 (by omega))
  | 108, _ => exact List.all_eq_true.1 rn_108 r (List.mem_range.2 (by omega))
  | 109, _ => exact List.all_eq_true.1 rn_109 r (List.mem_range.2 (by omega))
  | 110, _ => exact List.all_eq_true.1 rn_110 r (List.mem_range.2 (by omega))
  | 111, _ => exact List.all_eq_true.1 rn_111 r (List.mem_range.2 (by omega))
  | 112, _ => exact List.all_eq_true.1 rn_112 r (List.mem_range.2 (by omega))
  | 113, _ => exact List.all_eq_true.1 rn_113 r (List.mem_range.2 (by omega))
  | 114, _ => exact List.all_eq_true.1 rn_114 r (List.mem_range.2 (by omega))
  | 115, _ => exact List.all_eq_true.1 rn_115 r (List.mem_range.2 (by omega))
  | 116, _ => exact List.all_eq_true.1 rn_116 r (List.mem_range.2 (by omega))
  | 117, _ => exact List.all_eq_true.1 rn_117 r (List.mem_range.2 (by omega))
  | 118, _ => exact List.all_eq_true.1 rn_118 r (List.mem_range.2 (by omega))
  | 119, _ => exact List.all_eq_true.1 rn_119 r (List.mem_range.2 (by omega))
  | 120, _ => exact List.all_eq_true.1 rn_120 r (List.mem_range.2 (by omega))
  | 121, _ => exact List.all_eq_true.1 rn_121 r (List.mem_range.2 (by omega))
  | 122, _ => exact List.all_eq_true.1 rn_122 r (List.mem_range.2 (by omega))
  | 123, _ => exact List.all_eq_true.1 rn_123 r (List.mem_range.2 (by omega))
  | 124, _ => exact List.all_eq_true.1 rn_124 r (List.mem_range.2 (by omega))
  | 125, _ => exact List.all_eq_true.1 rn_125 r (List.mem_range.2 (by omega))
  | 126, _ => exact List.all_eq_true.1 rn_126 r (List.mem_range.2 (by omega))
  | 127, _ => exact List.all_eq_true.1 rn_127 r (List.mem_range.2 (by omega))
  | 128, _ => exact List.all_eq_true.1 rn_128 r (List.mem_range.2 (by omega))
  | 129, _ => exact List.all_eq_true.1 rn_129 r (List.mem_range.2 (by omega))
  | 130, _ => exact List.all_eq_true.1 rn_130 r (List.mem_range.2 (by omega))
  | 131, _ => exact List.all_eq_true.1 rn_131 r (List.mem_range.2 (by omega))
  | 132, _ => exact List.all_eq_true.1 rn_132 r (List.mem_range.2 (by omega))
  | 133, _ => exact List.all_eq_true.1 rn_133 r (List.mem_range.2 (by omega))
  | 134, _ => exact List.all_eq_true.1 rn_134 r (List.mem_range.2 (by omega))
  | 135, _ => exact List.all_eq_true.1 rn_135 r (List.mem_range.2 (by omega))
  | 136, _ => exact List.all_eq_true.1 rn_136 r (List.mem_range.2 (by omega))
  | 137, _ => exact List.all_eq_true.1 rn_137 r (List.mem_range.2 (by omega))
  | 138, _ => exact List.all_eq_true.1 rn_138 r (List.mem_range.2 (by omega))
  | 139, _ => exact List.all_eq_true.1 rn_139 r (List.mem_range.2 (by omega))
  | q + 140, h => exact absurd h (by omega)
theorem lve_0 : ((List.range 3).all fun d => lvs (0 + d)) = true := by kernel_rfl
theorem lve_1 : ((List.range 3).all fun d => lvs (3 + d)) = true := by kernel_rfl
theorem lve_2 : ((List.range 3).all fun d => lvs (6 + d)) = true := by kernel_rfl
theorem lve_3 : ((List.range 3).all fun d => lvs (9 + d)) = true := by kernel_rfl
theorem lve_4 : ((List.range 3).all fun d => lvs (12 + d)) = true := by kernel_rfl
theorem lve_5 : ((List.range 3).all fun d => lvs (15 + d)) = true := by kernel_rfl
theorem lve_6 : ((List.range 3).all fun d => lvs (18 + d)) = true := by kernel_rfl
theorem lve_all : ∀ i, i < 21 → lvs i = true := by
  intro i hi
  have hq : i = 3 * (i / 3) + i % 3 := (Nat.div_add_mod i 3).symm
  have hr : i % 3 < 3 := Nat.mod_lt _ (by decide)
  have hd : i / 3 < 7 := by omega
  generalize i / 3 = q at hq hd
  generalize i % 3 = r at hq hr
  subst hq
  match q, hd with
  | 0, _ => exact List.all_eq_true.1 lve_0 r (List.mem_range.2 (by omega))
  | 1, _ => exact List.all_eq_true.1 lve_1 r (List.mem_range.2 (by omega))
  | 2, _ => exact List.all_eq_true.1 lve_2 r (List.mem_range.2 (by omega))
  | 3, _ => exact List.all_eq_true.1 lve_3 r (List.mem_range.2 (by omega))
  | 4, _ => exact List.all_eq_true.1 lve_4 r (List.mem_range.2 (by omega))
  | 5, _ => exact List.all_eq_true.1 lve_5 r (List.mem_range.2 (by omega))
  | 6, _ => exact List.all_eq_true.1 lve_6 r (List.mem_range.2 (by omega))
  | q + 7, h => exact absurd h (by omega)
theorem en_0 : ((List.range 8).all fun d => ends (0 + d)) = true := by kernel_rfl
theorem en_all : ∀ i, i < 8 → ends i = true := by
  intro i hi
  have hq : i = 8 * (i / 8) + i % 8 := (Nat.div_add_mod i 8).symm
  have hr : i % 8 < 8 := Nat.mod_lt _ (by decide)
  have hd : i / 8 < 1 := by omega
  generalize i / 8 = q at hq hd
  generalize i % 8 = r at hq hr
  subst hq
  match q, hd with
  | 0, _ => exact List.all_eq_true.1 en_0 r (List.mem_range.2 (by omega))
  | q + 1, h => exact absurd h (by omega)

theorem rnd_ok {i at' has c : Nat} (hi : i < 20) (ha : at' < 7) (hh : has = 1 ∨ has = 2 ∨ has = 3) (hc : c < 5) : rnd i at' has c = true := by
  have h := rn_all (7 * i + at') (by omega)
  have e1 : Nat.div (7 * i + at') 7 = i := by show (7 * i + at') / 7 = i; omega
  have e2 : Nat.mod (7 * i + at') 7 = at' := by show (7 * i + at') % 7 = at'; omega
  unfold rndsN at h
  rw [e1, e2] at h
  have h1 := List.all_eq_true.1 h has (by rcases hh with rfl | rfl | rfl <;> simp)
  exact List.all_eq_true.1 h1 c (by match c, hc with | 0, _ => simp | 1, _ => simp | 2, _ => simp | 3, _ => simp | 4, _ => simp)
theorem lv_ok {i at' has : Nat} {b : Bool} (hi : i < 21) (ha : at' < 8) (hh : has = 1 ∨ has = 2 ∨ has = 3) (hb : b = false ∨ at' = 7 ∨ i = 20) : lv i at' has b = true := by
  have h := lve_all i hi
  have h1 := List.all_eq_true.1 (List.all_eq_true.1 h at' (List.mem_range.2 ha)) has (by rcases hh with rfl | rfl | rfl <;> simp)
  simp only [Bool.and_eq_true] at h1
  cases b with
  | false => exact h1.1
  | true =>
    have h2 := h1.2
    rcases hb with hb | rfl | rfl
    · cases hb
    · simpa [Nat.beq_refl] using h2
    · simpa [Nat.beq_refl] using h2

section
variable {W : World} {ips : List Inp} {n : Nat} {v : Value} {L : Nat} {Z : Nat → Int}

def val (L : Nat) (Z : Nat → Int) : Nat → Int
  | 0 => L
  | j + 1 => Z j
@[reducible] noncomputable def S (L : Nat) (Z : Nat → Int) (l : List Ans) (h : ∀ x ∈ l, AnsOk (val L Z) x) : Sig := sigK (val L Z) l [] h (fun x hx => by cases hx)
theorem none_ok : ∀ x ∈ ([] : List Ans), AnsOk (val L Z) x := fun x hx => by cases hx

theorem ctx (W : World) (inst : Sig) : Ctx Tryz.prog W cx1 inst := ⟨follows, ts_ok, ft_ok, @cx1_ok inst _⟩
theorem vs (i1 i2 : Sig) (h : ∀ i, i2.val i = i1.val i) : ∀ i, i2.val i = V.num i1.val (sg i) := fun i => h i

theorem ansL_ok (i : Nat) : ∀ x ∈ ansL i (decide ((i : Int) < L)), AnsOk (val L Z) x := by
  intro x hx
  simp only [ansL, List.mem_cons, List.not_mem_nil, or_false] at hx
  subst hx
  simp [AnsOk, I, V.conc, evBin0, val]

/-- A state at the loop's head. -/
def St (W : World) (ips : List Inp) (n : Nat) (L : Nat) (Z : Nat → Int) (i : Nat) (a : Act) (w : World) : Prop :=
  ∃ at' has, at' < 8 ∧ (has = 1 ∨ has = 2 ∨ has = 3) ∧ LS Tryz.prog ips W n (S L Z [] none_ok) (pat i at' has 0 []).e (pat i at' has 0 []).h a w
def StX (W : World) (ips : List Inp) (n : Nat) (L : Nat) (Z : Nat → Int) (a : Act) (w : World) : Prop :=
  ∃ at' has, at' < 8 ∧ (has = 1 ∨ has = 2 ∨ has = 3) ∧ LS Tryz.prog ips W n (S L Z [] none_ok) (patX at' has).e (patX at' has).h a w

theorem cellOf (i : Nat) (r : Int) : ∃ c, c < 5 ∧ (∀ L Z, Z i = r → ∀ x ∈ ansR i c, AnsOk (val L Z) x) ∧ (∀ (inst : Sig) ρ, inst.val (i + 1) = r → @VRel inst ρ (cell i c) (.int .i64 r)) := by
  have num : ∀ (c : Nat), 1 ≤ c → c ≤ 3 → r = c → ∃ c, c < 5 ∧ (∀ L Z, Z i = r → ∀ x ∈ ansR i c, AnsOk (val L Z) x) ∧ (∀ (inst : Sig) ρ, inst.val (i + 1) = r → @VRel inst ρ (cell i c) (.int .i64 r)) := by
    intro c h1 h2 hr
    refine ⟨c, by omega, fun L Z _ x hx => ?_, fun inst ρ _ => ?_⟩
    · have : c = 1 ∨ c = 2 ∨ c = 3 := by omega
      rcases this with rfl | rfl | rfl <;> cases hx
    · subst hr
      have : c = 1 ∨ c = 2 ∨ c = 3 := by omega
      rcases this with rfl | rfl | rfl <;> exact @VRel.int inst _ _ _
  have sym : ∀ c, (c = 0 ∨ c = 4) → ∀ (inst : Sig) ρ, inst.val (i + 1) = r → @VRel inst ρ (cell i c) (.int .i64 r) := by
    intro c hc inst ρ hv
    have h := @VRel.sym inst ρ .i64 (i + 1)
    rw [hv] at h
    rcases hc with rfl | rfl <;> exact h
  by_cases h1 : r < 1
  · refine ⟨0, by omega, fun L Z hz x hx => ?_, sym 0 (.inl rfl)⟩
    have hx : x ∈ [(⟨.geq, .sym .i64 (i + 1), I 1, .bool false⟩ : Ans)] := hx
    simp only [List.mem_cons, List.not_mem_nil, or_false] at hx
    subst hx
    simp [AnsOk, I, V.conc, evBin0, val, hz]
    omega
  · by_cases h3 : 3 < r
    · refine ⟨4, by omega, fun L Z hz x hx => ?_, sym 4 (.inr rfl)⟩
      have hx : x ∈ [(⟨.geq, .sym .i64 (i + 1), I 1, .bool true⟩ : Ans), ⟨.leq, .sym .i64 (i + 1), I 3, .bool false⟩] := hx
      simp only [List.mem_cons, List.not_mem_nil, or_false] at hx
      rcases hx with rfl | rfl <;> simp [AnsOk, I, V.conc, evBin0, val, hz] <;> omega
    · exact num r.toNat (by omega) (by omega) (by omega)

theorem row_len : ∀ i (v : V), (row i v).length = i + 1
  | 0, v => rfl
  | i + 1, v => by simp [row, row_len i v]
theorem row_get : ∀ i (v : V) (q : Nat) u, (row i v)[q]? = some u → (q = i ∧ u = v) ∨ (q < i ∧ u = .top)
  | 0, v, q, u, h => by
    cases q with
    | zero => simp [row] at h; exact .inl ⟨rfl, h.symm⟩
    | succ q => simp [row] at h
  | i + 1, v, q, u, h => by
    cases q with
    | zero => simp [row] at h; exact .inr ⟨by omega, h.symm⟩
    | succ q =>
      simp only [row, List.getElem?_cons_succ] at h
      rcases row_get i v q u h with ⟨h1, h2⟩ | ⟨h1, h2⟩
      · exact .inl ⟨by omega, h2⟩
      · exact .inr ⟨by omega, h2⟩

theorem round (hv : SIn W v NM0 ips L .i64 1 Z) (hn : ∀ x ∈ ips, x.nm ∈ [NM0]) {i : Nat} (hi : i ≤ 20) : WR Tryz.prog n lp.toRC (St W ips n L Z i) (fun ex a w => match ex with | .nrm => i < 20 ∧ St W ips n L Z (i + 1) a w | .exit x => x = 0 ∧ StX W ips n L Z a w | .ret => False) := by
  refine WR.ex fun at' => WR.ex fun has => ?_
  rintro c hcc hd a w ⟨ha, hh, hs⟩
  revert c hcc hd a w
  suffices h : ∀ a w, LS Tryz.prog ips W n (S L Z [] none_ok) (pat i at' has 0 []).e (pat i at' has 0 []).h a w → ∀ c : Code, rCode Tryz.prog c = lp.toRC → lp.toRC.dstOk n = true → c.wp Tryz.prog (fun x a' w' => ∃ ex : Ex, x = ex.exit' ∧ (match ex with | .nrm => i < 20 ∧ St W ips n L Z (i + 1) a' w' | .exit x => x = 0 ∧ StX W ips n L Z a' w' | .ret => False)) a w from
    fun c hcc hd a w hs => h a w hs c hcc hd
  intro a w hs c hcc hd
  by_cases hgo : (i : Int) < L ∧ at' < 7 ∧ i < 20
  · obtain ⟨hL, ha7, hi20⟩ := hgo
    rcases hv.val with ⟨h0, _⟩ | ⟨rb, off, cap, rsz, cc, ty, fr, rfl, hmem, hw0, hsz, hfit, hget⟩
    · omega
    · obtain ⟨k, hk5, hkA, hkV⟩ := cellOf i (Z i)
      have hans : ∀ x ∈ ansL i true ++ ansR i k, AnsOk (val L Z) x := by
        intro x hx
        rcases List.mem_append.1 hx with hx | hx
        · have := ansL_ok (L := L) (Z := Z) i x
          rw [decide_eq_true hL] at this
          exact this hx
        · exact hkA L Z rfl x hx
      have hs1 := LS.moreP (lo' := i + 1) (cs' := row i (cell i k)) hmem rfl hw0 hsz (by show ((i + 1 : Nat) : Int) ≤ (L : Int); omega) (by rw [row_len]; show off + (i + 1) ≤ cc.size; omega)
        (fun q u hq => by
          rcases row_get i _ q u hq with ⟨rfl, rfl⟩ | ⟨hlt, rfl⟩
          · exact ⟨_, hget q (by omega), fun ρ => hkV _ ρ rfl⟩
          · exact ⟨_, hget q (by omega), fun ρ => @VRel.top (S L Z [] none_ok) ρ _ rfl⟩) hs
      have hs2 := LS.same (hs := hs1) (i1 := S L Z [] none_ok) (i2 := S L Z (ansL i true ++ ansR i k) hans) (fun _ => rfl)
      have hr : endPat 4 [NM0] sg .nrm (nxt i at' has k) (runF (S L Z (ansL i true ++ ansR i k) hans).toTab cx1 100000 50 lp (pat i at' has (i + 1) (row i (cell i k)))) = true := rnd_ok hi20 ha7 hh hk5
      have hwr := WR.pat (n := n) (ips := ips) (ctx W (S L Z (ansL i true ++ ansR i k) hans)) (i2 := S L Z [] none_ok) (vs _ _ fun _ => rfl) gsize hn hr
      refine wp_mono (hwr c hcc hd a w hs2) ?_
      rintro x a' w' ⟨ex, rfl, rfl, hl⟩
      refine ⟨.nrm, rfl, hi20, ?_⟩
      unfold nxt at hl
      cases hwi : within k has with
      | true =>
        rw [hwi] at hl
        refine ⟨at' + 1, k, by omega, ?_, hl⟩
        simp only [within, Bool.and_eq_true] at hwi
        have := nble hwi.1.1
        have := nble hwi.1.2
        omega
      | false => rw [hwi] at hl; exact ⟨at', has, by omega, hh, hl⟩
  · have hs2 := LS.same (hs := hs) (i1 := S L Z [] none_ok) (i2 := S L Z (ansL i (decide ((i : Int) < L))) (ansL_ok i)) (fun _ => rfl)
    have hr : endPat 4 [NM0] sg (.exit 0) (patX at' has) (runF (S L Z (ansL i (decide ((i : Int) < L))) (ansL_ok i)).toTab cx1 100000 50 lp (pat i at' has 0 [])) = true := by
      refine lv_ok (by omega) ha hh ?_
      by_cases hL : (i : Int) < L
      · right
        by_cases h7 : at' = 7
        · exact .inl h7
        · right
          have : ¬ i < 20 := fun h20 => hgo ⟨hL, by omega, h20⟩
          omega
      · left; simp [hL]
    have hwr := WR.pat (n := n) (ips := ips) (ctx W (S L Z (ansL i (decide ((i : Int) < L))) (ansL_ok i))) (i2 := S L Z [] none_ok) (vs _ _ fun _ => rfl) gsize hn hr
    refine wp_mono (hwr c hcc hd a w hs2) ?_
    rintro x a' w' ⟨ex, rfl, rfl, hl⟩
    exact ⟨.exit 0, rfl, rfl, at', has, ha, hh, hl⟩

theorem cut : FCode.suf 7 body = .seq (.seq (body.suf 7).fst.fst (.block 0 (.loop lp))) (body.suf 8) := by kernel_rfl

theorem whole (hv : SIn W v NM0 ips L .i64 1 Z) (hn : ∀ x ∈ ips, x.nm ∈ [NM0]) : WR Tryz.prog n body.toRC (LS Tryz.prog ips W n (S L Z [] none_ok) patI.e patI.h) (fun ex a w => (ex = .nrm ∨ ex = .ret) ∧ LT Tryz.prog ips W n (ff4.res.map FRR.toRR) a w) := by
  refine WR.patPre (ctx W (S L Z [] none_ok)) (i2 := S L Z [] none_ok) (vs _ _ fun _ => rfl) gsize hn 7 run0 ?_
  rw [cut]
  refine WR.seqF (S1 := StX W ips n L Z) ?_ ?_
  · refine WR.seqF (S1 := fun a w => ∃ k, k ≤ 20 ∧ St W ips n L Z (20 - k) a w) ?_ ?_
    · refine (WR.pat (ctx W (S L Z [] none_ok)) (i2 := S L Z [] none_ok) (vs _ _ fun _ => rfl) gsize hn run1).post ?_
      rintro ex a w ⟨rfl, h⟩
      exact ⟨20, Nat.le_refl _, 0, 3, by omega, by omega, h⟩
    · refine WR.blockF (WR.loopF (fun k => St W ips n L Z (20 - k)) 20 fun k hk => ?_)
      refine (round hv hn (by omega)).post ?_
      intro ex a w h
      cases ex with
      | nrm =>
        obtain ⟨h1, h2⟩ := h
        refine ⟨k - 1, by omega, ?_⟩
        have : 20 - (k - 1) = 20 - k + 1 := by omega
        rw [this]
        exact h2
      | exit x =>
        obtain ⟨rfl, h2⟩ := h
        exact h2
      | ret => exact h.elim
  · refine WR.ex fun at' => WR.ex fun has => ?_
    rintro c hcc hd a w ⟨ha, hh, hs⟩
    have hr : endTrue ff4.res (runF (S L Z [] none_ok).toTab cx1 100000 50 (body.suf 8) (patX at' has)) = true :=
      List.all_eq_true.1 (en_all at' ha) has (by rcases hh with rfl | rfl | rfl <;> simp)
    exact WR.fin (ctx W (S L Z [] none_ok)) hr c hcc hd a w hs
end
end Go.Proofs.YtinopjbpjopdcaaGreatDoor.CR

namespace Go.Proofs.YtinopjbpjopdcaaGreatDoor
open Go.Ev Go.Ev.Pg
theorem capsRights_calls (v : Value) {L : Nat} {Z : Nat → Int} (W : World)
    (hc : W.cell? ⟨0, 0, none⟩ = some (.iface 174 (.agg #[.pointer (some ⟨4, 67, none⟩)]))) {ips : List Inp} (hip : IpOk W CR.NM0 ips) (hv : SIn W v CR.NM0 ips L .i64 1 Z) :
    Calls Tryz.prog 4 #[v] W fun e W' => e = .returned (.bool true) ∧ Fr W W' := by
  have hn : ∀ x ∈ ips, x.nm ∈ [CR.NM0] := fun x hx => by rw [(hip.2 x hx).1]; exact List.mem_singleton.2 rfl
  have hfind := rhoIn_find (W := W) (G := 4) (ips := ips) (fun x hx => by rw [(hip.2 x hx).1]; decide) (fun x y hx hy _ => hip.1 x y hx hy)
  have hr := @relIn (CR.S L Z [] CR.none_ok) W 0 4 174 67 (by decide) hc ips [CR.NM0] 6 (by decide) (by decide) (fun x hx => ⟨hn x hx, (hip.2 x hx).2⟩)
  have ha : @LRel (CR.S L Z [] CR.none_ok) (rhoIn W 4 ips) [.slv CR.NM0 0 0 0] [v] := by
    refine @LRel.one (CR.S L Z [] CR.none_ok) _ _ _ ?_
    rcases hv.val with ⟨h0, pp, cp, rfl⟩ | ⟨rb, off, cap, rsz, cc, ty, fr, rfl, hmem, _⟩
    · exact @VRel.slvn (CR.S L Z [] CR.none_ok) _ _ _ _ pp cp (by show (L : Int) = 0; omega)
    · have := @VRel.slv (CR.S L Z [] CR.none_ok) (rhoIn W 4 ips) CR.NM0 0 0 0 ⟨rb, off, rsz⟩ L cap (hfind _ hmem) rfl (Nat.zero_le _)
      simpa using this
  exact calls_of_wr (ff := ff4) r4 (CR.S L Z [] CR.none_ok) (pinsIn W ips gsize) hr hfind ha fun n => CR.whole hv hn
end Go.Proofs.YtinopjbpjopdcaaGreatDoor
