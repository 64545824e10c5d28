import Derived.Test.YtinopjbpjopdcaaGreatDoorEvFast
namespace Go.Ev.Pg
/-- messuage/word.fits -/
noncomputable def ff82 : FFunc := ⟨.seq (.reg [.op D4 (.box (nat_lit 5) T0),
    .op D8 (.mv (.c (.bool false)))])
  (.seq (.reg [.op D9 (.mv (.c (.bool true)))])
  (.seq (.seq (.reg [.op D10 (.mv T2)])
  (.block (nat_lit 0) (.seq (.reg [.op D12 (.bin .eql T10 (.c (.int .i64 (.ofNat (nat_lit 0))))),
    .op D11 (.mv T12)])
  (.cond T11 (.reg [.op D14 (.ldA (nat_lit 5) T4),
    .op D15 (.mv T1),
    .op D16 (.call (nat_lit 112) [T14, T15, .c (.int .i64 (.ofNat (nat_lit 8)))]),
    .op D13 (.mv T16),
    .op D17 (.ex (nat_lit 0) T13),
    .op D18 (.ex (nat_lit 1) T13),
    .op D9 (.mv T18)])
  (.seq (.reg [.op D20 (.bin .eql T10 (.c (.int .i64 (.ofNat (nat_lit 1))))),
    .op D19 (.mv T20)])
  (.cond T19 (.reg [.op D22 (.ldA (nat_lit 5) T4),
    .op D23 (.mv T1),
    .op D24 (.call (nat_lit 112) [T22, T23, .c (.int .i64 (.ofNat (nat_lit 8)))]),
    .op D21 (.mv T24),
    .op D25 (.ex (nat_lit 0) T21),
    .op D26 (.ex (nat_lit 1) T21),
    .op D9 (.mv T26)])
  (.seq (.reg [.op D28 (.bin .eql T10 (.c (.int .i64 (.ofNat (nat_lit 2))))),
    .op D27 (.mv T28)])
  (.cond T27 (.reg [.op D30 (.ldA (nat_lit 5) T4),
    .op D31 (.mv T1),
    .op D32 (.call (nat_lit 112) [T30, T31, .c (.int .i64 (.ofNat (nat_lit 16)))]),
    .op D29 (.mv T32),
    .op D33 (.ex (nat_lit 0) T29),
    .op D34 (.ex (nat_lit 1) T29),
    .op D9 (.mv T34)])
  (.seq (.reg [.op D36 (.bin .eql T10 (.c (.int .i64 (.ofNat (nat_lit 3))))),
    .op D35 (.mv T36)])
  (.cond T35 (.reg [.op D38 (.ldA (nat_lit 5) T4),
    .op D39 (.mv T1),
    .op D40 (.mv T3),
    .op D41 (.call (nat_lit 112) [T38, T39, T40]),
    .op D37 (.mv T41),
    .op D42 (.ex (nat_lit 0) T37),
    .op D43 (.ex (nat_lit 1) T37),
    .op D9 (.mv T43)])
  (.seq (.reg [.op D45 (.bin .eql T10 (.c (.int .i64 (.ofNat (nat_lit 4))))),
    .op D44 (.mv T45)])
  (.cond T44 (.reg [.op D47 (.mv T1),
    .op D48 (.ixaA (nat_lit 5) (nat_lit 1) T4 T47),
    .op D49 (.ld1 T48),
    .op D50 (.call (nat_lit 113) [T49]),
    .op D46 (.mv T50),
    .op D51 (.ex (nat_lit 0) T46),
    .op D52 (.ex (nat_lit 1) T46),
    .op D9 (.mv T52)])
  (.seq (.reg [.op D54 (.bin .eql T10 (.c (.int .i64 (.ofNat (nat_lit 5))))),
    .op D53 (.mv T54)])
  (.cond T53 (.reg [.op D55 (.mv T1),
    .op D56 (.ixaA (nat_lit 5) (nat_lit 1) T4 T55),
    .op D57 (.ld1 T56),
    .op D58 (.bin .geq T57 (.c (.int .u64 (.ofNat (nat_lit 1))))),
    .op D59 (.mv T58),
    .gop .n3 .n11 g59 (fun _ => rfl) true D60 (.mv T1),
    .gop .n3 .n11 g59 (fun _ => rfl) true D61 (.ixaA (nat_lit 5) (nat_lit 1) T4 T60),
    .gop .n3 .n11 g59 (fun _ => rfl) true D62 (.ld1 T61),
    .gop .n3 .n11 g59 (fun _ => rfl) true D63 (.bin .leq T62 (.c (.int .u64 (.ofNat (nat_lit 4))))),
    .op D64 (.pick T59 T63 (.c (.bool false))),
    .op D9 (.mv T64)])
  (.skip)))))))))))))))
  (.seq (.reg [.op D65 (.mv T9),
    .op D8 (.mv T65)])
  (.ret)))),
  [.t .n0 .n8 g8 (fun _ => rfl)]⟩
/-- (*messuage/pool.Pool).Take -/
noncomputable def ff83 : FFunc := ⟨.seq (.reg [.op D2 (.mv (.c (.int .i64 (.ofNat (nat_lit 0))))),
    .op D3 (.mv (.c (.bool false)))])
  (.seq (.seq (.reg [.op D5 (.mv T0),
    .op D6 (.eq false (.sc .ptr) T5 (.c (.nilp)))])
  (.cond T6 (.seq (.reg [.op D2 (.mv (.c (.int .i64 (.ofNat (nat_lit 0))))),
    .op D3 (.mv (.c (.bool false)))])
  (.ret))
  (.skip)))
  (.seq (.reg [.op D7 (.mv T0),
    .op D8 (.nilck T7),
    .op D9 (.fadd (nat_lit 0) T8),
    .op D10 (.ld1 T9),
    .op D11 (.call (nat_lit 114) [T10, .c (.int .i64 (.ofNat (nat_lit 0)))]),
    .op D4 (.mv T11)])
  (.seq (.seq (.reg [.op D12 (.mv T4),
    .op D13 (.bin .lss T12 (.c (.int .i64 (.ofNat (nat_lit 0)))))])
  (.cond T13 (.seq (.reg [.op D2 (.mv (.c (.int .i64 (.ofNat (nat_lit 0))))),
    .op D3 (.mv (.c (.bool false)))])
  (.ret))
  (.skip)))
  (.seq (.reg [.op D14 (.mv T0),
    .op D15 (.nilck T14),
    .op D16 (.fadd (nat_lit 0) T15),
    .op D17 (.ld1 T16),
    .op D18 (.mv T4),
    .op D19 (.ixaS (nat_lit 1) T17 T18),
    .op .no (.st (nat_lit 1) T19 (.c (.int .i64 (.ofNat (nat_lit 1)))))])
  (.seq (.reg [.op D20 (.mv T4),
    .op D2 (.mv T20),
    .op D3 (.mv (.c (.bool true)))])
  (.ret)))))),
  [.t .n0 .n2 g2 (fun _ => rfl), .t .n0 .n3 g3 (fun _ => rfl)]⟩
/-- (*messuage/mem.Mem).Zero -/
noncomputable def ff84 : FFunc := ⟨.seq (.reg [.op D4 (.mv (.c (.bool false)))])
  (.seq (.seq (.reg [.op D5 (.mv T0),
    .op D6 (.mv T1),
    .op D7 (.call (nat_lit 115) [T5, T6, .c (.int .i64 (.ofNat (nat_lit 0)))]),
    .op D8 (.eq false (.sc .ptr) T7 (.c (.nilp)))])
  (.cond T8 (.seq (.reg [.op D4 (.mv (.c (.bool false)))])
  (.ret))
  (.skip)))
  (.seq (.reg [.op D9 (.mv T0),
    .op D10 (.nilck T9),
    .op D11 (.fadd (nat_lit 0) T10),
    .op D12 (.ld1 T11),
    .op D13 (.mv T1),
    .op D14 (.ixaS (nat_lit 1) T12 T13),
    .op D15 (.ld1 T14),
    .op .no (.clr [.int .u64 (.ofNat (nat_lit 0))] T15)])
  (.seq (.reg [.op D4 (.mv (.c (.bool true)))])
  (.ret)))),
  [.t .n0 .n4 g4 (fun _ => rfl)]⟩
/-- (*messuage/pool.Pool).Hold -/
noncomputable def ff85 : FFunc := ⟨.seq (.reg [.op D4 (.mv (.c (.bool false)))])
  (.seq (.seq (.reg [.op D6 (.mv T0),
    .op D7 (.mv T1),
    .op D8 (.call (nat_lit 95) [T6, T7]),
    .op D5 (.mv T8)])
  (.seq (.reg [.op D9 (.mv T5),
    .op D10 (.bin .eql T9 (.c (.int .i64 (.ofNat (nat_lit 0))))),
    .op D11 (.mv T10),
    .gop .n0 .n11 g11 (fun _ => rfl) false D12 (.mv T5),
    .gop .n0 .n11 g11 (fun _ => rfl) false D13 (.bin .geq T12 (.c (.int .i64 (.ofNat (nat_lit 7))))),
    .op D14 (.pick T11 (.c (.bool true)) T13)])
  (.cond T14 (.seq (.reg [.op D4 (.mv (.c (.bool false)))])
  (.ret))
  (.skip))))
  (.seq (.reg [.op D15 (.mv T0),
    .op D16 (.nilck T15),
    .op D17 (.fadd (nat_lit 0) T16),
    .op D18 (.ld1 T17),
    .op D19 (.mv T1),
    .op D20 (.ixaS (nat_lit 1) T18 T19),
    .op D21 (.ld1 T20),
    .op D22 (.bin .add T21 (.c (.int .i64 (.ofNat (nat_lit 1))))),
    .op D23 (.ixaS (nat_lit 1) T18 T19),
    .op .no (.st (nat_lit 1) T23 T22)])
  (.seq (.reg [.op D4 (.mv (.c (.bool true)))])
  (.ret)))),
  [.t .n0 .n4 g4 (fun _ => rfl)]⟩
/-- (*messuage/caps.Tree).Drop -/
noncomputable def ff86 : FFunc := ⟨.seq (.reg [.op D3 (.box (nat_lit 1) T0),
    .op D6 (.mv (.c (.nils))),
    .op D7 (.mv (.c (.int .i64 (.ofNat (nat_lit 0)))))])
  (.seq (.seq (.reg [.op D10 (.ld1 T3),
    .op D11 (.mv T1),
    .op D12 (.mv T2),
    .op D13 (.call (nat_lit 116) [T10, T11, T12]),
    .op D8 (.mv T13)])
  (.seq (.reg [.op D14 (.mv T8),
    .op D15 (.bin .neq T14 (.c (.int .i64 (.ofNat (nat_lit 0)))))])
  (.cond T15 (.seq (.reg [.op D16 (.mv T8),
    .op D6 (.mv (.c (.nils))),
    .op D7 (.mv T16)])
  (.ret))
  (.skip))))
  (.seq (.reg [.op D17 (.mv T1),
    .op D18 (.mv T2),
    .op D19 (.build [.int .i64 (.ofNat (nat_lit 0)), .int .i64 (.ofNat (nat_lit 0))] [((nat_lit 0), (nat_lit 1), T17), ((nat_lit 1), (nat_lit 1), T18)]),
    .op D9 (.new [.int .i64 (.ofNat (nat_lit 0)), .int .i64 (.ofNat (nat_lit 0))]),
    .op .no (.st (nat_lit 2) T9 T19)])
  (.seq (.drw [.op D20 (.ld1 T3),
    .op D21 (.ld1 T3),
    .op D22 (.mkfn (nat_lit 118) [] [T9, T3]),
    .op D23 (.call (nat_lit 75) [T21, T22]),
    .op D24 (.call (nat_lit 117) [T20, T23]),
    .op D6 (.mv T24),
    .op D7 (.mv (.c (.int .i64 (.ofNat (nat_lit 0)))))] [((nat_lit 0), (nat_lit 3))])
  (.ret)))),
  [.t .n0 .n6 g6 (fun _ => rfl), .t .n0 .n7 g7 (fun _ => rfl)]⟩
/-- (*messuage/caps.Tree).Revoke -/
noncomputable def ff87 : FFunc := ⟨.seq (.reg [.op D6 (.mv (.c (.nils))),
    .op D7 (.mv (.c (.int .i64 (.ofNat (nat_lit 0)))))])
  (.seq (.seq (.reg [.op D9 (.mv T0),
    .op D10 (.mv T1),
    .op D11 (.mv T2),
    .op D12 (.call (nat_lit 116) [T9, T10, T11]),
    .op D8 (.mv T12)])
  (.seq (.reg [.op D13 (.mv T8),
    .op D14 (.bin .neq T13 (.c (.int .i64 (.ofNat (nat_lit 0)))))])
  (.cond T14 (.seq (.reg [.op D15 (.mv T8),
    .op D6 (.mv (.c (.nils))),
    .op D7 (.mv T15)])
  (.ret))
  (.skip))))
  (.seq (.reg [.op D16 (.mv T0),
    .op D17 (.mv T0),
    .op D18 (.mv T1),
    .op D19 (.mv T2),
    .op D20 (.call (nat_lit 37) [T17, T18, T19]),
    .op D21 (.call (nat_lit 117) [T16, T20]),
    .op D6 (.mv T21),
    .op D7 (.mv (.c (.int .i64 (.ofNat (nat_lit 0)))))])
  (.ret))),
  [.t .n0 .n6 g6 (fun _ => rfl), .t .n0 .n7 g7 (fun _ => rfl)]⟩
/-- (*messuage/table.Table).By -/
noncomputable def ff88 : FFunc := ⟨.seq (.reg [.op D4 (.mv (.c (.nils)))])
  (.seq (.seq (.reg [.op D8 (.mv T0),
    .op D9 (.eq false (.sc .ptr) T8 (.c (.nilp)))])
  (.cond T9 (.seq (.reg [.op D4 (.mv (.c (.nils)))])
  (.ret))
  (.skip)))
  (.seq (.reg [.op D5 (.mv (.c (.nils)))])
  (.seq (.seq (.reg [.op D10 (.mv T0),
    .op D11 (.nilck T10),
    .op D12 (.fadd (nat_lit 0) T11),
    .op D13 (.ldA (nat_lit 24) T12),
    .op D14 (.mv (.c (.int .i64 (.ofNat (nat_lit 0)))))])
  (.block (nat_lit 0) (.loop (.seq (.reg [.op D15 (.bin .lss T14 (.c (.int .i64 (.ofNat (nat_lit 8)))))])
  (.seq (.cond T15 (.skip)
  (.exit (nat_lit 0)))
  (.seq (.block (nat_lit 1) (.seq (.reg [.op D16 (.mv T14),
    .op D17 (.ixAA (nat_lit 8) (nat_lit 3) T13 T14),
    .op D7 (.new [.int .i64 (.ofNat (nat_lit 0)), .int .i64 (.ofNat (nat_lit 0)), .int .i64 (.ofNat (nat_lit 0))]),
    .op D6 (.mv T16),
    .op .no (.st (nat_lit 3) T7 T17)])
  (.seq (.reg [.op D18 (.fadd (nat_lit 2) T7),
    .op D19 (.ld1 T18),
    .op D20 (.bin .neq T19 (.c (.int .i64 (.ofNat (nat_lit 0))))),
    .op D21 (.mv T20),
    .gop .n1 .n5 g21 (fun _ => rfl) true D22 (.fadd (nat_lit 1) T7),
    .gop .n1 .n5 g21 (fun _ => rfl) true D23 (.ld1 T22),
    .gop .n1 .n5 g21 (fun _ => rfl) true D24 (.mv T1),
    .gop .n1 .n5 g21 (fun _ => rfl) true D25 (.bin .eql T23 T24),
    .op D26 (.pick T21 T25 (.c (.bool false)))])
  (.cond T26 (.reg [.op D27 (.mv T5),
    .op D28 (.mv T6),
    .op D29 (.bsl (nat_lit 1) [.int .i64 (.ofNat (nat_lit 0))] (nat_lit 1) [((nat_lit 0), (nat_lit 1), T28)]),
    .op D30 (.app (nat_lit 1) (nat_lit 8) T27 T29),
    .op D5 (.mv T30)])
  (.skip)))))
  (.reg [.op D31 (.bin .add T14 (.c (.int .i64 (.ofNat (nat_lit 1))))),
    .op D14 (.mv T31)])))))))
  (.seq (.reg [.op D32 (.mv T5),
    .op D4 (.mv T32)])
  (.ret))))),
  [.t .n0 .n4 g4 (fun _ => rfl)]⟩
/-- (*messuage/pool.Pool).Let -/
noncomputable def ff89 : FFunc := ⟨.seq (.reg [.op D4 (.mv (.c (.int .i64 (.ofNat (nat_lit 0))))),
    .op D5 (.mv (.c (.bool false)))])
  (.seq (.seq (.reg [.op D6 (.mv T0),
    .op D7 (.mv T1),
    .op D8 (.call (nat_lit 95) [T6, T7]),
    .op D9 (.bin .eql T8 (.c (.int .i64 (.ofNat (nat_lit 0)))))])
  (.cond T9 (.seq (.reg [.op D4 (.mv (.c (.int .i64 (.ofNat (nat_lit 0))))),
    .op D5 (.mv (.c (.bool false)))])
  (.ret))
  (.skip)))
  (.seq (.reg [.op D10 (.mv T0),
    .op D11 (.nilck T10),
    .op D12 (.fadd (nat_lit 0) T11),
    .op D13 (.ld1 T12),
    .op D14 (.mv T1),
    .op D15 (.ixaS (nat_lit 1) T13 T14),
    .op D16 (.ld1 T15),
    .op D17 (.bin .sub T16 (.c (.int .i64 (.ofNat (nat_lit 1))))),
    .op D18 (.ixaS (nat_lit 1) T13 T14),
    .op .no (.st (nat_lit 1) T18 T17)])
  (.seq (.reg [.op D19 (.mv T0),
    .op D20 (.nilck T19),
    .op D21 (.fadd (nat_lit 0) T20),
    .op D22 (.ld1 T21),
    .op D23 (.mv T1),
    .op D24 (.ixaS (nat_lit 1) T22 T23),
    .op D25 (.ld1 T24),
    .op D4 (.mv T25),
    .op D5 (.mv (.c (.bool true)))])
  (.ret)))),
  [.t .n0 .n4 g4 (fun _ => rfl), .t .n0 .n5 g5 (fun _ => rfl)]⟩
/-- (*messuage/table.Table).Protect -/
noncomputable def ff90 : FFunc := ⟨.seq (.reg [.op D6 (.mv (.c (.int .i64 (.ofNat (nat_lit 0)))))])
  (.seq (.block (nat_lit 0) (.seq (.reg [.op D8 (.mv T0),
    .op D9 (.eq false (.sc .ptr) T8 (.c (.nilp))),
    .op D7 (.mv T9)])
  (.cond T7 (.seq (.reg [.op D6 (.mv (.c (.int .i64 (.ofNat (nat_lit 10)))))])
  (.ret))
  (.seq (.reg [.op D11 (.mv T1),
    .op D12 (.call (nat_lit 48) [T11]),
    .op D13 (.un .not T12),
    .op D14 (.mv T13),
    .gop .n0 .n14 g14 (fun _ => rfl) false D15 (.mv T2),
    .gop .n0 .n14 g14 (fun _ => rfl) false D16 (.call (nat_lit 44) [T15]),
    .gop .n0 .n14 g14 (fun _ => rfl) false D17 (.un .not T16),
    .op D18 (.pick T14 (.c (.bool true)) T17),
    .op D10 (.mv T18)])
  (.cond T10 (.seq (.reg [.op D6 (.mv (.c (.int .i64 (.ofNat (nat_lit 2)))))])
  (.ret))
  (.seq (.reg [.op D20 (.mv T0),
    .op D21 (.mv T1),
    .op D22 (.nilck T20),
    .op D23 (.fadd (nat_lit 0) T22),
    .op D24 (.ixaA (nat_lit 8) (nat_lit 3) T23 T21),
    .op D25 (.fadd (nat_lit 2) T24),
    .op D26 (.ld1 T25),
    .op D27 (.bin .eql T26 (.c (.int .i64 (.ofNat (nat_lit 0))))),
    .op D19 (.mv T27)])
  (.cond T19 (.seq (.reg [.op D6 (.mv (.c (.int .i64 (.ofNat (nat_lit 3)))))])
  (.ret))
  (.skip))))))))
  (.seq (.reg [.op D28 (.mv T0),
    .op D29 (.mv T1),
    .op D30 (.mv T2),
    .op D31 (.nilck T28),
    .op D32 (.fadd (nat_lit 0) T31),
    .op D33 (.ixaA (nat_lit 8) (nat_lit 3) T32 T29),
    .op D34 (.fadd (nat_lit 2) T33),
    .op .no (.st (nat_lit 1) T34 T30)])
  (.seq (.reg [.op D6 (.mv (.c (.int .i64 (.ofNat (nat_lit 0)))))])
  (.ret)))),
  [.t .n0 .n6 g6 (fun _ => rfl)]⟩
/-- (*messuage/mem.Mem).Load -/
noncomputable def ff91 : FFunc := ⟨.seq (.reg [.op D6 (.mv (.c (.int .u64 (.ofNat (nat_lit 0))))),
    .op D7 (.mv (.c (.bool false)))])
  (.seq (.reg [.op D9 (.mv T0),
    .op D10 (.mv T1),
    .op D11 (.mv T2),
    .op D12 (.call (nat_lit 115) [T9, T10, T11]),
    .op D8 (.mv T12)])
  (.seq (.seq (.reg [.op D13 (.mv T8),
    .op D14 (.eq false (.sc .ptr) T13 (.c (.nilp)))])
  (.cond T14 (.seq (.reg [.op D6 (.mv (.c (.int .u64 (.ofNat (nat_lit 0))))),
    .op D7 (.mv (.c (.bool false)))])
  (.ret))
  (.skip)))
  (.seq (.reg [.op D15 (.mv T8),
    .op D16 (.nilck T15),
    .op D17 (.ld1 T16),
    .op D6 (.mv T17),
    .op D7 (.mv (.c (.bool true)))])
  (.ret)))),
  [.t .n0 .n6 g6 (fun _ => rfl), .t .n0 .n7 g7 (fun _ => rfl)]⟩
/-- (*messuage/plain.Kernel).Touch -/
noncomputable def ff92 : FFunc := ⟨.seq (.reg [.op D5 (.box (nat_lit 5) T2),
    .op D6 (.new [.int .i64 (.ofNat (nat_lit 0)), .int .u64 (.ofNat (nat_lit 0))]),
    .op D7 (.mv (.c (.bool false)))])
  (.seq (.reg [.op D14 (.ldA (nat_lit 5) T5),
    .op D15 (.call (nat_lit 71) [T14]),
    .op D13 (.mv T15),
    .op D16 (.ex (nat_lit 0) T13),
    .op D17 (.ex (nat_lit 1) T13),
    .op D8 (.mv T16),
    .op D9 (.mv T17)])
  (.seq (.reg [.op D19 (.ldA (nat_lit 5) T5),
    .op D20 (.call (nat_lit 112) [T19, .c (.int .i64 (.ofNat (nat_lit 2))), .c (.int .i64 (.ofNat (nat_lit 16)))]),
    .op D18 (.mv T20),
    .op D21 (.ex (nat_lit 0) T18),
    .op D22 (.ex (nat_lit 1) T18),
    .op D10 (.mv T21),
    .op D11 (.mv T22)])
  (.seq (.seq (.reg [.op D23 (.mv T0),
    .op D24 (.eq false (.sc .ptr) T23 (.c (.nilp))),
    .op D25 (.mv T24),
    .gop .n1 .n9 g25 (fun _ => rfl) false D26 (.mv T11),
    .gop .n1 .n9 g25 (fun _ => rfl) false D27 (.un .not T26),
    .op D28 (.pick T25 (.c (.bool true)) T27),
    .op D29 (.mv T28),
    .gop .n1 .n13 g29 (fun _ => rfl) false D30 (.mv T8),
    .gop .n1 .n13 g29 (fun _ => rfl) false D31 (.call (nat_lit 72) [T30]),
    .gop .n1 .n13 g29 (fun _ => rfl) false D32 (.un .not T31),
    .op D33 (.pick T29 (.c (.bool true)) T32)])
  (.cond T33 (.seq (.reg [.op D34 (.build [.int .i64 (.ofNat (nat_lit 0)), .int .u64 (.ofNat (nat_lit 0))] []),
    .op .no (.st (nat_lit 2) T6 T34),
    .op D7 (.mv (.c (.bool false)))])
  (.ret))
  (.skip)))
  (.seq (.reg [.op D12 (.mv (.c (.int .u64 (.ofNat (nat_lit 0)))))])
  (.seq (.seq (.reg [.op D35 (.mv T8)])
  (.block (nat_lit 0) (.seq (.reg [.op D37 (.bin .eql T35 (.c (.int .i64 (.ofNat (nat_lit 20))))),
    .op D36 (.mv T37)])
  (.cond T36 (.reg [.op D39 (.mv T0),
    .op D40 (.nilck T39),
    .op D41 (.fadd (nat_lit 3) T40),
    .op D42 (.ld1 T41),
    .op D43 (.mv T1),
    .op D44 (.mv T10),
    .op D45 (.call (nat_lit 91) [T42, T43, T44]),
    .op D38 (.mv T45),
    .op D46 (.ex (nat_lit 0) T38),
    .op D47 (.ex (nat_lit 1) T38),
    .op D12 (.mv T46),
    .op D11 (.mv T47)])
  (.seq (.reg [.op D49 (.bin .eql T35 (.c (.int .i64 (.ofNat (nat_lit 21))))),
    .op D48 (.mv T49)])
  (.cond T48 (.drw [.op D50 (.mv T0),
    .op D51 (.nilck T50),
    .op D52 (.fadd (nat_lit 3) T51),
    .op D53 (.ld1 T52),
    .op D54 (.mv T1),
    .op D55 (.mv T10),
    .op D56 (.ixaA (nat_lit 5) (nat_lit 1) T5 (.c (.int .i64 (.ofNat (nat_lit 3))))),
    .op D57 (.ld1 T56),
    .op D58 (.call (nat_lit 94) [T53, T54, T55, T57]),
    .op D11 (.mv T58)] [])
  (.seq (.reg [.op D60 (.bin .eql T35 (.c (.int .i64 (.ofNat (nat_lit 22))))),
    .op D59 (.mv T60)])
  (.cond T59 (.drw [.op D62 (.mv T0),
    .op D63 (.nilck T62),
    .op D64 (.fadd (nat_lit 3) T63),
    .op D65 (.ld1 T64),
    .op D66 (.mv T1),
    .op D67 (.mv T10),
    .op D68 (.ixaA (nat_lit 5) (nat_lit 1) T5 (.c (.int .i64 (.ofNat (nat_lit 3))))),
    .op D69 (.ld1 T68),
    .op D70 (.ixaA (nat_lit 5) (nat_lit 1) T5 (.c (.int .i64 (.ofNat (nat_lit 4))))),
    .op D71 (.ld1 T70),
    .op D72 (.call (nat_lit 98) [T65, T66, T67, T69, T71]),
    .op D61 (.mv T72),
    .op D73 (.ex (nat_lit 0) T61),
    .op D74 (.ex (nat_lit 1) T61),
    .op D12 (.mv T73),
    .op D11 (.mv T74)] [])
  (.seq (.reg [.op D76 (.bin .eql T35 (.c (.int .i64 (.ofNat (nat_lit 23))))),
    .op D75 (.mv T76)])
  (.cond T75 (.drw [.op D78 (.mv T0),
    .op D79 (.nilck T78),
    .op D80 (.fadd (nat_lit 3) T79),
    .op D81 (.ld1 T80),
    .op D82 (.mv T1),
    .op D83 (.mv T10),
    .op D84 (.ixaA (nat_lit 5) (nat_lit 1) T5 (.c (.int .i64 (.ofNat (nat_lit 3))))),
    .op D85 (.ld1 T84),
    .op D86 (.call (nat_lit 99) [T81, T82, T83, T85]),
    .op D77 (.mv T86),
    .op D87 (.ex (nat_lit 0) T77),
    .op D88 (.ex (nat_lit 1) T77),
    .op D12 (.mv T87),
    .op D11 (.mv T88)] [])
  (.skip)))))))))))
  (.seq (.reg [.op D89 (.mv T12),
    .op D90 (.build [.int .i64 (.ofNat (nat_lit 0)), .int .u64 (.ofNat (nat_lit 0))] [((nat_lit 1), (nat_lit 1), T89)]),
    .op D91 (.mv T11),
    .op .no (.st (nat_lit 2) T6 T90),
    .op D7 (.mv T91)])
  (.ret))))))),
  [.cellA .n0 .n6 g6 (fun _ => rfl) (nat_lit 2), .t .n0 .n7 g7 (fun _ => rfl)]⟩
/-- (*messuage/mem.Mem).Frame -/
noncomputable def ff93 : FFunc := ⟨.seq (.reg [.op D4 (.mv (.c (.nils)))])
  (.seq (.seq (.reg [.op D5 (.mv T0),
    .op D6 (.mv T1),
    .op D7 (.call (nat_lit 115) [T5, T6, .c (.int .i64 (.ofNat (nat_lit 0)))]),
    .op D8 (.eq false (.sc .ptr) T7 (.c (.nilp)))])
  (.cond T8 (.seq (.reg [.op D4 (.mv (.c (.nils)))])
  (.ret))
  (.skip)))
  (.seq (.reg [.op D9 (.mv T0),
    .op D10 (.nilck T9),
    .op D11 (.fadd (nat_lit 0) T10),
    .op D12 (.ld1 T11),
    .op D13 (.mv T1),
    .op D14 (.ixaS (nat_lit 1) T12 T13),
    .op D15 (.ld1 T14),
    .op D16 (.call (nat_lit 119) [T15]),
    .op D4 (.mv T16)])
  (.ret))),
  [.t .n0 .n4 g4 (fun _ => rfl)]⟩
/-- (*messuage/mem.Mem).Store -/
noncomputable def ff94 : FFunc := ⟨.seq (.reg [.op D8 (.mv (.c (.bool false)))])
  (.seq (.reg [.op D10 (.mv T0),
    .op D11 (.mv T1),
    .op D12 (.mv T2),
    .op D13 (.call (nat_lit 115) [T10, T11, T12]),
    .op D9 (.mv T13)])
  (.seq (.seq (.reg [.op D14 (.mv T9),
    .op D15 (.eq false (.sc .ptr) T14 (.c (.nilp)))])
  (.cond T15 (.seq (.reg [.op D8 (.mv (.c (.bool false)))])
  (.ret))
  (.skip)))
  (.seq (.reg [.op D16 (.mv T9),
    .op D17 (.mv T3),
    .op D18 (.nilck T16),
    .op .no (.st (nat_lit 1) T18 T17)])
  (.seq (.reg [.op D8 (.mv (.c (.bool true)))])
  (.ret))))),
  [.t .n0 .n8 g8 (fun _ => rfl)]⟩
/-- (*messuage/pool.Pool).Refs -/
noncomputable def ff95 : FFunc := ⟨.seq (.reg [.op D4 (.mv (.c (.int .i64 (.ofNat (nat_lit 0)))))])
  (.seq (.seq (.reg [.op D5 (.mv T0),
    .op D6 (.eq false (.sc .ptr) T5 (.c (.nilp))),
    .op D7 (.mv T6),
    .gop .n0 .n7 g7 (fun _ => rfl) false D8 (.mv T1),
    .gop .n0 .n7 g7 (fun _ => rfl) false D9 (.bin .lss T8 (.c (.int .i64 (.ofNat (nat_lit 0))))),
    .op D10 (.pick T7 (.c (.bool true)) T9),
    .op D11 (.mv T10),
    .gop .n0 .n11 g11 (fun _ => rfl) false D12 (.mv T1),
    .gop .n0 .n11 g11 (fun _ => rfl) false D13 (.mv T0),
    .gop .n0 .n11 g11 (fun _ => rfl) false D14 (.nilck T13),
    .gop .n0 .n11 g11 (fun _ => rfl) false D15 (.fadd (nat_lit 0) T14),
    .gop .n0 .n11 g11 (fun _ => rfl) false D16 (.ld1 T15),
    .gop .n0 .n11 g11 (fun _ => rfl) false D17 (.lenL T16),
    .gop .n0 .n11 g11 (fun _ => rfl) false D18 (.bin .geq T12 T17),
    .op D19 (.pick T11 (.c (.bool true)) T18)])
  (.cond T19 (.seq (.reg [.op D4 (.mv (.c (.int .i64 (.ofNat (nat_lit 0)))))])
  (.ret))
  (.skip)))
  (.seq (.reg [.op D20 (.mv T0),
    .op D21 (.nilck T20),
    .op D22 (.fadd (nat_lit 0) T21),
    .op D23 (.ld1 T22),
    .op D24 (.mv T1),
    .op D25 (.ixaS (nat_lit 1) T23 T24),
    .op D26 (.ld1 T25),
    .op D4 (.mv T26)])
  (.ret))),
  [.t .n0 .n4 g4 (fun _ => rfl)]⟩
/-- (*messuage/plain.Kernel).more -/
noncomputable def ff96 : FFunc := ⟨.seq (.reg [.op D4 (.mv (.c (.bool false)))])
  (.seq (.reg [.op D5 (.mv (.c (.bool false)))])
  (.seq (.seq (.reg [.op D13 (.mv T0),
    .op D14 (.nilck T13),
    .op D15 (.fadd (nat_lit 4) T14),
    .op D16 (.ld1 T15),
    .op D17 (.lenL T16),
    .op D18 (.mv (.c (.int .i64 (.ofNat (nat_lit 0)))))])
  (.block (nat_lit 0) (.loop (.seq (.reg [.op D19 (.bin .lss T18 T17)])
  (.seq (.cond T19 (.skip)
  (.exit (nat_lit 0)))
  (.seq (.block (nat_lit 1) (.seq (.reg [.op D20 (.mv T18),
    .op D6 (.mv T20)])
  (.seq (.reg [.op D21 (.mv (.c (.int .i64 (.ofNat (nat_lit 0)))))])
  (.block (nat_lit 2) (.loop (.seq (.reg [.op D22 (.bin .lss T21 (.c (.int .i64 (.ofNat (nat_lit 8)))))])
  (.seq (.cond T22 (.skip)
  (.exit (nat_lit 2)))
  (.seq (.block (nat_lit 3) (.seq (.reg [.op D23 (.mv T21),
    .op D7 (.mv T23)])
  (.seq (.reg [.op D25 (.mv T1),
    .op D26 (.nilck T25),
    .op D27 (.fadd (nat_lit 6) T26),
    .op D28 (.ld1 T27),
    .op D29 (.mv T6),
    .op D30 (.mv T7),
    .op D31 (.call (nat_lit 22) [T28, T29, T30]),
    .op D24 (.mv T31),
    .op D32 (.ex (nat_lit 0) T24),
    .op D33 (.ex (nat_lit 1) T24),
    .op D8 (.new [.int .i64 (.ofNat (nat_lit 0)), .int .i64 (.ofNat (nat_lit 0)), .int .i64 (.ofNat (nat_lit 0)), .int .i64 (.ofNat (nat_lit 0))]),
    .op .no (.st (nat_lit 4) T8 T32),
    .op D9 (.mv T33)])
  (.seq (.seq (.reg [.op D35 (.mv T0),
    .op D36 (.nilck T35),
    .op D37 (.fadd (nat_lit 6) T36),
    .op D38 (.ld1 T37),
    .op D39 (.mv T6),
    .op D40 (.mv T7),
    .op D41 (.call (nat_lit 22) [T38, T39, T40]),
    .op D34 (.mv T41),
    .op D42 (.ex (nat_lit 0) T34),
    .op D43 (.ex (nat_lit 1) T34),
    .op D10 (.new [.int .i64 (.ofNat (nat_lit 0)), .int .i64 (.ofNat (nat_lit 0)), .int .i64 (.ofNat (nat_lit 0)), .int .i64 (.ofNat (nat_lit 0))]),
    .op .no (.st (nat_lit 4) T10 T42),
    .op D11 (.mv T43)])
  (.seq (.reg [.op D44 (.mv T9),
    .op D45 (.un .not T44),
    .op D46 (.mv T45),
    .gop .n2 .n14 g46 (fun _ => rfl) false D47 (.mv T11),
    .op D48 (.pick T46 (.c (.bool true)) T47)])
  (.cond T48 (.exit (nat_lit 3))
  (.skip))))
  (.seq (.reg [.op D12 (.mv (.c (.int .i64 (.ofNat (nat_lit 0)))))])
  (.seq (.seq (.reg [.op D49 (.fadd (nat_lit 2) T8),
    .op D50 (.ld1 T49),
    .op D51 (.bin .lss T50 (.c (.int .i64 (.ofNat (nat_lit 0)))))])
  (.cond T51 (.drw [.op D52 (.mv T0),
    .op D53 (.nilck T52),
    .op D54 (.fadd (nat_lit 6) T53),
    .op D55 (.ld1 T54),
    .op D56 (.mv T6),
    .op D57 (.mv T7),
    .op D58 (.fadd (nat_lit 0) T8),
    .op D59 (.ld1 T58),
    .op D60 (.call (nat_lit 18) [T55, T56, T57, T59]),
    .op D12 (.mv T60)] [])
  (.drw [.op D61 (.mv T0),
    .op D62 (.nilck T61),
    .op D63 (.fadd (nat_lit 6) T62),
    .op D64 (.ld1 T63),
    .op D65 (.fadd (nat_lit 2) T8),
    .op D66 (.ld1 T65),
    .op D67 (.fadd (nat_lit 3) T8),
    .op D68 (.ld1 T67),
    .op D69 (.mv T6),
    .op D70 (.mv T7),
    .op D71 (.fadd (nat_lit 1) T8),
    .op D72 (.ld1 T71),
    .op D73 (.call (nat_lit 19) [T64, T66, T68, T69, T70, T72]),
    .op D12 (.mv T73)] [])))
  (.reg [.op D74 (.mv T5),
    .op D75 (.mv T74),
    .gop .n4 .n11 g75 (fun _ => rfl) false D76 (.mv T12),
    .gop .n4 .n11 g75 (fun _ => rfl) false D77 (.bin .eql T76 (.c (.int .i64 (.ofNat (nat_lit 0))))),
    .op D78 (.pick T75 (.c (.bool true)) T77),
    .op D5 (.mv T78)])))))))
  (.reg [.op D79 (.bin .add T21 (.c (.int .i64 (.ofNat (nat_lit 1))))),
    .op D21 (.mv T79)])))))))))
  (.reg [.op D80 (.bin .add T18 (.c (.int .i64 (.ofNat (nat_lit 1))))),
    .op D18 (.mv T80)])))))))
  (.seq (.reg [.op D81 (.mv T5),
    .op D4 (.mv T81)])
  (.ret)))),
  [.t .n0 .n4 g4 (fun _ => rfl)]⟩
/-- (*messuage/mem.Mem).Cas -/
noncomputable def ff98 : FFunc := ⟨.seq (.reg [.op D10 (.mv (.c (.int .u64 (.ofNat (nat_lit 0))))),
    .op D11 (.mv (.c (.bool false)))])
  (.seq (.reg [.op D15 (.mv T0),
    .op D16 (.mv T1),
    .op D17 (.mv T2),
    .op D18 (.call (nat_lit 91) [T15, T16, T17]),
    .op D14 (.mv T18),
    .op D19 (.ex (nat_lit 0) T14),
    .op D20 (.ex (nat_lit 1) T14),
    .op D12 (.mv T19),
    .op D13 (.mv T20)])
  (.seq (.seq (.reg [.op D21 (.mv T13),
    .op D22 (.mv T21),
    .gop .n1 .n6 g22 (fun _ => rfl) true D23 (.mv T12),
    .gop .n1 .n6 g22 (fun _ => rfl) true D24 (.mv T3),
    .gop .n1 .n6 g22 (fun _ => rfl) true D25 (.bin .eql T23 T24),
    .op D26 (.pick T22 T25 (.c (.bool false)))])
  (.cond T26 (.reg [.op D27 (.mv T0),
    .op D28 (.mv T1),
    .op D29 (.mv T2),
    .op D30 (.mv T4),
    .op D31 (.call (nat_lit 94) [T27, T28, T29, T30])])
  (.skip)))
  (.seq (.reg [.op D32 (.mv T12),
    .op D33 (.mv T13),
    .op D10 (.mv T32),
    .op D11 (.mv T33)])
  (.ret)))),
  [.t .n0 .n10 g10 (fun _ => rfl), .t .n0 .n11 g11 (fun _ => rfl)]⟩
/-- (*messuage/mem.Mem).Add -/
noncomputable def ff99 : FFunc := ⟨.seq (.reg [.op D8 (.mv (.c (.int .u64 (.ofNat (nat_lit 0))))),
    .op D9 (.mv (.c (.bool false)))])
  (.seq (.reg [.op D13 (.mv T0),
    .op D14 (.mv T1),
    .op D15 (.mv T2),
    .op D16 (.call (nat_lit 91) [T13, T14, T15]),
    .op D12 (.mv T16),
    .op D17 (.ex (nat_lit 0) T12),
    .op D18 (.ex (nat_lit 1) T12),
    .op D10 (.mv T17),
    .op D11 (.mv T18)])
  (.seq (.reg [.op D19 (.mv T0),
    .op D20 (.mv T1),
    .op D21 (.mv T2),
    .op D22 (.mv T10),
    .op D23 (.mv T3),
    .op D24 (.bin .add T22 T23),
    .op D25 (.call (nat_lit 94) [T19, T20, T21, T24])])
  (.seq (.reg [.op D26 (.mv T10),
    .op D27 (.mv T11),
    .op D8 (.mv T26),
    .op D9 (.mv T27)])
  (.ret)))),
  [.t .n0 .n8 g8 (fun _ => rfl), .t .n0 .n9 g9 (fun _ => rfl)]⟩
/-- messuage/mail.New -/
noncomputable def ff100 : FFunc := ⟨.seq (.reg [.op D2 (.mv (.c (.nilp)))])
  (.seq (.seq (.reg [.op D3 (.mv T0),
    .op D4 (.bin .lss T3 (.c (.int .i64 (.ofNat (nat_lit 1))))),
    .op D5 (.mv T4),
    .gop .n0 .n5 g5 (fun _ => rfl) false D6 (.mv T0),
    .gop .n0 .n5 g5 (fun _ => rfl) false D7 (.bin .gtr T6 (.c (.int .i64 (.ofNat (nat_lit 8))))),
    .op D8 (.pick T5 (.c (.bool true)) T7)])
  (.cond T8 (.seq (.reg [.op D2 (.mv (.c (.nilp)))])
  (.ret))
  (.skip)))
  (.seq (.reg [.op D9 (.mv T0),
    .op D10 (.mksl (nat_lit 1) (nat_lit 24) [.nils] T9 T9),
    .op D11 (.build [.nils] [((nat_lit 0), (nat_lit 1), T10)]),
    .op D12 (.box (nat_lit 1) T11),
    .op D2 (.mv T12)])
  (.ret))),
  [.t .n0 .n2 g2 (fun _ => rfl)]⟩
/-- messuage/cell.New -/
noncomputable def ff101 : FFunc := ⟨.seq (.reg [.op D2 (.mv (.c (.nilp)))])
  (.seq (.reg [.op D3 (.mv T0),
    .op D4 (.build [.int .u64 (.ofNat (nat_lit 0)), .int .i64 (.ofNat (nat_lit 0))] [((nat_lit 0), (nat_lit 1), T3)]),
    .op D5 (.box (nat_lit 2) T4),
    .op D2 (.mv T5)])
  (.ret)),
  [.t .n0 .n2 g2 (fun _ => rfl)]⟩
/-- messuage/ticket.New -/
noncomputable def ff102 : FFunc := ⟨.seq (.reg [.op D0 (.mv (.c (.nilp)))])
  (.seq (.reg [.op D1 (.call (nat_lit 101) [.c (.int .u64 (.ofNat (nat_lit 0)))]),
    .op D2 (.call (nat_lit 101) [.c (.int .u64 (.ofNat (nat_lit 0)))]),
    .op D3 (.build [.nilp, .nilp] [((nat_lit 0), (nat_lit 1), T1), ((nat_lit 1), (nat_lit 1), T2)]),
    .op D4 (.box (nat_lit 2) T3),
    .op D0 (.mv T4)])
  (.ret)),
  [.t .n0 .n0 g0 (fun _ => rfl)]⟩
/-- (*messuage/mail.Mail).All -/
noncomputable def ff103 : FFunc := ⟨.seq (.reg [.op D6 (.mv (.c (.int .i64 (.ofNat (nat_lit 0)))))])
  (.seq (.seq (.reg [.op D9 (.mv T0),
    .op D10 (.eq false (.sc .ptr) T9 (.c (.nilp)))])
  (.cond T10 (.seq (.reg [.op D6 (.mv (.c (.int .i64 (.ofNat (nat_lit 0)))))])
  (.ret))
  (.skip)))
  (.seq (.reg [.op D7 (.mv (.c (.int .i64 (.ofNat (nat_lit 0)))))])
  (.seq (.seq (.reg [.op D11 (.mv T0),
    .op D12 (.nilck T11),
    .op D13 (.fadd (nat_lit 0) T12),
    .op D14 (.ld1 T13),
    .op D15 (.lenL T14),
    .op D16 (.mv (.c (.int .i64 (.ofNat (nat_lit 0)))))])
  (.block (nat_lit 0) (.loop (.seq (.reg [.op D17 (.bin .lss T16 T15)])
  (.seq (.cond T17 (.skip)
  (.exit (nat_lit 0)))
  (.seq (.block (nat_lit 1) (.seq (.reg [.op D18 (.mv T16),
    .op D8 (.mv T18)])
  (.seq (.reg [.op D19 (.mv T0),
    .op D20 (.mv T1),
    .op D21 (.mv T8),
    .op D22 (.mv T2),
    .op D23 (.call (nat_lit 124) [T19, T20, T21, T22])])
  (.cond T23 (.reg [.op D24 (.mv T7),
    .op D25 (.bin .add T24 (.c (.int .i64 (.ofNat (nat_lit 1))))),
    .op D7 (.mv T25)])
  (.skip)))))
  (.reg [.op D26 (.bin .add T16 (.c (.int .i64 (.ofNat (nat_lit 1))))),
    .op D16 (.mv T26)])))))))
  (.seq (.reg [.op D27 (.mv T7),
    .op D6 (.mv T27)])
  (.ret))))),
  [.t .n0 .n6 g6 (fun _ => rfl)]⟩
/-- (*messuage/mail.Mail).Take -/
noncomputable def ff104 : FFunc := ⟨.seq (.reg [.op D4 (.mv (.c (.int .u64 (.ofNat (nat_lit 0))))),
    .op D5 (.mv (.c (.bool false)))])
  (.seq (.seq (.reg [.op D7 (.mv T0),
    .op D8 (.mv T1),
    .op D9 (.call (nat_lit 125) [T7, T8]),
    .op D10 (.bin .eql T9 (.c (.int .i64 (.ofNat (nat_lit 0)))))])
  (.cond T10 (.seq (.reg [.op D4 (.mv (.c (.int .u64 (.ofNat (nat_lit 0))))),
    .op D5 (.mv (.c (.bool false)))])
  (.ret))
  (.skip)))
  (.seq (.reg [.op D11 (.mv T0),
    .op D12 (.nilck T11),
    .op D13 (.fadd (nat_lit 0) T12),
    .op D14 (.ld1 T13),
    .op D15 (.mv T1),
    .op D16 (.ixaS (nat_lit 1) T14 T15),
    .op D17 (.ld1 T16),
    .op D18 (.ixaS (nat_lit 1) T17 (.c (.int .i64 (.ofNat (nat_lit 0))))),
    .op D19 (.ld1 T18),
    .op D6 (.mv T19)])
  (.seq (.drw [.op D20 (.mv T0),
    .op D21 (.nilck T20),
    .op D22 (.fadd (nat_lit 0) T21),
    .op D23 (.ld1 T22),
    .op D24 (.mv T1),
    .op D25 (.mv T0),
    .op D26 (.nilck T25),
    .op D27 (.fadd (nat_lit 0) T26),
    .op D28 (.ld1 T27),
    .op D29 (.mv T1),
    .op D30 (.ixaS (nat_lit 1) T28 T29),
    .op D31 (.ld1 T30),
    .op D32 (.slSlc (nat_lit 1) T31 (.is (.c (.int .i64 (.ofNat (nat_lit 1))))) .no .no),
    .op D33 (.ixaS (nat_lit 1) T23 T24),
    .op .no (.st (nat_lit 1) T33 T32)] [])
  (.seq (.reg [.op D34 (.mv T6),
    .op D4 (.mv T34),
    .op D5 (.mv (.c (.bool true)))])
  (.ret))))),
  [.t .n0 .n4 g4 (fun _ => rfl), .t .n0 .n5 g5 (fun _ => rfl)]⟩
/-- (*messuage/cell.Cell).Up -/
noncomputable def ff105 : FFunc := ⟨.seq (.reg [.op D4 (.mv (.c (.int .u64 (.ofNat (nat_lit 0))))),
    .op D5 (.mv (.c (.bool false)))])
  (.seq (.seq (.reg [.op D6 (.mv T0),
    .op D7 (.eq false (.sc .ptr) T6 (.c (.nilp)))])
  (.cond T7 (.seq (.reg [.op D4 (.mv (.c (.int .u64 (.ofNat (nat_lit 0))))),
    .op D5 (.mv (.c (.bool false)))])
  (.ret))
  (.skip)))
  (.seq (.reg [.op D8 (.mv T0),
    .op D9 (.nilck T8),
    .op D10 (.fadd (nat_lit 1) T9),
    .op D11 (.ld1 T10),
    .op D12 (.bin .add T11 (.c (.int .i64 (.ofNat (nat_lit 1))))),
    .op D13 (.nilck T8),
    .op D14 (.fadd (nat_lit 1) T13),
    .op .no (.st (nat_lit 1) T14 T12)])
  (.seq (.seq (.reg [.op D15 (.mv T0),
    .op D16 (.nilck T15),
    .op D17 (.fadd (nat_lit 0) T16),
    .op D18 (.ld1 T17),
    .op D19 (.mv T1),
    .op D20 (.bin .geq T18 T19)])
  (.cond T20 (.seq (.reg [.op D21 (.mv T0),
    .op D22 (.nilck T21),
    .op D23 (.fadd (nat_lit 0) T22),
    .op D24 (.ld1 T23),
    .op D4 (.mv T24),
    .op D5 (.mv (.c (.bool false)))])
  (.ret))
  (.skip)))
  (.seq (.reg [.op D25 (.mv T0),
    .op D26 (.nilck T25),
    .op D27 (.fadd (nat_lit 0) T26),
    .op D28 (.ld1 T27),
    .op D29 (.bin .add T28 (.c (.int .u64 (.ofNat (nat_lit 1))))),
    .op D30 (.nilck T25),
    .op D31 (.fadd (nat_lit 0) T30),
    .op .no (.st (nat_lit 1) T31 T29)])
  (.seq (.reg [.op D32 (.mv T0),
    .op D33 (.nilck T32),
    .op D34 (.fadd (nat_lit 0) T33),
    .op D35 (.ld1 T34),
    .op D4 (.mv T35),
    .op D5 (.mv (.c (.bool true)))])
  (.ret)))))),
  [.t .n0 .n4 g4 (fun _ => rfl), .t .n0 .n5 g5 (fun _ => rfl)]⟩
/-- (*messuage/ticket.Lock).Draw -/
noncomputable def ff106 : FFunc := ⟨.seq (.reg [.op D2 (.mv (.c (.int .u64 (.ofNat (nat_lit 0)))))])
  (.seq (.seq (.reg [.op D5 (.mv T0),
    .op D6 (.eq false (.sc .ptr) T5 (.c (.nilp)))])
  (.cond T6 (.seq (.reg [.op D2 (.mv (.c (.int .u64 (.ofNat (nat_lit 0)))))])
  (.ret))
  (.skip)))
  (.seq (.reg [.op D8 (.mv T0),
    .op D9 (.nilck T8),
    .op D10 (.fadd (nat_lit 0) T9),
    .op D11 (.ld1 T10),
    .op D12 (.call (nat_lit 105) [T11, .c (.int .u64 (.ofNat (nat_lit 18446744073709551615)))]),
    .op D7 (.mv T12),
    .op D13 (.ex (nat_lit 0) T7),
    .op D14 (.ex (nat_lit 1) T7),
    .op D3 (.mv T13),
    .op D4 (.mv T14)])
  (.seq (.reg [.op D15 (.mv T3),
    .op D16 (.bin .sub T15 (.c (.int .u64 (.ofNat (nat_lit 1))))),
    .op D2 (.mv T16)])
  (.ret)))),
  [.t .n0 .n2 g2 (fun _ => rfl)]⟩
/-- messuage/messuagelaw1.Begun -/
noncomputable def ff107 : FFunc := ⟨.seq (.reg [.op D0 (.mv (.c (.bool false)))])
  (.seq (.reg [.op D1 (.call (nat_lit 126) []),
    .op D0 (.mv T1)])
  (.ret)),
  [.t .n0 .n0 g0 (fun _ => rfl)]⟩
/-- (*messuage/ticket.Lock).Turn -/
noncomputable def ff108 : FFunc := ⟨.seq (.reg [.op D4 (.mv (.c (.bool false)))])
  (.seq (.reg [.op D5 (.mv T0),
    .op D6 (.eq true (.sc .ptr) T5 (.c (.nilp))),
    .op D7 (.mv T6),
    .gop .n0 .n7 g7 (fun _ => rfl) true D8 (.mv T0),
    .gop .n0 .n7 g7 (fun _ => rfl) true D9 (.nilck T8),
    .gop .n0 .n7 g7 (fun _ => rfl) true D10 (.fadd (nat_lit 1) T9),
    .gop .n0 .n7 g7 (fun _ => rfl) true D11 (.ld1 T10),
    .gop .n0 .n7 g7 (fun _ => rfl) true D12 (.call (nat_lit 127) [T11]),
    .gop .n0 .n7 g7 (fun _ => rfl) true D13 (.mv T1),
    .gop .n0 .n7 g7 (fun _ => rfl) true D14 (.bin .eql T12 T13),
    .op D15 (.pick T7 T14 (.c (.bool false))),
    .op D16 (.mv T15),
    .gop .n1 .n0 g16 (fun _ => rfl) true D17 (.mv T1),
    .gop .n1 .n0 g16 (fun _ => rfl) true D18 (.mv T0),
    .gop .n1 .n0 g16 (fun _ => rfl) true D19 (.nilck T18),
    .gop .n1 .n0 g16 (fun _ => rfl) true D20 (.fadd (nat_lit 0) T19),
    .gop .n1 .n0 g16 (fun _ => rfl) true D21 (.ld1 T20),
    .gop .n1 .n0 g16 (fun _ => rfl) true D22 (.call (nat_lit 127) [T21]),
    .gop .n1 .n0 g16 (fun _ => rfl) true D23 (.bin .lss T17 T22),
    .op D24 (.pick T16 T23 (.c (.bool false))),
    .op D4 (.mv T24)])
  (.ret)),
  [.t .n0 .n4 g4 (fun _ => rfl)]⟩
/-- (*messuage/ticket.Lock).Pass -/
noncomputable def ff109 : FFunc := ⟨.seq (.reg [.op D4 (.mv (.c (.bool false)))])
  (.seq (.reg [.op D5 (.mv T0),
    .op D6 (.mv T1),
    .op D7 (.call (nat_lit 108) [T5, T6]),
    .op D8 (.mv T7),
    .gop .n0 .n8 g8 (fun _ => rfl) true D9 (.mv T0),
    .gop .n0 .n8 g8 (fun _ => rfl) true D10 (.nilck T9),
    .gop .n0 .n8 g8 (fun _ => rfl) true D11 (.fadd (nat_lit 1) T10),
    .gop .n0 .n8 g8 (fun _ => rfl) true D12 (.ld1 T11),
    .gop .n0 .n8 g8 (fun _ => rfl) true D13 (.mv T1),
    .gop .n0 .n8 g8 (fun _ => rfl) true D14 (.mv T1),
    .gop .n0 .n8 g8 (fun _ => rfl) true D15 (.bin .add T14 (.c (.int .u64 (.ofNat (nat_lit 1))))),
    .gop .n0 .n8 g8 (fun _ => rfl) true D16 (.call (nat_lit 128) [T12, T13, T15]),
    .op D17 (.pick T8 T16 (.c (.bool false))),
    .op D4 (.mv T17)])
  (.ret)),
  [.t .n0 .n4 g4 (fun _ => rfl)]⟩
/-- messuage/word.Args -/
noncomputable def ff110 : FFunc := ⟨.seq (.reg [.op D2 (.mv (.c (.int .i64 (.ofNat (nat_lit 0)))))])
  (.seq (.reg [.op D3 (.mv T0),
    .op D4 (.call (nat_lit 81) [T3]),
    .op D5 (.lenL T4),
    .op D2 (.mv T5)])
  (.ret)),
  [.t .n0 .n2 g2 (fun _ => rfl)]⟩
/-- (*messuage/pool.Pool).Bits -/
noncomputable def ff111 : FFunc := ⟨.seq (.reg [.op D2 (.mv (.c (.int .u64 (.ofNat (nat_lit 0)))))])
  (.seq (.reg [.op D3 (.mv (.c (.int .u64 (.ofNat (nat_lit 0)))))])
  (.seq (.seq (.reg [.op D6 (.mv T0),
    .op D7 (.call (nat_lit 64) [T6]),
    .op D8 (.lenL T7),
    .op D9 (.mv (.c (.int .i64 (.ofNat (nat_lit 0)))))])
  (.block (nat_lit 0) (.loop (.seq (.reg [.op D10 (.bin .lss T9 T8)])
  (.seq (.cond T10 (.skip)
  (.exit (nat_lit 0)))
  (.seq (.block (nat_lit 1) (.seq (.reg [.op D11 (.ixaS (nat_lit 1) T7 T9),
    .op D12 (.ld1 T11),
    .op D5 (.mv T12)])
  (.reg [.op D13 (.mv T3),
    .op D14 (.mv T5),
    .op D15 (.bin .shl (.c (.int .u64 (.ofNat (nat_lit 1)))) T14),
    .op D16 (.bin .or T13 T15),
    .op D3 (.mv T16)])))
  (.reg [.op D17 (.bin .add T9 (.c (.int .i64 (.ofNat (nat_lit 1))))),
    .op D9 (.mv T17)])))))))
  (.seq (.reg [.op D18 (.mv T3),
    .op D2 (.mv T18)])
  (.ret)))),
  [.t .n0 .n2 g2 (fun _ => rfl)]⟩
/-- messuage/word.Arg -/
noncomputable def ff112 : FFunc := ⟨.seq (.reg [.op D3 (.box (nat_lit 5) T0),
    .op D6 (.mv (.c (.int .i64 (.ofNat (nat_lit 0))))),
    .op D7 (.mv (.c (.bool false)))])
  (.seq (.seq (.reg [.op D8 (.mv T1),
    .op D9 (.bin .lss T8 (.c (.int .i64 (.ofNat (nat_lit 1))))),
    .op D10 (.mv T9),
    .gop .n0 .n10 g10 (fun _ => rfl) false D11 (.mv T1),
    .gop .n0 .n10 g10 (fun _ => rfl) false D12 (.bin .geq T11 (.c (.int .i64 (.ofNat (nat_lit 5))))),
    .op D13 (.pick T10 (.c (.bool true)) T12),
    .op D14 (.mv T13),
    .gop .n0 .n14 g14 (fun _ => rfl) false D15 (.mv T2),
    .gop .n0 .n14 g14 (fun _ => rfl) false D16 (.bin .leq T15 (.c (.int .i64 (.ofNat (nat_lit 0))))),
    .op D17 (.pick T14 (.c (.bool true)) T16),
    .op D18 (.mv T17),
    .gop .n1 .n2 g18 (fun _ => rfl) false D19 (.mv T1),
    .gop .n1 .n2 g18 (fun _ => rfl) false D20 (.ixaA (nat_lit 5) (nat_lit 1) T3 T19),
    .gop .n1 .n2 g18 (fun _ => rfl) false D21 (.ld1 T20),
    .gop .n1 .n2 g18 (fun _ => rfl) false D22 (.mv T2),
    .gop .n1 .n2 g18 (fun _ => rfl) false D23 (.cvi .u64 T22),
    .gop .n1 .n2 g18 (fun _ => rfl) false D24 (.bin .geq T21 T23),
    .op D25 (.pick T18 (.c (.bool true)) T24)])
  (.cond T25 (.seq (.reg [.op D6 (.mv (.c (.int .i64 (.ofNat (nat_lit 0))))),
    .op D7 (.mv (.c (.bool false)))])
  (.ret))
  (.skip)))
  (.seq (.reg [.op D26 (.mv T1),
    .op D27 (.ixaA (nat_lit 5) (nat_lit 1) T3 T26),
    .op D28 (.ld1 T27),
    .op D29 (.cvi .i64 T28),
    .op D6 (.mv T29),
    .op D7 (.mv (.c (.bool true)))])
  (.ret))),
  [.t .n0 .n6 g6 (fun _ => rfl), .t .n0 .n7 g7 (fun _ => rfl)]⟩
/-- messuage/word.Rights -/
noncomputable def ff113 : FFunc := ⟨.seq (.reg [.op D2 (.mv (.c (.int .i64 (.ofNat (nat_lit 0))))),
    .op D3 (.mv (.c (.bool false)))])
  (.seq (.seq (.reg [.op D4 (.mv T0),
    .op D5 (.bin .lss T4 (.c (.int .u64 (.ofNat (nat_lit 1))))),
    .op D6 (.mv T5),
    .gop .n0 .n6 g6 (fun _ => rfl) false D7 (.mv T0),
    .gop .n0 .n6 g6 (fun _ => rfl) false D8 (.bin .gtr T7 (.c (.int .u64 (.ofNat (nat_lit 3))))),
    .op D9 (.pick T6 (.c (.bool true)) T8)])
  (.cond T9 (.seq (.reg [.op D2 (.mv (.c (.int .i64 (.ofNat (nat_lit 0))))),
    .op D3 (.mv (.c (.bool false)))])
  (.ret))
  (.skip)))
  (.seq (.reg [.op D10 (.mv T0),
    .op D11 (.cvi .i64 T10),
    .op D2 (.mv T11),
    .op D3 (.mv (.c (.bool true)))])
  (.ret))),
  [.t .n0 .n2 g2 (fun _ => rfl), .t .n0 .n3 g3 (fun _ => rfl)]⟩
/-- slices.Index[[]int,int] -/
noncomputable def ff114 : FFunc := ⟨.seq (.reg [.op D4 (.mv (.c (.int .i64 (.ofNat (nat_lit 0)))))])
  (.seq (.seq (.reg [.op D6 (.mv T0),
    .op D7 (.lenL T6),
    .op D8 (.mv (.c (.int .i64 (.ofNat (nat_lit 0)))))])
  (.block (nat_lit 0) (.loop (.seq (.reg [.op D9 (.bin .lss T8 T7)])
  (.seq (.cond T9 (.skip)
  (.exit (nat_lit 0)))
  (.seq (.block (nat_lit 1) (.seq (.reg [.op D10 (.mv T8),
    .op D5 (.mv T10)])
  (.seq (.reg [.op D11 (.mv T1),
    .op D12 (.mv T0),
    .op D13 (.mv T5),
    .op D14 (.ixaS (nat_lit 1) T12 T13),
    .op D15 (.ld1 T14),
    .op D16 (.bin .eql T11 T15)])
  (.cond T16 (.seq (.reg [.op D17 (.mv T5),
    .op D4 (.mv T17)])
  (.ret))
  (.skip)))))
  (.reg [.op D18 (.bin .add T8 (.c (.int .i64 (.ofNat (nat_lit 1))))),
    .op D8 (.mv T18)])))))))
  (.seq (.reg [.op D4 (.mv (.c (.int .i64 (.negSucc (nat_lit 0)))))])
  (.ret))),
  [.t .n0 .n4 g4 (fun _ => rfl)]⟩
/-- (*messuage/mem.Mem).at -/
noncomputable def ff115 : FFunc := ⟨.seq (.reg [.op D6 (.mv (.c (.nilp)))])
  (.seq (.seq (.reg [.op D7 (.mv T1),
    .op D8 (.bin .lss T7 (.c (.int .i64 (.ofNat (nat_lit 0))))),
    .op D9 (.mv T8),
    .gop .n0 .n9 g9 (fun _ => rfl) false D10 (.mv T1),
    .gop .n0 .n9 g9 (fun _ => rfl) false D11 (.mv T0),
    .gop .n0 .n9 g9 (fun _ => rfl) false D12 (.call (nat_lit 129) [T11]),
    .gop .n0 .n9 g9 (fun _ => rfl) false D13 (.bin .geq T10 T12),
    .op D14 (.pick T9 (.c (.bool true)) T13),
    .op D15 (.mv T14),
    .gop .n0 .n15 g15 (fun _ => rfl) false D16 (.mv T2),
    .gop .n0 .n15 g15 (fun _ => rfl) false D17 (.bin .lss T16 (.c (.int .i64 (.ofNat (nat_lit 0))))),
    .op D18 (.pick T15 (.c (.bool true)) T17),
    .op D19 (.mv T18),
    .gop .n1 .n3 g19 (fun _ => rfl) false D20 (.mv T2),
    .gop .n1 .n3 g19 (fun _ => rfl) false D21 (.bin .geq T20 (.c (.int .i64 (.ofNat (nat_lit 16))))),
    .op D22 (.pick T19 (.c (.bool true)) T21)])
  (.cond T22 (.seq (.reg [.op D6 (.mv (.c (.nilp)))])
  (.ret))
  (.skip)))
  (.seq (.reg [.op D23 (.mv T0),
    .op D24 (.nilck T23),
    .op D25 (.fadd (nat_lit 0) T24),
    .op D26 (.ld1 T25),
    .op D27 (.mv T1),
    .op D28 (.ixaS (nat_lit 1) T26 T27),
    .op D29 (.ld1 T28),
    .op D30 (.mv T2),
    .op D31 (.ixaS (nat_lit 1) T29 T30),
    .op D6 (.mv T31)])
  (.ret))),
  [.t .n0 .n6 g6 (fun _ => rfl)]⟩
/-- (*messuage/caps.Tree).look -/
noncomputable def ff116 : FFunc := ⟨.seq (.reg [.op D6 (.mv (.c (.int .i64 (.ofNat (nat_lit 0)))))])
  (.seq (.block (nat_lit 0) (.seq (.reg [.op D8 (.mv T0),
    .op D9 (.eq false (.sc .ptr) T8 (.c (.nilp))),
    .op D7 (.mv T9)])
  (.cond T7 (.seq (.reg [.op D6 (.mv (.c (.int .i64 (.ofNat (nat_lit 10)))))])
  (.ret))
  (.seq (.reg [.op D11 (.mv T0),
    .op D12 (.mv T1),
    .op D13 (.mv T2),
    .op D14 (.call (nat_lit 51) [T11, T12, T13]),
    .op D15 (.un .not T14),
    .op D10 (.mv T15)])
  (.cond T10 (.seq (.reg [.op D6 (.mv (.c (.int .i64 (.ofNat (nat_lit 2)))))])
  (.ret))
  (.seq (.reg [.op D17 (.mv T0),
    .op D18 (.nilck T17),
    .op D19 (.fadd (nat_lit 0) T18),
    .op D20 (.ld1 T19),
    .op D21 (.mv T1),
    .op D22 (.mv T2),
    .op D23 (.ixaS (nat_lit 32) T20 T21),
    .op D24 (.ixaA (nat_lit 8) (nat_lit 4) T23 T22),
    .op D25 (.fadd (nat_lit 1) T24),
    .op D26 (.ld1 T25),
    .op D27 (.bin .eql T26 (.c (.int .i64 (.ofNat (nat_lit 0))))),
    .op D16 (.mv T27)])
  (.cond T16 (.seq (.reg [.op D6 (.mv (.c (.int .i64 (.ofNat (nat_lit 3)))))])
  (.ret))
  (.skip))))))))
  (.seq (.reg [.op D6 (.mv (.c (.int .i64 (.ofNat (nat_lit 0)))))])
  (.ret))),
  [.t .n0 .n6 g6 (fun _ => rfl)]⟩
/-- (*messuage/caps.Tree).empties -/
noncomputable def ff117 : FFunc := ⟨.seq (.reg [.op D4 (.mv (.c (.nils)))])
  (.seq (.seq (.reg [.op D7 (.mv T1),
    .op D8 (.lenL T7),
    .op D9 (.mv (.c (.int .i64 (.ofNat (nat_lit 0)))))])
  (.block (nat_lit 0) (.loop (.seq (.reg [.op D10 (.bin .lss T9 T8)])
  (.seq (.cond T10 (.skip)
  (.exit (nat_lit 0)))
  (.seq (.block (nat_lit 1) (.seq (.reg [.op D11 (.ixaS (nat_lit 2) T7 T9),
    .op D12 (.ldA (nat_lit 2) T11),
    .op D6 (.new [.int .i64 (.ofNat (nat_lit 0)), .int .i64 (.ofNat (nat_lit 0))]),
    .op .no (.st (nat_lit 2) T6 T12)])
  (.drw [.op D13 (.mv T0),
    .op D14 (.nilck T13),
    .op D15 (.fadd (nat_lit 0) T14),
    .op D16 (.ld1 T15),
    .op D17 (.fadd (nat_lit 0) T6),
    .op D18 (.ld1 T17),
    .op D19 (.fadd (nat_lit 1) T6),
    .op D20 (.ld1 T19),
    .op D21 (.build [.int .i64 (.ofNat (nat_lit 0)), .int .i64 (.ofNat (nat_lit 0)), .int .i64 (.ofNat (nat_lit 0)), .int .i64 (.ofNat (nat_lit 0))] []),
    .op D22 (.ixaS (nat_lit 32) T16 T18),
    .op D23 (.ixaA (nat_lit 8) (nat_lit 4) T22 T20),
    .op .no (.st (nat_lit 4) T23 T21)] [])))
  (.reg [.op D24 (.bin .add T9 (.c (.int .i64 (.ofNat (nat_lit 1))))),
    .op D9 (.mv T24)])))))))
  (.seq (.reg [.op D25 (.mv T1),
    .op D4 (.mv T25)])
  (.ret))),
  [.t .n0 .n4 g4 (fun _ => rfl)]⟩
/-- (*messuage/caps.Tree).Drop$1 -/
noncomputable def ff118 : FFunc := ⟨.seq (.reg [.op D4 (.box (nat_lit 2) T0),
    .op D5 (.box (nat_lit 4) T1),
    .op D6 (.mv (.c (.bool false)))])
  (.seq (.reg [.op D7 (.ldA (nat_lit 2) T4),
    .op D8 (.ldA (nat_lit 2) T2),
    .op D9 (.eq false (.flat [((nat_lit 0), .int), ((nat_lit 1), .int)]) T7 T8),
    .op D10 (.mv T9),
    .gop .n0 .n10 g10 (fun _ => rfl) false D11 (.ld1 T3),
    .gop .n0 .n10 g10 (fun _ => rfl) false D12 (.ldA (nat_lit 4) T5),
    .gop .n0 .n10 g10 (fun _ => rfl) false D13 (.ldA (nat_lit 2) T2),
    .gop .n0 .n10 g10 (fun _ => rfl) false D14 (.call (nat_lit 77) [T11, T12, T13]),
    .op D15 (.pick T10 (.c (.bool true)) T14),
    .op D6 (.mv T15)])
  (.ret)),
  [.t .n0 .n6 g6 (fun _ => rfl)]⟩
/-- slices.Clone[[]uint64,uint64] -/
noncomputable def ff119 : FFunc := ⟨.seq (.reg [.op D2 (.mv (.c (.nils)))])
  (.seq (.seq (.reg [.op D3 (.mv T0),
    .op D4 (.eq false (.sc .slcN) T3 (.c (.nils)))])
  (.cond T4 (.seq (.reg [.op D2 (.mv (.c (.nils)))])
  (.ret))
  (.skip)))
  (.seq (.reg [.op D5 (.bsl (nat_lit 1) [] (nat_lit 0) []),
    .op D6 (.mv T0),
    .op D7 (.app (nat_lit 1) (nat_lit 8) T5 T6),
    .op D2 (.mv T7)])
  (.ret))),
  [.t .n0 .n2 g2 (fun _ => rfl)]⟩
/-- (*messuage/mail.Mail).Send -/
noncomputable def ff124 : FFunc := ⟨.seq (.reg [.op D8 (.mv (.c (.bool false)))])
  (.seq (.seq (.reg [.op D11 (.mv T0),
    .op D12 (.mv T1),
    .op D13 (.call (nat_lit 132) [T11, T12]),
    .op D14 (.un .not T13),
    .op D15 (.mv T14),
    .gop .n0 .n15 g15 (fun _ => rfl) false D16 (.mv T0),
    .gop .n0 .n15 g15 (fun _ => rfl) false D17 (.mv T2),
    .gop .n0 .n15 g15 (fun _ => rfl) false D18 (.call (nat_lit 132) [T16, T17]),
    .gop .n0 .n15 g15 (fun _ => rfl) false D19 (.un .not T18),
    .op D20 (.pick T15 (.c (.bool true)) T19),
    .op D21 (.mv T20),
    .gop .n1 .n5 g21 (fun _ => rfl) false D22 (.mv T1),
    .gop .n1 .n5 g21 (fun _ => rfl) false D23 (.mv T2),
    .gop .n1 .n5 g21 (fun _ => rfl) false D24 (.bin .eql T22 T23),
    .op D25 (.pick T21 (.c (.bool true)) T24)])
  (.cond T25 (.seq (.reg [.op D8 (.mv (.c (.bool false)))])
  (.ret))
  (.skip)))
  (.seq (.seq (.reg [.op D27 (.mv T0),
    .op D28 (.nilck T27),
    .op D29 (.fadd (nat_lit 0) T28),
    .op D30 (.ld1 T29),
    .op D31 (.mv T2),
    .op D32 (.ixaS (nat_lit 1) T30 T31),
    .op D33 (.ld1 T32),
    .op D34 (.mv T3),
    .op D35 (.call (nat_lit 133) [T33, T34]),
    .op D26 (.mv T35),
    .op D36 (.ex (nat_lit 0) T26),
    .op D37 (.ex (nat_lit 1) T26),
    .op D9 (.mv T36),
    .op D10 (.mv T37)])
  (.seq (.reg [.op D38 (.mv T10),
    .op D39 (.un .not T38)])
  (.cond T39 (.drw [.op D40 (.mv T0),
    .op D41 (.nilck T40),
    .op D42 (.fadd (nat_lit 0) T41),
    .op D43 (.ld1 T42),
    .op D44 (.mv T2),
    .op D45 (.mv T0),
    .op D46 (.nilck T45),
    .op D47 (.fadd (nat_lit 0) T46),
    .op D48 (.ld1 T47),
    .op D49 (.mv T2),
    .op D50 (.ixaS (nat_lit 1) T48 T49),
    .op D51 (.ld1 T50),
    .op D52 (.mv T9),
    .op D53 (.mv T3),
    .op D54 (.bsl (nat_lit 1) [.int .u64 (.ofNat (nat_lit 0))] (nat_lit 1) [((nat_lit 0), (nat_lit 1), T53)]),
    .op D55 (.call (nat_lit 134) [T51, T52, T54]),
    .op D56 (.ixaS (nat_lit 1) T43 T44),
    .op .no (.st (nat_lit 1) T56 T55)] [((nat_lit 3), (nat_lit 15))])
  (.skip))))
  (.seq (.reg [.op D8 (.mv (.c (.bool true)))])
  (.ret)))),
  [.t .n0 .n8 g8 (fun _ => rfl)]⟩
/-- (*messuage/mail.Mail).Waits -/
noncomputable def ff125 : FFunc := ⟨.seq (.reg [.op D4 (.mv (.c (.int .i64 (.ofNat (nat_lit 0)))))])
  (.seq (.seq (.reg [.op D5 (.mv T0),
    .op D6 (.mv T1),
    .op D7 (.call (nat_lit 132) [T5, T6]),
    .op D8 (.un .not T7)])
  (.cond T8 (.seq (.reg [.op D4 (.mv (.c (.int .i64 (.ofNat (nat_lit 0)))))])
  (.ret))
  (.skip)))
  (.seq (.reg [.op D9 (.mv T0),
    .op D10 (.nilck T9),
    .op D11 (.fadd (nat_lit 0) T10),
    .op D12 (.ld1 T11),
    .op D13 (.mv T1),
    .op D14 (.ixaS (nat_lit 1) T12 T13),
    .op D15 (.ld1 T14),
    .op D16 (.lenL T15),
    .op D4 (.mv T16)])
  (.ret))),
  [.t .n0 .n4 g4 (fun _ => rfl)]⟩
/-- messuage/messuagelaw1.begun -/
noncomputable def ff126 : FFunc := ⟨.seq (.reg [.op D0 (.mv (.c (.bool false)))])
  (.seq (.reg [.op D4 (.build [.int .u64 (.ofNat (nat_lit 0)), .int .u64 (.ofNat (nat_lit 0)), .int .u64 (.ofNat (nat_lit 0)), .int .u64 (.ofNat (nat_lit 0)), .int .u64 (.ofNat (nat_lit 0))] [((nat_lit 0), (nat_lit 1), .c (.int .u64 (.ofNat (nat_lit 1)))), ((nat_lit 1), (nat_lit 1), .c (.int .u64 (.ofNat (nat_lit 2))))]),
    .op D5 (.call (nat_lit 42) [.c (.int .i64 (.ofNat (nat_lit 3)))]),
    .op D6 (.call (nat_lit 66) [.c (.int .i64 (.ofNat (nat_lit 2))), T4, T5]),
    .op D1 (.mv T6)])
  (.seq (.reg [.op D8 (.mv T1),
    .op D9 (.call (nat_lit 67) [T8]),
    .op D7 (.mv T9),
    .op D10 (.ex (nat_lit 0) T7),
    .op D11 (.ex (nat_lit 1) T7),
    .op D2 (.mv T10),
    .op D3 (.mv T11)])
  (.seq (.seq (.reg [.op D12 (.mv T1),
    .op D13 (.eq false (.sc .ifc) T12 (.c (.nili))),
    .op D14 (.mv T13),
    .gop .n0 .n14 g14 (fun _ => rfl) false D15 (.mv T2),
    .gop .n0 .n14 g14 (fun _ => rfl) false D16 (.eq false (.sc .ptr) T15 (.c (.nilp))),
    .op D17 (.pick T14 (.c (.bool true)) T16)])
  (.cond T17 (.seq (.reg [.op D0 (.mv (.c (.bool false)))])
  (.ret))
  (.skip)))
  (.seq (.reg [.op D18 (.mv T3),
    .op D19 (.mv T18),
    .gop .n1 .n3 g19 (fun _ => rfl) true D20 (.mv T2),
    .gop .n1 .n3 g19 (fun _ => rfl) true D21 (.nilck T20),
    .gop .n1 .n3 g19 (fun _ => rfl) true D22 (.fadd (nat_lit 1) T21),
    .gop .n1 .n3 g19 (fun _ => rfl) true D23 (.ld1 T22),
    .gop .n1 .n3 g19 (fun _ => rfl) true D24 (.bin .eql T23 (.c (.int .i64 (.ofNat (nat_lit 2))))),
    .op D25 (.pick T19 T24 (.c (.bool false))),
    .op D26 (.mv T25),
    .gop .n1 .n10 g26 (fun _ => rfl) true D27 (.mv T2),
    .gop .n1 .n10 g26 (fun _ => rfl) true D28 (.nilck T27),
    .gop .n1 .n10 g26 (fun _ => rfl) true D29 (.fadd (nat_lit 2) T28),
    .gop .n1 .n10 g26 (fun _ => rfl) true D30 (.ldA (nat_lit 5) T29),
    .gop .n1 .n10 g26 (fun _ => rfl) true D31 (.build [.int .u64 (.ofNat (nat_lit 0)), .int .u64 (.ofNat (nat_lit 0)), .int .u64 (.ofNat (nat_lit 0)), .int .u64 (.ofNat (nat_lit 0)), .int .u64 (.ofNat (nat_lit 0))] [((nat_lit 0), (nat_lit 1), .c (.int .u64 (.ofNat (nat_lit 1)))), ((nat_lit 1), (nat_lit 1), .c (.int .u64 (.ofNat (nat_lit 2))))]),
    .gop .n1 .n10 g26 (fun _ => rfl) true D32 (.eq false (.flat [((nat_lit 0), .int), ((nat_lit 1), .int), ((nat_lit 2), .int), ((nat_lit 3), .int), ((nat_lit 4), .int)]) T30 T31),
    .op D33 (.pick T26 T32 (.c (.bool false))),
    .op D34 (.mv T33),
    .gop .n2 .n2 g34 (fun _ => rfl) true D35 (.mv T2),
    .gop .n2 .n2 g34 (fun _ => rfl) true D36 (.nilck T35),
    .gop .n2 .n2 g34 (fun _ => rfl) true D37 (.fadd (nat_lit 0) T36),
    .gop .n2 .n2 g34 (fun _ => rfl) true D38 (.ld1 T37),
    .gop .n2 .n2 g34 (fun _ => rfl) true D39 (.bin .eql T38 (.c (.int .i64 (.ofNat (nat_lit 3))))),
    .op D40 (.pick T34 T39 (.c (.bool false))),
    .op D41 (.mv T40),
    .gop .n2 .n9 g41 (fun _ => rfl) true D42 (.mv T1),
    .gop .n2 .n9 g41 (fun _ => rfl) true D43 (.call (nat_lit 29) [T42]),
    .gop .n2 .n9 g41 (fun _ => rfl) true D44 (.bin .eql T43 (.c (.int .i64 (.ofNat (nat_lit 3))))),
    .op D45 (.pick T41 T44 (.c (.bool false))),
    .op D46 (.mv T45),
    .gop .n2 .n14 g46 (fun _ => rfl) true D47 (.mv T1),
    .gop .n2 .n14 g46 (fun _ => rfl) true D48 (.call (nat_lit 135) [T47]),
    .gop .n2 .n14 g46 (fun _ => rfl) true D49 (.bin .eql T48 (.c (.int .i64 (.ofNat (nat_lit 2))))),
    .op D50 (.pick T46 T49 (.c (.bool false))),
    .op D51 (.mv T50),
    .gop .n3 .n3 g51 (fun _ => rfl) true D52 (.mv T1),
    .gop .n3 .n3 g51 (fun _ => rfl) true D53 (.call (nat_lit 42) [.c (.int .i64 (.ofNat (nat_lit 3)))]),
    .gop .n3 .n3 g51 (fun _ => rfl) true D54 (.call (nat_lit 41) [T52, T53]),
    .op D55 (.pick T51 T54 (.c (.bool false))),
    .op D56 (.mv T55),
    .gop .n3 .n8 g56 (fun _ => rfl) true D57 (.mv T1),
    .gop .n3 .n8 g56 (fun _ => rfl) true D58 (.call (nat_lit 42) [.c (.int .i64 (.ofNat (nat_lit 4)))]),
    .gop .n3 .n8 g56 (fun _ => rfl) true D59 (.call (nat_lit 41) [T57, T58]),
    .gop .n3 .n8 g56 (fun _ => rfl) true D60 (.un .not T59),
    .op D61 (.pick T56 T60 (.c (.bool false))),
    .op D62 (.mv T61),
    .gop .n3 .n14 g62 (fun _ => rfl) true D63 (.mv T1),
    .gop .n3 .n14 g62 (fun _ => rfl) true D64 (.inv [((nat_lit 8), (nat_lit 143)), ((nat_lit 14), (nat_lit 149)), ((nat_lit 15), (nat_lit 151)), ((nat_lit 16), (nat_lit 153)), ((nat_lit 19), (nat_lit 158)), ((nat_lit 122), (nat_lit 161)), ((nat_lit 175), (nat_lit 188))] T63 []),
    .gop .n3 .n14 g62 (fun _ => rfl) true D65 (.bin .eql T64 (.c (.str [(nat_lit 116), (nat_lit 114), (nat_lit 97), (nat_lit 112), (nat_lit 32), (nat_lit 51), (nat_lit 58), (nat_lit 32), (nat_lit 116), (nat_lit 114), (nat_lit 97), (nat_lit 112), (nat_lit 32), (nat_lit 51)]))),
    .op D66 (.pick T62 T65 (.c (.bool false))),
    .op D67 (.mv T66),
    .gop .n4 .n3 g67 (fun _ => rfl) true D68 (.call (nat_lit 42) [.c (.int .i64 (.ofNat (nat_lit 0)))]),
    .gop .n4 .n3 g67 (fun _ => rfl) true D69 (.eq false (.sc .ifc) T68 (.c (.nili))),
    .op D70 (.pick T67 T69 (.c (.bool false))),
    .op D0 (.mv T70)])
  (.ret))))),
  [.t .n0 .n0 g0 (fun _ => rfl)]⟩
/-- (*messuage/cell.Cell).Load -/
noncomputable def ff127 : FFunc := ⟨.seq (.reg [.op D2 (.mv (.c (.int .u64 (.ofNat (nat_lit 0)))))])
  (.seq (.seq (.reg [.op D3 (.mv T0),
    .op D4 (.eq false (.sc .ptr) T3 (.c (.nilp)))])
  (.cond T4 (.seq (.reg [.op D2 (.mv (.c (.int .u64 (.ofNat (nat_lit 0)))))])
  (.ret))
  (.skip)))
  (.seq (.reg [.op D5 (.mv T0),
    .op D6 (.nilck T5),
    .op D7 (.fadd (nat_lit 1) T6),
    .op D8 (.ld1 T7),
    .op D9 (.bin .add T8 (.c (.int .i64 (.ofNat (nat_lit 1))))),
    .op D10 (.nilck T5),
    .op D11 (.fadd (nat_lit 1) T10),
    .op .no (.st (nat_lit 1) T11 T9)])
  (.seq (.reg [.op D12 (.mv T0),
    .op D13 (.nilck T12),
    .op D14 (.fadd (nat_lit 0) T13),
    .op D15 (.ld1 T14),
    .op D2 (.mv T15)])
  (.ret)))),
  [.t .n0 .n2 g2 (fun _ => rfl)]⟩
/-- (*messuage/cell.Cell).Cas -/
noncomputable def ff128 : FFunc := ⟨.seq (.reg [.op D6 (.mv (.c (.bool false)))])
  (.seq (.seq (.reg [.op D7 (.mv T0),
    .op D8 (.eq false (.sc .ptr) T7 (.c (.nilp)))])
  (.cond T8 (.seq (.reg [.op D6 (.mv (.c (.bool false)))])
  (.ret))
  (.skip)))
  (.seq (.reg [.op D9 (.mv T0),
    .op D10 (.nilck T9),
    .op D11 (.fadd (nat_lit 1) T10),
    .op D12 (.ld1 T11),
    .op D13 (.bin .add T12 (.c (.int .i64 (.ofNat (nat_lit 1))))),
    .op D14 (.nilck T9),
    .op D15 (.fadd (nat_lit 1) T14),
    .op .no (.st (nat_lit 1) T15 T13)])
  (.seq (.seq (.reg [.op D16 (.mv T0),
    .op D17 (.nilck T16),
    .op D18 (.fadd (nat_lit 0) T17),
    .op D19 (.ld1 T18),
    .op D20 (.mv T1),
    .op D21 (.bin .neq T19 T20)])
  (.cond T21 (.seq (.reg [.op D6 (.mv (.c (.bool false)))])
  (.ret))
  (.skip)))
  (.seq (.reg [.op D22 (.mv T0),
    .op D23 (.mv T2),
    .op D24 (.nilck T22),
    .op D25 (.fadd (nat_lit 0) T24),
    .op .no (.st (nat_lit 1) T25 T23)])
  (.seq (.reg [.op D6 (.mv (.c (.bool true)))])
  (.ret)))))),
  [.t .n0 .n6 g6 (fun _ => rfl)]⟩
/-- (*messuage/mem.Mem).Frames -/
noncomputable def ff129 : FFunc := ⟨.seq (.reg [.op D2 (.mv (.c (.int .i64 (.ofNat (nat_lit 0)))))])
  (.seq (.seq (.reg [.op D3 (.mv T0),
    .op D4 (.eq false (.sc .ptr) T3 (.c (.nilp)))])
  (.cond T4 (.seq (.reg [.op D2 (.mv (.c (.int .i64 (.ofNat (nat_lit 0)))))])
  (.ret))
  (.skip)))
  (.seq (.reg [.op D5 (.mv T0),
    .op D6 (.nilck T5),
    .op D7 (.fadd (nat_lit 0) T6),
    .op D8 (.ld1 T7),
    .op D9 (.lenL T8),
    .op D2 (.mv T9)])
  (.ret))),
  [.t .n0 .n2 g2 (fun _ => rfl)]⟩
/-- (*messuage/mail.Mail).is -/
noncomputable def ff132 : FFunc := ⟨.seq (.reg [.op D4 (.mv (.c (.bool false)))])
  (.seq (.reg [.op D5 (.mv T0),
    .op D6 (.eq true (.sc .ptr) T5 (.c (.nilp))),
    .op D7 (.mv T6),
    .gop .n0 .n7 g7 (fun _ => rfl) true D8 (.mv T1),
    .gop .n0 .n7 g7 (fun _ => rfl) true D9 (.bin .geq T8 (.c (.int .i64 (.ofNat (nat_lit 0))))),
    .op D10 (.pick T7 T9 (.c (.bool false))),
    .op D11 (.mv T10),
    .gop .n0 .n11 g11 (fun _ => rfl) true D12 (.mv T1),
    .gop .n0 .n11 g11 (fun _ => rfl) true D13 (.mv T0),
    .gop .n0 .n11 g11 (fun _ => rfl) true D14 (.nilck T13),
    .gop .n0 .n11 g11 (fun _ => rfl) true D15 (.fadd (nat_lit 0) T14),
    .gop .n0 .n11 g11 (fun _ => rfl) true D16 (.ld1 T15),
    .gop .n0 .n11 g11 (fun _ => rfl) true D17 (.lenL T16),
    .gop .n0 .n11 g11 (fun _ => rfl) true D18 (.bin .lss T12 T17),
    .op D19 (.pick T11 T18 (.c (.bool false))),
    .op D4 (.mv T19)])
  (.ret)),
  [.t .n0 .n4 g4 (fun _ => rfl)]⟩
/-- slices.BinarySearch[[]uint64,uint64] -/
noncomputable def ff133 : FFunc := ⟨.seq (.reg [.op D4 (.mv (.c (.int .i64 (.ofNat (nat_lit 0))))),
    .op D5 (.mv (.c (.bool false)))])
  (.seq (.reg [.op D10 (.mv T0),
    .op D11 (.lenL T10),
    .op D6 (.mv T11)])
  (.seq (.reg [.op D12 (.mv T6),
    .op D7 (.mv (.c (.int .i64 (.ofNat (nat_lit 0))))),
    .op D8 (.mv T12)])
  (.seq (.block (nat_lit 0) (.loop (.seq (.seq (.reg [.op D13 (.mv T7),
    .op D14 (.mv T8),
    .op D15 (.bin .lss T13 T14)])
  (.cond T15 (.skip)
  (.exit (nat_lit 0))))
  (.block (nat_lit 1) (.seq (.reg [.op D16 (.mv T7),
    .op D17 (.mv T8),
    .op D18 (.bin .add T16 T17),
    .op D19 (.cvi .u64 T18),
    .op D20 (.bin .shr T19 (.c (.int .u64 (.ofNat (nat_lit 1))))),
    .op D21 (.cvi .i64 T20),
    .op D9 (.mv T21)])
  (.seq (.reg [.op D22 (.mv T0),
    .op D23 (.mv T9),
    .op D24 (.ixaS (nat_lit 1) T22 T23),
    .op D25 (.ld1 T24),
    .op D26 (.mv T1),
    .op D27 (.call (nat_lit 136) [T25, T26])])
  (.cond T27 (.reg [.op D28 (.mv T9),
    .op D29 (.bin .add T28 (.c (.int .i64 (.ofNat (nat_lit 1))))),
    .op D7 (.mv T29)])
  (.reg [.op D30 (.mv T9),
    .op D8 (.mv T30)]))))))))
  (.seq (.reg [.op D31 (.mv T7),
    .op D32 (.mv T7),
    .op D33 (.mv T6),
    .op D34 (.bin .lss T32 T33),
    .op D35 (.mv T34),
    .gop .n2 .n3 g35 (fun _ => rfl) true D36 (.mv T0),
    .gop .n2 .n3 g35 (fun _ => rfl) true D37 (.mv T7),
    .gop .n2 .n3 g35 (fun _ => rfl) true D38 (.ixaS (nat_lit 1) T36 T37),
    .gop .n2 .n3 g35 (fun _ => rfl) true D39 (.ld1 T38),
    .gop .n2 .n3 g35 (fun _ => rfl) true D40 (.mv T1),
    .gop .n2 .n3 g35 (fun _ => rfl) true D41 (.bin .eql T39 T40),
    .gop .n2 .n3 g35 (fun _ => rfl) true D42 (.mv T41),
    .gop .n2 .n10 g42 (fun _ => rfl) false D43 (.mv T0),
    .gop .n2 .n10 g42 (fun _ => rfl) false D44 (.mv T7),
    .gop .n2 .n10 g42 (fun _ => rfl) false D45 (.ixaS (nat_lit 1) T43 T44),
    .gop .n2 .n10 g42 (fun _ => rfl) false D46 (.ld1 T45),
    .gop .n2 .n10 g42 (fun _ => rfl) false D47 (.call (nat_lit 137) [T46]),
    .gop .n2 .n10 g42 (fun _ => rfl) false D48 (.mv T47),
    .gop .n3 .n0 g48 (fun _ => rfl) true D49 (.mv T1),
    .gop .n3 .n0 g48 (fun _ => rfl) true D50 (.call (nat_lit 137) [T49]),
    .gop .n2 .n10 g42 (fun _ => rfl) false D51 (.pick T48 T50 (.c (.bool false))),
    .gop .n2 .n3 g35 (fun _ => rfl) true D52 (.pick T42 (.c (.bool true)) T51),
    .op D53 (.pick T35 T52 (.c (.bool false))),
    .op D4 (.mv T31),
    .op D5 (.mv T53)])
  (.ret))))),
  [.t .n0 .n4 g4 (fun _ => rfl), .t .n0 .n5 g5 (fun _ => rfl)]⟩
/-- slices.Insert[[]uint64,uint64] -/
noncomputable def ff134 : FFunc := ⟨.seq (.reg [.op D6 (.mv (.c (.nils)))])
  (.seq (.reg [.op D10 (.mv T0),
    .op D11 (.mv T1),
    .op D12 (.slSlc (nat_lit 1) T10 (.is T11) .no .no)])
  (.seq (.reg [.op D13 (.mv T2),
    .op D14 (.lenL T13),
    .op D7 (.mv T14)])
  (.seq (.seq (.reg [.op D15 (.mv T7),
    .op D16 (.bin .eql T15 (.c (.int .i64 (.ofNat (nat_lit 0)))))])
  (.cond T16 (.seq (.reg [.op D17 (.mv T0),
    .op D6 (.mv T17)])
  (.ret))
  (.skip)))
  (.seq (.reg [.op D18 (.mv T0),
    .op D19 (.lenL T18),
    .op D8 (.mv T19)])
  (.seq (.seq (.reg [.op D20 (.mv T1),
    .op D21 (.mv T8),
    .op D22 (.bin .eql T20 T21)])
  (.cond T22 (.seq (.reg [.op D23 (.mv T0),
    .op D24 (.mv T2),
    .op D25 (.app (nat_lit 1) (nat_lit 8) T23 T24),
    .op D6 (.mv T25)])
  (.ret))
  (.skip)))
  (.seq (.seq (.reg [.op D26 (.mv T8),
    .op D27 (.mv T7),
    .op D28 (.bin .add T26 T27),
    .op D29 (.mv T0),
    .op D30 (.cap T29),
    .op D31 (.bin .gtr T28 T30)])
  (.cond T31 (.seq (.reg [.op D32 (.mv T0),
    .op D33 (.mv T1),
    .op D34 (.slSlc (nat_lit 1) T32 .no (.is T33) .no),
    .op D35 (.mv T8),
    .op D36 (.mv T7),
    .op D37 (.bin .add T35 T36),
    .op D38 (.mv T1),
    .op D39 (.bin .sub T37 T38),
    .op D40 (.appZ (nat_lit 1) (nat_lit 8) [.int .u64 (.ofNat (nat_lit 0))] T34 T39),
    .op D9 (.mv T40)])
  (.seq (.reg [.op D41 (.mv T9),
    .op D42 (.mv T1),
    .op D43 (.slSlc (nat_lit 1) T41 (.is T42) .no .no),
    .op D44 (.mv T2),
    .op D45 (.copy (nat_lit 1) T43 T44)])
  (.seq (.drw [.op D46 (.mv T9),
    .op D47 (.mv T1),
    .op D48 (.mv T7),
    .op D49 (.bin .add T47 T48),
    .op D50 (.slSlc (nat_lit 1) T46 (.is T49) .no .no),
    .op D51 (.mv T0),
    .op D52 (.mv T1),
    .op D53 (.slSlc (nat_lit 1) T51 (.is T52) .no .no),
    .op D54 (.copy (nat_lit 1) T50 T53)] [])
  (.seq (.reg [.op D55 (.mv T9),
    .op D6 (.mv T55)])
  (.ret)))))
  (.skip)))
  (.seq (.reg [.op D56 (.mv T0),
    .op D57 (.mv T8),
    .op D58 (.mv T7),
    .op D59 (.bin .add T57 T58),
    .op D60 (.slSlc (nat_lit 1) T56 .no (.is T59) .no),
    .op D0 (.mv T60)])
  (.seq (.seq (.reg [.op D61 (.mv T2),
    .op D62 (.mv T0),
    .op D63 (.mv T1),
    .op D64 (.mv T7),
    .op D65 (.bin .add T63 T64),
    .op D66 (.slSlc (nat_lit 1) T62 (.is T65) .no .no),
    .op D67 (.call (nat_lit 138) [T61, T66]),
    .op D68 (.un .not T67)])
  (.cond T68 (.seq (.drw [.op D69 (.mv T0),
    .op D70 (.mv T1),
    .op D71 (.mv T7),
    .op D72 (.bin .add T70 T71),
    .op D73 (.slSlc (nat_lit 1) T69 (.is T72) .no .no),
    .op D74 (.mv T0),
    .op D75 (.mv T1),
    .op D76 (.slSlc (nat_lit 1) T74 (.is T75) .no .no),
    .op D77 (.copy (nat_lit 1) T73 T76)] [])
  (.seq (.reg [.op D78 (.mv T0),
    .op D79 (.mv T1),
    .op D80 (.slSlc (nat_lit 1) T78 (.is T79) .no .no),
    .op D81 (.mv T2),
    .op D82 (.copy (nat_lit 1) T80 T81)])
  (.seq (.reg [.op D83 (.mv T0),
    .op D6 (.mv T83)])
  (.ret))))
  (.skip)))
  (.seq (.reg [.op D84 (.mv T0),
    .op D85 (.mv T8),
    .op D86 (.slSlc (nat_lit 1) T84 (.is T85) .no .no),
    .op D87 (.mv T2),
    .op D88 (.copy (nat_lit 1) T86 T87)])
  (.seq (.reg [.op D89 (.mv T0),
    .op D90 (.mv T1),
    .op D91 (.slSlc (nat_lit 1) T89 (.is T90) .no .no),
    .op D92 (.mv T7),
    .op D93 (.call (nat_lit 139) [T91, T92])])
  (.seq (.reg [.op D94 (.mv T0),
    .op D6 (.mv T94)])
  (.ret)))))))))))),
  [.t .n0 .n6 g6 (fun _ => rfl)]⟩
/-- messuage/trap.Depth -/
noncomputable def ff135 : FFunc := ⟨.seq (.reg [.op D2 (.mv (.c (.int .i64 (.ofNat (nat_lit 0)))))])
  (.seq (.reg [.op D3 (.mv (.c (.int .i64 (.ofNat (nat_lit 0)))))])
  (.seq (.seq (.reg [.op D7 (.mv T0),
    .op D8 (.call (nat_lit 67) [T7]),
    .op D6 (.mv T8),
    .op D9 (.ex (nat_lit 0) T6),
    .op D10 (.ex (nat_lit 1) T6),
    .op D4 (.mv T9),
    .op D5 (.mv T10)])
  (.block (nat_lit 0) (.loop (.seq (.seq (.reg [.op D11 (.mv T5)])
  (.cond T11 (.skip)
  (.exit (nat_lit 0))))
  (.seq (.block (nat_lit 1) (.reg [.op D20 (.mv T3),
    .op D21 (.bin .add T20 (.c (.int .i64 (.ofNat (nat_lit 1))))),
    .op D3 (.mv T21)]))
  (.reg [.op D13 (.mv T4),
    .op D14 (.nilck T13),
    .op D15 (.fadd (nat_lit 7) T14),
    .op D16 (.ld1 T15),
    .op D17 (.call (nat_lit 67) [T16]),
    .op D12 (.mv T17),
    .op D18 (.ex (nat_lit 0) T12),
    .op D19 (.ex (nat_lit 1) T12),
    .op D4 (.mv T18),
    .op D5 (.mv T19)]))))))
  (.seq (.reg [.op D22 (.mv T3),
    .op D2 (.mv T22)])
  (.ret)))),
  [.t .n0 .n2 g2 (fun _ => rfl)]⟩
/-- cmp.Less[uint64] -/
noncomputable def ff136 : FFunc := ⟨.seq (.reg [.op D4 (.mv (.c (.bool false)))])
  (.seq (.reg [.op D5 (.mv T0),
    .op D6 (.call (nat_lit 140) [T5]),
    .op D7 (.mv T6),
    .gop .n0 .n7 g7 (fun _ => rfl) true D8 (.mv T1),
    .gop .n0 .n7 g7 (fun _ => rfl) true D9 (.call (nat_lit 140) [T8]),
    .gop .n0 .n7 g7 (fun _ => rfl) true D10 (.un .not T9),
    .op D11 (.pick T7 T10 (.c (.bool false))),
    .op D12 (.mv T11),
    .gop .n0 .n12 g12 (fun _ => rfl) false D13 (.mv T0),
    .gop .n0 .n12 g12 (fun _ => rfl) false D14 (.mv T1),
    .gop .n0 .n12 g12 (fun _ => rfl) false D15 (.bin .lss T13 T14),
    .op D16 (.pick T12 (.c (.bool true)) T15),
    .op D4 (.mv T16)])
  (.ret)),
  [.t .n0 .n4 g4 (fun _ => rfl)]⟩
/-- slices.isNaN[uint64] -/
noncomputable def ff137 : FFunc := ⟨.seq (.reg [.op D2 (.mv (.c (.bool false)))])
  (.seq (.reg [.op D3 (.mv T0),
    .op D4 (.mv T0),
    .op D5 (.bin .neq T3 T4),
    .op D2 (.mv T5)])
  (.ret)),
  [.t .n0 .n2 g2 (fun _ => rfl)]⟩
/-- slices.rotateRight[uint64] -/
noncomputable def ff139 : FFunc := ⟨.reg [.op D4 (.mv T0),
    .op D5 (.mv T0),
    .op D6 (.lenL T5),
    .op D7 (.mv T1),
    .op D8 (.bin .sub T6 T7),
    .op D9 (.call (nat_lit 141) [T4, T8])],
  []⟩
/-- cmp.isNaN[uint64] -/
noncomputable def ff140 : FFunc := ⟨.seq (.reg [.op D2 (.mv (.c (.bool false)))])
  (.seq (.reg [.op D3 (.mv T0),
    .op D4 (.mv T0),
    .op D5 (.bin .neq T3 T4),
    .op D2 (.mv T5)])
  (.ret)),
  [.t .n0 .n2 g2 (fun _ => rfl)]⟩
/-- slices.rotateLeft[uint64] -/
noncomputable def ff141 : FFunc := ⟨.seq (.reg [.op D4 (.mv T0),
    .op D5 (.mv T1),
    .op D6 (.slSlc (nat_lit 1) T4 .no (.is T5) .no),
    .op D7 (.call (nat_lit 142) [T6])])
  (.seq (.reg [.op D8 (.mv T0),
    .op D9 (.mv T1),
    .op D10 (.slSlc (nat_lit 1) T8 (.is T9) .no .no),
    .op D11 (.call (nat_lit 142) [T10])])
  (.reg [.op D12 (.mv T0),
    .op D13 (.call (nat_lit 142) [T12])])),
  []⟩
/-- slices.Reverse[[]uint64,uint64] -/
noncomputable def ff142 : FFunc := ⟨.seq (.reg [.op D4 (.mv T0),
    .op D5 (.lenL T4),
    .op D6 (.bin .sub T5 (.c (.int .i64 (.ofNat (nat_lit 1))))),
    .op D2 (.mv (.c (.int .i64 (.ofNat (nat_lit 0))))),
    .op D3 (.mv T6)])
  (.block (nat_lit 0) (.loop (.seq (.seq (.reg [.op D7 (.mv T2),
    .op D8 (.mv T3),
    .op D9 (.bin .lss T7 T8)])
  (.cond T9 (.skip)
  (.exit (nat_lit 0))))
  (.seq (.block (nat_lit 1) (.drw [.op D14 (.mv T0),
    .op D15 (.mv T2),
    .op D16 (.mv T0),
    .op D17 (.mv T3),
    .op D18 (.mv T0),
    .op D19 (.mv T3),
    .op D20 (.ixaS (nat_lit 1) T18 T19),
    .op D21 (.ld1 T20),
    .op D22 (.mv T0),
    .op D23 (.mv T2),
    .op D24 (.ixaS (nat_lit 1) T22 T23),
    .op D25 (.ld1 T24),
    .op D26 (.ixaS (nat_lit 1) T14 T15),
    .op .no (.st (nat_lit 1) T26 T21),
    .op D27 (.ixaS (nat_lit 1) T16 T17),
    .op .no (.st (nat_lit 1) T27 T25)] []))
  (.reg [.op D10 (.mv T2),
    .op D11 (.bin .add T10 (.c (.int .i64 (.ofNat (nat_lit 1))))),
    .op D12 (.mv T3),
    .op D13 (.bin .sub T12 (.c (.int .i64 (.ofNat (nat_lit 1))))),
    .op D2 (.mv T11),
    .op D3 (.mv T13)]))))),
  []⟩
/-- (*messuage/trap.Trap).Error -/
noncomputable def ff161 : FFunc := ⟨.seq (.reg [.op D2 (.mv (.c (.str [])))])
  (.seq (.seq (.reg [.op D4 (.mv T0),
    .op D5 (.eq false (.sc .ptr) T4 (.c (.nilp)))])
  (.cond T5 (.seq (.reg [.op D2 (.mv (.c (.str [])))])
  (.ret))
  (.skip)))
  (.seq (.reg [.op D6 (.mv T0),
    .op D7 (.nilck T6),
    .op D8 (.fadd (nat_lit 0) T7),
    .op D9 (.ld1 T8),
    .op D10 (.call (nat_lit 164) [T9]),
    .op D11 (.bin .add (.c (.str [(nat_lit 116), (nat_lit 114), (nat_lit 97), (nat_lit 112), (nat_lit 32)])) T10),
    .op D3 (.mv T11)])
  (.seq (.seq (.reg [.op D12 (.mv T0),
    .op D13 (.nilck T12),
    .op D14 (.fadd (nat_lit 7) T13),
    .op D15 (.ld1 T14),
    .op D16 (.eq true (.sc .ifc) T15 (.c (.nili)))])
  (.cond T16 (.reg [.op D17 (.mv T3),
    .op D18 (.mv T0),
    .op D19 (.nilck T18),
    .op D20 (.fadd (nat_lit 7) T19),
    .op D21 (.ld1 T20),
    .op D22 (.inv [((nat_lit 8), (nat_lit 143)), ((nat_lit 14), (nat_lit 149)), ((nat_lit 15), (nat_lit 151)), ((nat_lit 16), (nat_lit 153)), ((nat_lit 19), (nat_lit 158)), ((nat_lit 122), (nat_lit 161)), ((nat_lit 175), (nat_lit 188))] T21 []),
    .op D23 (.bin .add (.c (.str [(nat_lit 58), (nat_lit 32)])) T22),
    .op D24 (.bin .add T17 T23),
    .op D3 (.mv T24)])
  (.skip)))
  (.seq (.reg [.op D25 (.mv T3),
    .op D2 (.mv T25)])
  (.ret))))),
  [.t .n0 .n2 g2 (fun _ => rfl)]⟩
/-- (*messuage/trap.Trap).Is -/
noncomputable def ff162 : FFunc := ⟨.seq (.reg [.op D4 (.mv (.c (.bool false)))])
  (.seq (.reg [.op D8 (.mv T1),
    .op D9 (.asC (nat_lit 122) (.nilp) true T8),
    .op D7 (.mv T9),
    .op D10 (.ex (nat_lit 0) T7),
    .op D11 (.ex (nat_lit 1) T7),
    .op D5 (.mv T10),
    .op D6 (.mv T11)])
  (.seq (.drw [.op D12 (.mv T6),
    .op D13 (.mv T12),
    .gop .n0 .n13 g13 (fun _ => rfl) true D14 (.mv T0),
    .gop .n0 .n13 g13 (fun _ => rfl) true D15 (.eq true (.sc .ptr) T14 (.c (.nilp))),
    .op D16 (.pick T13 T15 (.c (.bool false))),
    .op D17 (.mv T16),
    .gop .n1 .n1 g17 (fun _ => rfl) true D18 (.mv T5),
    .gop .n1 .n1 g17 (fun _ => rfl) true D19 (.eq true (.sc .ptr) T18 (.c (.nilp))),
    .op D20 (.pick T17 T19 (.c (.bool false))),
    .op D21 (.mv T20),
    .gop .n1 .n5 g21 (fun _ => rfl) true D22 (.mv T0),
    .gop .n1 .n5 g21 (fun _ => rfl) true D23 (.nilck T22),
    .gop .n1 .n5 g21 (fun _ => rfl) true D24 (.fadd (nat_lit 0) T23),
    .gop .n1 .n5 g21 (fun _ => rfl) true D25 (.ld1 T24),
    .gop .n1 .n5 g21 (fun _ => rfl) true D26 (.mv T5),
    .gop .n1 .n5 g21 (fun _ => rfl) true D27 (.nilck T26),
    .gop .n1 .n5 g21 (fun _ => rfl) true D28 (.fadd (nat_lit 0) T27),
    .gop .n1 .n5 g21 (fun _ => rfl) true D29 (.ld1 T28),
    .gop .n1 .n5 g21 (fun _ => rfl) true D30 (.bin .eql T25 T29),
    .op D31 (.pick T21 T30 (.c (.bool false))),
    .op D4 (.mv T31)] [])
  (.ret))),
  [.t .n0 .n4 g4 (fun _ => rfl)]⟩
/-- (*messuage/trap.Trap).Unwrap -/
noncomputable def ff163 : FFunc := ⟨.seq (.reg [.op D2 (.mv (.c (.nili)))])
  (.seq (.seq (.reg [.op D3 (.mv T0),
    .op D4 (.eq false (.sc .ptr) T3 (.c (.nilp)))])
  (.cond T4 (.seq (.reg [.op D2 (.mv (.c (.nili)))])
  (.ret))
  (.skip)))
  (.seq (.reg [.op D5 (.mv T0),
    .op D6 (.nilck T5),
    .op D7 (.fadd (nat_lit 7) T6),
    .op D8 (.ld1 T7),
    .op D2 (.mv T8)])
  (.ret))),
  [.t .n0 .n2 g2 (fun _ => rfl)]⟩
/-- strconv.Itoa -/
noncomputable def ff164 : FFunc := ⟨.seq (.reg [.op D2 (.mv (.c (.str [])))])
  (.seq (.reg [.op D3 (.mv T0),
    .op D4 (.call (nat_lit 165) [T3]),
    .op D2 (.mv T4)])
  (.ret)),
  [.t .n0 .n2 g2 (fun _ => rfl)]⟩
/-- internal/strconv.Itoa -/
noncomputable def ff165 : FFunc := ⟨.seq (.reg [.op D2 (.mv (.c (.str [])))])
  (.seq (.reg [.op D3 (.mv T0),
    .op D4 (.call (nat_lit 166) [T3, .c (.int .i64 (.ofNat (nat_lit 10)))]),
    .op D2 (.mv T4)])
  (.ret)),
  [.t .n0 .n2 g2 (fun _ => rfl)]⟩
/-- internal/strconv.FormatInt -/
noncomputable def ff166 : FFunc := ⟨.seq (.reg [.op D4 (.mv (.c (.str [])))])
  (.seq (.seq (.reg [.op D10 (.mv T1),
    .op D11 (.bin .eql T10 (.c (.int .i64 (.ofNat (nat_lit 10)))))])
  (.cond T11 (.seq (.seq (.reg [.op D12 (.mv T0),
    .op D13 (.bin .leq (.c (.int .i64 (.ofNat (nat_lit 0)))) T12),
    .op D14 (.mv T13),
    .gop .n0 .n14 g14 (fun _ => rfl) true D15 (.mv T0),
    .gop .n0 .n14 g14 (fun _ => rfl) true D16 (.bin .lss T15 (.c (.int .i64 (.ofNat (nat_lit 100))))),
    .op D17 (.pick T14 T16 (.c (.bool false)))])
  (.cond T17 (.seq (.reg [.op D18 (.mv T0),
    .op D19 (.call (nat_lit 167) [T18]),
    .op D4 (.mv T19)])
  (.ret))
  (.skip)))
  (.seq (.reg [.op D5 (.new [.int .u8 (.ofNat (nat_lit 0)), .int .u8 (.ofNat (nat_lit 0)), .int .u8 (.ofNat (nat_lit 0)), .int .u8 (.ofNat (nat_lit 0)), .int .u8 (.ofNat (nat_lit 0)), .int .u8 (.ofNat (nat_lit 0)), .int .u8 (.ofNat (nat_lit 0)), .int .u8 (.ofNat (nat_lit 0)), .int .u8 (.ofNat (nat_lit 0)), .int .u8 (.ofNat (nat_lit 0)), .int .u8 (.ofNat (nat_lit 0)), .int .u8 (.ofNat (nat_lit 0)), .int .u8 (.ofNat (nat_lit 0)), .int .u8 (.ofNat (nat_lit 0)), .int .u8 (.ofNat (nat_lit 0)), .int .u8 (.ofNat (nat_lit 0)), .int .u8 (.ofNat (nat_lit 0)), .int .u8 (.ofNat (nat_lit 0)), .int .u8 (.ofNat (nat_lit 0)), .int .u8 (.ofNat (nat_lit 0)), .int .u8 (.ofNat (nat_lit 0)), .int .u8 (.ofNat (nat_lit 0)), .int .u8 (.ofNat (nat_lit 0)), .int .u8 (.ofNat (nat_lit 0))])])
  (.seq (.reg [.op D20 (.mv T0),
    .op D21 (.cvi .u64 T20),
    .op D6 (.mv T21)])
  (.seq (.seq (.reg [.op D22 (.mv T0),
    .op D23 (.bin .lss T22 (.c (.int .i64 (.ofNat (nat_lit 0)))))])
  (.cond T23 (.reg [.op D24 (.mv T6),
    .op D25 (.un .neg T24),
    .op D6 (.mv T25)])
  (.skip)))
  (.seq (.reg [.op D26 (.mv T6),
    .op D27 (.call (nat_lit 168) [T26]),
    .op D7 (.mv T27)])
  (.seq (.reg [.op D28 (.mv T7),
    .op D29 (.bin .add (.c (.int .i64 (.ofNat (nat_lit 1)))) T28),
    .op D30 (.slArr (nat_lit 24) (nat_lit 1) T5 (.is (.c (.int .i64 (.ofNat (nat_lit 1))))) (.is T29) .no),
    .op D31 (.mv T6),
    .op D32 (.call (nat_lit 169) [T30, T31])])
  (.seq (.seq (.reg [.op D33 (.mv T0),
    .op D34 (.bin .lss T33 (.c (.int .i64 (.ofNat (nat_lit 0)))))])
  (.cond T34 (.seq (.reg [.op D35 (.ixaA (nat_lit 24) (nat_lit 1) T5 (.c (.int .i64 (.ofNat (nat_lit 0))))),
    .op .no (.st (nat_lit 1) T35 (.c (.int .u8 (.ofNat (nat_lit 45)))))])
  (.seq (.reg [.op D36 (.mv T7),
    .op D37 (.bin .add (.c (.int .i64 (.ofNat (nat_lit 1)))) T36),
    .op D38 (.slArr (nat_lit 24) (nat_lit 1) T5 .no (.is T37) .no),
    .op D39 (.bad),
    .op D4 (.mv T39)])
  (.ret)))
  (.skip)))
  (.seq (.reg [.op D40 (.mv T7),
    .op D41 (.bin .add (.c (.int .i64 (.ofNat (nat_lit 1)))) T40),
    .op D42 (.slArr (nat_lit 24) (nat_lit 1) T5 (.is (.c (.int .i64 (.ofNat (nat_lit 1))))) (.is T41) .no),
    .op D43 (.bad),
    .op D4 (.mv T43)])
  (.ret)))))))))
  (.skip)))
  (.seq (.reg [.op D45 (.mv T0),
    .op D46 (.cvi .u64 T45),
    .op D47 (.mv T1),
    .op D48 (.mv T0),
    .op D49 (.bin .lss T48 (.c (.int .i64 (.ofNat (nat_lit 0))))),
    .op D50 (.call (nat_lit 170) [.c (.nils), T46, T47, T49, .c (.bool false)]),
    .op D44 (.mv T50),
    .op D51 (.ex (nat_lit 0) T44),
    .op D52 (.ex (nat_lit 1) T44),
    .op D8 (.mv T51),
    .op D9 (.mv T52)])
  (.seq (.reg [.op D53 (.mv T9),
    .op D4 (.mv T53)])
  (.ret)))),
  [.t .n0 .n4 g4 (fun _ => rfl)]⟩
/-- internal/strconv.small -/
noncomputable def ff167 : FFunc := ⟨.seq (.reg [.op D2 (.mv (.c (.str [])))])
  (.seq (.seq (.reg [.op D3 (.mv T0),
    .op D4 (.bin .lss T3 (.c (.int .i64 (.ofNat (nat_lit 10)))))])
  (.cond T4 (.seq (.reg [.op D5 (.mv T0),
    .op D6 (.mv T0),
    .op D7 (.bin .add T6 (.c (.int .i64 (.ofNat (nat_lit 1))))),
    .op D8 (.slStr (.c (.str [(nat_lit 48), (nat_lit 49), (nat_lit 50), (nat_lit 51), (nat_lit 52), (nat_lit 53), (nat_lit 54), (nat_lit 55), (nat_lit 56), (nat_lit 57), (nat_lit 97), (nat_lit 98), (nat_lit 99), (nat_lit 100), (nat_lit 101), (nat_lit 102), (nat_lit 103), (nat_lit 104), (nat_lit 105), (nat_lit 106), (nat_lit 107), (nat_lit 108), (nat_lit 109), (nat_lit 110), (nat_lit 111), (nat_lit 112), (nat_lit 113), (nat_lit 114), (nat_lit 115), (nat_lit 116), (nat_lit 117), (nat_lit 118), (nat_lit 119), (nat_lit 120), (nat_lit 121), (nat_lit 122)])) (.is T5) (.is T7)),
    .op D2 (.mv T8)])
  (.ret))
  (.skip)))
  (.seq (.reg [.op D9 (.mv T0),
    .op D10 (.bin .mul T9 (.c (.int .i64 (.ofNat (nat_lit 2))))),
    .op D11 (.mv T0),
    .op D12 (.bin .mul T11 (.c (.int .i64 (.ofNat (nat_lit 2))))),
    .op D13 (.bin .add T12 (.c (.int .i64 (.ofNat (nat_lit 2))))),
    .op D14 (.slStr (.c (.str [(nat_lit 48), (nat_lit 48), (nat_lit 48), (nat_lit 49), (nat_lit 48), (nat_lit 50), (nat_lit 48), (nat_lit 51), (nat_lit 48), (nat_lit 52), (nat_lit 48), (nat_lit 53), (nat_lit 48), (nat_lit 54), (nat_lit 48), (nat_lit 55), (nat_lit 48), (nat_lit 56), (nat_lit 48), (nat_lit 57), (nat_lit 49), (nat_lit 48), (nat_lit 49), (nat_lit 49), (nat_lit 49), (nat_lit 50), (nat_lit 49), (nat_lit 51), (nat_lit 49), (nat_lit 52), (nat_lit 49), (nat_lit 53), (nat_lit 49), (nat_lit 54), (nat_lit 49), (nat_lit 55), (nat_lit 49), (nat_lit 56), (nat_lit 49), (nat_lit 57), (nat_lit 50), (nat_lit 48), (nat_lit 50), (nat_lit 49), (nat_lit 50), (nat_lit 50), (nat_lit 50), (nat_lit 51), (nat_lit 50), (nat_lit 52), (nat_lit 50), (nat_lit 53), (nat_lit 50), (nat_lit 54), (nat_lit 50), (nat_lit 55), (nat_lit 50), (nat_lit 56), (nat_lit 50), (nat_lit 57), (nat_lit 51), (nat_lit 48), (nat_lit 51), (nat_lit 49), (nat_lit 51), (nat_lit 50), (nat_lit 51), (nat_lit 51), (nat_lit 51), (nat_lit 52), (nat_lit 51), (nat_lit 53), (nat_lit 51), (nat_lit 54), (nat_lit 51), (nat_lit 55), (nat_lit 51), (nat_lit 56), (nat_lit 51), (nat_lit 57), (nat_lit 52), (nat_lit 48), (nat_lit 52), (nat_lit 49), (nat_lit 52), (nat_lit 50), (nat_lit 52), (nat_lit 51), (nat_lit 52), (nat_lit 52), (nat_lit 52), (nat_lit 53), (nat_lit 52), (nat_lit 54), (nat_lit 52), (nat_lit 55), (nat_lit 52), (nat_lit 56), (nat_lit 52), (nat_lit 57), (nat_lit 53), (nat_lit 48), (nat_lit 53), (nat_lit 49), (nat_lit 53), (nat_lit 50), (nat_lit 53), (nat_lit 51), (nat_lit 53), (nat_lit 52), (nat_lit 53), (nat_lit 53), (nat_lit 53), (nat_lit 54), (nat_lit 53), (nat_lit 55), (nat_lit 53), (nat_lit 56), (nat_lit 53), (nat_lit 57), (nat_lit 54), (nat_lit 48), (nat_lit 54), (nat_lit 49), (nat_lit 54), (nat_lit 50), (nat_lit 54), (nat_lit 51), (nat_lit 54), (nat_lit 52), (nat_lit 54), (nat_lit 53), (nat_lit 54), (nat_lit 54), (nat_lit 54), (nat_lit 55), (nat_lit 54), (nat_lit 56), (nat_lit 54), (nat_lit 57), (nat_lit 55), (nat_lit 48), (nat_lit 55), (nat_lit 49), (nat_lit 55), (nat_lit 50), (nat_lit 55), (nat_lit 51), (nat_lit 55), (nat_lit 52), (nat_lit 55), (nat_lit 53), (nat_lit 55), (nat_lit 54), (nat_lit 55), (nat_lit 55), (nat_lit 55), (nat_lit 56), (nat_lit 55), (nat_lit 57), (nat_lit 56), (nat_lit 48), (nat_lit 56), (nat_lit 49), (nat_lit 56), (nat_lit 50), (nat_lit 56), (nat_lit 51), (nat_lit 56), (nat_lit 52), (nat_lit 56), (nat_lit 53), (nat_lit 56), (nat_lit 54), (nat_lit 56), (nat_lit 55), (nat_lit 56), (nat_lit 56), (nat_lit 56), (nat_lit 57), (nat_lit 57), (nat_lit 48), (nat_lit 57), (nat_lit 49), (nat_lit 57), (nat_lit 50), (nat_lit 57), (nat_lit 51), (nat_lit 57), (nat_lit 52), (nat_lit 57), (nat_lit 53), (nat_lit 57), (nat_lit 54), (nat_lit 57), (nat_lit 55), (nat_lit 57), (nat_lit 56), (nat_lit 57), (nat_lit 57)])) (.is T10) (.is T13)),
    .op D2 (.mv T14)])
  (.ret))),
  [.t .n0 .n2 g2 (fun _ => rfl)]⟩
/-- internal/strconv.numDigits -/
noncomputable def ff168 : FFunc := ⟨.seq (.reg [.op D2 (.mv (.c (.int .i64 (.ofNat (nat_lit 0)))))])
  (.seq (.reg [.op D4 (.mv T0),
    .op D5 (.call (nat_lit 172) [T4]),
    .op D6 (.call (nat_lit 171) [T5]),
    .op D3 (.mv T6)])
  (.seq (.reg [.op D7 (.mv T3),
    .op D8 (.mv T0),
    .op D9 (.mv T3),
    .op D10 (.ixaA (nat_lit 20) (nat_lit 1) (.c (.ptr (nat_lit 1) (nat_lit 0))) T9),
    .op D11 (.ld1 T10),
    .op D12 (.bin .geq T8 T11),
    .op D13 (.call (nat_lit 173) [T12]),
    .op D14 (.bin .add T7 T13),
    .op D2 (.mv T14)])
  (.ret))),
  [.t .n0 .n2 g2 (fun _ => rfl)]⟩
/-- internal/strconv.formatBase10 -/
noncomputable def ff169 : FFunc := ⟨.seq (.reg [.op D17 (.mv T0),
    .op D18 (.lenL T17),
    .op D4 (.mv T18)])
  (.seq (.block (nat_lit 0) (.loop (.seq (.seq (.reg [.op D19 (.mv T4),
    .op D20 (.bin .geq T19 (.c (.int .i64 (.ofNat (nat_lit 8)))))])
  (.cond T20 (.skip)
  (.exit (nat_lit 0))))
  (.block (nat_lit 1) (.seq (.reg [.op D21 (.mv T1),
    .op D22 (.bin .rem T21 (.c (.int .u64 (.ofNat (nat_lit 100000000))))),
    .op D23 (.cvi .u32 T22),
    .op D5 (.mv T23)])
  (.seq (.reg [.op D24 (.mv T1),
    .op D25 (.bin .quo T24 (.c (.int .u64 (.ofNat (nat_lit 100000000))))),
    .op D1 (.mv T25)])
  (.seq (.reg [.op D26 (.mv T5),
    .op D27 (.bin .quo T26 (.c (.int .u32 (.ofNat (nat_lit 10000))))),
    .op D28 (.mv T5),
    .op D29 (.bin .rem T28 (.c (.int .u32 (.ofNat (nat_lit 10000))))),
    .op D6 (.mv T27),
    .op D7 (.mv T29)])
  (.seq (.reg [.op D30 (.mv T7),
    .op D31 (.bin .quo T30 (.c (.int .u32 (.ofNat (nat_lit 100))))),
    .op D32 (.bin .mul T31 (.c (.int .u32 (.ofNat (nat_lit 2))))),
    .op D33 (.mv T7),
    .op D34 (.bin .rem T33 (.c (.int .u32 (.ofNat (nat_lit 100))))),
    .op D35 (.bin .mul T34 (.c (.int .u32 (.ofNat (nat_lit 2))))),
    .op D8 (.mv T32),
    .op D9 (.mv T35)])
  (.seq (.reg [.op D36 (.mv T6),
    .op D37 (.bin .quo T36 (.c (.int .u32 (.ofNat (nat_lit 100))))),
    .op D38 (.bin .mul T37 (.c (.int .u32 (.ofNat (nat_lit 2))))),
    .op D39 (.mv T6),
    .op D40 (.bin .rem T39 (.c (.int .u32 (.ofNat (nat_lit 100))))),
    .op D41 (.bin .mul T40 (.c (.int .u32 (.ofNat (nat_lit 2))))),
    .op D10 (.mv T38),
    .op D11 (.mv T41)])
  (.seq (.drw [.op D42 (.mv T0),
    .op D43 (.mv T4),
    .op D44 (.bin .sub T43 (.c (.int .i64 (.ofNat (nat_lit 1))))),
    .op D45 (.mv T0),
    .op D46 (.mv T4),
    .op D47 (.bin .sub T46 (.c (.int .i64 (.ofNat (nat_lit 2))))),
    .op D48 (.mv T9),
    .op D49 (.bin .add T48 (.c (.int .u32 (.ofNat (nat_lit 1))))),
    .op D50 (.ixS (.c (.str [(nat_lit 48), (nat_lit 48), (nat_lit 48), (nat_lit 49), (nat_lit 48), (nat_lit 50), (nat_lit 48), (nat_lit 51), (nat_lit 48), (nat_lit 52), (nat_lit 48), (nat_lit 53), (nat_lit 48), (nat_lit 54), (nat_lit 48), (nat_lit 55), (nat_lit 48), (nat_lit 56), (nat_lit 48), (nat_lit 57), (nat_lit 49), (nat_lit 48), (nat_lit 49), (nat_lit 49), (nat_lit 49), (nat_lit 50), (nat_lit 49), (nat_lit 51), (nat_lit 49), (nat_lit 52), (nat_lit 49), (nat_lit 53), (nat_lit 49), (nat_lit 54), (nat_lit 49), (nat_lit 55), (nat_lit 49), (nat_lit 56), (nat_lit 49), (nat_lit 57), (nat_lit 50), (nat_lit 48), (nat_lit 50), (nat_lit 49), (nat_lit 50), (nat_lit 50), (nat_lit 50), (nat_lit 51), (nat_lit 50), (nat_lit 52), (nat_lit 50), (nat_lit 53), (nat_lit 50), (nat_lit 54), (nat_lit 50), (nat_lit 55), (nat_lit 50), (nat_lit 56), (nat_lit 50), (nat_lit 57), (nat_lit 51), (nat_lit 48), (nat_lit 51), (nat_lit 49), (nat_lit 51), (nat_lit 50), (nat_lit 51), (nat_lit 51), (nat_lit 51), (nat_lit 52), (nat_lit 51), (nat_lit 53), (nat_lit 51), (nat_lit 54), (nat_lit 51), (nat_lit 55), (nat_lit 51), (nat_lit 56), (nat_lit 51), (nat_lit 57), (nat_lit 52), (nat_lit 48), (nat_lit 52), (nat_lit 49), (nat_lit 52), (nat_lit 50), (nat_lit 52), (nat_lit 51), (nat_lit 52), (nat_lit 52), (nat_lit 52), (nat_lit 53), (nat_lit 52), (nat_lit 54), (nat_lit 52), (nat_lit 55), (nat_lit 52), (nat_lit 56), (nat_lit 52), (nat_lit 57), (nat_lit 53), (nat_lit 48), (nat_lit 53), (nat_lit 49), (nat_lit 53), (nat_lit 50), (nat_lit 53), (nat_lit 51), (nat_lit 53), (nat_lit 52), (nat_lit 53), (nat_lit 53), (nat_lit 53), (nat_lit 54), (nat_lit 53), (nat_lit 55), (nat_lit 53), (nat_lit 56), (nat_lit 53), (nat_lit 57), (nat_lit 54), (nat_lit 48), (nat_lit 54), (nat_lit 49), (nat_lit 54), (nat_lit 50), (nat_lit 54), (nat_lit 51), (nat_lit 54), (nat_lit 52), (nat_lit 54), (nat_lit 53), (nat_lit 54), (nat_lit 54), (nat_lit 54), (nat_lit 55), (nat_lit 54), (nat_lit 56), (nat_lit 54), (nat_lit 57), (nat_lit 55), (nat_lit 48), (nat_lit 55), (nat_lit 49), (nat_lit 55), (nat_lit 50), (nat_lit 55), (nat_lit 51), (nat_lit 55), (nat_lit 52), (nat_lit 55), (nat_lit 53), (nat_lit 55), (nat_lit 54), (nat_lit 55), (nat_lit 55), (nat_lit 55), (nat_lit 56), (nat_lit 55), (nat_lit 57), (nat_lit 56), (nat_lit 48), (nat_lit 56), (nat_lit 49), (nat_lit 56), (nat_lit 50), (nat_lit 56), (nat_lit 51), (nat_lit 56), (nat_lit 52), (nat_lit 56), (nat_lit 53), (nat_lit 56), (nat_lit 54), (nat_lit 56), (nat_lit 55), (nat_lit 56), (nat_lit 56), (nat_lit 56), (nat_lit 57), (nat_lit 57), (nat_lit 48), (nat_lit 57), (nat_lit 49), (nat_lit 57), (nat_lit 50), (nat_lit 57), (nat_lit 51), (nat_lit 57), (nat_lit 52), (nat_lit 57), (nat_lit 53), (nat_lit 57), (nat_lit 54), (nat_lit 57), (nat_lit 55), (nat_lit 57), (nat_lit 56), (nat_lit 57), (nat_lit 57)])) T49),
    .op D51 (.mv T9),
    .op D52 (.ixS (.c (.str [(nat_lit 48), (nat_lit 48), (nat_lit 48), (nat_lit 49), (nat_lit 48), (nat_lit 50), (nat_lit 48), (nat_lit 51), (nat_lit 48), (nat_lit 52), (nat_lit 48), (nat_lit 53), (nat_lit 48), (nat_lit 54), (nat_lit 48), (nat_lit 55), (nat_lit 48), (nat_lit 56), (nat_lit 48), (nat_lit 57), (nat_lit 49), (nat_lit 48), (nat_lit 49), (nat_lit 49), (nat_lit 49), (nat_lit 50), (nat_lit 49), (nat_lit 51), (nat_lit 49), (nat_lit 52), (nat_lit 49), (nat_lit 53), (nat_lit 49), (nat_lit 54), (nat_lit 49), (nat_lit 55), (nat_lit 49), (nat_lit 56), (nat_lit 49), (nat_lit 57), (nat_lit 50), (nat_lit 48), (nat_lit 50), (nat_lit 49), (nat_lit 50), (nat_lit 50), (nat_lit 50), (nat_lit 51), (nat_lit 50), (nat_lit 52), (nat_lit 50), (nat_lit 53), (nat_lit 50), (nat_lit 54), (nat_lit 50), (nat_lit 55), (nat_lit 50), (nat_lit 56), (nat_lit 50), (nat_lit 57), (nat_lit 51), (nat_lit 48), (nat_lit 51), (nat_lit 49), (nat_lit 51), (nat_lit 50), (nat_lit 51), (nat_lit 51), (nat_lit 51), (nat_lit 52), (nat_lit 51), (nat_lit 53), (nat_lit 51), (nat_lit 54), (nat_lit 51), (nat_lit 55), (nat_lit 51), (nat_lit 56), (nat_lit 51), (nat_lit 57), (nat_lit 52), (nat_lit 48), (nat_lit 52), (nat_lit 49), (nat_lit 52), (nat_lit 50), (nat_lit 52), (nat_lit 51), (nat_lit 52), (nat_lit 52), (nat_lit 52), (nat_lit 53), (nat_lit 52), (nat_lit 54), (nat_lit 52), (nat_lit 55), (nat_lit 52), (nat_lit 56), (nat_lit 52), (nat_lit 57), (nat_lit 53), (nat_lit 48), (nat_lit 53), (nat_lit 49), (nat_lit 53), (nat_lit 50), (nat_lit 53), (nat_lit 51), (nat_lit 53), (nat_lit 52), (nat_lit 53), (nat_lit 53), (nat_lit 53), (nat_lit 54), (nat_lit 53), (nat_lit 55), (nat_lit 53), (nat_lit 56), (nat_lit 53), (nat_lit 57), (nat_lit 54), (nat_lit 48), (nat_lit 54), (nat_lit 49), (nat_lit 54), (nat_lit 50), (nat_lit 54), (nat_lit 51), (nat_lit 54), (nat_lit 52), (nat_lit 54), (nat_lit 53), (nat_lit 54), (nat_lit 54), (nat_lit 54), (nat_lit 55), (nat_lit 54), (nat_lit 56), (nat_lit 54), (nat_lit 57), (nat_lit 55), (nat_lit 48), (nat_lit 55), (nat_lit 49), (nat_lit 55), (nat_lit 50), (nat_lit 55), (nat_lit 51), (nat_lit 55), (nat_lit 52), (nat_lit 55), (nat_lit 53), (nat_lit 55), (nat_lit 54), (nat_lit 55), (nat_lit 55), (nat_lit 55), (nat_lit 56), (nat_lit 55), (nat_lit 57), (nat_lit 56), (nat_lit 48), (nat_lit 56), (nat_lit 49), (nat_lit 56), (nat_lit 50), (nat_lit 56), (nat_lit 51), (nat_lit 56), (nat_lit 52), (nat_lit 56), (nat_lit 53), (nat_lit 56), (nat_lit 54), (nat_lit 56), (nat_lit 55), (nat_lit 56), (nat_lit 56), (nat_lit 56), (nat_lit 57), (nat_lit 57), (nat_lit 48), (nat_lit 57), (nat_lit 49), (nat_lit 57), (nat_lit 50), (nat_lit 57), (nat_lit 51), (nat_lit 57), (nat_lit 52), (nat_lit 57), (nat_lit 53), (nat_lit 57), (nat_lit 54), (nat_lit 57), (nat_lit 55), (nat_lit 57), (nat_lit 56), (nat_lit 57), (nat_lit 57)])) T51),
    .op D53 (.ixaS (nat_lit 1) T42 T44),
    .op .no (.st (nat_lit 1) T53 T50),
    .op D54 (.ixaS (nat_lit 1) T45 T47),
    .op .no (.st (nat_lit 1) T54 T52)] [])
  (.seq (.drw [.op D55 (.mv T0),
    .op D56 (.mv T4),
    .op D57 (.bin .sub T56 (.c (.int .i64 (.ofNat (nat_lit 3))))),
    .op D58 (.mv T0),
    .op D59 (.mv T4),
    .op D60 (.bin .sub T59 (.c (.int .i64 (.ofNat (nat_lit 4))))),
    .op D61 (.mv T8),
    .op D62 (.bin .add T61 (.c (.int .u32 (.ofNat (nat_lit 1))))),
    .op D63 (.ixS (.c (.str [(nat_lit 48), (nat_lit 48), (nat_lit 48), (nat_lit 49), (nat_lit 48), (nat_lit 50), (nat_lit 48), (nat_lit 51), (nat_lit 48), (nat_lit 52), (nat_lit 48), (nat_lit 53), (nat_lit 48), (nat_lit 54), (nat_lit 48), (nat_lit 55), (nat_lit 48), (nat_lit 56), (nat_lit 48), (nat_lit 57), (nat_lit 49), (nat_lit 48), (nat_lit 49), (nat_lit 49), (nat_lit 49), (nat_lit 50), (nat_lit 49), (nat_lit 51), (nat_lit 49), (nat_lit 52), (nat_lit 49), (nat_lit 53), (nat_lit 49), (nat_lit 54), (nat_lit 49), (nat_lit 55), (nat_lit 49), (nat_lit 56), (nat_lit 49), (nat_lit 57), (nat_lit 50), (nat_lit 48), (nat_lit 50), (nat_lit 49), (nat_lit 50), (nat_lit 50), (nat_lit 50), (nat_lit 51), (nat_lit 50), (nat_lit 52), (nat_lit 50), (nat_lit 53), (nat_lit 50), (nat_lit 54), (nat_lit 50), (nat_lit 55), (nat_lit 50), (nat_lit 56), (nat_lit 50), (nat_lit 57), (nat_lit 51), (nat_lit 48), (nat_lit 51), (nat_lit 49), (nat_lit 51), (nat_lit 50), (nat_lit 51), (nat_lit 51), (nat_lit 51), (nat_lit 52), (nat_lit 51), (nat_lit 53), (nat_lit 51), (nat_lit 54), (nat_lit 51), (nat_lit 55), (nat_lit 51), (nat_lit 56), (nat_lit 51), (nat_lit 57), (nat_lit 52), (nat_lit 48), (nat_lit 52), (nat_lit 49), (nat_lit 52), (nat_lit 50), (nat_lit 52), (nat_lit 51), (nat_lit 52), (nat_lit 52), (nat_lit 52), (nat_lit 53), (nat_lit 52), (nat_lit 54), (nat_lit 52), (nat_lit 55), (nat_lit 52), (nat_lit 56), (nat_lit 52), (nat_lit 57), (nat_lit 53), (nat_lit 48), (nat_lit 53), (nat_lit 49), (nat_lit 53), (nat_lit 50), (nat_lit 53), (nat_lit 51), (nat_lit 53), (nat_lit 52), (nat_lit 53), (nat_lit 53), (nat_lit 53), (nat_lit 54), (nat_lit 53), (nat_lit 55), (nat_lit 53), (nat_lit 56), (nat_lit 53), (nat_lit 57), (nat_lit 54), (nat_lit 48), (nat_lit 54), (nat_lit 49), (nat_lit 54), (nat_lit 50), (nat_lit 54), (nat_lit 51), (nat_lit 54), (nat_lit 52), (nat_lit 54), (nat_lit 53), (nat_lit 54), (nat_lit 54), (nat_lit 54), (nat_lit 55), (nat_lit 54), (nat_lit 56), (nat_lit 54), (nat_lit 57), (nat_lit 55), (nat_lit 48), (nat_lit 55), (nat_lit 49), (nat_lit 55), (nat_lit 50), (nat_lit 55), (nat_lit 51), (nat_lit 55), (nat_lit 52), (nat_lit 55), (nat_lit 53), (nat_lit 55), (nat_lit 54), (nat_lit 55), (nat_lit 55), (nat_lit 55), (nat_lit 56), (nat_lit 55), (nat_lit 57), (nat_lit 56), (nat_lit 48), (nat_lit 56), (nat_lit 49), (nat_lit 56), (nat_lit 50), (nat_lit 56), (nat_lit 51), (nat_lit 56), (nat_lit 52), (nat_lit 56), (nat_lit 53), (nat_lit 56), (nat_lit 54), (nat_lit 56), (nat_lit 55), (nat_lit 56), (nat_lit 56), (nat_lit 56), (nat_lit 57), (nat_lit 57), (nat_lit 48), (nat_lit 57), (nat_lit 49), (nat_lit 57), (nat_lit 50), (nat_lit 57), (nat_lit 51), (nat_lit 57), (nat_lit 52), (nat_lit 57), (nat_lit 53), (nat_lit 57), (nat_lit 54), (nat_lit 57), (nat_lit 55), (nat_lit 57), (nat_lit 56), (nat_lit 57), (nat_lit 57)])) T62),
    .op D64 (.mv T8),
    .op D65 (.ixS (.c (.str [(nat_lit 48), (nat_lit 48), (nat_lit 48), (nat_lit 49), (nat_lit 48), (nat_lit 50), (nat_lit 48), (nat_lit 51), (nat_lit 48), (nat_lit 52), (nat_lit 48), (nat_lit 53), (nat_lit 48), (nat_lit 54), (nat_lit 48), (nat_lit 55), (nat_lit 48), (nat_lit 56), (nat_lit 48), (nat_lit 57), (nat_lit 49), (nat_lit 48), (nat_lit 49), (nat_lit 49), (nat_lit 49), (nat_lit 50), (nat_lit 49), (nat_lit 51), (nat_lit 49), (nat_lit 52), (nat_lit 49), (nat_lit 53), (nat_lit 49), (nat_lit 54), (nat_lit 49), (nat_lit 55), (nat_lit 49), (nat_lit 56), (nat_lit 49), (nat_lit 57), (nat_lit 50), (nat_lit 48), (nat_lit 50), (nat_lit 49), (nat_lit 50), (nat_lit 50), (nat_lit 50), (nat_lit 51), (nat_lit 50), (nat_lit 52), (nat_lit 50), (nat_lit 53), (nat_lit 50), (nat_lit 54), (nat_lit 50), (nat_lit 55), (nat_lit 50), (nat_lit 56), (nat_lit 50), (nat_lit 57), (nat_lit 51), (nat_lit 48), (nat_lit 51), (nat_lit 49), (nat_lit 51), (nat_lit 50), (nat_lit 51), (nat_lit 51), (nat_lit 51), (nat_lit 52), (nat_lit 51), (nat_lit 53), (nat_lit 51), (nat_lit 54), (nat_lit 51), (nat_lit 55), (nat_lit 51), (nat_lit 56), (nat_lit 51), (nat_lit 57), (nat_lit 52), (nat_lit 48), (nat_lit 52), (nat_lit 49), (nat_lit 52), (nat_lit 50), (nat_lit 52), (nat_lit 51), (nat_lit 52), (nat_lit 52), (nat_lit 52), (nat_lit 53), (nat_lit 52), (nat_lit 54), (nat_lit 52), (nat_lit 55), (nat_lit 52), (nat_lit 56), (nat_lit 52), (nat_lit 57), (nat_lit 53), (nat_lit 48), (nat_lit 53), (nat_lit 49), (nat_lit 53), (nat_lit 50), (nat_lit 53), (nat_lit 51), (nat_lit 53), (nat_lit 52), (nat_lit 53), (nat_lit 53), (nat_lit 53), (nat_lit 54), (nat_lit 53), (nat_lit 55), (nat_lit 53), (nat_lit 56), (nat_lit 53), (nat_lit 57), (nat_lit 54), (nat_lit 48), (nat_lit 54), (nat_lit 49), (nat_lit 54), (nat_lit 50), (nat_lit 54), (nat_lit 51), (nat_lit 54), (nat_lit 52), (nat_lit 54), (nat_lit 53), (nat_lit 54), (nat_lit 54), (nat_lit 54), (nat_lit 55), (nat_lit 54), (nat_lit 56), (nat_lit 54), (nat_lit 57), (nat_lit 55), (nat_lit 48), (nat_lit 55), (nat_lit 49), (nat_lit 55), (nat_lit 50), (nat_lit 55), (nat_lit 51), (nat_lit 55), (nat_lit 52), (nat_lit 55), (nat_lit 53), (nat_lit 55), (nat_lit 54), (nat_lit 55), (nat_lit 55), (nat_lit 55), (nat_lit 56), (nat_lit 55), (nat_lit 57), (nat_lit 56), (nat_lit 48), (nat_lit 56), (nat_lit 49), (nat_lit 56), (nat_lit 50), (nat_lit 56), (nat_lit 51), (nat_lit 56), (nat_lit 52), (nat_lit 56), (nat_lit 53), (nat_lit 56), (nat_lit 54), (nat_lit 56), (nat_lit 55), (nat_lit 56), (nat_lit 56), (nat_lit 56), (nat_lit 57), (nat_lit 57), (nat_lit 48), (nat_lit 57), (nat_lit 49), (nat_lit 57), (nat_lit 50), (nat_lit 57), (nat_lit 51), (nat_lit 57), (nat_lit 52), (nat_lit 57), (nat_lit 53), (nat_lit 57), (nat_lit 54), (nat_lit 57), (nat_lit 55), (nat_lit 57), (nat_lit 56), (nat_lit 57), (nat_lit 57)])) T64),
    .op D66 (.ixaS (nat_lit 1) T55 T57),
    .op .no (.st (nat_lit 1) T66 T63),
    .op D67 (.ixaS (nat_lit 1) T58 T60),
    .op .no (.st (nat_lit 1) T67 T65)] [])
  (.seq (.drw [.op D68 (.mv T0),
    .op D69 (.mv T4),
    .op D70 (.bin .sub T69 (.c (.int .i64 (.ofNat (nat_lit 5))))),
    .op D71 (.mv T0),
    .op D72 (.mv T4),
    .op D73 (.bin .sub T72 (.c (.int .i64 (.ofNat (nat_lit 6))))),
    .op D74 (.mv T11),
    .op D75 (.bin .add T74 (.c (.int .u32 (.ofNat (nat_lit 1))))),
    .op D76 (.ixS (.c (.str [(nat_lit 48), (nat_lit 48), (nat_lit 48), (nat_lit 49), (nat_lit 48), (nat_lit 50), (nat_lit 48), (nat_lit 51), (nat_lit 48), (nat_lit 52), (nat_lit 48), (nat_lit 53), (nat_lit 48), (nat_lit 54), (nat_lit 48), (nat_lit 55), (nat_lit 48), (nat_lit 56), (nat_lit 48), (nat_lit 57), (nat_lit 49), (nat_lit 48), (nat_lit 49), (nat_lit 49), (nat_lit 49), (nat_lit 50), (nat_lit 49), (nat_lit 51), (nat_lit 49), (nat_lit 52), (nat_lit 49), (nat_lit 53), (nat_lit 49), (nat_lit 54), (nat_lit 49), (nat_lit 55), (nat_lit 49), (nat_lit 56), (nat_lit 49), (nat_lit 57), (nat_lit 50), (nat_lit 48), (nat_lit 50), (nat_lit 49), (nat_lit 50), (nat_lit 50), (nat_lit 50), (nat_lit 51), (nat_lit 50), (nat_lit 52), (nat_lit 50), (nat_lit 53), (nat_lit 50), (nat_lit 54), (nat_lit 50), (nat_lit 55), (nat_lit 50), (nat_lit 56), (nat_lit 50), (nat_lit 57), (nat_lit 51), (nat_lit 48), (nat_lit 51), (nat_lit 49), (nat_lit 51), (nat_lit 50), (nat_lit 51), (nat_lit 51), (nat_lit 51), (nat_lit 52), (nat_lit 51), (nat_lit 53), (nat_lit 51), (nat_lit 54), (nat_lit 51), (nat_lit 55), (nat_lit 51), (nat_lit 56), (nat_lit 51), (nat_lit 57), (nat_lit 52), (nat_lit 48), (nat_lit 52), (nat_lit 49), (nat_lit 52), (nat_lit 50), (nat_lit 52), (nat_lit 51), (nat_lit 52), (nat_lit 52), (nat_lit 52), (nat_lit 53), (nat_lit 52), (nat_lit 54), (nat_lit 52), (nat_lit 55), (nat_lit 52), (nat_lit 56), (nat_lit 52), (nat_lit 57), (nat_lit 53), (nat_lit 48), (nat_lit 53), (nat_lit 49), (nat_lit 53), (nat_lit 50), (nat_lit 53), (nat_lit 51), (nat_lit 53), (nat_lit 52), (nat_lit 53), (nat_lit 53), (nat_lit 53), (nat_lit 54), (nat_lit 53), (nat_lit 55), (nat_lit 53), (nat_lit 56), (nat_lit 53), (nat_lit 57), (nat_lit 54), (nat_lit 48), (nat_lit 54), (nat_lit 49), (nat_lit 54), (nat_lit 50), (nat_lit 54), (nat_lit 51), (nat_lit 54), (nat_lit 52), (nat_lit 54), (nat_lit 53), (nat_lit 54), (nat_lit 54), (nat_lit 54), (nat_lit 55), (nat_lit 54), (nat_lit 56), (nat_lit 54), (nat_lit 57), (nat_lit 55), (nat_lit 48), (nat_lit 55), (nat_lit 49), (nat_lit 55), (nat_lit 50), (nat_lit 55), (nat_lit 51), (nat_lit 55), (nat_lit 52), (nat_lit 55), (nat_lit 53), (nat_lit 55), (nat_lit 54), (nat_lit 55), (nat_lit 55), (nat_lit 55), (nat_lit 56), (nat_lit 55), (nat_lit 57), (nat_lit 56), (nat_lit 48), (nat_lit 56), (nat_lit 49), (nat_lit 56), (nat_lit 50), (nat_lit 56), (nat_lit 51), (nat_lit 56), (nat_lit 52), (nat_lit 56), (nat_lit 53), (nat_lit 56), (nat_lit 54), (nat_lit 56), (nat_lit 55), (nat_lit 56), (nat_lit 56), (nat_lit 56), (nat_lit 57), (nat_lit 57), (nat_lit 48), (nat_lit 57), (nat_lit 49), (nat_lit 57), (nat_lit 50), (nat_lit 57), (nat_lit 51), (nat_lit 57), (nat_lit 52), (nat_lit 57), (nat_lit 53), (nat_lit 57), (nat_lit 54), (nat_lit 57), (nat_lit 55), (nat_lit 57), (nat_lit 56), (nat_lit 57), (nat_lit 57)])) T75),
    .op D77 (.mv T11),
    .op D78 (.ixS (.c (.str [(nat_lit 48), (nat_lit 48), (nat_lit 48), (nat_lit 49), (nat_lit 48), (nat_lit 50), (nat_lit 48), (nat_lit 51), (nat_lit 48), (nat_lit 52), (nat_lit 48), (nat_lit 53), (nat_lit 48), (nat_lit 54), (nat_lit 48), (nat_lit 55), (nat_lit 48), (nat_lit 56), (nat_lit 48), (nat_lit 57), (nat_lit 49), (nat_lit 48), (nat_lit 49), (nat_lit 49), (nat_lit 49), (nat_lit 50), (nat_lit 49), (nat_lit 51), (nat_lit 49), (nat_lit 52), (nat_lit 49), (nat_lit 53), (nat_lit 49), (nat_lit 54), (nat_lit 49), (nat_lit 55), (nat_lit 49), (nat_lit 56), (nat_lit 49), (nat_lit 57), (nat_lit 50), (nat_lit 48), (nat_lit 50), (nat_lit 49), (nat_lit 50), (nat_lit 50), (nat_lit 50), (nat_lit 51), (nat_lit 50), (nat_lit 52), (nat_lit 50), (nat_lit 53), (nat_lit 50), (nat_lit 54), (nat_lit 50), (nat_lit 55), (nat_lit 50), (nat_lit 56), (nat_lit 50), (nat_lit 57), (nat_lit 51), (nat_lit 48), (nat_lit 51), (nat_lit 49), (nat_lit 51), (nat_lit 50), (nat_lit 51), (nat_lit 51), (nat_lit 51), (nat_lit 52), (nat_lit 51), (nat_lit 53), (nat_lit 51), (nat_lit 54), (nat_lit 51), (nat_lit 55), (nat_lit 51), (nat_lit 56), (nat_lit 51), (nat_lit 57), (nat_lit 52), (nat_lit 48), (nat_lit 52), (nat_lit 49), (nat_lit 52), (nat_lit 50), (nat_lit 52), (nat_lit 51), (nat_lit 52), (nat_lit 52), (nat_lit 52), (nat_lit 53), (nat_lit 52), (nat_lit 54), (nat_lit 52), (nat_lit 55), (nat_lit 52), (nat_lit 56), (nat_lit 52), (nat_lit 57), (nat_lit 53), (nat_lit 48), (nat_lit 53), (nat_lit 49), (nat_lit 53), (nat_lit 50), (nat_lit 53), (nat_lit 51), (nat_lit 53), (nat_lit 52), (nat_lit 53), (nat_lit 53), (nat_lit 53), (nat_lit 54), (nat_lit 53), (nat_lit 55), (nat_lit 53), (nat_lit 56), (nat_lit 53), (nat_lit 57), (nat_lit 54), (nat_lit 48), (nat_lit 54), (nat_lit 49), (nat_lit 54), (nat_lit 50), (nat_lit 54), (nat_lit 51), (nat_lit 54), (nat_lit 52), (nat_lit 54), (nat_lit 53), (nat_lit 54), (nat_lit 54), (nat_lit 54), (nat_lit 55), (nat_lit 54), (nat_lit 56), (nat_lit 54), (nat_lit 57), (nat_lit 55), (nat_lit 48), (nat_lit 55), (nat_lit 49), (nat_lit 55), (nat_lit 50), (nat_lit 55), (nat_lit 51), (nat_lit 55), (nat_lit 52), (nat_lit 55), (nat_lit 53), (nat_lit 55), (nat_lit 54), (nat_lit 55), (nat_lit 55), (nat_lit 55), (nat_lit 56), (nat_lit 55), (nat_lit 57), (nat_lit 56), (nat_lit 48), (nat_lit 56), (nat_lit 49), (nat_lit 56), (nat_lit 50), (nat_lit 56), (nat_lit 51), (nat_lit 56), (nat_lit 52), (nat_lit 56), (nat_lit 53), (nat_lit 56), (nat_lit 54), (nat_lit 56), (nat_lit 55), (nat_lit 56), (nat_lit 56), (nat_lit 56), (nat_lit 57), (nat_lit 57), (nat_lit 48), (nat_lit 57), (nat_lit 49), (nat_lit 57), (nat_lit 50), (nat_lit 57), (nat_lit 51), (nat_lit 57), (nat_lit 52), (nat_lit 57), (nat_lit 53), (nat_lit 57), (nat_lit 54), (nat_lit 57), (nat_lit 55), (nat_lit 57), (nat_lit 56), (nat_lit 57), (nat_lit 57)])) T77),
    .op D79 (.ixaS (nat_lit 1) T68 T70),
    .op .no (.st (nat_lit 1) T79 T76),
    .op D80 (.ixaS (nat_lit 1) T71 T73),
    .op .no (.st (nat_lit 1) T80 T78)] [])
  (.seq (.drw [.op D81 (.mv T0),
    .op D82 (.mv T4),
    .op D83 (.bin .sub T82 (.c (.int .i64 (.ofNat (nat_lit 7))))),
    .op D84 (.mv T0),
    .op D85 (.mv T4),
    .op D86 (.bin .sub T85 (.c (.int .i64 (.ofNat (nat_lit 8))))),
    .op D87 (.mv T10),
    .op D88 (.bin .add T87 (.c (.int .u32 (.ofNat (nat_lit 1))))),
    .op D89 (.ixS (.c (.str [(nat_lit 48), (nat_lit 48), (nat_lit 48), (nat_lit 49), (nat_lit 48), (nat_lit 50), (nat_lit 48), (nat_lit 51), (nat_lit 48), (nat_lit 52), (nat_lit 48), (nat_lit 53), (nat_lit 48), (nat_lit 54), (nat_lit 48), (nat_lit 55), (nat_lit 48), (nat_lit 56), (nat_lit 48), (nat_lit 57), (nat_lit 49), (nat_lit 48), (nat_lit 49), (nat_lit 49), (nat_lit 49), (nat_lit 50), (nat_lit 49), (nat_lit 51), (nat_lit 49), (nat_lit 52), (nat_lit 49), (nat_lit 53), (nat_lit 49), (nat_lit 54), (nat_lit 49), (nat_lit 55), (nat_lit 49), (nat_lit 56), (nat_lit 49), (nat_lit 57), (nat_lit 50), (nat_lit 48), (nat_lit 50), (nat_lit 49), (nat_lit 50), (nat_lit 50), (nat_lit 50), (nat_lit 51), (nat_lit 50), (nat_lit 52), (nat_lit 50), (nat_lit 53), (nat_lit 50), (nat_lit 54), (nat_lit 50), (nat_lit 55), (nat_lit 50), (nat_lit 56), (nat_lit 50), (nat_lit 57), (nat_lit 51), (nat_lit 48), (nat_lit 51), (nat_lit 49), (nat_lit 51), (nat_lit 50), (nat_lit 51), (nat_lit 51), (nat_lit 51), (nat_lit 52), (nat_lit 51), (nat_lit 53), (nat_lit 51), (nat_lit 54), (nat_lit 51), (nat_lit 55), (nat_lit 51), (nat_lit 56), (nat_lit 51), (nat_lit 57), (nat_lit 52), (nat_lit 48), (nat_lit 52), (nat_lit 49), (nat_lit 52), (nat_lit 50), (nat_lit 52), (nat_lit 51), (nat_lit 52), (nat_lit 52), (nat_lit 52), (nat_lit 53), (nat_lit 52), (nat_lit 54), (nat_lit 52), (nat_lit 55), (nat_lit 52), (nat_lit 56), (nat_lit 52), (nat_lit 57), (nat_lit 53), (nat_lit 48), (nat_lit 53), (nat_lit 49), (nat_lit 53), (nat_lit 50), (nat_lit 53), (nat_lit 51), (nat_lit 53), (nat_lit 52), (nat_lit 53), (nat_lit 53), (nat_lit 53), (nat_lit 54), (nat_lit 53), (nat_lit 55), (nat_lit 53), (nat_lit 56), (nat_lit 53), (nat_lit 57), (nat_lit 54), (nat_lit 48), (nat_lit 54), (nat_lit 49), (nat_lit 54), (nat_lit 50), (nat_lit 54), (nat_lit 51), (nat_lit 54), (nat_lit 52), (nat_lit 54), (nat_lit 53), (nat_lit 54), (nat_lit 54), (nat_lit 54), (nat_lit 55), (nat_lit 54), (nat_lit 56), (nat_lit 54), (nat_lit 57), (nat_lit 55), (nat_lit 48), (nat_lit 55), (nat_lit 49), (nat_lit 55), (nat_lit 50), (nat_lit 55), (nat_lit 51), (nat_lit 55), (nat_lit 52), (nat_lit 55), (nat_lit 53), (nat_lit 55), (nat_lit 54), (nat_lit 55), (nat_lit 55), (nat_lit 55), (nat_lit 56), (nat_lit 55), (nat_lit 57), (nat_lit 56), (nat_lit 48), (nat_lit 56), (nat_lit 49), (nat_lit 56), (nat_lit 50), (nat_lit 56), (nat_lit 51), (nat_lit 56), (nat_lit 52), (nat_lit 56), (nat_lit 53), (nat_lit 56), (nat_lit 54), (nat_lit 56), (nat_lit 55), (nat_lit 56), (nat_lit 56), (nat_lit 56), (nat_lit 57), (nat_lit 57), (nat_lit 48), (nat_lit 57), (nat_lit 49), (nat_lit 57), (nat_lit 50), (nat_lit 57), (nat_lit 51), (nat_lit 57), (nat_lit 52), (nat_lit 57), (nat_lit 53), (nat_lit 57), (nat_lit 54), (nat_lit 57), (nat_lit 55), (nat_lit 57), (nat_lit 56), (nat_lit 57), (nat_lit 57)])) T88),
    .op D90 (.mv T10),
    .op D91 (.ixS (.c (.str [(nat_lit 48), (nat_lit 48), (nat_lit 48), (nat_lit 49), (nat_lit 48), (nat_lit 50), (nat_lit 48), (nat_lit 51), (nat_lit 48), (nat_lit 52), (nat_lit 48), (nat_lit 53), (nat_lit 48), (nat_lit 54), (nat_lit 48), (nat_lit 55), (nat_lit 48), (nat_lit 56), (nat_lit 48), (nat_lit 57), (nat_lit 49), (nat_lit 48), (nat_lit 49), (nat_lit 49), (nat_lit 49), (nat_lit 50), (nat_lit 49), (nat_lit 51), (nat_lit 49), (nat_lit 52), (nat_lit 49), (nat_lit 53), (nat_lit 49), (nat_lit 54), (nat_lit 49), (nat_lit 55), (nat_lit 49), (nat_lit 56), (nat_lit 49), (nat_lit 57), (nat_lit 50), (nat_lit 48), (nat_lit 50), (nat_lit 49), (nat_lit 50), (nat_lit 50), (nat_lit 50), (nat_lit 51), (nat_lit 50), (nat_lit 52), (nat_lit 50), (nat_lit 53), (nat_lit 50), (nat_lit 54), (nat_lit 50), (nat_lit 55), (nat_lit 50), (nat_lit 56), (nat_lit 50), (nat_lit 57), (nat_lit 51), (nat_lit 48), (nat_lit 51), (nat_lit 49), (nat_lit 51), (nat_lit 50), (nat_lit 51), (nat_lit 51), (nat_lit 51), (nat_lit 52), (nat_lit 51), (nat_lit 53), (nat_lit 51), (nat_lit 54), (nat_lit 51), (nat_lit 55), (nat_lit 51), (nat_lit 56), (nat_lit 51), (nat_lit 57), (nat_lit 52), (nat_lit 48), (nat_lit 52), (nat_lit 49), (nat_lit 52), (nat_lit 50), (nat_lit 52), (nat_lit 51), (nat_lit 52), (nat_lit 52), (nat_lit 52), (nat_lit 53), (nat_lit 52), (nat_lit 54), (nat_lit 52), (nat_lit 55), (nat_lit 52), (nat_lit 56), (nat_lit 52), (nat_lit 57), (nat_lit 53), (nat_lit 48), (nat_lit 53), (nat_lit 49), (nat_lit 53), (nat_lit 50), (nat_lit 53), (nat_lit 51), (nat_lit 53), (nat_lit 52), (nat_lit 53), (nat_lit 53), (nat_lit 53), (nat_lit 54), (nat_lit 53), (nat_lit 55), (nat_lit 53), (nat_lit 56), (nat_lit 53), (nat_lit 57), (nat_lit 54), (nat_lit 48), (nat_lit 54), (nat_lit 49), (nat_lit 54), (nat_lit 50), (nat_lit 54), (nat_lit 51), (nat_lit 54), (nat_lit 52), (nat_lit 54), (nat_lit 53), (nat_lit 54), (nat_lit 54), (nat_lit 54), (nat_lit 55), (nat_lit 54), (nat_lit 56), (nat_lit 54), (nat_lit 57), (nat_lit 55), (nat_lit 48), (nat_lit 55), (nat_lit 49), (nat_lit 55), (nat_lit 50), (nat_lit 55), (nat_lit 51), (nat_lit 55), (nat_lit 52), (nat_lit 55), (nat_lit 53), (nat_lit 55), (nat_lit 54), (nat_lit 55), (nat_lit 55), (nat_lit 55), (nat_lit 56), (nat_lit 55), (nat_lit 57), (nat_lit 56), (nat_lit 48), (nat_lit 56), (nat_lit 49), (nat_lit 56), (nat_lit 50), (nat_lit 56), (nat_lit 51), (nat_lit 56), (nat_lit 52), (nat_lit 56), (nat_lit 53), (nat_lit 56), (nat_lit 54), (nat_lit 56), (nat_lit 55), (nat_lit 56), (nat_lit 56), (nat_lit 56), (nat_lit 57), (nat_lit 57), (nat_lit 48), (nat_lit 57), (nat_lit 49), (nat_lit 57), (nat_lit 50), (nat_lit 57), (nat_lit 51), (nat_lit 57), (nat_lit 52), (nat_lit 57), (nat_lit 53), (nat_lit 57), (nat_lit 54), (nat_lit 57), (nat_lit 55), (nat_lit 57), (nat_lit 56), (nat_lit 57), (nat_lit 57)])) T90),
    .op D92 (.ixaS (nat_lit 1) T81 T83),
    .op .no (.st (nat_lit 1) T92 T89),
    .op D93 (.ixaS (nat_lit 1) T84 T86),
    .op .no (.st (nat_lit 1) T93 T91)] [])
  (.reg [.op D94 (.mv T4),
    .op D95 (.bin .sub T94 (.c (.int .i64 (.ofNat (nat_lit 8))))),
    .op D4 (.mv T95)]))))))))))))))
  (.seq (.reg [.op D96 (.mv T1),
    .op D97 (.cvi .u32 T96),
    .op D12 (.mv T97)])
  (.seq (.seq (.reg [.op D98 (.mv T4),
    .op D99 (.bin .geq T98 (.c (.int .i64 (.ofNat (nat_lit 4)))))])
  (.cond T99 (.seq (.reg [.op D100 (.mv T12),
    .op D101 (.bin .rem T100 (.c (.int .u32 (.ofNat (nat_lit 10000))))),
    .op D13 (.mv T101)])
  (.seq (.reg [.op D102 (.mv T12),
    .op D103 (.bin .quo T102 (.c (.int .u32 (.ofNat (nat_lit 10000))))),
    .op D12 (.mv T103)])
  (.seq (.reg [.op D104 (.mv T13),
    .op D105 (.bin .quo T104 (.c (.int .u32 (.ofNat (nat_lit 100))))),
    .op D106 (.bin .mul T105 (.c (.int .u32 (.ofNat (nat_lit 2))))),
    .op D107 (.mv T13),
    .op D108 (.bin .rem T107 (.c (.int .u32 (.ofNat (nat_lit 100))))),
    .op D109 (.bin .mul T108 (.c (.int .u32 (.ofNat (nat_lit 2))))),
    .op D14 (.mv T106),
    .op D15 (.mv T109)])
  (.seq (.drw [.op D110 (.mv T0),
    .op D111 (.mv T4),
    .op D112 (.bin .sub T111 (.c (.int .i64 (.ofNat (nat_lit 1))))),
    .op D113 (.mv T0),
    .op D114 (.mv T4),
    .op D115 (.bin .sub T114 (.c (.int .i64 (.ofNat (nat_lit 2))))),
    .op D116 (.mv T15),
    .op D117 (.bin .add T116 (.c (.int .u32 (.ofNat (nat_lit 1))))),
    .op D118 (.ixS (.c (.str [(nat_lit 48), (nat_lit 48), (nat_lit 48), (nat_lit 49), (nat_lit 48), (nat_lit 50), (nat_lit 48), (nat_lit 51), (nat_lit 48), (nat_lit 52), (nat_lit 48), (nat_lit 53), (nat_lit 48), (nat_lit 54), (nat_lit 48), (nat_lit 55), (nat_lit 48), (nat_lit 56), (nat_lit 48), (nat_lit 57), (nat_lit 49), (nat_lit 48), (nat_lit 49), (nat_lit 49), (nat_lit 49), (nat_lit 50), (nat_lit 49), (nat_lit 51), (nat_lit 49), (nat_lit 52), (nat_lit 49), (nat_lit 53), (nat_lit 49), (nat_lit 54), (nat_lit 49), (nat_lit 55), (nat_lit 49), (nat_lit 56), (nat_lit 49), (nat_lit 57), (nat_lit 50), (nat_lit 48), (nat_lit 50), (nat_lit 49), (nat_lit 50), (nat_lit 50), (nat_lit 50), (nat_lit 51), (nat_lit 50), (nat_lit 52), (nat_lit 50), (nat_lit 53), (nat_lit 50), (nat_lit 54), (nat_lit 50), (nat_lit 55), (nat_lit 50), (nat_lit 56), (nat_lit 50), (nat_lit 57), (nat_lit 51), (nat_lit 48), (nat_lit 51), (nat_lit 49), (nat_lit 51), (nat_lit 50), (nat_lit 51), (nat_lit 51), (nat_lit 51), (nat_lit 52), (nat_lit 51), (nat_lit 53), (nat_lit 51), (nat_lit 54), (nat_lit 51), (nat_lit 55), (nat_lit 51), (nat_lit 56), (nat_lit 51), (nat_lit 57), (nat_lit 52), (nat_lit 48), (nat_lit 52), (nat_lit 49), (nat_lit 52), (nat_lit 50), (nat_lit 52), (nat_lit 51), (nat_lit 52), (nat_lit 52), (nat_lit 52), (nat_lit 53), (nat_lit 52), (nat_lit 54), (nat_lit 52), (nat_lit 55), (nat_lit 52), (nat_lit 56), (nat_lit 52), (nat_lit 57), (nat_lit 53), (nat_lit 48), (nat_lit 53), (nat_lit 49), (nat_lit 53), (nat_lit 50), (nat_lit 53), (nat_lit 51), (nat_lit 53), (nat_lit 52), (nat_lit 53), (nat_lit 53), (nat_lit 53), (nat_lit 54), (nat_lit 53), (nat_lit 55), (nat_lit 53), (nat_lit 56), (nat_lit 53), (nat_lit 57), (nat_lit 54), (nat_lit 48), (nat_lit 54), (nat_lit 49), (nat_lit 54), (nat_lit 50), (nat_lit 54), (nat_lit 51), (nat_lit 54), (nat_lit 52), (nat_lit 54), (nat_lit 53), (nat_lit 54), (nat_lit 54), (nat_lit 54), (nat_lit 55), (nat_lit 54), (nat_lit 56), (nat_lit 54), (nat_lit 57), (nat_lit 55), (nat_lit 48), (nat_lit 55), (nat_lit 49), (nat_lit 55), (nat_lit 50), (nat_lit 55), (nat_lit 51), (nat_lit 55), (nat_lit 52), (nat_lit 55), (nat_lit 53), (nat_lit 55), (nat_lit 54), (nat_lit 55), (nat_lit 55), (nat_lit 55), (nat_lit 56), (nat_lit 55), (nat_lit 57), (nat_lit 56), (nat_lit 48), (nat_lit 56), (nat_lit 49), (nat_lit 56), (nat_lit 50), (nat_lit 56), (nat_lit 51), (nat_lit 56), (nat_lit 52), (nat_lit 56), (nat_lit 53), (nat_lit 56), (nat_lit 54), (nat_lit 56), (nat_lit 55), (nat_lit 56), (nat_lit 56), (nat_lit 56), (nat_lit 57), (nat_lit 57), (nat_lit 48), (nat_lit 57), (nat_lit 49), (nat_lit 57), (nat_lit 50), (nat_lit 57), (nat_lit 51), (nat_lit 57), (nat_lit 52), (nat_lit 57), (nat_lit 53), (nat_lit 57), (nat_lit 54), (nat_lit 57), (nat_lit 55), (nat_lit 57), (nat_lit 56), (nat_lit 57), (nat_lit 57)])) T117),
    .op D119 (.mv T15),
    .op D120 (.ixS (.c (.str [(nat_lit 48), (nat_lit 48), (nat_lit 48), (nat_lit 49), (nat_lit 48), (nat_lit 50), (nat_lit 48), (nat_lit 51), (nat_lit 48), (nat_lit 52), (nat_lit 48), (nat_lit 53), (nat_lit 48), (nat_lit 54), (nat_lit 48), (nat_lit 55), (nat_lit 48), (nat_lit 56), (nat_lit 48), (nat_lit 57), (nat_lit 49), (nat_lit 48), (nat_lit 49), (nat_lit 49), (nat_lit 49), (nat_lit 50), (nat_lit 49), (nat_lit 51), (nat_lit 49), (nat_lit 52), (nat_lit 49), (nat_lit 53), (nat_lit 49), (nat_lit 54), (nat_lit 49), (nat_lit 55), (nat_lit 49), (nat_lit 56), (nat_lit 49), (nat_lit 57), (nat_lit 50), (nat_lit 48), (nat_lit 50), (nat_lit 49), (nat_lit 50), (nat_lit 50), (nat_lit 50), (nat_lit 51), (nat_lit 50), (nat_lit 52), (nat_lit 50), (nat_lit 53), (nat_lit 50), (nat_lit 54), (nat_lit 50), (nat_lit 55), (nat_lit 50), (nat_lit 56), (nat_lit 50), (nat_lit 57), (nat_lit 51), (nat_lit 48), (nat_lit 51), (nat_lit 49), (nat_lit 51), (nat_lit 50), (nat_lit 51), (nat_lit 51), (nat_lit 51), (nat_lit 52), (nat_lit 51), (nat_lit 53), (nat_lit 51), (nat_lit 54), (nat_lit 51), (nat_lit 55), (nat_lit 51), (nat_lit 56), (nat_lit 51), (nat_lit 57), (nat_lit 52), (nat_lit 48), (nat_lit 52), (nat_lit 49), (nat_lit 52), (nat_lit 50), (nat_lit 52), (nat_lit 51), (nat_lit 52), (nat_lit 52), (nat_lit 52), (nat_lit 53), (nat_lit 52), (nat_lit 54), (nat_lit 52), (nat_lit 55), (nat_lit 52), (nat_lit 56), (nat_lit 52), (nat_lit 57), (nat_lit 53), (nat_lit 48), (nat_lit 53), (nat_lit 49), (nat_lit 53), (nat_lit 50), (nat_lit 53), (nat_lit 51), (nat_lit 53), (nat_lit 52), (nat_lit 53), (nat_lit 53), (nat_lit 53), (nat_lit 54), (nat_lit 53), (nat_lit 55), (nat_lit 53), (nat_lit 56), (nat_lit 53), (nat_lit 57), (nat_lit 54), (nat_lit 48), (nat_lit 54), (nat_lit 49), (nat_lit 54), (nat_lit 50), (nat_lit 54), (nat_lit 51), (nat_lit 54), (nat_lit 52), (nat_lit 54), (nat_lit 53), (nat_lit 54), (nat_lit 54), (nat_lit 54), (nat_lit 55), (nat_lit 54), (nat_lit 56), (nat_lit 54), (nat_lit 57), (nat_lit 55), (nat_lit 48), (nat_lit 55), (nat_lit 49), (nat_lit 55), (nat_lit 50), (nat_lit 55), (nat_lit 51), (nat_lit 55), (nat_lit 52), (nat_lit 55), (nat_lit 53), (nat_lit 55), (nat_lit 54), (nat_lit 55), (nat_lit 55), (nat_lit 55), (nat_lit 56), (nat_lit 55), (nat_lit 57), (nat_lit 56), (nat_lit 48), (nat_lit 56), (nat_lit 49), (nat_lit 56), (nat_lit 50), (nat_lit 56), (nat_lit 51), (nat_lit 56), (nat_lit 52), (nat_lit 56), (nat_lit 53), (nat_lit 56), (nat_lit 54), (nat_lit 56), (nat_lit 55), (nat_lit 56), (nat_lit 56), (nat_lit 56), (nat_lit 57), (nat_lit 57), (nat_lit 48), (nat_lit 57), (nat_lit 49), (nat_lit 57), (nat_lit 50), (nat_lit 57), (nat_lit 51), (nat_lit 57), (nat_lit 52), (nat_lit 57), (nat_lit 53), (nat_lit 57), (nat_lit 54), (nat_lit 57), (nat_lit 55), (nat_lit 57), (nat_lit 56), (nat_lit 57), (nat_lit 57)])) T119),
    .op D121 (.ixaS (nat_lit 1) T110 T112),
    .op .no (.st (nat_lit 1) T121 T118),
    .op D122 (.ixaS (nat_lit 1) T113 T115),
    .op .no (.st (nat_lit 1) T122 T120)] [])
  (.seq (.drw [.op D123 (.mv T0),
    .op D124 (.mv T4),
    .op D125 (.bin .sub T124 (.c (.int .i64 (.ofNat (nat_lit 3))))),
    .op D126 (.mv T0),
    .op D127 (.mv T4),
    .op D128 (.bin .sub T127 (.c (.int .i64 (.ofNat (nat_lit 4))))),
    .op D129 (.mv T14),
    .op D130 (.bin .add T129 (.c (.int .u32 (.ofNat (nat_lit 1))))),
    .op D131 (.ixS (.c (.str [(nat_lit 48), (nat_lit 48), (nat_lit 48), (nat_lit 49), (nat_lit 48), (nat_lit 50), (nat_lit 48), (nat_lit 51), (nat_lit 48), (nat_lit 52), (nat_lit 48), (nat_lit 53), (nat_lit 48), (nat_lit 54), (nat_lit 48), (nat_lit 55), (nat_lit 48), (nat_lit 56), (nat_lit 48), (nat_lit 57), (nat_lit 49), (nat_lit 48), (nat_lit 49), (nat_lit 49), (nat_lit 49), (nat_lit 50), (nat_lit 49), (nat_lit 51), (nat_lit 49), (nat_lit 52), (nat_lit 49), (nat_lit 53), (nat_lit 49), (nat_lit 54), (nat_lit 49), (nat_lit 55), (nat_lit 49), (nat_lit 56), (nat_lit 49), (nat_lit 57), (nat_lit 50), (nat_lit 48), (nat_lit 50), (nat_lit 49), (nat_lit 50), (nat_lit 50), (nat_lit 50), (nat_lit 51), (nat_lit 50), (nat_lit 52), (nat_lit 50), (nat_lit 53), (nat_lit 50), (nat_lit 54), (nat_lit 50), (nat_lit 55), (nat_lit 50), (nat_lit 56), (nat_lit 50), (nat_lit 57), (nat_lit 51), (nat_lit 48), (nat_lit 51), (nat_lit 49), (nat_lit 51), (nat_lit 50), (nat_lit 51), (nat_lit 51), (nat_lit 51), (nat_lit 52), (nat_lit 51), (nat_lit 53), (nat_lit 51), (nat_lit 54), (nat_lit 51), (nat_lit 55), (nat_lit 51), (nat_lit 56), (nat_lit 51), (nat_lit 57), (nat_lit 52), (nat_lit 48), (nat_lit 52), (nat_lit 49), (nat_lit 52), (nat_lit 50), (nat_lit 52), (nat_lit 51), (nat_lit 52), (nat_lit 52), (nat_lit 52), (nat_lit 53), (nat_lit 52), (nat_lit 54), (nat_lit 52), (nat_lit 55), (nat_lit 52), (nat_lit 56), (nat_lit 52), (nat_lit 57), (nat_lit 53), (nat_lit 48), (nat_lit 53), (nat_lit 49), (nat_lit 53), (nat_lit 50), (nat_lit 53), (nat_lit 51), (nat_lit 53), (nat_lit 52), (nat_lit 53), (nat_lit 53), (nat_lit 53), (nat_lit 54), (nat_lit 53), (nat_lit 55), (nat_lit 53), (nat_lit 56), (nat_lit 53), (nat_lit 57), (nat_lit 54), (nat_lit 48), (nat_lit 54), (nat_lit 49), (nat_lit 54), (nat_lit 50), (nat_lit 54), (nat_lit 51), (nat_lit 54), (nat_lit 52), (nat_lit 54), (nat_lit 53), (nat_lit 54), (nat_lit 54), (nat_lit 54), (nat_lit 55), (nat_lit 54), (nat_lit 56), (nat_lit 54), (nat_lit 57), (nat_lit 55), (nat_lit 48), (nat_lit 55), (nat_lit 49), (nat_lit 55), (nat_lit 50), (nat_lit 55), (nat_lit 51), (nat_lit 55), (nat_lit 52), (nat_lit 55), (nat_lit 53), (nat_lit 55), (nat_lit 54), (nat_lit 55), (nat_lit 55), (nat_lit 55), (nat_lit 56), (nat_lit 55), (nat_lit 57), (nat_lit 56), (nat_lit 48), (nat_lit 56), (nat_lit 49), (nat_lit 56), (nat_lit 50), (nat_lit 56), (nat_lit 51), (nat_lit 56), (nat_lit 52), (nat_lit 56), (nat_lit 53), (nat_lit 56), (nat_lit 54), (nat_lit 56), (nat_lit 55), (nat_lit 56), (nat_lit 56), (nat_lit 56), (nat_lit 57), (nat_lit 57), (nat_lit 48), (nat_lit 57), (nat_lit 49), (nat_lit 57), (nat_lit 50), (nat_lit 57), (nat_lit 51), (nat_lit 57), (nat_lit 52), (nat_lit 57), (nat_lit 53), (nat_lit 57), (nat_lit 54), (nat_lit 57), (nat_lit 55), (nat_lit 57), (nat_lit 56), (nat_lit 57), (nat_lit 57)])) T130),
    .op D132 (.mv T14),
    .op D133 (.ixS (.c (.str [(nat_lit 48), (nat_lit 48), (nat_lit 48), (nat_lit 49), (nat_lit 48), (nat_lit 50), (nat_lit 48), (nat_lit 51), (nat_lit 48), (nat_lit 52), (nat_lit 48), (nat_lit 53), (nat_lit 48), (nat_lit 54), (nat_lit 48), (nat_lit 55), (nat_lit 48), (nat_lit 56), (nat_lit 48), (nat_lit 57), (nat_lit 49), (nat_lit 48), (nat_lit 49), (nat_lit 49), (nat_lit 49), (nat_lit 50), (nat_lit 49), (nat_lit 51), (nat_lit 49), (nat_lit 52), (nat_lit 49), (nat_lit 53), (nat_lit 49), (nat_lit 54), (nat_lit 49), (nat_lit 55), (nat_lit 49), (nat_lit 56), (nat_lit 49), (nat_lit 57), (nat_lit 50), (nat_lit 48), (nat_lit 50), (nat_lit 49), (nat_lit 50), (nat_lit 50), (nat_lit 50), (nat_lit 51), (nat_lit 50), (nat_lit 52), (nat_lit 50), (nat_lit 53), (nat_lit 50), (nat_lit 54), (nat_lit 50), (nat_lit 55), (nat_lit 50), (nat_lit 56), (nat_lit 50), (nat_lit 57), (nat_lit 51), (nat_lit 48), (nat_lit 51), (nat_lit 49), (nat_lit 51), (nat_lit 50), (nat_lit 51), (nat_lit 51), (nat_lit 51), (nat_lit 52), (nat_lit 51), (nat_lit 53), (nat_lit 51), (nat_lit 54), (nat_lit 51), (nat_lit 55), (nat_lit 51), (nat_lit 56), (nat_lit 51), (nat_lit 57), (nat_lit 52), (nat_lit 48), (nat_lit 52), (nat_lit 49), (nat_lit 52), (nat_lit 50), (nat_lit 52), (nat_lit 51), (nat_lit 52), (nat_lit 52), (nat_lit 52), (nat_lit 53), (nat_lit 52), (nat_lit 54), (nat_lit 52), (nat_lit 55), (nat_lit 52), (nat_lit 56), (nat_lit 52), (nat_lit 57), (nat_lit 53), (nat_lit 48), (nat_lit 53), (nat_lit 49), (nat_lit 53), (nat_lit 50), (nat_lit 53), (nat_lit 51), (nat_lit 53), (nat_lit 52), (nat_lit 53), (nat_lit 53), (nat_lit 53), (nat_lit 54), (nat_lit 53), (nat_lit 55), (nat_lit 53), (nat_lit 56), (nat_lit 53), (nat_lit 57), (nat_lit 54), (nat_lit 48), (nat_lit 54), (nat_lit 49), (nat_lit 54), (nat_lit 50), (nat_lit 54), (nat_lit 51), (nat_lit 54), (nat_lit 52), (nat_lit 54), (nat_lit 53), (nat_lit 54), (nat_lit 54), (nat_lit 54), (nat_lit 55), (nat_lit 54), (nat_lit 56), (nat_lit 54), (nat_lit 57), (nat_lit 55), (nat_lit 48), (nat_lit 55), (nat_lit 49), (nat_lit 55), (nat_lit 50), (nat_lit 55), (nat_lit 51), (nat_lit 55), (nat_lit 52), (nat_lit 55), (nat_lit 53), (nat_lit 55), (nat_lit 54), (nat_lit 55), (nat_lit 55), (nat_lit 55), (nat_lit 56), (nat_lit 55), (nat_lit 57), (nat_lit 56), (nat_lit 48), (nat_lit 56), (nat_lit 49), (nat_lit 56), (nat_lit 50), (nat_lit 56), (nat_lit 51), (nat_lit 56), (nat_lit 52), (nat_lit 56), (nat_lit 53), (nat_lit 56), (nat_lit 54), (nat_lit 56), (nat_lit 55), (nat_lit 56), (nat_lit 56), (nat_lit 56), (nat_lit 57), (nat_lit 57), (nat_lit 48), (nat_lit 57), (nat_lit 49), (nat_lit 57), (nat_lit 50), (nat_lit 57), (nat_lit 51), (nat_lit 57), (nat_lit 52), (nat_lit 57), (nat_lit 53), (nat_lit 57), (nat_lit 54), (nat_lit 57), (nat_lit 55), (nat_lit 57), (nat_lit 56), (nat_lit 57), (nat_lit 57)])) T132),
    .op D134 (.ixaS (nat_lit 1) T123 T125),
    .op .no (.st (nat_lit 1) T134 T131),
    .op D135 (.ixaS (nat_lit 1) T126 T128),
    .op .no (.st (nat_lit 1) T135 T133)] [])
  (.reg [.op D136 (.mv T4),
    .op D137 (.bin .sub T136 (.c (.int .i64 (.ofNat (nat_lit 4))))),
    .op D4 (.mv T137)]))))))
  (.skip)))
  (.seq (.seq (.reg [.op D138 (.mv T4),
    .op D139 (.bin .geq T138 (.c (.int .i64 (.ofNat (nat_lit 2)))))])
  (.cond T139 (.seq (.reg [.op D140 (.mv T12),
    .op D141 (.bin .rem T140 (.c (.int .u32 (.ofNat (nat_lit 100))))),
    .op D142 (.bin .mul T141 (.c (.int .u32 (.ofNat (nat_lit 2))))),
    .op D16 (.mv T142)])
  (.seq (.reg [.op D143 (.mv T12),
    .op D144 (.bin .quo T143 (.c (.int .u32 (.ofNat (nat_lit 100))))),
    .op D12 (.mv T144)])
  (.seq (.drw [.op D145 (.mv T0),
    .op D146 (.mv T4),
    .op D147 (.bin .sub T146 (.c (.int .i64 (.ofNat (nat_lit 1))))),
    .op D148 (.mv T0),
    .op D149 (.mv T4),
    .op D150 (.bin .sub T149 (.c (.int .i64 (.ofNat (nat_lit 2))))),
    .op D151 (.mv T16),
    .op D152 (.bin .add T151 (.c (.int .u32 (.ofNat (nat_lit 1))))),
    .op D153 (.ixS (.c (.str [(nat_lit 48), (nat_lit 48), (nat_lit 48), (nat_lit 49), (nat_lit 48), (nat_lit 50), (nat_lit 48), (nat_lit 51), (nat_lit 48), (nat_lit 52), (nat_lit 48), (nat_lit 53), (nat_lit 48), (nat_lit 54), (nat_lit 48), (nat_lit 55), (nat_lit 48), (nat_lit 56), (nat_lit 48), (nat_lit 57), (nat_lit 49), (nat_lit 48), (nat_lit 49), (nat_lit 49), (nat_lit 49), (nat_lit 50), (nat_lit 49), (nat_lit 51), (nat_lit 49), (nat_lit 52), (nat_lit 49), (nat_lit 53), (nat_lit 49), (nat_lit 54), (nat_lit 49), (nat_lit 55), (nat_lit 49), (nat_lit 56), (nat_lit 49), (nat_lit 57), (nat_lit 50), (nat_lit 48), (nat_lit 50), (nat_lit 49), (nat_lit 50), (nat_lit 50), (nat_lit 50), (nat_lit 51), (nat_lit 50), (nat_lit 52), (nat_lit 50), (nat_lit 53), (nat_lit 50), (nat_lit 54), (nat_lit 50), (nat_lit 55), (nat_lit 50), (nat_lit 56), (nat_lit 50), (nat_lit 57), (nat_lit 51), (nat_lit 48), (nat_lit 51), (nat_lit 49), (nat_lit 51), (nat_lit 50), (nat_lit 51), (nat_lit 51), (nat_lit 51), (nat_lit 52), (nat_lit 51), (nat_lit 53), (nat_lit 51), (nat_lit 54), (nat_lit 51), (nat_lit 55), (nat_lit 51), (nat_lit 56), (nat_lit 51), (nat_lit 57), (nat_lit 52), (nat_lit 48), (nat_lit 52), (nat_lit 49), (nat_lit 52), (nat_lit 50), (nat_lit 52), (nat_lit 51), (nat_lit 52), (nat_lit 52), (nat_lit 52), (nat_lit 53), (nat_lit 52), (nat_lit 54), (nat_lit 52), (nat_lit 55), (nat_lit 52), (nat_lit 56), (nat_lit 52), (nat_lit 57), (nat_lit 53), (nat_lit 48), (nat_lit 53), (nat_lit 49), (nat_lit 53), (nat_lit 50), (nat_lit 53), (nat_lit 51), (nat_lit 53), (nat_lit 52), (nat_lit 53), (nat_lit 53), (nat_lit 53), (nat_lit 54), (nat_lit 53), (nat_lit 55), (nat_lit 53), (nat_lit 56), (nat_lit 53), (nat_lit 57), (nat_lit 54), (nat_lit 48), (nat_lit 54), (nat_lit 49), (nat_lit 54), (nat_lit 50), (nat_lit 54), (nat_lit 51), (nat_lit 54), (nat_lit 52), (nat_lit 54), (nat_lit 53), (nat_lit 54), (nat_lit 54), (nat_lit 54), (nat_lit 55), (nat_lit 54), (nat_lit 56), (nat_lit 54), (nat_lit 57), (nat_lit 55), (nat_lit 48), (nat_lit 55), (nat_lit 49), (nat_lit 55), (nat_lit 50), (nat_lit 55), (nat_lit 51), (nat_lit 55), (nat_lit 52), (nat_lit 55), (nat_lit 53), (nat_lit 55), (nat_lit 54), (nat_lit 55), (nat_lit 55), (nat_lit 55), (nat_lit 56), (nat_lit 55), (nat_lit 57), (nat_lit 56), (nat_lit 48), (nat_lit 56), (nat_lit 49), (nat_lit 56), (nat_lit 50), (nat_lit 56), (nat_lit 51), (nat_lit 56), (nat_lit 52), (nat_lit 56), (nat_lit 53), (nat_lit 56), (nat_lit 54), (nat_lit 56), (nat_lit 55), (nat_lit 56), (nat_lit 56), (nat_lit 56), (nat_lit 57), (nat_lit 57), (nat_lit 48), (nat_lit 57), (nat_lit 49), (nat_lit 57), (nat_lit 50), (nat_lit 57), (nat_lit 51), (nat_lit 57), (nat_lit 52), (nat_lit 57), (nat_lit 53), (nat_lit 57), (nat_lit 54), (nat_lit 57), (nat_lit 55), (nat_lit 57), (nat_lit 56), (nat_lit 57), (nat_lit 57)])) T152),
    .op D154 (.mv T16),
    .op D155 (.ixS (.c (.str [(nat_lit 48), (nat_lit 48), (nat_lit 48), (nat_lit 49), (nat_lit 48), (nat_lit 50), (nat_lit 48), (nat_lit 51), (nat_lit 48), (nat_lit 52), (nat_lit 48), (nat_lit 53), (nat_lit 48), (nat_lit 54), (nat_lit 48), (nat_lit 55), (nat_lit 48), (nat_lit 56), (nat_lit 48), (nat_lit 57), (nat_lit 49), (nat_lit 48), (nat_lit 49), (nat_lit 49), (nat_lit 49), (nat_lit 50), (nat_lit 49), (nat_lit 51), (nat_lit 49), (nat_lit 52), (nat_lit 49), (nat_lit 53), (nat_lit 49), (nat_lit 54), (nat_lit 49), (nat_lit 55), (nat_lit 49), (nat_lit 56), (nat_lit 49), (nat_lit 57), (nat_lit 50), (nat_lit 48), (nat_lit 50), (nat_lit 49), (nat_lit 50), (nat_lit 50), (nat_lit 50), (nat_lit 51), (nat_lit 50), (nat_lit 52), (nat_lit 50), (nat_lit 53), (nat_lit 50), (nat_lit 54), (nat_lit 50), (nat_lit 55), (nat_lit 50), (nat_lit 56), (nat_lit 50), (nat_lit 57), (nat_lit 51), (nat_lit 48), (nat_lit 51), (nat_lit 49), (nat_lit 51), (nat_lit 50), (nat_lit 51), (nat_lit 51), (nat_lit 51), (nat_lit 52), (nat_lit 51), (nat_lit 53), (nat_lit 51), (nat_lit 54), (nat_lit 51), (nat_lit 55), (nat_lit 51), (nat_lit 56), (nat_lit 51), (nat_lit 57), (nat_lit 52), (nat_lit 48), (nat_lit 52), (nat_lit 49), (nat_lit 52), (nat_lit 50), (nat_lit 52), (nat_lit 51), (nat_lit 52), (nat_lit 52), (nat_lit 52), (nat_lit 53), (nat_lit 52), (nat_lit 54), (nat_lit 52), (nat_lit 55), (nat_lit 52), (nat_lit 56), (nat_lit 52), (nat_lit 57), (nat_lit 53), (nat_lit 48), (nat_lit 53), (nat_lit 49), (nat_lit 53), (nat_lit 50), (nat_lit 53), (nat_lit 51), (nat_lit 53), (nat_lit 52), (nat_lit 53), (nat_lit 53), (nat_lit 53), (nat_lit 54), (nat_lit 53), (nat_lit 55), (nat_lit 53), (nat_lit 56), (nat_lit 53), (nat_lit 57), (nat_lit 54), (nat_lit 48), (nat_lit 54), (nat_lit 49), (nat_lit 54), (nat_lit 50), (nat_lit 54), (nat_lit 51), (nat_lit 54), (nat_lit 52), (nat_lit 54), (nat_lit 53), (nat_lit 54), (nat_lit 54), (nat_lit 54), (nat_lit 55), (nat_lit 54), (nat_lit 56), (nat_lit 54), (nat_lit 57), (nat_lit 55), (nat_lit 48), (nat_lit 55), (nat_lit 49), (nat_lit 55), (nat_lit 50), (nat_lit 55), (nat_lit 51), (nat_lit 55), (nat_lit 52), (nat_lit 55), (nat_lit 53), (nat_lit 55), (nat_lit 54), (nat_lit 55), (nat_lit 55), (nat_lit 55), (nat_lit 56), (nat_lit 55), (nat_lit 57), (nat_lit 56), (nat_lit 48), (nat_lit 56), (nat_lit 49), (nat_lit 56), (nat_lit 50), (nat_lit 56), (nat_lit 51), (nat_lit 56), (nat_lit 52), (nat_lit 56), (nat_lit 53), (nat_lit 56), (nat_lit 54), (nat_lit 56), (nat_lit 55), (nat_lit 56), (nat_lit 56), (nat_lit 56), (nat_lit 57), (nat_lit 57), (nat_lit 48), (nat_lit 57), (nat_lit 49), (nat_lit 57), (nat_lit 50), (nat_lit 57), (nat_lit 51), (nat_lit 57), (nat_lit 52), (nat_lit 57), (nat_lit 53), (nat_lit 57), (nat_lit 54), (nat_lit 57), (nat_lit 55), (nat_lit 57), (nat_lit 56), (nat_lit 57), (nat_lit 57)])) T154),
    .op D156 (.ixaS (nat_lit 1) T145 T147),
    .op .no (.st (nat_lit 1) T156 T153),
    .op D157 (.ixaS (nat_lit 1) T148 T150),
    .op .no (.st (nat_lit 1) T157 T155)] [])
  (.reg [.op D158 (.mv T4),
    .op D159 (.bin .sub T158 (.c (.int .i64 (.ofNat (nat_lit 2))))),
    .op D4 (.mv T159)]))))
  (.skip)))
  (.seq (.reg [.op D160 (.mv T4),
    .op D161 (.bin .gtr T160 (.c (.int .i64 (.ofNat (nat_lit 0)))))])
  (.cond T161 (.reg [.op D162 (.mv T0),
    .op D163 (.mv T12),
    .op D164 (.bin .add (.c (.int .u32 (.ofNat (nat_lit 48)))) T163),
    .op D165 (.cvi .u8 T164),
    .op D166 (.ixaS (nat_lit 1) T162 (.c (.int .i64 (.ofNat (nat_lit 0))))),
    .op .no (.st (nat_lit 1) T166 T165)])
  (.skip))))))),
  []⟩
/-- internal/strconv.formatBits -/
noncomputable def ff170 : FFunc := ⟨.seq (.reg [.op D10 (.mv (.c (.nils))),
    .op D11 (.mv (.c (.str [])))])
  (.seq (.seq (.reg [.op D19 (.mv T2),
    .op D20 (.bin .lss T19 (.c (.int .i64 (.ofNat (nat_lit 2))))),
    .op D21 (.mv T20),
    .gop .n1 .n5 g21 (fun _ => rfl) false D22 (.mv T2),
    .gop .n1 .n5 g21 (fun _ => rfl) false D23 (.bin .eql T22 (.c (.int .i64 (.ofNat (nat_lit 10))))),
    .op D24 (.pick T21 (.c (.bool true)) T23),
    .op D25 (.mv T24),
    .gop .n1 .n9 g25 (fun _ => rfl) false D26 (.mv T2),
    .gop .n1 .n9 g25 (fun _ => rfl) false D27 (.bin .gtr T26 (.c (.int .i64 (.ofNat (nat_lit 36))))),
    .op D28 (.pick T25 (.c (.bool true)) T27)])
  (.cond T28 (.reg [.op D29 (.mkifc (nat_lit 9) (.c (.str [(nat_lit 115), (nat_lit 116), (nat_lit 114), (nat_lit 99), (nat_lit 111), (nat_lit 110), (nat_lit 118), (nat_lit 58), (nat_lit 32), (nat_lit 105), (nat_lit 108), (nat_lit 108), (nat_lit 101), (nat_lit 103), (nat_lit 97), (nat_lit 108), (nat_lit 32), (nat_lit 65), (nat_lit 112), (nat_lit 112), (nat_lit 101), (nat_lit 110), (nat_lit 100), (nat_lit 73), (nat_lit 110), (nat_lit 116), (nat_lit 47), (nat_lit 70), (nat_lit 111), (nat_lit 114), (nat_lit 109), (nat_lit 97), (nat_lit 116), (nat_lit 73), (nat_lit 110), (nat_lit 116), (nat_lit 32), (nat_lit 98), (nat_lit 97), (nat_lit 115), (nat_lit 101)]))),
    .op .no (.bad)])
  (.skip)))
  (.seq (.reg [.op D12 (.new [.int .u8 (.ofNat (nat_lit 0)), .int .u8 (.ofNat (nat_lit 0)), .int .u8 (.ofNat (nat_lit 0)), .int .u8 (.ofNat (nat_lit 0)), .int .u8 (.ofNat (nat_lit 0)), .int .u8 (.ofNat (nat_lit 0)), .int .u8 (.ofNat (nat_lit 0)), .int .u8 (.ofNat (nat_lit 0)), .int .u8 (.ofNat (nat_lit 0)), .int .u8 (.ofNat (nat_lit 0)), .int .u8 (.ofNat (nat_lit 0)), .int .u8 (.ofNat (nat_lit 0)), .int .u8 (.ofNat (nat_lit 0)), .int .u8 (.ofNat (nat_lit 0)), .int .u8 (.ofNat (nat_lit 0)), .int .u8 (.ofNat (nat_lit 0)), .int .u8 (.ofNat (nat_lit 0)), .int .u8 (.ofNat (nat_lit 0)), .int .u8 (.ofNat (nat_lit 0)), .int .u8 (.ofNat (nat_lit 0)), .int .u8 (.ofNat (nat_lit 0)), .int .u8 (.ofNat (nat_lit 0)), .int .u8 (.ofNat (nat_lit 0)), .int .u8 (.ofNat (nat_lit 0)), .int .u8 (.ofNat (nat_lit 0)), .int .u8 (.ofNat (nat_lit 0)), .int .u8 (.ofNat (nat_lit 0)), .int .u8 (.ofNat (nat_lit 0)), .int .u8 (.ofNat (nat_lit 0)), .int .u8 (.ofNat (nat_lit 0)), .int .u8 (.ofNat (nat_lit 0)), .int .u8 (.ofNat (nat_lit 0)), .int .u8 (.ofNat (nat_lit 0)), .int .u8 (.ofNat (nat_lit 0)), .int .u8 (.ofNat (nat_lit 0)), .int .u8 (.ofNat (nat_lit 0)), .int .u8 (.ofNat (nat_lit 0)), .int .u8 (.ofNat (nat_lit 0)), .int .u8 (.ofNat (nat_lit 0)), .int .u8 (.ofNat (nat_lit 0)), .int .u8 (.ofNat (nat_lit 0)), .int .u8 (.ofNat (nat_lit 0)), .int .u8 (.ofNat (nat_lit 0)), .int .u8 (.ofNat (nat_lit 0)), .int .u8 (.ofNat (nat_lit 0)), .int .u8 (.ofNat (nat_lit 0)), .int .u8 (.ofNat (nat_lit 0)), .int .u8 (.ofNat (nat_lit 0)), .int .u8 (.ofNat (nat_lit 0)), .int .u8 (.ofNat (nat_lit 0)), .int .u8 (.ofNat (nat_lit 0)), .int .u8 (.ofNat (nat_lit 0)), .int .u8 (.ofNat (nat_lit 0)), .int .u8 (.ofNat (nat_lit 0)), .int .u8 (.ofNat (nat_lit 0)), .int .u8 (.ofNat (nat_lit 0)), .int .u8 (.ofNat (nat_lit 0)), .int .u8 (.ofNat (nat_lit 0)), .int .u8 (.ofNat (nat_lit 0)), .int .u8 (.ofNat (nat_lit 0)), .int .u8 (.ofNat (nat_lit 0)), .int .u8 (.ofNat (nat_lit 0)), .int .u8 (.ofNat (nat_lit 0)), .int .u8 (.ofNat (nat_lit 0)), .int .u8 (.ofNat (nat_lit 0))])])
  (.seq (.reg [.op D13 (.mv (.c (.int .i64 (.ofNat (nat_lit 65)))))])
  (.seq (.seq (.reg [.op D30 (.mv T3)])
  (.cond T30 (.reg [.op D31 (.mv T1),
    .op D32 (.un .neg T31),
    .op D1 (.mv T32)])
  (.skip)))
  (.seq (.seq (.reg [.op D33 (.mv T2),
    .op D34 (.call (nat_lit 174) [T33])])
  (.cond T34 (.seq (.reg [.op D35 (.mv T2),
    .op D36 (.cvi .u64 T35),
    .op D37 (.call (nat_lit 175) [T36]),
    .op D38 (.cvi .u64 T37),
    .op D14 (.mv T38)])
  (.seq (.reg [.op D39 (.mv T2),
    .op D40 (.cvi .u64 T39),
    .op D15 (.mv T40)])
  (.seq (.reg [.op D41 (.mv T2),
    .op D42 (.cvi .u64 T41),
    .op D43 (.bin .sub T42 (.c (.int .u64 (.ofNat (nat_lit 1))))),
    .op D16 (.mv T43)])
  (.seq (.block (nat_lit 0) (.loop (.seq (.seq (.reg [.op D44 (.mv T1),
    .op D45 (.mv T15),
    .op D46 (.bin .geq T44 T45)])
  (.cond T46 (.skip)
  (.exit (nat_lit 0))))
  (.block (nat_lit 1) (.seq (.reg [.op D47 (.mv T13),
    .op D48 (.bin .sub T47 (.c (.int .i64 (.ofNat (nat_lit 1))))),
    .op D13 (.mv T48)])
  (.seq (.reg [.op D49 (.mv T13),
    .op D50 (.mv T1),
    .op D51 (.mv T16),
    .op D52 (.bin .and T50 T51),
    .op D53 (.ixS (.c (.str [(nat_lit 48), (nat_lit 49), (nat_lit 50), (nat_lit 51), (nat_lit 52), (nat_lit 53), (nat_lit 54), (nat_lit 55), (nat_lit 56), (nat_lit 57), (nat_lit 97), (nat_lit 98), (nat_lit 99), (nat_lit 100), (nat_lit 101), (nat_lit 102), (nat_lit 103), (nat_lit 104), (nat_lit 105), (nat_lit 106), (nat_lit 107), (nat_lit 108), (nat_lit 109), (nat_lit 110), (nat_lit 111), (nat_lit 112), (nat_lit 113), (nat_lit 114), (nat_lit 115), (nat_lit 116), (nat_lit 117), (nat_lit 118), (nat_lit 119), (nat_lit 120), (nat_lit 121), (nat_lit 122)])) T52),
    .op D54 (.ixaA (nat_lit 65) (nat_lit 1) T12 T49),
    .op .no (.st (nat_lit 1) T54 T53)])
  (.reg [.op D55 (.mv T1),
    .op D56 (.mv T14),
    .op D57 (.bin .shr T55 T56),
    .op D1 (.mv T57)])))))))
  (.seq (.reg [.op D58 (.mv T13),
    .op D59 (.bin .sub T58 (.c (.int .i64 (.ofNat (nat_lit 1))))),
    .op D13 (.mv T59)])
  (.reg [.op D60 (.mv T13),
    .op D61 (.mv T1),
    .op D62 (.ixS (.c (.str [(nat_lit 48), (nat_lit 49), (nat_lit 50), (nat_lit 51), (nat_lit 52), (nat_lit 53), (nat_lit 54), (nat_lit 55), (nat_lit 56), (nat_lit 57), (nat_lit 97), (nat_lit 98), (nat_lit 99), (nat_lit 100), (nat_lit 101), (nat_lit 102), (nat_lit 103), (nat_lit 104), (nat_lit 105), (nat_lit 106), (nat_lit 107), (nat_lit 108), (nat_lit 109), (nat_lit 110), (nat_lit 111), (nat_lit 112), (nat_lit 113), (nat_lit 114), (nat_lit 115), (nat_lit 116), (nat_lit 117), (nat_lit 118), (nat_lit 119), (nat_lit 120), (nat_lit 121), (nat_lit 122)])) T61),
    .op D63 (.ixaA (nat_lit 65) (nat_lit 1) T12 T60),
    .op .no (.st (nat_lit 1) T63 T62)]))))))
  (.seq (.reg [.op D64 (.mv T2),
    .op D65 (.cvi .u64 T64),
    .op D17 (.mv T65)])
  (.seq (.block (nat_lit 2) (.loop (.seq (.seq (.reg [.op D66 (.mv T1),
    .op D67 (.mv T17),
    .op D68 (.bin .geq T66 T67)])
  (.cond T68 (.skip)
  (.exit (nat_lit 2))))
  (.block (nat_lit 3) (.seq (.reg [.op D69 (.mv T13),
    .op D70 (.bin .sub T69 (.c (.int .i64 (.ofNat (nat_lit 1))))),
    .op D13 (.mv T70)])
  (.seq (.reg [.op D71 (.mv T1),
    .op D72 (.mv T17),
    .op D73 (.bin .quo T71 T72),
    .op D18 (.mv T73)])
  (.seq (.reg [.op D74 (.mv T13),
    .op D75 (.mv T1),
    .op D76 (.mv T18),
    .op D77 (.mv T17),
    .op D78 (.bin .mul T76 T77),
    .op D79 (.bin .sub T75 T78),
    .op D80 (.ixS (.c (.str [(nat_lit 48), (nat_lit 49), (nat_lit 50), (nat_lit 51), (nat_lit 52), (nat_lit 53), (nat_lit 54), (nat_lit 55), (nat_lit 56), (nat_lit 57), (nat_lit 97), (nat_lit 98), (nat_lit 99), (nat_lit 100), (nat_lit 101), (nat_lit 102), (nat_lit 103), (nat_lit 104), (nat_lit 105), (nat_lit 106), (nat_lit 107), (nat_lit 108), (nat_lit 109), (nat_lit 110), (nat_lit 111), (nat_lit 112), (nat_lit 113), (nat_lit 114), (nat_lit 115), (nat_lit 116), (nat_lit 117), (nat_lit 118), (nat_lit 119), (nat_lit 120), (nat_lit 121), (nat_lit 122)])) T79),
    .op D81 (.ixaA (nat_lit 65) (nat_lit 1) T12 T74),
    .op .no (.st (nat_lit 1) T81 T80)])
  (.reg [.op D82 (.mv T18),
    .op D1 (.mv T82)]))))))))
  (.seq (.reg [.op D83 (.mv T13),
    .op D84 (.bin .sub T83 (.c (.int .i64 (.ofNat (nat_lit 1))))),
    .op D13 (.mv T84)])
  (.reg [.op D85 (.mv T13),
    .op D86 (.mv T1),
    .op D87 (.ixS (.c (.str [(nat_lit 48), (nat_lit 49), (nat_lit 50), (nat_lit 51), (nat_lit 52), (nat_lit 53), (nat_lit 54), (nat_lit 55), (nat_lit 56), (nat_lit 57), (nat_lit 97), (nat_lit 98), (nat_lit 99), (nat_lit 100), (nat_lit 101), (nat_lit 102), (nat_lit 103), (nat_lit 104), (nat_lit 105), (nat_lit 106), (nat_lit 107), (nat_lit 108), (nat_lit 109), (nat_lit 110), (nat_lit 111), (nat_lit 112), (nat_lit 113), (nat_lit 114), (nat_lit 115), (nat_lit 116), (nat_lit 117), (nat_lit 118), (nat_lit 119), (nat_lit 120), (nat_lit 121), (nat_lit 122)])) T86),
    .op D88 (.ixaA (nat_lit 65) (nat_lit 1) T12 T85),
    .op .no (.st (nat_lit 1) T88 T87)]))))))
  (.seq (.seq (.reg [.op D89 (.mv T3)])
  (.cond T89 (.seq (.reg [.op D90 (.mv T13),
    .op D91 (.bin .sub T90 (.c (.int .i64 (.ofNat (nat_lit 1))))),
    .op D13 (.mv T91)])
  (.reg [.op D92 (.mv T13),
    .op D93 (.ixaA (nat_lit 65) (nat_lit 1) T12 T92),
    .op .no (.st (nat_lit 1) T93 (.c (.int .u8 (.ofNat (nat_lit 45)))))]))
  (.skip)))
  (.seq (.seq (.reg [.op D94 (.mv T4)])
  (.cond T94 (.seq (.reg [.op D95 (.mv T0),
    .op D96 (.mv T13),
    .op D97 (.slArr (nat_lit 65) (nat_lit 1) T12 (.is T96) .no .no),
    .op D98 (.app (nat_lit 1) (nat_lit 1) T95 T97),
    .op D10 (.mv T98)])
  (.ret))
  (.skip)))
  (.seq (.reg [.op D99 (.mv T13),
    .op D100 (.slArr (nat_lit 65) (nat_lit 1) T12 (.is T99) .no .no),
    .op D101 (.bad),
    .op D11 (.mv T101)])
  (.ret))))))))),
  [.t .n0 .n10 g10 (fun _ => rfl), .t .n0 .n11 g11 (fun _ => rfl)]⟩
/-- internal/strconv.log10Pow2 -/
noncomputable def ff171 : FFunc := ⟨.seq (.reg [.op D2 (.mv (.c (.int .i64 (.ofNat (nat_lit 0)))))])
  (.seq (.reg [.op D3 (.mv T0),
    .op D4 (.bin .mul T3 (.c (.int .i64 (.ofNat (nat_lit 78913))))),
    .op D5 (.bin .shr T4 (.c (.int .u64 (.ofNat (nat_lit 18))))),
    .op D2 (.mv T5)])
  (.ret)),
  [.t .n0 .n2 g2 (fun _ => rfl)]⟩
/-- math/bits.Len64 -/
noncomputable def ff172 : FFunc := ⟨.seq (.reg [.op D2 (.mv (.c (.int .i64 (.ofNat (nat_lit 0)))))])
  (.seq (.seq (.reg [.op D3 (.mv T0),
    .op D4 (.bin .geq T3 (.c (.int .u64 (.ofNat (nat_lit 4294967296)))))])
  (.cond T4 (.seq (.reg [.op D5 (.mv T0),
    .op D6 (.bin .shr T5 (.c (.int .u64 (.ofNat (nat_lit 32))))),
    .op D0 (.mv T6)])
  (.reg [.op D2 (.mv (.c (.int .i64 (.ofNat (nat_lit 32)))))]))
  (.skip)))
  (.seq (.seq (.reg [.op D7 (.mv T0),
    .op D8 (.bin .geq T7 (.c (.int .u64 (.ofNat (nat_lit 65536)))))])
  (.cond T8 (.seq (.reg [.op D9 (.mv T0),
    .op D10 (.bin .shr T9 (.c (.int .u64 (.ofNat (nat_lit 16))))),
    .op D0 (.mv T10)])
  (.reg [.op D11 (.mv T2),
    .op D12 (.bin .add T11 (.c (.int .i64 (.ofNat (nat_lit 16))))),
    .op D2 (.mv T12)]))
  (.skip)))
  (.seq (.seq (.reg [.op D13 (.mv T0),
    .op D14 (.bin .geq T13 (.c (.int .u64 (.ofNat (nat_lit 256)))))])
  (.cond T14 (.seq (.reg [.op D15 (.mv T0),
    .op D16 (.bin .shr T15 (.c (.int .u64 (.ofNat (nat_lit 8))))),
    .op D0 (.mv T16)])
  (.reg [.op D17 (.mv T2),
    .op D18 (.bin .add T17 (.c (.int .i64 (.ofNat (nat_lit 8))))),
    .op D2 (.mv T18)]))
  (.skip)))
  (.seq (.reg [.op D19 (.mv T2),
    .op D20 (.mv T0),
    .op D21 (.cvi .u8 T20),
    .op D22 (.ixS (.c (.str [(nat_lit 0), (nat_lit 1), (nat_lit 2), (nat_lit 2), (nat_lit 3), (nat_lit 3), (nat_lit 3), (nat_lit 3), (nat_lit 4), (nat_lit 4), (nat_lit 4), (nat_lit 4), (nat_lit 4), (nat_lit 4), (nat_lit 4), (nat_lit 4), (nat_lit 5), (nat_lit 5), (nat_lit 5), (nat_lit 5), (nat_lit 5), (nat_lit 5), (nat_lit 5), (nat_lit 5), (nat_lit 5), (nat_lit 5), (nat_lit 5), (nat_lit 5), (nat_lit 5), (nat_lit 5), (nat_lit 5), (nat_lit 5), (nat_lit 6), (nat_lit 6), (nat_lit 6), (nat_lit 6), (nat_lit 6), (nat_lit 6), (nat_lit 6), (nat_lit 6), (nat_lit 6), (nat_lit 6), (nat_lit 6), (nat_lit 6), (nat_lit 6), (nat_lit 6), (nat_lit 6), (nat_lit 6), (nat_lit 6), (nat_lit 6), (nat_lit 6), (nat_lit 6), (nat_lit 6), (nat_lit 6), (nat_lit 6), (nat_lit 6), (nat_lit 6), (nat_lit 6), (nat_lit 6), (nat_lit 6), (nat_lit 6), (nat_lit 6), (nat_lit 6), (nat_lit 6), (nat_lit 7), (nat_lit 7), (nat_lit 7), (nat_lit 7), (nat_lit 7), (nat_lit 7), (nat_lit 7), (nat_lit 7), (nat_lit 7), (nat_lit 7), (nat_lit 7), (nat_lit 7), (nat_lit 7), (nat_lit 7), (nat_lit 7), (nat_lit 7), (nat_lit 7), (nat_lit 7), (nat_lit 7), (nat_lit 7), (nat_lit 7), (nat_lit 7), (nat_lit 7), (nat_lit 7), (nat_lit 7), (nat_lit 7), (nat_lit 7), (nat_lit 7), (nat_lit 7), (nat_lit 7), (nat_lit 7), (nat_lit 7), (nat_lit 7), (nat_lit 7), (nat_lit 7), (nat_lit 7), (nat_lit 7), (nat_lit 7), (nat_lit 7), (nat_lit 7), (nat_lit 7), (nat_lit 7), (nat_lit 7), (nat_lit 7), (nat_lit 7), (nat_lit 7), (nat_lit 7), (nat_lit 7), (nat_lit 7), (nat_lit 7), (nat_lit 7), (nat_lit 7), (nat_lit 7), (nat_lit 7), (nat_lit 7), (nat_lit 7), (nat_lit 7), (nat_lit 7), (nat_lit 7), (nat_lit 7), (nat_lit 7), (nat_lit 7), (nat_lit 7), (nat_lit 7), (nat_lit 8), (nat_lit 8), (nat_lit 8), (nat_lit 8), (nat_lit 8), (nat_lit 8), (nat_lit 8), (nat_lit 8), (nat_lit 8), (nat_lit 8), (nat_lit 8), (nat_lit 8), (nat_lit 8), (nat_lit 8), (nat_lit 8), (nat_lit 8), (nat_lit 8), (nat_lit 8), (nat_lit 8), (nat_lit 8), (nat_lit 8), (nat_lit 8), (nat_lit 8), (nat_lit 8), (nat_lit 8), (nat_lit 8), (nat_lit 8), (nat_lit 8), (nat_lit 8), (nat_lit 8), (nat_lit 8), (nat_lit 8), (nat_lit 8), (nat_lit 8), (nat_lit 8), (nat_lit 8), (nat_lit 8), (nat_lit 8), (nat_lit 8), (nat_lit 8), (nat_lit 8), (nat_lit 8), (nat_lit 8), (nat_lit 8), (nat_lit 8), (nat_lit 8), (nat_lit 8), (nat_lit 8), (nat_lit 8), (nat_lit 8), (nat_lit 8), (nat_lit 8), (nat_lit 8), (nat_lit 8), (nat_lit 8), (nat_lit 8), (nat_lit 8), (nat_lit 8), (nat_lit 8), (nat_lit 8), (nat_lit 8), (nat_lit 8), (nat_lit 8), (nat_lit 8), (nat_lit 8), (nat_lit 8), (nat_lit 8), (nat_lit 8), (nat_lit 8), (nat_lit 8), (nat_lit 8), (nat_lit 8), (nat_lit 8), (nat_lit 8), (nat_lit 8), (nat_lit 8), (nat_lit 8), (nat_lit 8), (nat_lit 8), (nat_lit 8), (nat_lit 8), (nat_lit 8), (nat_lit 8), (nat_lit 8), (nat_lit 8), (nat_lit 8), (nat_lit 8), (nat_lit 8), (nat_lit 8), (nat_lit 8), (nat_lit 8), (nat_lit 8), (nat_lit 8), (nat_lit 8), (nat_lit 8), (nat_lit 8), (nat_lit 8), (nat_lit 8), (nat_lit 8), (nat_lit 8), (nat_lit 8), (nat_lit 8), (nat_lit 8), (nat_lit 8), (nat_lit 8), (nat_lit 8), (nat_lit 8), (nat_lit 8), (nat_lit 8), (nat_lit 8), (nat_lit 8), (nat_lit 8), (nat_lit 8), (nat_lit 8), (nat_lit 8), (nat_lit 8), (nat_lit 8), (nat_lit 8), (nat_lit 8), (nat_lit 8), (nat_lit 8), (nat_lit 8), (nat_lit 8), (nat_lit 8), (nat_lit 8), (nat_lit 8), (nat_lit 8), (nat_lit 8)])) T21),
    .op D23 (.cvi .i64 T22),
    .op D24 (.bin .add T19 T23),
    .op D2 (.mv T24)])
  (.ret))))),
  [.t .n0 .n2 g2 (fun _ => rfl)]⟩
/-- internal/strconv.bool2[int] -/
noncomputable def ff173 : FFunc := ⟨.seq (.reg [.op D2 (.mv (.c (.int .i64 (.ofNat (nat_lit 0)))))])
  (.seq (.seq (.reg [.op D3 (.mv T0)])
  (.cond T3 (.seq (.reg [.op D2 (.mv (.c (.int .i64 (.ofNat (nat_lit 1)))))])
  (.ret))
  (.skip)))
  (.seq (.reg [.op D2 (.mv (.c (.int .i64 (.ofNat (nat_lit 0)))))])
  (.ret))),
  [.t .n0 .n2 g2 (fun _ => rfl)]⟩
/-- internal/strconv.isPowerOfTwo -/
noncomputable def ff174 : FFunc := ⟨.seq (.reg [.op D2 (.mv (.c (.bool false)))])
  (.seq (.reg [.op D3 (.mv T0),
    .op D4 (.mv T0),
    .op D5 (.bin .sub T4 (.c (.int .i64 (.ofNat (nat_lit 1))))),
    .op D6 (.bin .and T3 T5),
    .op D7 (.bin .eql T6 (.c (.int .i64 (.ofNat (nat_lit 0))))),
    .op D2 (.mv T7)])
  (.ret)),
  [.t .n0 .n2 g2 (fun _ => rfl)]⟩
/-- math/bits.TrailingZeros -/
noncomputable def ff175 : FFunc := ⟨.seq (.reg [.op D2 (.mv (.c (.int .i64 (.ofNat (nat_lit 0)))))])
  (.seq (.cond (.c (.bool false)) (.seq (.reg [.op D3 (.mv T0),
    .op D4 (.cvi .u32 T3),
    .op D5 (.call (nat_lit 176) [T4]),
    .op D2 (.mv T5)])
  (.ret))
  (.skip))
  (.seq (.reg [.op D6 (.mv T0),
    .op D7 (.call (nat_lit 177) [T6]),
    .op D2 (.mv T7)])
  (.ret))),
  [.t .n0 .n2 g2 (fun _ => rfl)]⟩
/-- math/bits.TrailingZeros32 -/
noncomputable def ff176 : FFunc := ⟨.seq (.reg [.op D2 (.mv (.c (.int .i64 (.ofNat (nat_lit 0)))))])
  (.seq (.seq (.reg [.op D3 (.mv T0),
    .op D4 (.bin .eql T3 (.c (.int .u32 (.ofNat (nat_lit 0)))))])
  (.cond T4 (.seq (.reg [.op D2 (.mv (.c (.int .i64 (.ofNat (nat_lit 32)))))])
  (.ret))
  (.skip)))
  (.seq (.reg [.op D5 (.mv T0),
    .op D6 (.mv T0),
    .op D7 (.un .neg T6),
    .op D8 (.bin .and T5 T7),
    .op D9 (.bin .mul T8 (.c (.int .u32 (.ofNat (nat_lit 125613361))))),
    .op D10 (.bin .shr T9 (.c (.int .u64 (.ofNat (nat_lit 27))))),
    .op D11 (.ixaA (nat_lit 32) (nat_lit 1) (.c (.ptr (nat_lit 2) (nat_lit 0))) T10),
    .op D12 (.ld1 T11),
    .op D13 (.cvi .i64 T12),
    .op D2 (.mv T13)])
  (.ret))),
  [.t .n0 .n2 g2 (fun _ => rfl)]⟩
/-- math/bits.TrailingZeros64 -/
noncomputable def ff177 : FFunc := ⟨.seq (.reg [.op D2 (.mv (.c (.int .i64 (.ofNat (nat_lit 0)))))])
  (.seq (.seq (.reg [.op D3 (.mv T0),
    .op D4 (.bin .eql T3 (.c (.int .u64 (.ofNat (nat_lit 0)))))])
  (.cond T4 (.seq (.reg [.op D2 (.mv (.c (.int .i64 (.ofNat (nat_lit 64)))))])
  (.ret))
  (.skip)))
  (.seq (.reg [.op D5 (.mv T0),
    .op D6 (.mv T0),
    .op D7 (.un .neg T6),
    .op D8 (.bin .and T5 T7),
    .op D9 (.bin .mul T8 (.c (.int .u64 (.ofNat (nat_lit 285870213051353865))))),
    .op D10 (.bin .shr T9 (.c (.int .u64 (.ofNat (nat_lit 58))))),
    .op D11 (.ixaA (nat_lit 64) (nat_lit 1) (.c (.ptr (nat_lit 3) (nat_lit 0))) T10),
    .op D12 (.ld1 T11),
    .op D13 (.cvi .i64 T12),
    .op D2 (.mv T13)])
  (.ret))),
  [.t .n0 .n2 g2 (fun _ => rfl)]⟩
end Go.Ev.Pg
