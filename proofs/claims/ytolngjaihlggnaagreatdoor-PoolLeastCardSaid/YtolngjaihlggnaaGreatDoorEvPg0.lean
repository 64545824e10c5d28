import Derived.Test.YtolngjaihlggnaaGreatDoorEvFast
namespace Go.Ev.Pg
/-- messuage/messuagelaw2.WordEdge -/
noncomputable def ff3 : FFunc := ⟨.seq (.reg [.op D6 (.mv (.c (.bool false)))])
  (.seq (.reg [.op D10 (.call (nat_lit 8) []),
    .op D7 (.mv T10)])
  (.seq (.seq (.reg [.op D11 (.mv T7),
    .op D12 (.un .not T11)])
  (.cond T12 (.seq (.reg [.op D6 (.mv (.c (.bool false)))])
  (.ret))
  (.skip)))
  (.seq (.reg [.op D13 (.bsl (nat_lit 1) [.int .i64 (.ofNat (nat_lit 0)), .int .i64 (.ofNat (nat_lit 0)), .int .i64 (.ofNat (nat_lit 0)), .int .i64 (.ofNat (nat_lit 0)), .int .i64 (.ofNat (nat_lit 0)), .int .i64 (.ofNat (nat_lit 0)), .int .i64 (.ofNat (nat_lit 0)), .int .i64 (.ofNat (nat_lit 0)), .int .i64 (.ofNat (nat_lit 0)), .int .i64 (.ofNat (nat_lit 0)), .int .i64 (.ofNat (nat_lit 0)), .int .i64 (.ofNat (nat_lit 0)), .int .i64 (.ofNat (nat_lit 0))] (nat_lit 13) [((nat_lit 0), (nat_lit 1), .c (.int .i64 (.ofNat (nat_lit 1)))), ((nat_lit 1), (nat_lit 1), .c (.int .i64 (.ofNat (nat_lit 2)))), ((nat_lit 2), (nat_lit 1), .c (.int .i64 (.ofNat (nat_lit 3)))), ((nat_lit 3), (nat_lit 1), .c (.int .i64 (.ofNat (nat_lit 4)))), ((nat_lit 4), (nat_lit 1), .c (.int .i64 (.ofNat (nat_lit 5)))), ((nat_lit 5), (nat_lit 1), .c (.int .i64 (.ofNat (nat_lit 6)))), ((nat_lit 6), (nat_lit 1), .c (.int .i64 (.ofNat (nat_lit 7)))), ((nat_lit 7), (nat_lit 1), .c (.int .i64 (.ofNat (nat_lit 8)))), ((nat_lit 8), (nat_lit 1), .c (.int .i64 (.ofNat (nat_lit 9)))), ((nat_lit 9), (nat_lit 1), .c (.int .i64 (.ofNat (nat_lit 20)))), ((nat_lit 10), (nat_lit 1), .c (.int .i64 (.ofNat (nat_lit 21)))), ((nat_lit 11), (nat_lit 1), .c (.int .i64 (.ofNat (nat_lit 22)))), ((nat_lit 12), (nat_lit 1), .c (.int .i64 (.ofNat (nat_lit 23))))]),
    .op D14 (.mv T0),
    .op D15 (.bin .rem T14 (.c (.int .i64 (.ofNat (nat_lit 13))))),
    .op D16 (.bin .add T15 (.c (.int .i64 (.ofNat (nat_lit 13))))),
    .op D17 (.bin .rem T16 (.c (.int .i64 (.ofNat (nat_lit 13))))),
    .op D18 (.ixaS (nat_lit 1) T13 T17),
    .op D19 (.ld1 T18),
    .op D0 (.mv T19)])
  (.seq (.reg [.op D20 (.mkmap),
    .op D21 (.build [.int .u64 (.ofNat (nat_lit 0)), .int .u64 (.ofNat (nat_lit 0)), .int .u64 (.ofNat (nat_lit 0)), .int .u64 (.ofNat (nat_lit 0)), .int .u64 (.ofNat (nat_lit 0))] [((nat_lit 0), (nat_lit 1), .c (.int .u64 (.ofNat (nat_lit 1)))), ((nat_lit 1), (nat_lit 1), .c (.int .u64 (.ofNat (nat_lit 7))))]),
    .op .no (.mput (.sc .int) (nat_lit 0) T20 (.c (.int .i64 (.ofNat (nat_lit 1)))) T21),
    .op D22 (.build [.int .u64 (.ofNat (nat_lit 0)), .int .u64 (.ofNat (nat_lit 0)), .int .u64 (.ofNat (nat_lit 0)), .int .u64 (.ofNat (nat_lit 0)), .int .u64 (.ofNat (nat_lit 0))] [((nat_lit 0), (nat_lit 1), .c (.int .u64 (.ofNat (nat_lit 2)))), ((nat_lit 1), (nat_lit 1), .c (.int .u64 (.ofNat (nat_lit 7)))), ((nat_lit 2), (nat_lit 1), .c (.int .u64 (.ofNat (nat_lit 7)))), ((nat_lit 3), (nat_lit 1), .c (.int .u64 (.ofNat (nat_lit 3))))]),
    .op .no (.mput (.sc .int) (nat_lit 0) T20 (.c (.int .i64 (.ofNat (nat_lit 2)))) T22),
    .op D23 (.build [.int .u64 (.ofNat (nat_lit 0)), .int .u64 (.ofNat (nat_lit 0)), .int .u64 (.ofNat (nat_lit 0)), .int .u64 (.ofNat (nat_lit 0)), .int .u64 (.ofNat (nat_lit 0))] [((nat_lit 0), (nat_lit 1), .c (.int .u64 (.ofNat (nat_lit 3)))), ((nat_lit 1), (nat_lit 1), .c (.int .u64 (.ofNat (nat_lit 7)))), ((nat_lit 2), (nat_lit 1), .c (.int .u64 (.ofNat (nat_lit 3)))), ((nat_lit 3), (nat_lit 1), .c (.int .u64 (.ofNat (nat_lit 7)))), ((nat_lit 4), (nat_lit 1), .c (.int .u64 (.ofNat (nat_lit 3))))]),
    .op .no (.mput (.sc .int) (nat_lit 0) T20 (.c (.int .i64 (.ofNat (nat_lit 3)))) T23),
    .op D24 (.build [.int .u64 (.ofNat (nat_lit 0)), .int .u64 (.ofNat (nat_lit 0)), .int .u64 (.ofNat (nat_lit 0)), .int .u64 (.ofNat (nat_lit 0)), .int .u64 (.ofNat (nat_lit 0))] [((nat_lit 0), (nat_lit 1), .c (.int .u64 (.ofNat (nat_lit 4)))), ((nat_lit 1), (nat_lit 1), .c (.int .u64 (.ofNat (nat_lit 7))))]),
    .op .no (.mput (.sc .int) (nat_lit 0) T20 (.c (.int .i64 (.ofNat (nat_lit 4)))) T24),
    .op D25 (.build [.int .u64 (.ofNat (nat_lit 0)), .int .u64 (.ofNat (nat_lit 0)), .int .u64 (.ofNat (nat_lit 0)), .int .u64 (.ofNat (nat_lit 0)), .int .u64 (.ofNat (nat_lit 0))] [((nat_lit 0), (nat_lit 1), .c (.int .u64 (.ofNat (nat_lit 5)))), ((nat_lit 1), (nat_lit 1), .c (.int .u64 (.ofNat (nat_lit 7))))]),
    .op .no (.mput (.sc .int) (nat_lit 0) T20 (.c (.int .i64 (.ofNat (nat_lit 5)))) T25),
    .op D26 (.build [.int .u64 (.ofNat (nat_lit 0)), .int .u64 (.ofNat (nat_lit 0)), .int .u64 (.ofNat (nat_lit 0)), .int .u64 (.ofNat (nat_lit 0)), .int .u64 (.ofNat (nat_lit 0))] [((nat_lit 0), (nat_lit 1), .c (.int .u64 (.ofNat (nat_lit 6)))), ((nat_lit 1), (nat_lit 1), .c (.int .u64 (.ofNat (nat_lit 7)))), ((nat_lit 2), (nat_lit 1), .c (.int .u64 (.ofNat (nat_lit 7)))), ((nat_lit 3), (nat_lit 1), .c (.int .u64 (.ofNat (nat_lit 3))))]),
    .op .no (.mput (.sc .int) (nat_lit 0) T20 (.c (.int .i64 (.ofNat (nat_lit 6)))) T26),
    .op D27 (.build [.int .u64 (.ofNat (nat_lit 0)), .int .u64 (.ofNat (nat_lit 0)), .int .u64 (.ofNat (nat_lit 0)), .int .u64 (.ofNat (nat_lit 0)), .int .u64 (.ofNat (nat_lit 0))] [((nat_lit 0), (nat_lit 1), .c (.int .u64 (.ofNat (nat_lit 7)))), ((nat_lit 1), (nat_lit 1), .c (.int .u64 (.ofNat (nat_lit 7))))]),
    .op .no (.mput (.sc .int) (nat_lit 0) T20 (.c (.int .i64 (.ofNat (nat_lit 7)))) T27),
    .op D28 (.build [.int .u64 (.ofNat (nat_lit 0)), .int .u64 (.ofNat (nat_lit 0)), .int .u64 (.ofNat (nat_lit 0)), .int .u64 (.ofNat (nat_lit 0)), .int .u64 (.ofNat (nat_lit 0))] [((nat_lit 0), (nat_lit 1), .c (.int .u64 (.ofNat (nat_lit 8)))), ((nat_lit 1), (nat_lit 1), .c (.int .u64 (.ofNat (nat_lit 7)))), ((nat_lit 2), (nat_lit 1), .c (.int .u64 (.ofNat (nat_lit 3))))]),
    .op .no (.mput (.sc .int) (nat_lit 0) T20 (.c (.int .i64 (.ofNat (nat_lit 8)))) T28),
    .op D29 (.build [.int .u64 (.ofNat (nat_lit 0)), .int .u64 (.ofNat (nat_lit 0)), .int .u64 (.ofNat (nat_lit 0)), .int .u64 (.ofNat (nat_lit 0)), .int .u64 (.ofNat (nat_lit 0))] [((nat_lit 0), (nat_lit 1), .c (.int .u64 (.ofNat (nat_lit 9)))), ((nat_lit 1), (nat_lit 1), .c (.int .u64 (.ofNat (nat_lit 7)))), ((nat_lit 2), (nat_lit 1), .c (.int .u64 (.ofNat (nat_lit 15)))), ((nat_lit 3), (nat_lit 1), .c (.int .u64 (.ofNat (nat_lit 4)))), ((nat_lit 4), (nat_lit 1), .c (.int .u64 (.ofNat (nat_lit 9))))]),
    .op .no (.mput (.sc .int) (nat_lit 0) T20 (.c (.int .i64 (.ofNat (nat_lit 9)))) T29),
    .op D30 (.build [.int .u64 (.ofNat (nat_lit 0)), .int .u64 (.ofNat (nat_lit 0)), .int .u64 (.ofNat (nat_lit 0)), .int .u64 (.ofNat (nat_lit 0)), .int .u64 (.ofNat (nat_lit 0))] [((nat_lit 0), (nat_lit 1), .c (.int .u64 (.ofNat (nat_lit 20)))), ((nat_lit 1), (nat_lit 1), .c (.int .u64 (.ofNat (nat_lit 7)))), ((nat_lit 2), (nat_lit 1), .c (.int .u64 (.ofNat (nat_lit 15))))]),
    .op .no (.mput (.sc .int) (nat_lit 0) T20 (.c (.int .i64 (.ofNat (nat_lit 20)))) T30),
    .op D31 (.build [.int .u64 (.ofNat (nat_lit 0)), .int .u64 (.ofNat (nat_lit 0)), .int .u64 (.ofNat (nat_lit 0)), .int .u64 (.ofNat (nat_lit 0)), .int .u64 (.ofNat (nat_lit 0))] [((nat_lit 0), (nat_lit 1), .c (.int .u64 (.ofNat (nat_lit 21)))), ((nat_lit 1), (nat_lit 1), .c (.int .u64 (.ofNat (nat_lit 7)))), ((nat_lit 2), (nat_lit 1), .c (.int .u64 (.ofNat (nat_lit 15)))), ((nat_lit 3), (nat_lit 1), .c (.int .u64 (.ofNat (nat_lit 9))))]),
    .op .no (.mput (.sc .int) (nat_lit 0) T20 (.c (.int .i64 (.ofNat (nat_lit 21)))) T31),
    .op D32 (.build [.int .u64 (.ofNat (nat_lit 0)), .int .u64 (.ofNat (nat_lit 0)), .int .u64 (.ofNat (nat_lit 0)), .int .u64 (.ofNat (nat_lit 0)), .int .u64 (.ofNat (nat_lit 0))] [((nat_lit 0), (nat_lit 1), .c (.int .u64 (.ofNat (nat_lit 22)))), ((nat_lit 1), (nat_lit 1), .c (.int .u64 (.ofNat (nat_lit 7)))), ((nat_lit 2), (nat_lit 1), .c (.int .u64 (.ofNat (nat_lit 15)))), ((nat_lit 3), (nat_lit 1), .c (.int .u64 (.ofNat (nat_lit 9)))), ((nat_lit 4), (nat_lit 1), .c (.int .u64 (.ofNat (nat_lit 9))))]),
    .op .no (.mput (.sc .int) (nat_lit 0) T20 (.c (.int .i64 (.ofNat (nat_lit 22)))) T32),
    .op D33 (.build [.int .u64 (.ofNat (nat_lit 0)), .int .u64 (.ofNat (nat_lit 0)), .int .u64 (.ofNat (nat_lit 0)), .int .u64 (.ofNat (nat_lit 0)), .int .u64 (.ofNat (nat_lit 0))] [((nat_lit 0), (nat_lit 1), .c (.int .u64 (.ofNat (nat_lit 23)))), ((nat_lit 1), (nat_lit 1), .c (.int .u64 (.ofNat (nat_lit 7)))), ((nat_lit 2), (nat_lit 1), .c (.int .u64 (.ofNat (nat_lit 15)))), ((nat_lit 3), (nat_lit 1), .c (.int .u64 (.ofNat (nat_lit 9))))]),
    .op .no (.mput (.sc .int) (nat_lit 0) T20 (.c (.int .i64 (.ofNat (nat_lit 23)))) T33),
    .op D34 (.mv T20),
    .op D35 (.mv T0),
    .op D36 (.look (.sc .int) (nat_lit 0) (.agg [.int .u64 (.ofNat (nat_lit 0)), .int .u64 (.ofNat (nat_lit 0)), .int .u64 (.ofNat (nat_lit 0)), .int .u64 (.ofNat (nat_lit 0)), .int .u64 (.ofNat (nat_lit 0))]) false T34 T35),
    .op D8 (.new [.int .u64 (.ofNat (nat_lit 0)), .int .u64 (.ofNat (nat_lit 0)), .int .u64 (.ofNat (nat_lit 0)), .int .u64 (.ofNat (nat_lit 0)), .int .u64 (.ofNat (nat_lit 0))]),
    .op .no (.st (nat_lit 5) T8 T36)])
  (.seq (.seq (.reg [.op D37 (.ldA (nat_lit 5) T8),
    .op D38 (.call (nat_lit 9) [T37, .c (.int .i64 (.ofNat (nat_lit 4)))]),
    .op D39 (.bin .neq T38 (.c (.int .i64 (.ofNat (nat_lit 0)))))])
  (.cond T39 (.seq (.reg [.op D6 (.mv (.c (.bool false)))])
  (.ret))
  (.skip)))
  (.seq (.reg [.op D40 (.mv T1),
    .op D41 (.bin .rem T40 (.c (.int .i64 (.ofNat (nat_lit 4))))),
    .op D42 (.bin .add T41 (.c (.int .i64 (.ofNat (nat_lit 4))))),
    .op D43 (.bin .rem T42 (.c (.int .i64 (.ofNat (nat_lit 4))))),
    .op D44 (.bin .add (.c (.int .i64 (.ofNat (nat_lit 1)))) T43),
    .op D1 (.mv T44)])
  (.seq (.reg [.op D45 (.ldA (nat_lit 5) T8),
    .op D9 (.new [.int .u64 (.ofNat (nat_lit 0)), .int .u64 (.ofNat (nat_lit 0)), .int .u64 (.ofNat (nat_lit 0)), .int .u64 (.ofNat (nat_lit 0)), .int .u64 (.ofNat (nat_lit 0))]),
    .op .no (.st (nat_lit 5) T9 T45)])
  (.seq (.seq (.reg [.op D46 (.mv T2)])
  (.cond T46 (.reg [.op D47 (.mv T1),
    .op D48 (.ixaA (nat_lit 5) (nat_lit 1) T9 T47),
    .op D49 (.ld1 T48),
    .op D50 (.bin .add T49 (.c (.int .u64 (.ofNat (nat_lit 1))))),
    .op D51 (.ixaA (nat_lit 5) (nat_lit 1) T9 T47),
    .op .no (.st (nat_lit 1) T51 T50)])
  (.reg [.op D52 (.mv T1),
    .op D53 (.ixaA (nat_lit 5) (nat_lit 1) T9 T52),
    .op .no (.st (nat_lit 1) T53 (.c (.int .u64 (.ofNat (nat_lit 0)))))])))
  (.seq (.drw [.op D54 (.ldA (nat_lit 5) T9),
    .op D55 (.call (nat_lit 9) [T54, .c (.int .i64 (.ofNat (nat_lit 4)))]),
    .op D56 (.ldA (nat_lit 5) T9),
    .op D57 (.call (nat_lit 10) [T56, .c (.int .i64 (.ofNat (nat_lit 4)))]),
    .op D58 (.bin .eql T55 T57),
    .op D6 (.mv T58)] [((nat_lit 2), (nat_lit 1))])
  (.ret)))))))))),
  [.t .n0 .n6 g6 (fun _ => rfl)]⟩
/-- messuage/messuagelaw2.MailOrder -/
noncomputable def ff4 : FFunc := ⟨.seq (.reg [.op D2 (.mv (.c (.bool false)))])
  (.seq (.reg [.op D12 (.call (nat_lit 8) []),
    .op D3 (.mv T12)])
  (.seq (.seq (.reg [.op D13 (.mv T3),
    .op D14 (.un .not T13)])
  (.cond T14 (.seq (.reg [.op D2 (.mv (.c (.bool false)))])
  (.ret))
  (.skip)))
  (.seq (.reg [.op D15 (.call (nat_lit 11) [.c (.int .i64 (.ofNat (nat_lit 2)))]),
    .op D4 (.mv T15)])
  (.seq (.reg [.op D5 (.mv (.c (.nils)))])
  (.seq (.seq (.reg [.op D6 (.mv (.c (.int .i64 (.ofNat (nat_lit 0)))))])
  (.block (nat_lit 0) (.loop (.seq (.seq (.reg [.op D16 (.mv T6),
    .op D17 (.mv T0),
    .op D18 (.lenL T17),
    .op D19 (.bin .lss T16 T18),
    .op D20 (.mv T19),
    .gop .n1 .n4 g20 (fun _ => rfl) true D21 (.mv T6),
    .gop .n1 .n4 g20 (fun _ => rfl) true D22 (.bin .lss T21 (.c (.int .i64 (.ofNat (nat_lit 30))))),
    .op D23 (.pick T20 T22 (.c (.bool false)))])
  (.cond T23 (.skip)
  (.exit (nat_lit 0))))
  (.seq (.block (nat_lit 1) (.seq (.seq (.reg [.op D26 (.mv T4),
    .op D27 (.mv T0),
    .op D28 (.mv T6),
    .op D29 (.ixaS (nat_lit 1) T27 T28),
    .op D30 (.ld1 T29),
    .op D31 (.call (nat_lit 12) [T26, .c (.int .i64 (.ofNat (nat_lit 0))), .c (.int .i64 (.ofNat (nat_lit 1))), T30]),
    .op D32 (.un .not T31)])
  (.cond T32 (.seq (.reg [.op D2 (.mv (.c (.bool false)))])
  (.ret))
  (.skip)))
  (.reg [.op D33 (.mv T5),
    .op D34 (.mv T0),
    .op D35 (.mv T6),
    .op D36 (.ixaS (nat_lit 1) T34 T35),
    .op D37 (.ld1 T36),
    .op D38 (.call (nat_lit 13) [T33, T37]),
    .op D5 (.mv T38)])))
  (.reg [.op D24 (.mv T6),
    .op D25 (.bin .add T24 (.c (.int .i64 (.ofNat (nat_lit 1))))),
    .op D6 (.mv T25)]))))))
  (.seq (.seq (.reg [.op D39 (.mv T5),
    .op D40 (.lenL T39),
    .op D41 (.mv (.c (.int .i64 (.ofNat (nat_lit 0)))))])
  (.block (nat_lit 2) (.loop (.seq (.reg [.op D42 (.bin .lss T41 T40)])
  (.seq (.cond T42 (.skip)
  (.exit (nat_lit 2)))
  (.seq (.block (nat_lit 3) (.seq (.reg [.op D43 (.mv T41),
    .op D7 (.mv T43)])
  (.seq (.reg [.op D45 (.mv T4),
    .op D46 (.call (nat_lit 14) [T45, .c (.int .i64 (.ofNat (nat_lit 1)))]),
    .op D44 (.mv T46),
    .op D47 (.ex (nat_lit 0) T44),
    .op D48 (.ex (nat_lit 1) T44),
    .op D8 (.mv T47),
    .op D9 (.mv T48)])
  (.seq (.reg [.op D49 (.mv T9),
    .op D50 (.un .not T49),
    .op D51 (.mv T50),
    .gop .n3 .n3 g51 (fun _ => rfl) false D52 (.mv T8),
    .gop .n3 .n3 g51 (fun _ => rfl) false D53 (.mv T5),
    .gop .n3 .n3 g51 (fun _ => rfl) false D54 (.mv T7),
    .gop .n3 .n3 g51 (fun _ => rfl) false D55 (.ixaS (nat_lit 1) T53 T54),
    .gop .n3 .n3 g51 (fun _ => rfl) false D56 (.ld1 T55),
    .gop .n3 .n3 g51 (fun _ => rfl) false D57 (.bin .neq T52 T56),
    .op D58 (.pick T51 (.c (.bool true)) T57),
    .op D59 (.mv T58),
    .gop .n3 .n11 g59 (fun _ => rfl) false D60 (.mv T4),
    .gop .n3 .n11 g59 (fun _ => rfl) false D61 (.call (nat_lit 15) [T60, .c (.int .i64 (.ofNat (nat_lit 1)))]),
    .gop .n3 .n11 g59 (fun _ => rfl) false D62 (.mv T5),
    .gop .n3 .n11 g59 (fun _ => rfl) false D63 (.lenL T62),
    .gop .n3 .n11 g59 (fun _ => rfl) false D64 (.mv T7),
    .gop .n3 .n11 g59 (fun _ => rfl) false D65 (.bin .sub T63 T64),
    .gop .n3 .n11 g59 (fun _ => rfl) false D66 (.bin .sub T65 (.c (.int .i64 (.ofNat (nat_lit 1))))),
    .gop .n3 .n11 g59 (fun _ => rfl) false D67 (.bin .neq T61 T66),
    .op D68 (.pick T59 (.c (.bool true)) T67)])
  (.cond T68 (.seq (.reg [.op D2 (.mv (.c (.bool false)))])
  (.ret))
  (.skip))))))
  (.reg [.op D69 (.bin .add T41 (.c (.int .i64 (.ofNat (nat_lit 1))))),
    .op D41 (.mv T69)])))))))
  (.seq (.reg [.op D71 (.mv T4),
    .op D72 (.call (nat_lit 14) [T71, .c (.int .i64 (.ofNat (nat_lit 1)))]),
    .op D70 (.mv T72),
    .op D73 (.ex (nat_lit 0) T70),
    .op D74 (.ex (nat_lit 1) T70),
    .op D10 (.mv T73),
    .op D11 (.mv T74)])
  (.seq (.reg [.op D75 (.mv T11),
    .op D76 (.un .not T75),
    .op D77 (.mv T76),
    .gop .n4 .n13 g77 (fun _ => rfl) true D78 (.mv T4),
    .gop .n4 .n13 g77 (fun _ => rfl) true D79 (.call (nat_lit 15) [T78, .c (.int .i64 (.ofNat (nat_lit 0)))]),
    .gop .n4 .n13 g77 (fun _ => rfl) true D80 (.bin .eql T79 (.c (.int .i64 (.ofNat (nat_lit 0))))),
    .op D81 (.pick T77 T80 (.c (.bool false))),
    .op D82 (.mv T81),
    .gop .n5 .n2 g82 (fun _ => rfl) true D83 (.mv T4),
    .gop .n5 .n2 g82 (fun _ => rfl) true D84 (.call (nat_lit 12) [T83, .c (.int .i64 (.ofNat (nat_lit 1))), .c (.int .i64 (.ofNat (nat_lit 1))), .c (.int .u64 (.ofNat (nat_lit 5)))]),
    .gop .n5 .n2 g82 (fun _ => rfl) true D85 (.un .not T84),
    .op D86 (.pick T82 T85 (.c (.bool false))),
    .op D2 (.mv T86)])
  (.ret))))))))),
  [.t .n0 .n2 g2 (fun _ => rfl)]⟩
/-- messuage/messuagelaw2.TlbSets -/
noncomputable def ff5 : FFunc := ⟨.seq (.reg [.op D4 (.mv (.c (.bool false)))])
  (.seq (.reg [.op D15 (.call (nat_lit 8) []),
    .op D5 (.mv T15)])
  (.seq (.seq (.reg [.op D16 (.mv T5),
    .op D17 (.un .not T16)])
  (.cond T17 (.seq (.reg [.op D4 (.mv (.c (.bool false)))])
  (.ret))
  (.skip)))
  (.seq (.reg [.op D18 (.call (nat_lit 16) []),
    .op D6 (.mv T18)])
  (.seq (.seq (.reg [.op D7 (.mv (.c (.int .i64 (.ofNat (nat_lit 0)))))])
  (.block (nat_lit 0) (.loop (.seq (.seq (.reg [.op D19 (.mv T7),
    .op D20 (.mv T0),
    .op D21 (.lenL T20),
    .op D22 (.bin .lss T19 T21),
    .op D23 (.mv T22),
    .gop .n1 .n7 g23 (fun _ => rfl) true D24 (.mv T7),
    .gop .n1 .n7 g23 (fun _ => rfl) true D25 (.mv T1),
    .gop .n1 .n7 g23 (fun _ => rfl) true D26 (.lenL T25),
    .gop .n1 .n7 g23 (fun _ => rfl) true D27 (.bin .lss T24 T26),
    .op D28 (.pick T23 T27 (.c (.bool false))),
    .op D29 (.mv T28),
    .gop .n1 .n13 g29 (fun _ => rfl) true D30 (.mv T7),
    .gop .n1 .n13 g29 (fun _ => rfl) true D31 (.bin .lss T30 (.c (.int .i64 (.ofNat (nat_lit 12))))),
    .op D32 (.pick T29 T31 (.c (.bool false)))])
  (.cond T32 (.skip)
  (.exit (nat_lit 0))))
  (.seq (.block (nat_lit 1) (.drw [.op D35 (.mv T6),
    .op D36 (.mv T0),
    .op D37 (.mv T7),
    .op D38 (.ixaS (nat_lit 1) T36 T37),
    .op D39 (.ld1 T38),
    .op D40 (.bin .rem T39 (.c (.int .i64 (.ofNat (nat_lit 4))))),
    .op D41 (.bin .add T40 (.c (.int .i64 (.ofNat (nat_lit 4))))),
    .op D42 (.bin .rem T41 (.c (.int .i64 (.ofNat (nat_lit 4))))),
    .op D43 (.mv T1),
    .op D44 (.mv T7),
    .op D45 (.ixaS (nat_lit 1) T43 T44),
    .op D46 (.ld1 T45),
    .op D47 (.bin .rem T46 (.c (.int .i64 (.ofNat (nat_lit 8))))),
    .op D48 (.bin .add T47 (.c (.int .i64 (.ofNat (nat_lit 8))))),
    .op D49 (.bin .rem T48 (.c (.int .i64 (.ofNat (nat_lit 8))))),
    .op D50 (.build [.int .i64 (.ofNat (nat_lit 0)), .int .i64 (.ofNat (nat_lit 0)), .int .i64 (.ofNat (nat_lit 0)), .int .i64 (.ofNat (nat_lit 0))] [((nat_lit 0), (nat_lit 1), T42), ((nat_lit 1), (nat_lit 1), T49), ((nat_lit 3), (nat_lit 1), .c (.int .i64 (.ofNat (nat_lit 1))))]),
    .op D51 (.call (nat_lit 17) [T35, T50])] []))
  (.reg [.op D33 (.mv T7),
    .op D34 (.bin .add T33 (.c (.int .i64 (.ofNat (nat_lit 1))))),
    .op D7 (.mv T34)]))))))
  (.seq (.reg [.op D52 (.mkmap),
    .op D8 (.mv T52)])
  (.seq (.seq (.reg [.op D53 (.mv T6),
    .op D54 (.call (nat_lit 18) [T53]),
    .op D55 (.lenL T54),
    .op D56 (.mv (.c (.int .i64 (.ofNat (nat_lit 0)))))])
  (.block (nat_lit 2) (.loop (.seq (.reg [.op D57 (.bin .lss T56 T55)])
  (.seq (.cond T57 (.skip)
  (.exit (nat_lit 2)))
  (.seq (.block (nat_lit 3) (.seq (.reg [.op D58 (.mv T56),
    .op D59 (.ixaS (nat_lit 4) T54 T56),
    .op D60 (.ldA (nat_lit 4) T59),
    .op D10 (.new [.int .i64 (.ofNat (nat_lit 0)), .int .i64 (.ofNat (nat_lit 0)), .int .i64 (.ofNat (nat_lit 0)), .int .i64 (.ofNat (nat_lit 0))]),
    .op D9 (.mv T58),
    .op .no (.st (nat_lit 4) T10 T60)])
  (.seq (.seq (.reg [.op D61 (.fadd (nat_lit 0) T10),
    .op D62 (.ld1 T61),
    .op D63 (.bin .lss T62 (.c (.int .i64 (.ofNat (nat_lit 0)))))])
  (.cond T63 (.seq (.seq (.reg [.op D64 (.ldA (nat_lit 4) T10),
    .op D65 (.build [.int .i64 (.ofNat (nat_lit 0)), .int .i64 (.ofNat (nat_lit 0)), .int .i64 (.ofNat (nat_lit 0)), .int .i64 (.ofNat (nat_lit 0))] [((nat_lit 0), (nat_lit 1), .c (.int .i64 (.negSucc (nat_lit 0))))]),
    .op D66 (.eq true (.flat [((nat_lit 0), .int), ((nat_lit 1), .int), ((nat_lit 2), .int), ((nat_lit 3), .int)]) T64 T65)])
  (.cond T66 (.seq (.reg [.op D4 (.mv (.c (.bool false)))])
  (.ret))
  (.skip)))
  (.exit (nat_lit 3)))
  (.skip)))
  (.seq (.reg [.op D67 (.mv T8),
    .op D68 (.fadd (nat_lit 1) T10),
    .op D69 (.ld1 T68),
    .op D70 (.bin .rem T69 (.c (.int .i64 (.ofNat (nat_lit 4))))),
    .op D71 (.look (.sc .int) (nat_lit 0) (.int .i64 (.ofNat (nat_lit 0))) false T67 T70),
    .op D72 (.bin .add T71 (.c (.int .i64 (.ofNat (nat_lit 1))))),
    .op .no (.mput (.sc .int) (nat_lit 0) T67 T70 T72)])
  (.seq (.reg [.op D73 (.mv T9),
    .op D74 (.bin .quo T73 (.c (.int .i64 (.ofNat (nat_lit 2))))),
    .op D75 (.fadd (nat_lit 1) T10),
    .op D76 (.ld1 T75),
    .op D77 (.bin .rem T76 (.c (.int .i64 (.ofNat (nat_lit 4))))),
    .op D78 (.bin .neq T74 T77)])
  (.cond T78 (.seq (.reg [.op D4 (.mv (.c (.bool false)))])
  (.ret))
  (.skip)))))))
  (.reg [.op D79 (.bin .add T56 (.c (.int .i64 (.ofNat (nat_lit 1))))),
    .op D56 (.mv T79)])))))))
  (.seq (.seq (.reg [.op D11 (.mv (.c (.int .i64 (.ofNat (nat_lit 0)))))])
  (.block (nat_lit 4) (.loop (.seq (.seq (.reg [.op D80 (.mv T11),
    .op D81 (.bin .lss T80 (.c (.int .i64 (.ofNat (nat_lit 4)))))])
  (.cond T81 (.skip)
  (.exit (nat_lit 4))))
  (.seq (.block (nat_lit 5) (.seq (.reg [.op D84 (.mkmap),
    .op D12 (.mv T84)])
  (.seq (.seq (.reg [.op D13 (.mv (.c (.int .i64 (.ofNat (nat_lit 0)))))])
  (.block (nat_lit 6) (.loop (.seq (.seq (.reg [.op D85 (.mv T13),
    .op D86 (.mv T0),
    .op D87 (.lenL T86),
    .op D88 (.bin .lss T85 T87),
    .op D89 (.mv T88),
    .gop .n5 .n9 g89 (fun _ => rfl) true D90 (.mv T13),
    .gop .n5 .n9 g89 (fun _ => rfl) true D91 (.mv T1),
    .gop .n5 .n9 g89 (fun _ => rfl) true D92 (.lenL T91),
    .gop .n5 .n9 g89 (fun _ => rfl) true D93 (.bin .lss T90 T92),
    .op D94 (.pick T89 T93 (.c (.bool false))),
    .op D95 (.mv T94),
    .gop .n5 .n15 g95 (fun _ => rfl) true D96 (.mv T13),
    .gop .n5 .n15 g95 (fun _ => rfl) true D97 (.bin .lss T96 (.c (.int .i64 (.ofNat (nat_lit 12))))),
    .op D98 (.pick T95 T97 (.c (.bool false)))])
  (.cond T98 (.skip)
  (.exit (nat_lit 6))))
  (.seq (.block (nat_lit 7) (.seq (.reg [.op D101 (.mv T1),
    .op D102 (.mv T13),
    .op D103 (.ixaS (nat_lit 1) T101 T102),
    .op D104 (.ld1 T103),
    .op D105 (.bin .rem T104 (.c (.int .i64 (.ofNat (nat_lit 8))))),
    .op D106 (.bin .add T105 (.c (.int .i64 (.ofNat (nat_lit 8))))),
    .op D107 (.bin .rem T106 (.c (.int .i64 (.ofNat (nat_lit 8))))),
    .op D14 (.mv T107)])
  (.seq (.reg [.op D108 (.mv T14),
    .op D109 (.bin .rem T108 (.c (.int .i64 (.ofNat (nat_lit 4))))),
    .op D110 (.mv T11),
    .op D111 (.bin .eql T109 T110)])
  (.cond T111 (.reg [.op D112 (.mv T12),
    .op D113 (.mv T0),
    .op D114 (.mv T13),
    .op D115 (.ixaS (nat_lit 1) T113 T114),
    .op D116 (.ld1 T115),
    .op D117 (.bin .rem T116 (.c (.int .i64 (.ofNat (nat_lit 4))))),
    .op D118 (.bin .add T117 (.c (.int .i64 (.ofNat (nat_lit 4))))),
    .op D119 (.bin .rem T118 (.c (.int .i64 (.ofNat (nat_lit 4))))),
    .op D120 (.mv T14),
    .op D121 (.build [.int .i64 (.ofNat (nat_lit 0)), .int .i64 (.ofNat (nat_lit 0))] [((nat_lit 0), (nat_lit 1), T119), ((nat_lit 1), (nat_lit 1), T120)]),
    .op .no (.mput (.flat [((nat_lit 0), .int), ((nat_lit 1), .int)]) (nat_lit 2) T112 T121 (.c (.bool true)))])
  (.skip)))))
  (.reg [.op D99 (.mv T13),
    .op D100 (.bin .add T99 (.c (.int .i64 (.ofNat (nat_lit 1))))),
    .op D13 (.mv T100)]))))))
  (.seq (.reg [.op D122 (.mv T8),
    .op D123 (.mv T11),
    .op D124 (.look (.sc .int) (nat_lit 0) (.int .i64 (.ofNat (nat_lit 0))) false T122 T123),
    .op D125 (.mv T12),
    .op D126 (.lenM T125),
    .op D127 (.mnn [T126, .c (.int .i64 (.ofNat (nat_lit 2)))]),
    .op D128 (.bin .neq T124 T127)])
  (.cond T128 (.seq (.reg [.op D4 (.mv (.c (.bool false)))])
  (.ret))
  (.skip))))))
  (.reg [.op D82 (.mv T11),
    .op D83 (.bin .add T82 (.c (.int .i64 (.ofNat (nat_lit 1))))),
    .op D11 (.mv T83)]))))))
  (.seq (.reg [.op D4 (.mv (.c (.bool true)))])
  (.ret))))))))),
  [.t .n0 .n4 g4 (fun _ => rfl)]⟩
/-- messuage/messuagelaw2.PoolLeast -/
noncomputable def ff6 : FFunc := ⟨.seq (.reg [.op D4 (.mv (.c (.bool false)))])
  (.seq (.reg [.op D20 (.call (nat_lit 8) []),
    .op D5 (.mv T20)])
  (.seq (.seq (.reg [.op D21 (.mv T5),
    .op D22 (.un .not T21)])
  (.cond T22 (.seq (.reg [.op D4 (.mv (.c (.bool false)))])
  (.ret))
  (.skip)))
  (.seq (.reg [.op D23 (.mv T0),
    .op D24 (.bin .rem T23 (.c (.int .i64 (.ofNat (nat_lit 16))))),
    .op D25 (.bin .add T24 (.c (.int .i64 (.ofNat (nat_lit 16))))),
    .op D26 (.bin .rem T25 (.c (.int .i64 (.ofNat (nat_lit 16))))),
    .op D27 (.bin .add (.c (.int .i64 (.ofNat (nat_lit 1)))) T26),
    .op D0 (.mv T27)])
  (.seq (.reg [.op D28 (.mv T0),
    .op D29 (.call (nat_lit 19) [T28]),
    .op D6 (.mv T29)])
  (.seq (.seq (.reg [.op D7 (.mv (.c (.int .i64 (.ofNat (nat_lit 0)))))])
  (.block (nat_lit 0) (.loop (.seq (.seq (.reg [.op D30 (.mv T7),
    .op D31 (.mv T0),
    .op D32 (.bin .lss T30 T31)])
  (.cond T32 (.skip)
  (.exit (nat_lit 0))))
  (.seq (.block (nat_lit 1) (.seq (.reg [.op D36 (.mv T6),
    .op D37 (.call (nat_lit 20) [T36]),
    .op D35 (.mv T37),
    .op D38 (.ex (nat_lit 0) T35),
    .op D39 (.ex (nat_lit 1) T35),
    .op D8 (.mv T38),
    .op D9 (.mv T39)])
  (.seq (.reg [.op D40 (.mv T9),
    .op D41 (.un .not T40),
    .op D42 (.mv T41),
    .gop .n2 .n10 g42 (fun _ => rfl) false D43 (.mv T8),
    .gop .n2 .n10 g42 (fun _ => rfl) false D44 (.mv T7),
    .gop .n2 .n10 g42 (fun _ => rfl) false D45 (.bin .neq T43 T44),
    .op D46 (.pick T42 (.c (.bool true)) T45)])
  (.cond T46 (.seq (.reg [.op D4 (.mv (.c (.bool false)))])
  (.ret))
  (.skip)))))
  (.reg [.op D33 (.mv T7),
    .op D34 (.bin .add T33 (.c (.int .i64 (.ofNat (nat_lit 1))))),
    .op D7 (.mv T34)]))))))
  (.seq (.seq (.reg [.op D48 (.mv T6),
    .op D49 (.call (nat_lit 20) [T48]),
    .op D47 (.mv T49),
    .op D50 (.ex (nat_lit 0) T47),
    .op D51 (.ex (nat_lit 1) T47),
    .op D10 (.mv T50),
    .op D11 (.mv T51)])
  (.seq (.reg [.op D52 (.mv T11)])
  (.cond T52 (.seq (.reg [.op D4 (.mv (.c (.bool false)))])
  (.ret))
  (.skip))))
  (.seq (.reg [.op D53 (.mkmap),
    .op D12 (.mv T53)])
  (.seq (.seq (.reg [.op D13 (.mv (.c (.int .i64 (.ofNat (nat_lit 0)))))])
  (.block (nat_lit 2) (.loop (.seq (.seq (.reg [.op D54 (.mv T13),
    .op D55 (.mv T1),
    .op D56 (.lenL T55),
    .op D57 (.bin .lss T54 T56),
    .op D58 (.mv T57),
    .gop .n3 .n10 g58 (fun _ => rfl) true D59 (.mv T13),
    .gop .n3 .n10 g58 (fun _ => rfl) true D60 (.bin .lss T59 (.c (.int .i64 (.ofNat (nat_lit 20))))),
    .op D61 (.pick T58 T60 (.c (.bool false)))])
  (.cond T61 (.skip)
  (.exit (nat_lit 2))))
  (.seq (.block (nat_lit 3) (.seq (.reg [.op D64 (.mv T1),
    .op D65 (.mv T13),
    .op D66 (.ixaS (nat_lit 1) T64 T65),
    .op D67 (.ld1 T66),
    .op D68 (.mv T0),
    .op D69 (.bin .rem T67 T68),
    .op D70 (.mv T0),
    .op D71 (.bin .add T69 T70),
    .op D72 (.mv T0),
    .op D73 (.bin .rem T71 T72),
    .op D14 (.mv T73)])
  (.seq (.reg [.op D75 (.mv T6),
    .op D76 (.mv T14),
    .op D77 (.call (nat_lit 21) [T75, T76]),
    .op D74 (.mv T77),
    .op D78 (.ex (nat_lit 0) T74),
    .op D79 (.ex (nat_lit 1) T74),
    .op D15 (.mv T78),
    .op D16 (.mv T79)])
  (.seq (.seq (.reg [.op D80 (.mv T16),
    .op D81 (.mv T12),
    .op D82 (.mv T14),
    .op D83 (.look (.sc .int) (nat_lit 0) (.bool false) false T81 T82),
    .op D84 (.eq false (.sc .bool) T80 T83),
    .op D85 (.mv T84),
    .gop .n5 .n5 g85 (fun _ => rfl) false D86 (.mv T15),
    .gop .n5 .n5 g85 (fun _ => rfl) false D87 (.bin .neq T86 (.c (.int .i64 (.ofNat (nat_lit 0))))),
    .op D88 (.pick T85 (.c (.bool true)) T87)])
  (.cond T88 (.seq (.reg [.op D4 (.mv (.c (.bool false)))])
  (.ret))
  (.skip)))
  (.reg [.op D89 (.mv T12),
    .op D90 (.mv T14),
    .op .no (.mput (.sc .int) (nat_lit 0) T89 T90 (.c (.bool true)))])))))
  (.reg [.op D62 (.mv T13),
    .op D63 (.bin .add T62 (.c (.int .i64 (.ofNat (nat_lit 1))))),
    .op D13 (.mv T63)]))))))
  (.seq (.seq (.reg [.op D17 (.mv (.c (.int .i64 (.ofNat (nat_lit 0)))))])
  (.block (nat_lit 4) (.loop (.seq (.seq (.reg [.op D91 (.mv T17),
    .op D92 (.mv T0),
    .op D93 (.bin .lss T91 T92)])
  (.cond T93 (.skip)
  (.exit (nat_lit 4))))
  (.seq (.block (nat_lit 5) (.seq (.reg [.op D96 (.mv T12),
    .op D97 (.mv T17),
    .op D98 (.look (.sc .int) (nat_lit 0) (.bool false) false T96 T97)])
  (.cond T98 (.seq (.reg [.op D100 (.mv T6),
    .op D101 (.call (nat_lit 20) [T100]),
    .op D99 (.mv T101),
    .op D102 (.ex (nat_lit 0) T99),
    .op D103 (.ex (nat_lit 1) T99),
    .op D18 (.mv T102),
    .op D19 (.mv T103)])
  (.seq (.reg [.op D104 (.mv T19),
    .op D105 (.un .not T104),
    .op D106 (.mv T105),
    .gop .n6 .n10 g106 (fun _ => rfl) false D107 (.mv T18),
    .gop .n6 .n10 g106 (fun _ => rfl) false D108 (.mv T17),
    .gop .n6 .n10 g106 (fun _ => rfl) false D109 (.bin .neq T107 T108),
    .op D110 (.pick T106 (.c (.bool true)) T109)])
  (.cond T110 (.seq (.reg [.op D4 (.mv (.c (.bool false)))])
  (.ret))
  (.skip))))
  (.skip))))
  (.reg [.op D94 (.mv T17),
    .op D95 (.bin .add T94 (.c (.int .i64 (.ofNat (nat_lit 1))))),
    .op D17 (.mv T95)]))))))
  (.seq (.reg [.op D111 (.mv T6),
    .op D112 (.call (nat_lit 22) [T111]),
    .op D113 (.lenL T112),
    .op D114 (.bin .eql T113 (.c (.int .i64 (.ofNat (nat_lit 0))))),
    .op D115 (.mv T114),
    .gop .n7 .n3 g115 (fun _ => rfl) true D116 (.mv T6),
    .gop .n7 .n3 g115 (fun _ => rfl) true D117 (.call (nat_lit 23) [T116]),
    .gop .n7 .n3 g115 (fun _ => rfl) true D118 (.bin .eql T117 (.c (.int .u64 (.ofNat (nat_lit 0))))),
    .op D119 (.pick T115 T118 (.c (.bool false))),
    .op D4 (.mv T119)])
  (.ret))))))))))),
  [.t .n0 .n4 g4 (fun _ => rfl)]⟩
/-- messuage/messuagelaw2.MemOwn -/
noncomputable def ff7 : FFunc := ⟨.seq (.reg [.op D6 (.mv (.c (.bool false)))])
  (.seq (.reg [.op D13 (.call (nat_lit 8) []),
    .op D7 (.mv T13)])
  (.seq (.seq (.reg [.op D14 (.mv T7),
    .op D15 (.un .not T14)])
  (.cond T15 (.seq (.reg [.op D6 (.mv (.c (.bool false)))])
  (.ret))
  (.skip)))
  (.seq (.reg [.op D16 (.mv T0),
    .op D17 (.bin .rem T16 (.c (.int .i64 (.ofNat (nat_lit 16))))),
    .op D18 (.bin .add T17 (.c (.int .i64 (.ofNat (nat_lit 16))))),
    .op D19 (.bin .rem T18 (.c (.int .i64 (.ofNat (nat_lit 16))))),
    .op D20 (.mv T1),
    .op D21 (.bin .rem T20 (.c (.int .i64 (.ofNat (nat_lit 16))))),
    .op D22 (.bin .add T21 (.c (.int .i64 (.ofNat (nat_lit 16))))),
    .op D23 (.bin .rem T22 (.c (.int .i64 (.ofNat (nat_lit 16))))),
    .op D0 (.mv T19),
    .op D1 (.mv T23)])
  (.seq (.reg [.op D24 (.call (nat_lit 24) [.c (.int .i64 (.ofNat (nat_lit 16)))]),
    .op D8 (.mv T24)])
  (.seq (.seq (.reg [.op D25 (.mv T8),
    .op D26 (.mv T0),
    .op D27 (.mv T1),
    .op D28 (.mv T2),
    .op D29 (.call (nat_lit 25) [T25, T26, T27, T28]),
    .op D30 (.un .not T29)])
  (.cond T30 (.seq (.reg [.op D6 (.mv (.c (.bool false)))])
  (.ret))
  (.skip)))
  (.seq (.seq (.reg [.op D9 (.mv (.c (.int .i64 (.ofNat (nat_lit 0)))))])
  (.block (nat_lit 0) (.loop (.seq (.seq (.reg [.op D31 (.mv T9),
    .op D32 (.bin .lss T31 (.c (.int .i64 (.ofNat (nat_lit 16)))))])
  (.cond T32 (.skip)
  (.exit (nat_lit 0))))
  (.seq (.block (nat_lit 1) (.seq (.reg [.op D35 (.mv T8),
    .op D36 (.mv T9),
    .op D37 (.call (nat_lit 26) [T35, T36]),
    .op D10 (.mv T37)])
  (.seq (.reg [.op D38 (.mv T10),
    .op D39 (.lenL T38),
    .op D40 (.mv (.c (.int .i64 (.ofNat (nat_lit 0)))))])
  (.block (nat_lit 2) (.loop (.seq (.reg [.op D41 (.bin .lss T40 T39)])
  (.seq (.cond T41 (.skip)
  (.exit (nat_lit 2)))
  (.seq (.block (nat_lit 3) (.seq (.reg [.op D42 (.mv T40),
    .op D11 (.mv T42)])
  (.seq (.reg [.op D12 (.mv (.c (.int .u64 (.ofNat (nat_lit 0)))))])
  (.seq (.seq (.reg [.op D43 (.mv T9),
    .op D44 (.mv T0),
    .op D45 (.bin .eql T43 T44),
    .op D46 (.mv T45),
    .gop .n2 .n14 g46 (fun _ => rfl) true D47 (.mv T11),
    .gop .n2 .n14 g46 (fun _ => rfl) true D48 (.mv T1),
    .gop .n2 .n14 g46 (fun _ => rfl) true D49 (.bin .eql T47 T48),
    .op D50 (.pick T46 T49 (.c (.bool false)))])
  (.cond T50 (.reg [.op D51 (.mv T2),
    .op D12 (.mv T51)])
  (.skip)))
  (.seq (.reg [.op D52 (.mv T10),
    .op D53 (.mv T11),
    .op D54 (.ixaS (nat_lit 1) T52 T53),
    .op D55 (.ld1 T54),
    .op D56 (.mv T12),
    .op D57 (.bin .neq T55 T56)])
  (.cond T57 (.seq (.reg [.op D6 (.mv (.c (.bool false)))])
  (.ret))
  (.skip)))))))
  (.reg [.op D58 (.bin .add T40 (.c (.int .i64 (.ofNat (nat_lit 1))))),
    .op D40 (.mv T58)])))))))))
  (.reg [.op D33 (.mv T9),
    .op D34 (.bin .add T33 (.c (.int .i64 (.ofNat (nat_lit 1))))),
    .op D9 (.mv T34)]))))))
  (.seq (.reg [.op D59 (.mv T8),
    .op D60 (.mv T0),
    .op D61 (.call (nat_lit 27) [T59, T60]),
    .op D62 (.mv T61),
    .gop .n3 .n14 g62 (fun _ => rfl) true D63 (.mv T8),
    .gop .n3 .n14 g62 (fun _ => rfl) true D64 (.mv T0),
    .gop .n3 .n14 g62 (fun _ => rfl) true D65 (.call (nat_lit 26) [T63, T64]),
    .gop .n3 .n14 g62 (fun _ => rfl) true D66 (.mv T1),
    .gop .n3 .n14 g62 (fun _ => rfl) true D67 (.ixaS (nat_lit 1) T65 T66),
    .gop .n3 .n14 g62 (fun _ => rfl) true D68 (.ld1 T67),
    .gop .n3 .n14 g62 (fun _ => rfl) true D69 (.bin .eql T68 (.c (.int .u64 (.ofNat (nat_lit 0))))),
    .op D70 (.pick T62 T69 (.c (.bool false))),
    .op D6 (.mv T70)])
  (.ret)))))))),
  [.t .n0 .n6 g6 (fun _ => rfl)]⟩
/-- messuage/messuagelaw2.begun -/
noncomputable def ff8 : FFunc := ⟨.seq (.reg [.op D0 (.mv (.c (.bool false)))])
  (.seq (.reg [.op D24 (.call (nat_lit 24) [.c (.int .i64 (.ofNat (nat_lit 2)))]),
    .op D25 (.call (nat_lit 28) []),
    .op D26 (.call (nat_lit 16) []),
    .op D27 (.call (nat_lit 11) [.c (.int .i64 (.ofNat (nat_lit 3)))]),
    .op D1 (.mv T24),
    .op D2 (.mv T25),
    .op D3 (.mv T26),
    .op D4 (.mv T27)])
  (.seq (.reg [.op D28 (.call (nat_lit 29) [.c (.int .u64 (.ofNat (nat_lit 5)))]),
    .op D29 (.call (nat_lit 30) []),
    .op D30 (.call (nat_lit 19) [.c (.int .i64 (.ofNat (nat_lit 2)))]),
    .op D5 (.mv T28),
    .op D6 (.mv T29),
    .op D7 (.mv T30)])
  (.seq (.seq (.reg [.op D31 (.mv T1),
    .op D32 (.eq false (.sc .ptr) T31 (.c (.nilp))),
    .op D33 (.mv T32),
    .gop .n2 .n1 g33 (fun _ => rfl) false D34 (.mv T2),
    .gop .n2 .n1 g33 (fun _ => rfl) false D35 (.eq false (.sc .ptr) T34 (.c (.nilp))),
    .op D36 (.pick T33 (.c (.bool true)) T35),
    .op D37 (.mv T36),
    .gop .n2 .n5 g37 (fun _ => rfl) false D38 (.mv T3),
    .gop .n2 .n5 g37 (fun _ => rfl) false D39 (.eq false (.sc .ptr) T38 (.c (.nilp))),
    .op D40 (.pick T37 (.c (.bool true)) T39),
    .op D41 (.mv T40),
    .gop .n2 .n9 g41 (fun _ => rfl) false D42 (.mv T4),
    .gop .n2 .n9 g41 (fun _ => rfl) false D43 (.eq false (.sc .ptr) T42 (.c (.nilp))),
    .op D44 (.pick T41 (.c (.bool true)) T43),
    .op D45 (.mv T44),
    .gop .n2 .n13 g45 (fun _ => rfl) false D46 (.mv T5),
    .gop .n2 .n13 g45 (fun _ => rfl) false D47 (.eq false (.sc .ptr) T46 (.c (.nilp))),
    .op D48 (.pick T45 (.c (.bool true)) T47),
    .op D49 (.mv T48),
    .gop .n3 .n1 g49 (fun _ => rfl) false D50 (.mv T6),
    .gop .n3 .n1 g49 (fun _ => rfl) false D51 (.eq false (.sc .ptr) T50 (.c (.nilp))),
    .op D52 (.pick T49 (.c (.bool true)) T51),
    .op D53 (.mv T52),
    .gop .n3 .n5 g53 (fun _ => rfl) false D54 (.mv T7),
    .gop .n3 .n5 g53 (fun _ => rfl) false D55 (.eq false (.sc .ptr) T54 (.c (.nilp))),
    .op D56 (.pick T53 (.c (.bool true)) T55)])
  (.cond T56 (.seq (.reg [.op D0 (.mv (.c (.bool false)))])
  (.ret))
  (.skip)))
  (.seq (.reg [.op D57 (.mv T2),
    .op D58 (.build [.int .i64 (.ofNat (nat_lit 0)), .int .i64 (.ofNat (nat_lit 0)), .int .i64 (.ofNat (nat_lit 0))] [((nat_lit 0), (nat_lit 1), .c (.int .i64 (.ofNat (nat_lit 1)))), ((nat_lit 1), (nat_lit 1), .c (.int .i64 (.ofNat (nat_lit 2)))), ((nat_lit 2), (nat_lit 1), .c (.int .i64 (.ofNat (nat_lit 3))))]),
    .op D59 (.call (nat_lit 31) [T57, .c (.int .i64 (.ofNat (nat_lit 1))), T58]),
    .op D8 (.mv T59)])
  (.seq (.reg [.op D61 (.build [.int .i64 (.ofNat (nat_lit 0)), .int .i64 (.ofNat (nat_lit 0)), .int .i64 (.ofNat (nat_lit 0))] [((nat_lit 0), (nat_lit 1), .c (.int .i64 (.ofNat (nat_lit 1)))), ((nat_lit 1), (nat_lit 1), .c (.int .i64 (.ofNat (nat_lit 2)))), ((nat_lit 2), (nat_lit 1), .c (.int .i64 (.ofNat (nat_lit 3))))]),
    .op D62 (.call (nat_lit 32) [T61]),
    .op D60 (.mv T62),
    .op D63 (.ex (nat_lit 0) T60),
    .op D64 (.ex (nat_lit 1) T60),
    .op D9 (.mv T63),
    .op D10 (.mv T64)])
  (.seq (.reg [.op D65 (.mv T3),
    .op D66 (.build [.int .i64 (.ofNat (nat_lit 0)), .int .i64 (.ofNat (nat_lit 0)), .int .i64 (.ofNat (nat_lit 0)), .int .i64 (.ofNat (nat_lit 0))] [((nat_lit 0), (nat_lit 1), .c (.int .i64 (.ofNat (nat_lit 1)))), ((nat_lit 1), (nat_lit 1), .c (.int .i64 (.ofNat (nat_lit 5)))), ((nat_lit 2), (nat_lit 1), .c (.int .i64 (.ofNat (nat_lit 1)))), ((nat_lit 3), (nat_lit 1), .c (.int .i64 (.ofNat (nat_lit 1))))]),
    .op D67 (.call (nat_lit 17) [T65, T66]),
    .op D11 (.mv T67)])
  (.seq (.reg [.op D69 (.mv T3),
    .op D70 (.call (nat_lit 33) [T69, .c (.int .i64 (.ofNat (nat_lit 1))), .c (.int .i64 (.ofNat (nat_lit 5)))]),
    .op D68 (.mv T70),
    .op D71 (.ex (nat_lit 0) T68),
    .op D72 (.ex (nat_lit 1) T68),
    .op D12 (.new [.int .i64 (.ofNat (nat_lit 0)), .int .i64 (.ofNat (nat_lit 0)), .int .i64 (.ofNat (nat_lit 0)), .int .i64 (.ofNat (nat_lit 0))]),
    .op .no (.st (nat_lit 4) T12 T71),
    .op D13 (.mv T72)])
  (.seq (.reg [.op D73 (.mv T4),
    .op D74 (.call (nat_lit 34) [T73, .c (.int .i64 (.ofNat (nat_lit 0))), .c (.int .u64 (.ofNat (nat_lit 4)))]),
    .op D14 (.mv T74)])
  (.seq (.reg [.op D76 (.mv T4),
    .op D77 (.call (nat_lit 14) [T76, .c (.int .i64 (.ofNat (nat_lit 2)))]),
    .op D75 (.mv T77),
    .op D78 (.ex (nat_lit 0) T75),
    .op D79 (.ex (nat_lit 1) T75),
    .op D15 (.mv T78),
    .op D16 (.mv T79)])
  (.seq (.reg [.op D81 (.mv T5),
    .op D82 (.call (nat_lit 35) [T81, .c (.int .u64 (.ofNat (nat_lit 9)))]),
    .op D80 (.mv T82),
    .op D83 (.ex (nat_lit 0) T80),
    .op D84 (.ex (nat_lit 1) T80),
    .op D17 (.mv T83),
    .op D18 (.mv T84)])
  (.seq (.reg [.op D85 (.mv T6),
    .op D86 (.call (nat_lit 36) [T85]),
    .op D19 (.mv T86)])
  (.seq (.reg [.op D88 (.mv T7),
    .op D89 (.call (nat_lit 20) [T88]),
    .op D87 (.mv T89),
    .op D90 (.ex (nat_lit 0) T87),
    .op D91 (.ex (nat_lit 1) T87),
    .op D20 (.mv T90),
    .op D21 (.mv T91)])
  (.seq (.reg [.op D93 (.build [.int .u64 (.ofNat (nat_lit 0)), .int .u64 (.ofNat (nat_lit 0)), .int .u64 (.ofNat (nat_lit 0)), .int .u64 (.ofNat (nat_lit 0)), .int .u64 (.ofNat (nat_lit 0))] [((nat_lit 0), (nat_lit 1), .c (.int .u64 (.ofNat (nat_lit 6))))]),
    .op D94 (.call (nat_lit 37) [T93]),
    .op D92 (.mv T94),
    .op D95 (.ex (nat_lit 0) T92),
    .op D96 (.ex (nat_lit 1) T92),
    .op D22 (.mv T95),
    .op D23 (.mv T96)])
  (.seq (.reg [.op D97 (.call (nat_lit 38) []),
    .op D98 (.mv T97),
    .gop .n6 .n2 g98 (fun _ => rfl) true D99 (.mv T8),
    .gop .n6 .n2 g98 (fun _ => rfl) true D100 (.bin .eql T99 (.c (.int .i64 (.ofNat (nat_lit 0))))),
    .op D101 (.pick T98 T100 (.c (.bool false))),
    .op D102 (.mv T101),
    .gop .n6 .n6 g102 (fun _ => rfl) true D103 (.mv T10),
    .op D104 (.pick T102 T103 (.c (.bool false))),
    .op D105 (.mv T104),
    .gop .n6 .n9 g105 (fun _ => rfl) true D106 (.mv T9),
    .gop .n6 .n9 g105 (fun _ => rfl) true D107 (.bin .eql T106 (.c (.int .u64 (.ofNat (nat_lit 33059))))),
    .op D108 (.pick T105 T107 (.c (.bool false))),
    .op D109 (.mv T108),
    .gop .n6 .n13 g109 (fun _ => rfl) true D110 (.mv T11),
    .op D111 (.pick T109 T110 (.c (.bool false))),
    .op D112 (.mv T111),
    .gop .n7 .n0 g112 (fun _ => rfl) true D113 (.mv T13),
    .op D114 (.pick T112 T113 (.c (.bool false))),
    .op D115 (.mv T114),
    .gop .n7 .n3 g115 (fun _ => rfl) true D116 (.fadd (nat_lit 2) T12),
    .gop .n7 .n3 g115 (fun _ => rfl) true D117 (.ld1 T116),
    .gop .n7 .n3 g115 (fun _ => rfl) true D118 (.bin .eql T117 (.c (.int .i64 (.ofNat (nat_lit 1))))),
    .op D119 (.pick T115 T118 (.c (.bool false))),
    .op D120 (.mv T119),
    .gop .n7 .n8 g120 (fun _ => rfl) true D121 (.mv T14),
    .gop .n7 .n8 g120 (fun _ => rfl) true D122 (.bin .eql T121 (.c (.int .i64 (.ofNat (nat_lit 2))))),
    .op D123 (.pick T120 T122 (.c (.bool false))),
    .op D124 (.mv T123),
    .gop .n7 .n12 g124 (fun _ => rfl) true D125 (.mv T15),
    .gop .n7 .n12 g124 (fun _ => rfl) true D126 (.bin .eql T125 (.c (.int .u64 (.ofNat (nat_lit 4))))),
    .op D127 (.pick T124 T126 (.c (.bool false))),
    .op D128 (.mv T127),
    .gop .n8 .n0 g128 (fun _ => rfl) true D129 (.mv T16),
    .op D130 (.pick T128 T129 (.c (.bool false))),
    .op D131 (.mv T130),
    .gop .n8 .n3 g131 (fun _ => rfl) true D132 (.mv T17),
    .gop .n8 .n3 g131 (fun _ => rfl) true D133 (.bin .eql T132 (.c (.int .u64 (.ofNat (nat_lit 6))))),
    .op D134 (.pick T131 T133 (.c (.bool false))),
    .op D135 (.mv T134),
    .gop .n8 .n7 g135 (fun _ => rfl) true D136 (.mv T19),
    .gop .n8 .n7 g135 (fun _ => rfl) true D137 (.bin .eql T136 (.c (.int .u64 (.ofNat (nat_lit 0))))),
    .op D138 (.pick T135 T137 (.c (.bool false))),
    .op D139 (.mv T138),
    .gop .n8 .n11 g139 (fun _ => rfl) true D140 (.mv T6),
    .gop .n8 .n11 g139 (fun _ => rfl) true D141 (.call (nat_lit 39) [T140, .c (.int .u64 (.ofNat (nat_lit 0)))]),
    .op D142 (.pick T139 T141 (.c (.bool false))),
    .op D143 (.mv T142),
    .gop .n8 .n15 g143 (fun _ => rfl) true D144 (.mv T6),
    .gop .n8 .n15 g143 (fun _ => rfl) true D145 (.call (nat_lit 40) [T144, .c (.int .u64 (.ofNat (nat_lit 0)))]),
    .op D146 (.pick T143 T145 (.c (.bool false))),
    .op D147 (.mv T146),
    .gop .n9 .n3 g147 (fun _ => rfl) true D148 (.mv T20),
    .gop .n9 .n3 g147 (fun _ => rfl) true D149 (.bin .eql T148 (.c (.int .i64 (.ofNat (nat_lit 0))))),
    .op D150 (.pick T147 T149 (.c (.bool false))),
    .op D151 (.mv T150),
    .gop .n9 .n7 g151 (fun _ => rfl) true D152 (.mv T21),
    .op D153 (.pick T151 T152 (.c (.bool false))),
    .op D154 (.mv T153),
    .gop .n9 .n10 g154 (fun _ => rfl) true D155 (.mv T1),
    .gop .n9 .n10 g154 (fun _ => rfl) true D156 (.call (nat_lit 25) [T155, .c (.int .i64 (.ofNat (nat_lit 1))), .c (.int .i64 (.ofNat (nat_lit 3))), .c (.int .u64 (.ofNat (nat_lit 9)))]),
    .op D157 (.pick T154 T156 (.c (.bool false))),
    .op D158 (.mv T157),
    .gop .n9 .n14 g158 (fun _ => rfl) true D159 (.mv T23),
    .op D160 (.pick T158 T159 (.c (.bool false))),
    .op D161 (.mv T160),
    .gop .n10 .n1 g161 (fun _ => rfl) true D162 (.mv T22),
    .gop .n10 .n1 g161 (fun _ => rfl) true D163 (.bin .eql T162 (.c (.int .i64 (.ofNat (nat_lit 6))))),
    .op D164 (.pick T161 T163 (.c (.bool false))),
    .op D165 (.mv T164),
    .gop .n10 .n5 g165 (fun _ => rfl) true D166 (.build [.int .u64 (.ofNat (nat_lit 0)), .int .u64 (.ofNat (nat_lit 0)), .int .u64 (.ofNat (nat_lit 0)), .int .u64 (.ofNat (nat_lit 0)), .int .u64 (.ofNat (nat_lit 0))] [((nat_lit 0), (nat_lit 1), .c (.int .u64 (.ofNat (nat_lit 6)))), ((nat_lit 1), (nat_lit 1), .c (.int .u64 (.ofNat (nat_lit 8)))), ((nat_lit 2), (nat_lit 1), .c (.int .u64 (.ofNat (nat_lit 0)))), ((nat_lit 3), (nat_lit 1), .c (.int .u64 (.ofNat (nat_lit 1))))]),
    .gop .n10 .n5 g165 (fun _ => rfl) true D167 (.call (nat_lit 9) [T166, .c (.int .i64 (.ofNat (nat_lit 2)))]),
    .gop .n10 .n5 g165 (fun _ => rfl) true D168 (.bin .eql T167 (.c (.int .i64 (.ofNat (nat_lit 2))))),
    .op D169 (.pick T165 T168 (.c (.bool false))),
    .op D170 (.mv T169),
    .gop .n10 .n10 g170 (fun _ => rfl) true D171 (.call (nat_lit 41) [.c (.int .i64 (.ofNat (nat_lit 3)))]),
    .gop .n10 .n10 g170 (fun _ => rfl) true D172 (.bin .eql T171 (.c (.int .i64 (.ofNat (nat_lit 4))))),
    .op D173 (.pick T170 T172 (.c (.bool false))),
    .op D174 (.mv T173),
    .gop .n10 .n14 g174 (fun _ => rfl) true D175 (.call (nat_lit 42) [.c (.int .i64 (.ofNat (nat_lit 1))), .c (.int .i64 (.ofNat (nat_lit 3)))]),
    .op D176 (.pick T174 T175 (.c (.bool false))),
    .op D177 (.mv T176),
    .gop .n11 .n1 g177 (fun _ => rfl) true D178 (.mv T2),
    .gop .n11 .n1 g177 (fun _ => rfl) true D179 (.call (nat_lit 43) [T178, .c (.int .i64 (.ofNat (nat_lit 2)))]),
    .gop .n11 .n1 g177 (fun _ => rfl) true D180 (.lenL T179),
    .gop .n11 .n1 g177 (fun _ => rfl) true D181 (.bin .eql T180 (.c (.int .i64 (.ofNat (nat_lit 1))))),
    .op D182 (.pick T177 T181 (.c (.bool false))),
    .op D183 (.mv T182),
    .gop .n11 .n7 g183 (fun _ => rfl) true D184 (.mv T7),
    .gop .n11 .n7 g183 (fun _ => rfl) true D185 (.call (nat_lit 23) [T184]),
    .gop .n11 .n7 g183 (fun _ => rfl) true D186 (.bin .eql T185 (.c (.int .u64 (.ofNat (nat_lit 2))))),
    .op D187 (.pick T183 T186 (.c (.bool false))),
    .op D0 (.mv T187)])
  (.ret))))))))))))))),
  [.t .n0 .n0 g0 (fun _ => rfl)]⟩
/-- messuage/word.Check -/
noncomputable def ff9 : FFunc := ⟨.seq (.reg [.op D2 (.box (nat_lit 5) T0),
    .op D4 (.mv (.c (.int .i64 (.ofNat (nat_lit 0)))))])
  (.seq (.reg [.op D10 (.ldA (nat_lit 5) T2),
    .op D11 (.call (nat_lit 37) [T10]),
    .op D9 (.mv T11),
    .op D12 (.ex (nat_lit 0) T9),
    .op D13 (.ex (nat_lit 1) T9),
    .op D5 (.mv T12),
    .op D6 (.mv T13)])
  (.seq (.seq (.reg [.op D14 (.mv T6),
    .op D15 (.un .not T14)])
  (.cond T15 (.seq (.reg [.op D4 (.mv (.c (.int .i64 (.ofNat (nat_lit 1)))))])
  (.ret))
  (.skip)))
  (.seq (.seq (.reg [.op D16 (.mv T5),
    .op D17 (.call (nat_lit 44) [T16]),
    .op D18 (.lenL T17),
    .op D19 (.mv (.c (.int .i64 (.ofNat (nat_lit 0)))))])
  (.block (nat_lit 0) (.loop (.seq (.reg [.op D20 (.bin .lss T19 T18)])
  (.seq (.cond T20 (.skip)
  (.exit (nat_lit 0)))
  (.seq (.block (nat_lit 1) (.seq (.reg [.op D21 (.mv T19),
    .op D22 (.ixaS (nat_lit 1) T17 T19),
    .op D23 (.ld1 T22),
    .op D7 (.mv T21),
    .op D8 (.mv T23)])
  (.seq (.reg [.op D24 (.ldA (nat_lit 5) T2),
    .op D25 (.mv T7),
    .op D26 (.bin .add T25 (.c (.int .i64 (.ofNat (nat_lit 1))))),
    .op D27 (.mv T8),
    .op D28 (.mv T1),
    .op D29 (.call (nat_lit 45) [T24, T26, T27, T28]),
    .op D30 (.un .not T29)])
  (.cond T30 (.seq (.reg [.op D4 (.mv (.c (.int .i64 (.ofNat (nat_lit 2)))))])
  (.ret))
  (.skip)))))
  (.reg [.op D31 (.bin .add T19 (.c (.int .i64 (.ofNat (nat_lit 1))))),
    .op D19 (.mv T31)])))))))
  (.seq (.reg [.op D4 (.mv (.c (.int .i64 (.ofNat (nat_lit 0)))))])
  (.ret))))),
  [.t .n0 .n4 g4 (fun _ => rfl)]⟩
/-- messuage/messuageref2.Check -/
noncomputable def ff10 : FFunc := ⟨.seq (.reg [.op D2 (.box (nat_lit 5) T0),
    .op D4 (.mv (.c (.int .i64 (.ofNat (nat_lit 0)))))])
  (.seq (.reg [.op D12 (.ldA (nat_lit 5) T2),
    .op D13 (.call (nat_lit 46) [T12]),
    .op D11 (.mv T13),
    .op D14 (.ex (nat_lit 0) T11),
    .op D15 (.ex (nat_lit 1) T11),
    .op D5 (.mv T14),
    .op D6 (.mv T15)])
  (.seq (.seq (.reg [.op D16 (.mv T6),
    .op D17 (.un .not T16)])
  (.cond T17 (.seq (.reg [.op D4 (.mv (.c (.int .i64 (.ofNat (nat_lit 1)))))])
  (.ret))
  (.skip)))
  (.seq (.reg [.op D18 (.mv T5),
    .op D19 (.call (nat_lit 47) [T18]),
    .op D7 (.mv T19)])
  (.seq (.seq (.reg [.op D8 (.mv (.c (.int .i64 (.ofNat (nat_lit 0)))))])
  (.block (nat_lit 0) (.loop (.seq (.seq (.reg [.op D20 (.mv T8),
    .op D21 (.mv T7),
    .op D22 (.lenS T21),
    .op D23 (.bin .lss T20 T22)])
  (.cond T23 (.skip)
  (.exit (nat_lit 0))))
  (.seq (.block (nat_lit 1) (.seq (.reg [.op D26 (.mv T8),
    .op D27 (.bin .add T26 (.c (.int .i64 (.ofNat (nat_lit 1))))),
    .op D28 (.ixaA (nat_lit 5) (nat_lit 1) T2 T27),
    .op D29 (.ld1 T28),
    .op D9 (.mv T29)])
  (.seq (.reg [.op D10 (.mv (.c (.bool false)))])
  (.seq (.seq (.reg [.op D30 (.mv T7),
    .op D31 (.mv T8),
    .op D32 (.ixS T30 T31)])
  (.block (nat_lit 2) (.seq (.reg [.op D34 (.bin .eql T32 (.c (.int .u8 (.ofNat (nat_lit 115))))),
    .op D33 (.mv T34)])
  (.cond T33 (.reg [.op D35 (.mv T9),
    .op D36 (.bin .geq T35 (.c (.int .u64 (.ofNat (nat_lit 8))))),
    .op D10 (.mv T36)])
  (.seq (.reg [.op D38 (.bin .eql T32 (.c (.int .u8 (.ofNat (nat_lit 112))))),
    .op D37 (.mv T38)])
  (.cond T37 (.reg [.op D39 (.mv T9),
    .op D40 (.bin .geq T39 (.c (.int .u64 (.ofNat (nat_lit 8))))),
    .op D10 (.mv T40)])
  (.seq (.reg [.op D42 (.bin .eql T32 (.c (.int .u8 (.ofNat (nat_lit 119))))),
    .op D41 (.mv T42)])
  (.cond T41 (.reg [.op D43 (.mv T9),
    .op D44 (.bin .geq T43 (.c (.int .u64 (.ofNat (nat_lit 16))))),
    .op D10 (.mv T44)])
  (.seq (.reg [.op D46 (.bin .eql T32 (.c (.int .u8 (.ofNat (nat_lit 101))))),
    .op D45 (.mv T46)])
  (.cond T45 (.reg [.op D47 (.mv T1),
    .op D48 (.bin .lss T47 (.c (.int .i64 (.ofNat (nat_lit 1))))),
    .op D49 (.mv T48),
    .gop .n3 .n1 g49 (fun _ => rfl) false D50 (.mv T9),
    .gop .n3 .n1 g49 (fun _ => rfl) false D51 (.mv T1),
    .gop .n3 .n1 g49 (fun _ => rfl) false D52 (.cvi .u64 T51),
    .gop .n3 .n1 g49 (fun _ => rfl) false D53 (.bin .geq T50 T52),
    .op D54 (.pick T49 (.c (.bool true)) T53),
    .op D10 (.mv T54)])
  (.seq (.reg [.op D56 (.bin .eql T32 (.c (.int .u8 (.ofNat (nat_lit 114))))),
    .op D55 (.mv T56)])
  (.cond T55 (.reg [.op D57 (.mv T9),
    .op D58 (.bin .lss T57 (.c (.int .u64 (.ofNat (nat_lit 1))))),
    .op D59 (.mv T58),
    .gop .n3 .n11 g59 (fun _ => rfl) false D60 (.mv T9),
    .gop .n3 .n11 g59 (fun _ => rfl) false D61 (.bin .gtr T60 (.c (.int .u64 (.ofNat (nat_lit 3))))),
    .op D62 (.pick T59 (.c (.bool true)) T61),
    .op D10 (.mv T62)])
  (.seq (.reg [.op D64 (.bin .eql T32 (.c (.int .u8 (.ofNat (nat_lit 111))))),
    .op D63 (.mv T64)])
  (.cond T63 (.reg [.op D65 (.mv T9),
    .op D66 (.bin .lss T65 (.c (.int .u64 (.ofNat (nat_lit 1))))),
    .op D67 (.mv T66),
    .gop .n4 .n3 g67 (fun _ => rfl) false D68 (.mv T9),
    .gop .n4 .n3 g67 (fun _ => rfl) false D69 (.bin .gtr T68 (.c (.int .u64 (.ofNat (nat_lit 4))))),
    .op D70 (.pick T67 (.c (.bool true)) T69),
    .op D10 (.mv T70)])
  (.skip)))))))))))))))
  (.seq (.reg [.op D71 (.mv T10)])
  (.cond T71 (.seq (.reg [.op D4 (.mv (.c (.int .i64 (.ofNat (nat_lit 2)))))])
  (.ret))
  (.skip)))))))
  (.reg [.op D24 (.mv T8),
    .op D25 (.bin .add T24 (.c (.int .i64 (.ofNat (nat_lit 1))))),
    .op D8 (.mv T25)]))))))
  (.seq (.reg [.op D4 (.mv (.c (.int .i64 (.ofNat (nat_lit 0)))))])
  (.ret)))))),
  [.t .n0 .n4 g4 (fun _ => rfl)]⟩
/-- messuage/mail.New -/
noncomputable def ff11 : FFunc := ⟨.seq (.reg [.op D2 (.mv (.c (.nilp)))])
  (.seq (.seq (.reg [.op D3 (.mv T0),
    .op D4 (.bin .lss T3 (.c (.int .i64 (.ofNat (nat_lit 1))))),
    .op D5 (.mv T4),
    .gop .n0 .n5 g5 (fun _ => rfl) false D6 (.mv T0),
    .gop .n0 .n5 g5 (fun _ => rfl) false D7 (.bin .gtr T6 (.c (.int .i64 (.ofNat (nat_lit 8))))),
    .op D8 (.pick T5 (.c (.bool true)) T7)])
  (.cond T8 (.seq (.reg [.op D2 (.mv (.c (.nilp)))])
  (.ret))
  (.skip)))
  (.seq (.reg [.op D9 (.mv T0),
    .op D10 (.mksl (nat_lit 1) (nat_lit 24) [.nils] T9 T9),
    .op D11 (.build [.nils] [((nat_lit 0), (nat_lit 1), T10)]),
    .op D12 (.box (nat_lit 1) T11),
    .op D2 (.mv T12)])
  (.ret))),
  [.t .n0 .n2 g2 (fun _ => rfl)]⟩
/-- (*messuage/mail.Mail).Send -/
noncomputable def ff12 : FFunc := ⟨.seq (.reg [.op D8 (.mv (.c (.bool false)))])
  (.seq (.seq (.reg [.op D11 (.mv T0),
    .op D12 (.mv T1),
    .op D13 (.call (nat_lit 48) [T11, T12]),
    .op D14 (.un .not T13),
    .op D15 (.mv T14),
    .gop .n0 .n15 g15 (fun _ => rfl) false D16 (.mv T0),
    .gop .n0 .n15 g15 (fun _ => rfl) false D17 (.mv T2),
    .gop .n0 .n15 g15 (fun _ => rfl) false D18 (.call (nat_lit 48) [T16, T17]),
    .gop .n0 .n15 g15 (fun _ => rfl) false D19 (.un .not T18),
    .op D20 (.pick T15 (.c (.bool true)) T19),
    .op D21 (.mv T20),
    .gop .n1 .n5 g21 (fun _ => rfl) false D22 (.mv T1),
    .gop .n1 .n5 g21 (fun _ => rfl) false D23 (.mv T2),
    .gop .n1 .n5 g21 (fun _ => rfl) false D24 (.bin .eql T22 T23),
    .op D25 (.pick T21 (.c (.bool true)) T24)])
  (.cond T25 (.seq (.reg [.op D8 (.mv (.c (.bool false)))])
  (.ret))
  (.skip)))
  (.seq (.seq (.reg [.op D27 (.mv T0),
    .op D28 (.nilck T27),
    .op D29 (.fadd (nat_lit 0) T28),
    .op D30 (.ld1 T29),
    .op D31 (.mv T2),
    .op D32 (.ixaS (nat_lit 1) T30 T31),
    .op D33 (.ld1 T32),
    .op D34 (.mv T3),
    .op D35 (.call (nat_lit 49) [T33, T34]),
    .op D26 (.mv T35),
    .op D36 (.ex (nat_lit 0) T26),
    .op D37 (.ex (nat_lit 1) T26),
    .op D9 (.mv T36),
    .op D10 (.mv T37)])
  (.seq (.reg [.op D38 (.mv T10),
    .op D39 (.un .not T38)])
  (.cond T39 (.drw [.op D40 (.mv T0),
    .op D41 (.nilck T40),
    .op D42 (.fadd (nat_lit 0) T41),
    .op D43 (.ld1 T42),
    .op D44 (.mv T2),
    .op D45 (.mv T0),
    .op D46 (.nilck T45),
    .op D47 (.fadd (nat_lit 0) T46),
    .op D48 (.ld1 T47),
    .op D49 (.mv T2),
    .op D50 (.ixaS (nat_lit 1) T48 T49),
    .op D51 (.ld1 T50),
    .op D52 (.mv T9),
    .op D53 (.mv T3),
    .op D54 (.bsl (nat_lit 1) [.int .u64 (.ofNat (nat_lit 0))] (nat_lit 1) [((nat_lit 0), (nat_lit 1), T53)]),
    .op D55 (.call (nat_lit 50) [T51, T52, T54]),
    .op D56 (.ixaS (nat_lit 1) T43 T44),
    .op .no (.st (nat_lit 1) T56 T55)] [((nat_lit 3), (nat_lit 15))])
  (.skip))))
  (.seq (.reg [.op D8 (.mv (.c (.bool true)))])
  (.ret)))),
  [.t .n0 .n8 g8 (fun _ => rfl)]⟩
/-- messuage/messuagelaw2.put -/
noncomputable def ff13 : FFunc := ⟨.seq (.reg [.op D4 (.mv (.c (.nils)))])
  (.seq (.reg [.op D5 (.mv (.c (.int .i64 (.ofNat (nat_lit 0)))))])
  (.seq (.block (nat_lit 0) (.loop (.seq (.seq (.reg [.op D6 (.mv T5),
    .op D7 (.mv T0),
    .op D8 (.lenL T7),
    .op D9 (.bin .lss T6 T8),
    .op D10 (.mv T9),
    .gop .n0 .n10 g10 (fun _ => rfl) true D11 (.mv T0),
    .gop .n0 .n10 g10 (fun _ => rfl) true D12 (.mv T5),
    .gop .n0 .n10 g10 (fun _ => rfl) true D13 (.ixaS (nat_lit 1) T11 T12),
    .gop .n0 .n10 g10 (fun _ => rfl) true D14 (.ld1 T13),
    .gop .n0 .n10 g10 (fun _ => rfl) true D15 (.mv T1),
    .gop .n0 .n10 g10 (fun _ => rfl) true D16 (.bin .lss T14 T15),
    .op D17 (.pick T10 T16 (.c (.bool false)))])
  (.cond T17 (.skip)
  (.exit (nat_lit 0))))
  (.block (nat_lit 1) (.reg [.op D18 (.mv T5),
    .op D19 (.bin .add T18 (.c (.int .i64 (.ofNat (nat_lit 1))))),
    .op D5 (.mv T19)])))))
  (.seq (.seq (.reg [.op D20 (.mv T5),
    .op D21 (.mv T0),
    .op D22 (.lenL T21),
    .op D23 (.bin .lss T20 T22),
    .op D24 (.mv T23),
    .gop .n1 .n8 g24 (fun _ => rfl) true D25 (.mv T0),
    .gop .n1 .n8 g24 (fun _ => rfl) true D26 (.mv T5),
    .gop .n1 .n8 g24 (fun _ => rfl) true D27 (.ixaS (nat_lit 1) T25 T26),
    .gop .n1 .n8 g24 (fun _ => rfl) true D28 (.ld1 T27),
    .gop .n1 .n8 g24 (fun _ => rfl) true D29 (.mv T1),
    .gop .n1 .n8 g24 (fun _ => rfl) true D30 (.bin .eql T28 T29),
    .op D31 (.pick T24 T30 (.c (.bool false)))])
  (.cond T31 (.seq (.reg [.op D32 (.mv T0),
    .op D4 (.mv T32)])
  (.ret))
  (.skip)))
  (.seq (.drw [.op D33 (.mv T0),
    .op D34 (.mv T5),
    .op D35 (.slSlc (nat_lit 1) T33 .no (.is T34) .no),
    .op D36 (.app (nat_lit 1) (nat_lit 8) (.c (.nils)) T35),
    .op D37 (.mv T1),
    .op D38 (.bsl (nat_lit 1) [.int .u64 (.ofNat (nat_lit 0))] (nat_lit 1) [((nat_lit 0), (nat_lit 1), T37)]),
    .op D39 (.app (nat_lit 1) (nat_lit 8) T36 T38),
    .op D40 (.mv T0),
    .op D41 (.mv T5),
    .op D42 (.slSlc (nat_lit 1) T40 (.is T41) .no .no),
    .op D43 (.app (nat_lit 1) (nat_lit 8) T39 T42),
    .op D4 (.mv T43)] [((nat_lit 5), (nat_lit 3))])
  (.ret))))),
  [.t .n0 .n4 g4 (fun _ => rfl)]⟩
/-- (*messuage/mail.Mail).Take -/
noncomputable def ff14 : FFunc := ⟨.seq (.reg [.op D4 (.mv (.c (.int .u64 (.ofNat (nat_lit 0))))),
    .op D5 (.mv (.c (.bool false)))])
  (.seq (.seq (.reg [.op D7 (.mv T0),
    .op D8 (.mv T1),
    .op D9 (.call (nat_lit 15) [T7, T8]),
    .op D10 (.bin .eql T9 (.c (.int .i64 (.ofNat (nat_lit 0)))))])
  (.cond T10 (.seq (.reg [.op D4 (.mv (.c (.int .u64 (.ofNat (nat_lit 0))))),
    .op D5 (.mv (.c (.bool false)))])
  (.ret))
  (.skip)))
  (.seq (.reg [.op D11 (.mv T0),
    .op D12 (.nilck T11),
    .op D13 (.fadd (nat_lit 0) T12),
    .op D14 (.ld1 T13),
    .op D15 (.mv T1),
    .op D16 (.ixaS (nat_lit 1) T14 T15),
    .op D17 (.ld1 T16),
    .op D18 (.ixaS (nat_lit 1) T17 (.c (.int .i64 (.ofNat (nat_lit 0))))),
    .op D19 (.ld1 T18),
    .op D6 (.mv T19)])
  (.seq (.drw [.op D20 (.mv T0),
    .op D21 (.nilck T20),
    .op D22 (.fadd (nat_lit 0) T21),
    .op D23 (.ld1 T22),
    .op D24 (.mv T1),
    .op D25 (.mv T0),
    .op D26 (.nilck T25),
    .op D27 (.fadd (nat_lit 0) T26),
    .op D28 (.ld1 T27),
    .op D29 (.mv T1),
    .op D30 (.ixaS (nat_lit 1) T28 T29),
    .op D31 (.ld1 T30),
    .op D32 (.slSlc (nat_lit 1) T31 (.is (.c (.int .i64 (.ofNat (nat_lit 1))))) .no .no),
    .op D33 (.ixaS (nat_lit 1) T23 T24),
    .op .no (.st (nat_lit 1) T33 T32)] [])
  (.seq (.reg [.op D34 (.mv T6),
    .op D4 (.mv T34),
    .op D5 (.mv (.c (.bool true)))])
  (.ret))))),
  [.t .n0 .n4 g4 (fun _ => rfl), .t .n0 .n5 g5 (fun _ => rfl)]⟩
/-- (*messuage/mail.Mail).Waits -/
noncomputable def ff15 : FFunc := ⟨.seq (.reg [.op D4 (.mv (.c (.int .i64 (.ofNat (nat_lit 0)))))])
  (.seq (.seq (.reg [.op D5 (.mv T0),
    .op D6 (.mv T1),
    .op D7 (.call (nat_lit 48) [T5, T6]),
    .op D8 (.un .not T7)])
  (.cond T8 (.seq (.reg [.op D4 (.mv (.c (.int .i64 (.ofNat (nat_lit 0)))))])
  (.ret))
  (.skip)))
  (.seq (.reg [.op D9 (.mv T0),
    .op D10 (.nilck T9),
    .op D11 (.fadd (nat_lit 0) T10),
    .op D12 (.ld1 T11),
    .op D13 (.mv T1),
    .op D14 (.ixaS (nat_lit 1) T12 T13),
    .op D15 (.ld1 T14),
    .op D16 (.lenL T15),
    .op D4 (.mv T16)])
  (.ret))),
  [.t .n0 .n4 g4 (fun _ => rfl)]⟩
/-- messuage/tlb.New -/
noncomputable def ff16 : FFunc := ⟨.seq (.reg [.op D0 (.mv (.c (.nilp)))])
  (.seq (.reg [.op D2 (.build [.int .i64 (.ofNat (nat_lit 0)), .int .i64 (.ofNat (nat_lit 0)), .int .i64 (.ofNat (nat_lit 0)), .int .i64 (.ofNat (nat_lit 0)), .int .i64 (.ofNat (nat_lit 0)), .int .i64 (.ofNat (nat_lit 0)), .int .i64 (.ofNat (nat_lit 0)), .int .i64 (.ofNat (nat_lit 0)), .int .i64 (.ofNat (nat_lit 0)), .int .i64 (.ofNat (nat_lit 0)), .int .i64 (.ofNat (nat_lit 0)), .int .i64 (.ofNat (nat_lit 0)), .int .i64 (.ofNat (nat_lit 0)), .int .i64 (.ofNat (nat_lit 0)), .int .i64 (.ofNat (nat_lit 0)), .int .i64 (.ofNat (nat_lit 0)), .int .i64 (.ofNat (nat_lit 0)), .int .i64 (.ofNat (nat_lit 0)), .int .i64 (.ofNat (nat_lit 0)), .int .i64 (.ofNat (nat_lit 0)), .int .i64 (.ofNat (nat_lit 0)), .int .i64 (.ofNat (nat_lit 0)), .int .i64 (.ofNat (nat_lit 0)), .int .i64 (.ofNat (nat_lit 0)), .int .i64 (.ofNat (nat_lit 0)), .int .i64 (.ofNat (nat_lit 0)), .int .i64 (.ofNat (nat_lit 0)), .int .i64 (.ofNat (nat_lit 0)), .int .i64 (.ofNat (nat_lit 0)), .int .i64 (.ofNat (nat_lit 0)), .int .i64 (.ofNat (nat_lit 0)), .int .i64 (.ofNat (nat_lit 0)), .int .i64 (.ofNat (nat_lit 0)), .int .i64 (.ofNat (nat_lit 0)), .int .i64 (.ofNat (nat_lit 0)), .int .i64 (.ofNat (nat_lit 0)), .int .i64 (.ofNat (nat_lit 0)), .int .i64 (.ofNat (nat_lit 0)), .int .i64 (.ofNat (nat_lit 0)), .int .i64 (.ofNat (nat_lit 0)), .int .i64 (.ofNat (nat_lit 0))] []),
    .op D3 (.box (nat_lit 41) T2),
    .op D1 (.mv T3)])
  (.seq (.reg [.op D4 (.mv T1),
    .op D5 (.call (nat_lit 51) [T4])])
  (.seq (.reg [.op D6 (.mv T1),
    .op D0 (.mv T6)])
  (.ret)))),
  [.t .n0 .n0 g0 (fun _ => rfl)]⟩
/-- (*messuage/tlb.Tlb).Fill -/
noncomputable def ff17 : FFunc := ⟨.seq (.reg [.op D3 (.box (nat_lit 4) T1),
    .op D4 (.mv (.c (.bool false)))])
  (.seq (.reg [.op D7 (.fadd (nat_lit 0) T3),
    .op D8 (.ld1 T7),
    .op D9 (.bin .lss T8 (.c (.int .i64 (.ofNat (nat_lit 0))))),
    .op D10 (.mv T9),
    .gop .n0 .n10 g10 (fun _ => rfl) false D11 (.fadd (nat_lit 0) T3),
    .gop .n0 .n10 g10 (fun _ => rfl) false D12 (.ld1 T11),
    .gop .n0 .n10 g10 (fun _ => rfl) false D13 (.bin .geq T12 (.c (.int .i64 (.ofNat (nat_lit 4))))),
    .op D14 (.pick T10 (.c (.bool true)) T13),
    .op D15 (.mv T14),
    .gop .n0 .n15 g15 (fun _ => rfl) false D16 (.fadd (nat_lit 1) T3),
    .gop .n0 .n15 g15 (fun _ => rfl) false D17 (.ld1 T16),
    .gop .n0 .n15 g15 (fun _ => rfl) false D18 (.bin .lss T17 (.c (.int .i64 (.ofNat (nat_lit 0))))),
    .op D19 (.pick T15 (.c (.bool true)) T18),
    .op D20 (.mv T19),
    .gop .n1 .n4 g20 (fun _ => rfl) false D21 (.fadd (nat_lit 1) T3),
    .gop .n1 .n4 g20 (fun _ => rfl) false D22 (.ld1 T21),
    .gop .n1 .n4 g20 (fun _ => rfl) false D23 (.bin .geq T22 (.c (.int .i64 (.ofNat (nat_lit 8))))),
    .op D24 (.pick T20 (.c (.bool true)) T23),
    .op D25 (.mv T24),
    .gop .n1 .n9 g25 (fun _ => rfl) false D26 (.fadd (nat_lit 2) T3),
    .gop .n1 .n9 g25 (fun _ => rfl) false D27 (.ld1 T26),
    .gop .n1 .n9 g25 (fun _ => rfl) false D28 (.bin .lss T27 (.c (.int .i64 (.ofNat (nat_lit 0))))),
    .op D29 (.pick T25 (.c (.bool true)) T28),
    .op D30 (.mv T29),
    .gop .n1 .n14 g30 (fun _ => rfl) false D31 (.fadd (nat_lit 2) T3),
    .gop .n1 .n14 g30 (fun _ => rfl) false D32 (.ld1 T31),
    .gop .n1 .n14 g30 (fun _ => rfl) false D33 (.bin .geq T32 (.c (.int .i64 (.ofNat (nat_lit 16))))),
    .op D34 (.pick T30 (.c (.bool true)) T33),
    .op D5 (.mv T34)])
  (.seq (.seq (.reg [.op D35 (.mv T0),
    .op D36 (.eq false (.sc .ptr) T35 (.c (.nilp))),
    .op D37 (.mv T36),
    .gop .n2 .n5 g37 (fun _ => rfl) false D38 (.mv T5),
    .op D39 (.pick T37 (.c (.bool true)) T38),
    .op D40 (.mv T39),
    .gop .n2 .n8 g40 (fun _ => rfl) false D41 (.fadd (nat_lit 3) T3),
    .gop .n2 .n8 g40 (fun _ => rfl) false D42 (.ld1 T41),
    .gop .n2 .n8 g40 (fun _ => rfl) false D43 (.call (nat_lit 52) [T42]),
    .gop .n2 .n8 g40 (fun _ => rfl) false D44 (.un .not T43),
    .op D45 (.pick T40 (.c (.bool true)) T44)])
  (.cond T45 (.seq (.reg [.op D4 (.mv (.c (.bool false)))])
  (.ret))
  (.skip)))
  (.seq (.reg [.op D46 (.mv T0),
    .op D47 (.fadd (nat_lit 0) T3),
    .op D48 (.ld1 T47),
    .op D49 (.fadd (nat_lit 1) T3),
    .op D50 (.ld1 T49),
    .op D51 (.call (nat_lit 53) [T46, T48, T50]),
    .op D6 (.mv T51)])
  (.seq (.seq (.reg [.op D52 (.mv T6),
    .op D53 (.eq false (.sc .ptr) T52 (.c (.nilp)))])
  (.cond T53 (.reg [.op D54 (.mv T0),
    .op D55 (.fadd (nat_lit 1) T3),
    .op D56 (.ld1 T55),
    .op D57 (.bin .rem T56 (.c (.int .i64 (.ofNat (nat_lit 4))))),
    .op D58 (.call (nat_lit 54) [T54, T57]),
    .op D6 (.mv T58)])
  (.skip)))
  (.seq (.reg [.op D59 (.mv T0),
    .op D60 (.nilck T59),
    .op D61 (.fadd (nat_lit 40) T60),
    .op D62 (.ld1 T61),
    .op D63 (.bin .add T62 (.c (.int .i64 (.ofNat (nat_lit 1))))),
    .op D64 (.nilck T59),
    .op D65 (.fadd (nat_lit 40) T64),
    .op .no (.st (nat_lit 1) T65 T63)])
  (.seq (.drw [.op D66 (.mv T6),
    .op D67 (.ldA (nat_lit 4) T3),
    .op D68 (.mv T0),
    .op D69 (.nilck T68),
    .op D70 (.fadd (nat_lit 40) T69),
    .op D71 (.ld1 T70),
    .op D72 (.build [.int .i64 (.ofNat (nat_lit 0)), .int .i64 (.ofNat (nat_lit 0)), .int .i64 (.ofNat (nat_lit 0)), .int .i64 (.ofNat (nat_lit 0)), .int .i64 (.ofNat (nat_lit 0))] [((nat_lit 0), (nat_lit 4), T67), ((nat_lit 4), (nat_lit 1), T71)]),
    .op D73 (.nilck T66),
    .op .no (.st (nat_lit 5) T73 T72)] [])
  (.seq (.reg [.op D4 (.mv (.c (.bool true)))])
  (.ret)))))))),
  [.t .n0 .n4 g4 (fun _ => rfl)]⟩
/-- (*messuage/tlb.Tlb).Lines -/
noncomputable def ff18 : FFunc := ⟨.seq (.reg [.op D2 (.mv (.c (.nils)))])
  (.seq (.seq (.reg [.op D7 (.mv T0),
    .op D8 (.eq false (.sc .ptr) T7 (.c (.nilp)))])
  (.cond T8 (.seq (.reg [.op D2 (.mv (.c (.nils)))])
  (.ret))
  (.skip)))
  (.seq (.reg [.op D3 (.mv (.c (.nils)))])
  (.seq (.seq (.reg [.op D9 (.mv (.c (.int .i64 (.ofNat (nat_lit 0)))))])
  (.block (nat_lit 0) (.loop (.seq (.reg [.op D10 (.bin .lss T9 (.c (.int .i64 (.ofNat (nat_lit 4)))))])
  (.seq (.cond T10 (.skip)
  (.exit (nat_lit 0)))
  (.seq (.block (nat_lit 1) (.seq (.reg [.op D11 (.mv T9),
    .op D4 (.mv T11)])
  (.seq (.reg [.op D12 (.mv T0),
    .op D13 (.mv T4),
    .op D14 (.nilck T12),
    .op D15 (.fadd (nat_lit 0) T14),
    .op D16 (.ixaA (nat_lit 4) (nat_lit 10) T15 T13),
    .op D17 (.ldA (nat_lit 10) T16),
    .op D18 (.mv (.c (.int .i64 (.ofNat (nat_lit 0)))))])
  (.block (nat_lit 2) (.loop (.seq (.reg [.op D19 (.bin .lss T18 (.c (.int .i64 (.ofNat (nat_lit 2)))))])
  (.seq (.cond T19 (.skip)
  (.exit (nat_lit 2)))
  (.seq (.block (nat_lit 3) (.seq (.reg [.op D20 (.ixAA (nat_lit 2) (nat_lit 5) T17 T18),
    .op D6 (.new [.int .i64 (.ofNat (nat_lit 0)), .int .i64 (.ofNat (nat_lit 0)), .int .i64 (.ofNat (nat_lit 0)), .int .i64 (.ofNat (nat_lit 0)), .int .i64 (.ofNat (nat_lit 0))]),
    .op .no (.st (nat_lit 5) T6 T20)])
  (.reg [.op D21 (.mv T3),
    .op D22 (.fadd (nat_lit 0) T6),
    .op D23 (.ldA (nat_lit 4) T22),
    .op D24 (.bsl (nat_lit 4) [.int .i64 (.ofNat (nat_lit 0)), .int .i64 (.ofNat (nat_lit 0)), .int .i64 (.ofNat (nat_lit 0)), .int .i64 (.ofNat (nat_lit 0))] (nat_lit 1) [((nat_lit 0), (nat_lit 4), T23)]),
    .op D25 (.app (nat_lit 4) (nat_lit 32) T21 T24),
    .op D3 (.mv T25)])))
  (.reg [.op D26 (.bin .add T18 (.c (.int .i64 (.ofNat (nat_lit 1))))),
    .op D18 (.mv T26)])))))))))
  (.reg [.op D27 (.bin .add T9 (.c (.int .i64 (.ofNat (nat_lit 1))))),
    .op D9 (.mv T27)])))))))
  (.seq (.reg [.op D28 (.mv T3),
    .op D2 (.mv T28)])
  (.ret))))),
  [.t .n0 .n2 g2 (fun _ => rfl)]⟩
/-- messuage/pool.New -/
noncomputable def ff19 : FFunc := ⟨.seq (.reg [.op D2 (.mv (.c (.nilp)))])
  (.seq (.seq (.reg [.op D3 (.mv T0),
    .op D4 (.bin .lss T3 (.c (.int .i64 (.ofNat (nat_lit 1))))),
    .op D5 (.mv T4),
    .gop .n0 .n5 g5 (fun _ => rfl) false D6 (.mv T0),
    .gop .n0 .n5 g5 (fun _ => rfl) false D7 (.bin .gtr T6 (.c (.int .i64 (.ofNat (nat_lit 16))))),
    .op D8 (.pick T5 (.c (.bool true)) T7)])
  (.cond T8 (.seq (.reg [.op D2 (.mv (.c (.nilp)))])
  (.ret))
  (.skip)))
  (.seq (.reg [.op D9 (.mv T0),
    .op D10 (.mksl (nat_lit 1) (nat_lit 8) [.int .i64 (.ofNat (nat_lit 0))] T9 T9),
    .op D11 (.build [.nils] [((nat_lit 0), (nat_lit 1), T10)]),
    .op D12 (.box (nat_lit 1) T11),
    .op D2 (.mv T12)])
  (.ret))),
  [.t .n0 .n2 g2 (fun _ => rfl)]⟩
/-- (*messuage/pool.Pool).Take -/
noncomputable def ff20 : FFunc := ⟨.seq (.reg [.op D2 (.mv (.c (.int .i64 (.ofNat (nat_lit 0))))),
    .op D3 (.mv (.c (.bool false)))])
  (.seq (.seq (.reg [.op D5 (.mv T0),
    .op D6 (.eq false (.sc .ptr) T5 (.c (.nilp)))])
  (.cond T6 (.seq (.reg [.op D2 (.mv (.c (.int .i64 (.ofNat (nat_lit 0))))),
    .op D3 (.mv (.c (.bool false)))])
  (.ret))
  (.skip)))
  (.seq (.reg [.op D7 (.mv T0),
    .op D8 (.nilck T7),
    .op D9 (.fadd (nat_lit 0) T8),
    .op D10 (.ld1 T9),
    .op D11 (.call (nat_lit 55) [T10, .c (.int .i64 (.ofNat (nat_lit 0)))]),
    .op D4 (.mv T11)])
  (.seq (.seq (.reg [.op D12 (.mv T4),
    .op D13 (.bin .lss T12 (.c (.int .i64 (.ofNat (nat_lit 0)))))])
  (.cond T13 (.seq (.reg [.op D2 (.mv (.c (.int .i64 (.ofNat (nat_lit 0))))),
    .op D3 (.mv (.c (.bool false)))])
  (.ret))
  (.skip)))
  (.seq (.reg [.op D14 (.mv T0),
    .op D15 (.nilck T14),
    .op D16 (.fadd (nat_lit 0) T15),
    .op D17 (.ld1 T16),
    .op D18 (.mv T4),
    .op D19 (.ixaS (nat_lit 1) T17 T18),
    .op .no (.st (nat_lit 1) T19 (.c (.int .i64 (.ofNat (nat_lit 1)))))])
  (.seq (.reg [.op D20 (.mv T4),
    .op D2 (.mv T20),
    .op D3 (.mv (.c (.bool true)))])
  (.ret)))))),
  [.t .n0 .n2 g2 (fun _ => rfl), .t .n0 .n3 g3 (fun _ => rfl)]⟩
/-- (*messuage/pool.Pool).Let -/
noncomputable def ff21 : FFunc := ⟨.seq (.reg [.op D4 (.mv (.c (.int .i64 (.ofNat (nat_lit 0))))),
    .op D5 (.mv (.c (.bool false)))])
  (.seq (.seq (.reg [.op D6 (.mv T0),
    .op D7 (.mv T1),
    .op D8 (.call (nat_lit 56) [T6, T7]),
    .op D9 (.bin .eql T8 (.c (.int .i64 (.ofNat (nat_lit 0)))))])
  (.cond T9 (.seq (.reg [.op D4 (.mv (.c (.int .i64 (.ofNat (nat_lit 0))))),
    .op D5 (.mv (.c (.bool false)))])
  (.ret))
  (.skip)))
  (.seq (.reg [.op D10 (.mv T0),
    .op D11 (.nilck T10),
    .op D12 (.fadd (nat_lit 0) T11),
    .op D13 (.ld1 T12),
    .op D14 (.mv T1),
    .op D15 (.ixaS (nat_lit 1) T13 T14),
    .op D16 (.ld1 T15),
    .op D17 (.bin .sub T16 (.c (.int .i64 (.ofNat (nat_lit 1))))),
    .op D18 (.ixaS (nat_lit 1) T13 T14),
    .op .no (.st (nat_lit 1) T18 T17)])
  (.seq (.reg [.op D19 (.mv T0),
    .op D20 (.nilck T19),
    .op D21 (.fadd (nat_lit 0) T20),
    .op D22 (.ld1 T21),
    .op D23 (.mv T1),
    .op D24 (.ixaS (nat_lit 1) T22 T23),
    .op D25 (.ld1 T24),
    .op D4 (.mv T25),
    .op D5 (.mv (.c (.bool true)))])
  (.ret)))),
  [.t .n0 .n4 g4 (fun _ => rfl), .t .n0 .n5 g5 (fun _ => rfl)]⟩
/-- (*messuage/pool.Pool).Free -/
noncomputable def ff22 : FFunc := ⟨.seq (.reg [.op D2 (.mv (.c (.nils)))])
  (.seq (.seq (.reg [.op D6 (.mv T0),
    .op D7 (.eq false (.sc .ptr) T6 (.c (.nilp)))])
  (.cond T7 (.seq (.reg [.op D2 (.mv (.c (.nils)))])
  (.ret))
  (.skip)))
  (.seq (.reg [.op D3 (.mv (.c (.nils)))])
  (.seq (.seq (.reg [.op D8 (.mv T0),
    .op D9 (.nilck T8),
    .op D10 (.fadd (nat_lit 0) T9),
    .op D11 (.ld1 T10),
    .op D12 (.lenL T11),
    .op D13 (.mv (.c (.int .i64 (.ofNat (nat_lit 0)))))])
  (.block (nat_lit 0) (.loop (.seq (.reg [.op D14 (.bin .lss T13 T12)])
  (.seq (.cond T14 (.skip)
  (.exit (nat_lit 0)))
  (.seq (.block (nat_lit 1) (.seq (.reg [.op D15 (.mv T13),
    .op D16 (.ixaS (nat_lit 1) T11 T13),
    .op D17 (.ld1 T16),
    .op D4 (.mv T15),
    .op D5 (.mv T17)])
  (.seq (.reg [.op D18 (.mv T5),
    .op D19 (.bin .eql T18 (.c (.int .i64 (.ofNat (nat_lit 0)))))])
  (.cond T19 (.reg [.op D20 (.mv T3),
    .op D21 (.mv T4),
    .op D22 (.bsl (nat_lit 1) [.int .i64 (.ofNat (nat_lit 0))] (nat_lit 1) [((nat_lit 0), (nat_lit 1), T21)]),
    .op D23 (.app (nat_lit 1) (nat_lit 8) T20 T22),
    .op D3 (.mv T23)])
  (.skip)))))
  (.reg [.op D24 (.bin .add T13 (.c (.int .i64 (.ofNat (nat_lit 1))))),
    .op D13 (.mv T24)])))))))
  (.seq (.reg [.op D25 (.mv T3),
    .op D2 (.mv T25)])
  (.ret))))),
  [.t .n0 .n2 g2 (fun _ => rfl)]⟩
/-- (*messuage/pool.Pool).Bits -/
noncomputable def ff23 : FFunc := ⟨.seq (.reg [.op D2 (.mv (.c (.int .u64 (.ofNat (nat_lit 0)))))])
  (.seq (.reg [.op D3 (.mv (.c (.int .u64 (.ofNat (nat_lit 0)))))])
  (.seq (.seq (.reg [.op D6 (.mv T0),
    .op D7 (.call (nat_lit 22) [T6]),
    .op D8 (.lenL T7),
    .op D9 (.mv (.c (.int .i64 (.ofNat (nat_lit 0)))))])
  (.block (nat_lit 0) (.loop (.seq (.reg [.op D10 (.bin .lss T9 T8)])
  (.seq (.cond T10 (.skip)
  (.exit (nat_lit 0)))
  (.seq (.block (nat_lit 1) (.seq (.reg [.op D11 (.ixaS (nat_lit 1) T7 T9),
    .op D12 (.ld1 T11),
    .op D5 (.mv T12)])
  (.reg [.op D13 (.mv T3),
    .op D14 (.mv T5),
    .op D15 (.bin .shl (.c (.int .u64 (.ofNat (nat_lit 1)))) T14),
    .op D16 (.bin .or T13 T15),
    .op D3 (.mv T16)])))
  (.reg [.op D17 (.bin .add T9 (.c (.int .i64 (.ofNat (nat_lit 1))))),
    .op D9 (.mv T17)])))))))
  (.seq (.reg [.op D18 (.mv T3),
    .op D2 (.mv T18)])
  (.ret)))),
  [.t .n0 .n2 g2 (fun _ => rfl)]⟩
/-- messuage/mem.New -/
noncomputable def ff24 : FFunc := ⟨.seq (.reg [.op D2 (.mv (.c (.nilp)))])
  (.seq (.seq (.reg [.op D4 (.mv T0),
    .op D5 (.bin .lss T4 (.c (.int .i64 (.ofNat (nat_lit 1))))),
    .op D6 (.mv T5),
    .gop .n0 .n6 g6 (fun _ => rfl) false D7 (.mv T0),
    .gop .n0 .n6 g6 (fun _ => rfl) false D8 (.bin .gtr T7 (.c (.int .i64 (.ofNat (nat_lit 16))))),
    .op D9 (.pick T6 (.c (.bool true)) T8)])
  (.cond T9 (.seq (.reg [.op D2 (.mv (.c (.nilp)))])
  (.ret))
  (.skip)))
  (.seq (.reg [.op D10 (.build [.nils] []),
    .op D11 (.box (nat_lit 1) T10),
    .op D3 (.mv T11)])
  (.seq (.seq (.reg [.op D12 (.mv T0),
    .op D13 (.mv (.c (.int .i64 (.ofNat (nat_lit 0)))))])
  (.block (nat_lit 0) (.loop (.seq (.reg [.op D14 (.bin .lss T13 T12)])
  (.seq (.cond T14 (.skip)
  (.exit (nat_lit 0)))
  (.seq (.block (nat_lit 1) (.drw [.op D15 (.mv T3),
    .op D16 (.mv T3),
    .op D17 (.nilck T16),
    .op D18 (.fadd (nat_lit 0) T17),
    .op D19 (.ld1 T18),
    .op D20 (.mksl (nat_lit 1) (nat_lit 8) [.int .u64 (.ofNat (nat_lit 0))] (.c (.int .i64 (.ofNat (nat_lit 16)))) (.c (.int .i64 (.ofNat (nat_lit 16))))),
    .op D21 (.bsl (nat_lit 1) [.nils] (nat_lit 1) [((nat_lit 0), (nat_lit 1), T20)]),
    .op D22 (.app (nat_lit 1) (nat_lit 24) T19 T21),
    .op D23 (.nilck T15),
    .op D24 (.fadd (nat_lit 0) T23),
    .op .no (.st (nat_lit 1) T24 T22)] []))
  (.reg [.op D25 (.bin .add T13 (.c (.int .i64 (.ofNat (nat_lit 1))))),
    .op D13 (.mv T25)])))))))
  (.seq (.reg [.op D26 (.mv T3),
    .op D2 (.mv T26)])
  (.ret))))),
  [.t .n0 .n2 g2 (fun _ => rfl)]⟩
/-- (*messuage/mem.Mem).Store -/
noncomputable def ff25 : FFunc := ⟨.seq (.reg [.op D8 (.mv (.c (.bool false)))])
  (.seq (.reg [.op D10 (.mv T0),
    .op D11 (.mv T1),
    .op D12 (.mv T2),
    .op D13 (.call (nat_lit 57) [T10, T11, T12]),
    .op D9 (.mv T13)])
  (.seq (.seq (.reg [.op D14 (.mv T9),
    .op D15 (.eq false (.sc .ptr) T14 (.c (.nilp)))])
  (.cond T15 (.seq (.reg [.op D8 (.mv (.c (.bool false)))])
  (.ret))
  (.skip)))
  (.seq (.reg [.op D16 (.mv T9),
    .op D17 (.mv T3),
    .op D18 (.nilck T16),
    .op .no (.st (nat_lit 1) T18 T17)])
  (.seq (.reg [.op D8 (.mv (.c (.bool true)))])
  (.ret))))),
  [.t .n0 .n8 g8 (fun _ => rfl)]⟩
/-- (*messuage/mem.Mem).Frame -/
noncomputable def ff26 : FFunc := ⟨.seq (.reg [.op D4 (.mv (.c (.nils)))])
  (.seq (.seq (.reg [.op D5 (.mv T0),
    .op D6 (.mv T1),
    .op D7 (.call (nat_lit 57) [T5, T6, .c (.int .i64 (.ofNat (nat_lit 0)))]),
    .op D8 (.eq false (.sc .ptr) T7 (.c (.nilp)))])
  (.cond T8 (.seq (.reg [.op D4 (.mv (.c (.nils)))])
  (.ret))
  (.skip)))
  (.seq (.reg [.op D9 (.mv T0),
    .op D10 (.nilck T9),
    .op D11 (.fadd (nat_lit 0) T10),
    .op D12 (.ld1 T11),
    .op D13 (.mv T1),
    .op D14 (.ixaS (nat_lit 1) T12 T13),
    .op D15 (.ld1 T14),
    .op D16 (.call (nat_lit 58) [T15]),
    .op D4 (.mv T16)])
  (.ret))),
  [.t .n0 .n4 g4 (fun _ => rfl)]⟩
/-- (*messuage/mem.Mem).Zero -/
noncomputable def ff27 : FFunc := ⟨.seq (.reg [.op D4 (.mv (.c (.bool false)))])
  (.seq (.seq (.reg [.op D5 (.mv T0),
    .op D6 (.mv T1),
    .op D7 (.call (nat_lit 57) [T5, T6, .c (.int .i64 (.ofNat (nat_lit 0)))]),
    .op D8 (.eq false (.sc .ptr) T7 (.c (.nilp)))])
  (.cond T8 (.seq (.reg [.op D4 (.mv (.c (.bool false)))])
  (.ret))
  (.skip)))
  (.seq (.reg [.op D9 (.mv T0),
    .op D10 (.nilck T9),
    .op D11 (.fadd (nat_lit 0) T10),
    .op D12 (.ld1 T11),
    .op D13 (.mv T1),
    .op D14 (.ixaS (nat_lit 1) T12 T13),
    .op D15 (.ld1 T14),
    .op .no (.clr [.int .u64 (.ofNat (nat_lit 0))] T15)])
  (.seq (.reg [.op D4 (.mv (.c (.bool true)))])
  (.ret)))),
  [.t .n0 .n4 g4 (fun _ => rfl)]⟩
/-- messuage/table.New -/
noncomputable def ff28 : FFunc := ⟨.seq (.reg [.op D0 (.mv (.c (.nilp)))])
  (.seq (.reg [.op D1 (.build [.int .i64 (.ofNat (nat_lit 0)), .int .i64 (.ofNat (nat_lit 0)), .int .i64 (.ofNat (nat_lit 0)), .int .i64 (.ofNat (nat_lit 0)), .int .i64 (.ofNat (nat_lit 0)), .int .i64 (.ofNat (nat_lit 0)), .int .i64 (.ofNat (nat_lit 0)), .int .i64 (.ofNat (nat_lit 0)), .int .i64 (.ofNat (nat_lit 0)), .int .i64 (.ofNat (nat_lit 0)), .int .i64 (.ofNat (nat_lit 0)), .int .i64 (.ofNat (nat_lit 0)), .int .i64 (.ofNat (nat_lit 0)), .int .i64 (.ofNat (nat_lit 0)), .int .i64 (.ofNat (nat_lit 0)), .int .i64 (.ofNat (nat_lit 0)), .int .i64 (.ofNat (nat_lit 0)), .int .i64 (.ofNat (nat_lit 0)), .int .i64 (.ofNat (nat_lit 0)), .int .i64 (.ofNat (nat_lit 0)), .int .i64 (.ofNat (nat_lit 0)), .int .i64 (.ofNat (nat_lit 0)), .int .i64 (.ofNat (nat_lit 0)), .int .i64 (.ofNat (nat_lit 0))] []),
    .op D2 (.box (nat_lit 24) T1),
    .op D0 (.mv T2)])
  (.ret)),
  [.t .n0 .n0 g0 (fun _ => rfl)]⟩
/-- messuage/cell.New -/
noncomputable def ff29 : FFunc := ⟨.seq (.reg [.op D2 (.mv (.c (.nilp)))])
  (.seq (.reg [.op D3 (.mv T0),
    .op D4 (.build [.int .u64 (.ofNat (nat_lit 0)), .int .i64 (.ofNat (nat_lit 0))] [((nat_lit 0), (nat_lit 1), T3)]),
    .op D5 (.box (nat_lit 2) T4),
    .op D2 (.mv T5)])
  (.ret)),
  [.t .n0 .n2 g2 (fun _ => rfl)]⟩
/-- messuage/ticket.New -/
noncomputable def ff30 : FFunc := ⟨.seq (.reg [.op D0 (.mv (.c (.nilp)))])
  (.seq (.reg [.op D1 (.call (nat_lit 29) [.c (.int .u64 (.ofNat (nat_lit 0)))]),
    .op D2 (.call (nat_lit 29) [.c (.int .u64 (.ofNat (nat_lit 0)))]),
    .op D3 (.build [.nilp, .nilp] [((nat_lit 0), (nat_lit 1), T1), ((nat_lit 1), (nat_lit 1), T2)]),
    .op D4 (.box (nat_lit 2) T3),
    .op D0 (.mv T4)])
  (.ret)),
  [.t .n0 .n0 g0 (fun _ => rfl)]⟩
/-- (*messuage/table.Table).Insert -/
noncomputable def ff31 : FFunc := ⟨.seq (.reg [.op D5 (.box (nat_lit 3) T2),
    .op D6 (.mv (.c (.int .i64 (.ofNat (nat_lit 0)))))])
  (.seq (.seq (.reg [.op D9 (.mv T0),
    .op D10 (.eq false (.sc .ptr) T9 (.c (.nilp)))])
  (.cond T10 (.seq (.reg [.op D6 (.mv (.c (.int .i64 (.ofNat (nat_lit 10)))))])
  (.ret))
  (.skip)))
  (.seq (.seq (.reg [.op D12 (.ldA (nat_lit 3) T5),
    .op D13 (.call (nat_lit 32) [T12]),
    .op D11 (.mv T13),
    .op D14 (.ex (nat_lit 0) T11),
    .op D15 (.ex (nat_lit 1) T11),
    .op D7 (.mv T14),
    .op D8 (.mv T15)])
  (.seq (.reg [.op D16 (.mv T8),
    .op D17 (.un .not T16),
    .op D18 (.mv T17),
    .gop .n1 .n2 g18 (fun _ => rfl) false D19 (.fadd (nat_lit 2) T5),
    .gop .n1 .n2 g18 (fun _ => rfl) false D20 (.ld1 T19),
    .gop .n1 .n2 g18 (fun _ => rfl) false D21 (.bin .eql T20 (.c (.int .i64 (.ofNat (nat_lit 0))))),
    .op D22 (.pick T18 (.c (.bool true)) T21),
    .op D23 (.mv T22),
    .gop .n1 .n7 g23 (fun _ => rfl) false D24 (.mv T1),
    .gop .n1 .n7 g23 (fun _ => rfl) false D25 (.call (nat_lit 59) [T24]),
    .gop .n1 .n7 g23 (fun _ => rfl) false D26 (.un .not T25),
    .op D27 (.pick T23 (.c (.bool true)) T26)])
  (.cond T27 (.seq (.reg [.op D6 (.mv (.c (.int .i64 (.ofNat (nat_lit 2)))))])
  (.ret))
  (.skip))))
  (.seq (.seq (.reg [.op D28 (.mv T0),
    .op D29 (.mv T1),
    .op D30 (.nilck T28),
    .op D31 (.fadd (nat_lit 0) T30),
    .op D32 (.ixaA (nat_lit 8) (nat_lit 3) T31 T29),
    .op D33 (.fadd (nat_lit 2) T32),
    .op D34 (.ld1 T33),
    .op D35 (.bin .neq T34 (.c (.int .i64 (.ofNat (nat_lit 0)))))])
  (.cond T35 (.seq (.reg [.op D6 (.mv (.c (.int .i64 (.ofNat (nat_lit 4)))))])
  (.ret))
  (.skip)))
  (.seq (.drw [.op D36 (.mv T0),
    .op D37 (.mv T1),
    .op D38 (.ldA (nat_lit 3) T5),
    .op D39 (.nilck T36),
    .op D40 (.fadd (nat_lit 0) T39),
    .op D41 (.ixaA (nat_lit 8) (nat_lit 3) T40 T37),
    .op .no (.st (nat_lit 3) T41 T38)] [])
  (.seq (.reg [.op D6 (.mv (.c (.int .i64 (.ofNat (nat_lit 0)))))])
  (.ret)))))),
  [.t .n0 .n6 g6 (fun _ => rfl)]⟩
/-- messuage/pte.Put -/
noncomputable def ff32 : FFunc := ⟨.seq (.reg [.op D1 (.box (nat_lit 3) T0),
    .op D2 (.mv (.c (.int .u64 (.ofNat (nat_lit 0))))),
    .op D3 (.mv (.c (.bool false)))])
  (.seq (.seq (.reg [.op D4 (.ldA (nat_lit 3) T1),
    .op D5 (.build [.int .i64 (.ofNat (nat_lit 0)), .int .i64 (.ofNat (nat_lit 0)), .int .i64 (.ofNat (nat_lit 0))] []),
    .op D6 (.eq false (.flat [((nat_lit 0), .int), ((nat_lit 1), .int), ((nat_lit 2), .int)]) T4 T5)])
  (.cond T6 (.seq (.reg [.op D2 (.mv (.c (.int .u64 (.ofNat (nat_lit 0))))),
    .op D3 (.mv (.c (.bool true)))])
  (.ret))
  (.skip)))
  (.seq (.seq (.reg [.op D7 (.fadd (nat_lit 0) T1),
    .op D8 (.ld1 T7),
    .op D9 (.bin .lss T8 (.c (.int .i64 (.ofNat (nat_lit 0))))),
    .op D10 (.mv T9),
    .gop .n0 .n10 g10 (fun _ => rfl) false D11 (.fadd (nat_lit 0) T1),
    .gop .n0 .n10 g10 (fun _ => rfl) false D12 (.ld1 T11),
    .gop .n0 .n10 g10 (fun _ => rfl) false D13 (.bin .geq T12 (.c (.int .i64 (.ofNat (nat_lit 16))))),
    .op D14 (.pick T10 (.c (.bool true)) T13),
    .op D15 (.mv T14),
    .gop .n0 .n15 g15 (fun _ => rfl) false D16 (.fadd (nat_lit 1) T1),
    .gop .n0 .n15 g15 (fun _ => rfl) false D17 (.ld1 T16),
    .gop .n0 .n15 g15 (fun _ => rfl) false D18 (.bin .lss T17 (.c (.int .i64 (.ofNat (nat_lit 0))))),
    .op D19 (.pick T15 (.c (.bool true)) T18),
    .op D20 (.mv T19),
    .gop .n1 .n4 g20 (fun _ => rfl) false D21 (.fadd (nat_lit 1) T1),
    .gop .n1 .n4 g20 (fun _ => rfl) false D22 (.ld1 T21),
    .gop .n1 .n4 g20 (fun _ => rfl) false D23 (.bin .geq T22 (.c (.int .i64 (.ofNat (nat_lit 8))))),
    .op D24 (.pick T20 (.c (.bool true)) T23),
    .op D25 (.mv T24),
    .gop .n1 .n9 g25 (fun _ => rfl) false D26 (.fadd (nat_lit 2) T1),
    .gop .n1 .n9 g25 (fun _ => rfl) false D27 (.ld1 T26),
    .gop .n1 .n9 g25 (fun _ => rfl) false D28 (.call (nat_lit 52) [T27]),
    .gop .n1 .n9 g25 (fun _ => rfl) false D29 (.un .not T28),
    .op D30 (.pick T25 (.c (.bool true)) T29)])
  (.cond T30 (.seq (.reg [.op D2 (.mv (.c (.int .u64 (.ofNat (nat_lit 0))))),
    .op D3 (.mv (.c (.bool false)))])
  (.ret))
  (.skip)))
  (.seq (.reg [.op D31 (.fadd (nat_lit 0) T1),
    .op D32 (.ld1 T31),
    .op D33 (.bin .mul (.c (.int .i64 (.ofNat (nat_lit 256)))) T32),
    .op D34 (.bin .add (.c (.int .i64 (.ofNat (nat_lit 32768)))) T33),
    .op D35 (.fadd (nat_lit 1) T1),
    .op D36 (.ld1 T35),
    .op D37 (.bin .mul (.c (.int .i64 (.ofNat (nat_lit 16)))) T36),
    .op D38 (.bin .add T34 T37),
    .op D39 (.fadd (nat_lit 2) T1),
    .op D40 (.ld1 T39),
    .op D41 (.bin .add T38 T40),
    .op D42 (.cvi .u64 T41),
    .op D2 (.mv T42),
    .op D3 (.mv (.c (.bool true)))])
  (.ret)))),
  [.t .n0 .n2 g2 (fun _ => rfl), .t .n0 .n3 g3 (fun _ => rfl)]⟩
/-- (*messuage/tlb.Tlb).Find -/
noncomputable def ff33 : FFunc := ⟨.seq (.reg [.op D6 (.new [.int .i64 (.ofNat (nat_lit 0)), .int .i64 (.ofNat (nat_lit 0)), .int .i64 (.ofNat (nat_lit 0)), .int .i64 (.ofNat (nat_lit 0))]),
    .op D7 (.mv (.c (.bool false)))])
  (.seq (.reg [.op D9 (.mv T0),
    .op D10 (.mv T1),
    .op D11 (.mv T2),
    .op D12 (.call (nat_lit 53) [T9, T10, T11]),
    .op D8 (.mv T12)])
  (.seq (.seq (.reg [.op D13 (.mv T8),
    .op D14 (.eq false (.sc .ptr) T13 (.c (.nilp)))])
  (.cond T14 (.seq (.reg [.op D15 (.build [.int .i64 (.ofNat (nat_lit 0)), .int .i64 (.ofNat (nat_lit 0)), .int .i64 (.ofNat (nat_lit 0)), .int .i64 (.ofNat (nat_lit 0))] []),
    .op .no (.st (nat_lit 4) T6 T15),
    .op D7 (.mv (.c (.bool false)))])
  (.ret))
  (.skip)))
  (.seq (.reg [.op D16 (.mv T8),
    .op D17 (.nilck T16),
    .op D18 (.fadd (nat_lit 0) T17),
    .op D19 (.ldA (nat_lit 4) T18),
    .op .no (.st (nat_lit 4) T6 T19),
    .op D7 (.mv (.c (.bool true)))])
  (.ret)))),
  [.cellA .n0 .n6 g6 (fun _ => rfl) (nat_lit 4), .t .n0 .n7 g7 (fun _ => rfl)]⟩
/-- (*messuage/mail.Mail).All -/
noncomputable def ff34 : FFunc := ⟨.seq (.reg [.op D6 (.mv (.c (.int .i64 (.ofNat (nat_lit 0)))))])
  (.seq (.seq (.reg [.op D9 (.mv T0),
    .op D10 (.eq false (.sc .ptr) T9 (.c (.nilp)))])
  (.cond T10 (.seq (.reg [.op D6 (.mv (.c (.int .i64 (.ofNat (nat_lit 0)))))])
  (.ret))
  (.skip)))
  (.seq (.reg [.op D7 (.mv (.c (.int .i64 (.ofNat (nat_lit 0)))))])
  (.seq (.seq (.reg [.op D11 (.mv T0),
    .op D12 (.nilck T11),
    .op D13 (.fadd (nat_lit 0) T12),
    .op D14 (.ld1 T13),
    .op D15 (.lenL T14),
    .op D16 (.mv (.c (.int .i64 (.ofNat (nat_lit 0)))))])
  (.block (nat_lit 0) (.loop (.seq (.reg [.op D17 (.bin .lss T16 T15)])
  (.seq (.cond T17 (.skip)
  (.exit (nat_lit 0)))
  (.seq (.block (nat_lit 1) (.seq (.reg [.op D18 (.mv T16),
    .op D8 (.mv T18)])
  (.seq (.reg [.op D19 (.mv T0),
    .op D20 (.mv T1),
    .op D21 (.mv T8),
    .op D22 (.mv T2),
    .op D23 (.call (nat_lit 12) [T19, T20, T21, T22])])
  (.cond T23 (.reg [.op D24 (.mv T7),
    .op D25 (.bin .add T24 (.c (.int .i64 (.ofNat (nat_lit 1))))),
    .op D7 (.mv T25)])
  (.skip)))))
  (.reg [.op D26 (.bin .add T16 (.c (.int .i64 (.ofNat (nat_lit 1))))),
    .op D16 (.mv T26)])))))))
  (.seq (.reg [.op D27 (.mv T7),
    .op D6 (.mv T27)])
  (.ret))))),
  [.t .n0 .n6 g6 (fun _ => rfl)]⟩
/-- (*messuage/cell.Cell).Up -/
noncomputable def ff35 : FFunc := ⟨.seq (.reg [.op D4 (.mv (.c (.int .u64 (.ofNat (nat_lit 0))))),
    .op D5 (.mv (.c (.bool false)))])
  (.seq (.seq (.reg [.op D6 (.mv T0),
    .op D7 (.eq false (.sc .ptr) T6 (.c (.nilp)))])
  (.cond T7 (.seq (.reg [.op D4 (.mv (.c (.int .u64 (.ofNat (nat_lit 0))))),
    .op D5 (.mv (.c (.bool false)))])
  (.ret))
  (.skip)))
  (.seq (.reg [.op D8 (.mv T0),
    .op D9 (.nilck T8),
    .op D10 (.fadd (nat_lit 1) T9),
    .op D11 (.ld1 T10),
    .op D12 (.bin .add T11 (.c (.int .i64 (.ofNat (nat_lit 1))))),
    .op D13 (.nilck T8),
    .op D14 (.fadd (nat_lit 1) T13),
    .op .no (.st (nat_lit 1) T14 T12)])
  (.seq (.seq (.reg [.op D15 (.mv T0),
    .op D16 (.nilck T15),
    .op D17 (.fadd (nat_lit 0) T16),
    .op D18 (.ld1 T17),
    .op D19 (.mv T1),
    .op D20 (.bin .geq T18 T19)])
  (.cond T20 (.seq (.reg [.op D21 (.mv T0),
    .op D22 (.nilck T21),
    .op D23 (.fadd (nat_lit 0) T22),
    .op D24 (.ld1 T23),
    .op D4 (.mv T24),
    .op D5 (.mv (.c (.bool false)))])
  (.ret))
  (.skip)))
  (.seq (.reg [.op D25 (.mv T0),
    .op D26 (.nilck T25),
    .op D27 (.fadd (nat_lit 0) T26),
    .op D28 (.ld1 T27),
    .op D29 (.bin .add T28 (.c (.int .u64 (.ofNat (nat_lit 1))))),
    .op D30 (.nilck T25),
    .op D31 (.fadd (nat_lit 0) T30),
    .op .no (.st (nat_lit 1) T31 T29)])
  (.seq (.reg [.op D32 (.mv T0),
    .op D33 (.nilck T32),
    .op D34 (.fadd (nat_lit 0) T33),
    .op D35 (.ld1 T34),
    .op D4 (.mv T35),
    .op D5 (.mv (.c (.bool true)))])
  (.ret)))))),
  [.t .n0 .n4 g4 (fun _ => rfl), .t .n0 .n5 g5 (fun _ => rfl)]⟩
/-- (*messuage/ticket.Lock).Draw -/
noncomputable def ff36 : FFunc := ⟨.seq (.reg [.op D2 (.mv (.c (.int .u64 (.ofNat (nat_lit 0)))))])
  (.seq (.seq (.reg [.op D5 (.mv T0),
    .op D6 (.eq false (.sc .ptr) T5 (.c (.nilp)))])
  (.cond T6 (.seq (.reg [.op D2 (.mv (.c (.int .u64 (.ofNat (nat_lit 0)))))])
  (.ret))
  (.skip)))
  (.seq (.reg [.op D8 (.mv T0),
    .op D9 (.nilck T8),
    .op D10 (.fadd (nat_lit 0) T9),
    .op D11 (.ld1 T10),
    .op D12 (.call (nat_lit 35) [T11, .c (.int .u64 (.ofNat (nat_lit 18446744073709551615)))]),
    .op D7 (.mv T12),
    .op D13 (.ex (nat_lit 0) T7),
    .op D14 (.ex (nat_lit 1) T7),
    .op D3 (.mv T13),
    .op D4 (.mv T14)])
  (.seq (.reg [.op D15 (.mv T3),
    .op D16 (.bin .sub T15 (.c (.int .u64 (.ofNat (nat_lit 1))))),
    .op D2 (.mv T16)])
  (.ret)))),
  [.t .n0 .n2 g2 (fun _ => rfl)]⟩
/-- messuage/word.Kind -/
noncomputable def ff37 : FFunc := ⟨.seq (.reg [.op D1 (.box (nat_lit 5) T0),
    .op D2 (.mv (.c (.int .i64 (.ofNat (nat_lit 0))))),
    .op D3 (.mv (.c (.bool false)))])
  (.seq (.seq (.reg [.op D5 (.ixaA (nat_lit 5) (nat_lit 1) T1 (.c (.int .i64 (.ofNat (nat_lit 0))))),
    .op D6 (.ld1 T5),
    .op D4 (.mv T6)])
  (.seq (.reg [.op D7 (.mv T4),
    .op D8 (.bin .geq T7 (.c (.int .u64 (.ofNat (nat_lit 1))))),
    .op D9 (.mv T8),
    .gop .n0 .n9 g9 (fun _ => rfl) true D10 (.mv T4),
    .gop .n0 .n9 g9 (fun _ => rfl) true D11 (.bin .leq T10 (.c (.int .u64 (.ofNat (nat_lit 10))))),
    .op D12 (.pick T9 T11 (.c (.bool false))),
    .op D13 (.mv T12),
    .gop .n0 .n13 g13 (fun _ => rfl) false D14 (.mv T4),
    .gop .n0 .n13 g13 (fun _ => rfl) false D15 (.bin .geq T14 (.c (.int .u64 (.ofNat (nat_lit 20))))),
    .gop .n0 .n13 g13 (fun _ => rfl) false D16 (.mv T15),
    .gop .n1 .n0 g16 (fun _ => rfl) true D17 (.mv T4),
    .gop .n1 .n0 g16 (fun _ => rfl) true D18 (.bin .leq T17 (.c (.int .u64 (.ofNat (nat_lit 23))))),
    .gop .n0 .n13 g13 (fun _ => rfl) false D19 (.pick T16 T18 (.c (.bool false))),
    .op D20 (.pick T13 (.c (.bool true)) T19)])
  (.cond T20 (.seq (.reg [.op D21 (.mv T4),
    .op D22 (.cvi .i64 T21),
    .op D2 (.mv T22),
    .op D3 (.mv (.c (.bool true)))])
  (.ret))
  (.skip))))
  (.seq (.reg [.op D2 (.mv (.c (.int .i64 (.ofNat (nat_lit 0))))),
    .op D3 (.mv (.c (.bool false)))])
  (.ret))),
  [.t .n0 .n2 g2 (fun _ => rfl), .t .n0 .n3 g3 (fun _ => rfl)]⟩
/-- messuage/messuagelaw1.Begun -/
noncomputable def ff38 : FFunc := ⟨.seq (.reg [.op D0 (.mv (.c (.bool false)))])
  (.seq (.reg [.op D1 (.call (nat_lit 60) []),
    .op D0 (.mv T1)])
  (.ret)),
  [.t .n0 .n0 g0 (fun _ => rfl)]⟩
/-- (*messuage/ticket.Lock).Turn -/
noncomputable def ff39 : FFunc := ⟨.seq (.reg [.op D4 (.mv (.c (.bool false)))])
  (.seq (.reg [.op D5 (.mv T0),
    .op D6 (.eq true (.sc .ptr) T5 (.c (.nilp))),
    .op D7 (.mv T6),
    .gop .n0 .n7 g7 (fun _ => rfl) true D8 (.mv T0),
    .gop .n0 .n7 g7 (fun _ => rfl) true D9 (.nilck T8),
    .gop .n0 .n7 g7 (fun _ => rfl) true D10 (.fadd (nat_lit 1) T9),
    .gop .n0 .n7 g7 (fun _ => rfl) true D11 (.ld1 T10),
    .gop .n0 .n7 g7 (fun _ => rfl) true D12 (.call (nat_lit 61) [T11]),
    .gop .n0 .n7 g7 (fun _ => rfl) true D13 (.mv T1),
    .gop .n0 .n7 g7 (fun _ => rfl) true D14 (.bin .eql T12 T13),
    .op D15 (.pick T7 T14 (.c (.bool false))),
    .op D16 (.mv T15),
    .gop .n1 .n0 g16 (fun _ => rfl) true D17 (.mv T1),
    .gop .n1 .n0 g16 (fun _ => rfl) true D18 (.mv T0),
    .gop .n1 .n0 g16 (fun _ => rfl) true D19 (.nilck T18),
    .gop .n1 .n0 g16 (fun _ => rfl) true D20 (.fadd (nat_lit 0) T19),
    .gop .n1 .n0 g16 (fun _ => rfl) true D21 (.ld1 T20),
    .gop .n1 .n0 g16 (fun _ => rfl) true D22 (.call (nat_lit 61) [T21]),
    .gop .n1 .n0 g16 (fun _ => rfl) true D23 (.bin .lss T17 T22),
    .op D24 (.pick T16 T23 (.c (.bool false))),
    .op D4 (.mv T24)])
  (.ret)),
  [.t .n0 .n4 g4 (fun _ => rfl)]⟩
/-- (*messuage/ticket.Lock).Pass -/
noncomputable def ff40 : FFunc := ⟨.seq (.reg [.op D4 (.mv (.c (.bool false)))])
  (.seq (.reg [.op D5 (.mv T0),
    .op D6 (.mv T1),
    .op D7 (.call (nat_lit 39) [T5, T6]),
    .op D8 (.mv T7),
    .gop .n0 .n8 g8 (fun _ => rfl) true D9 (.mv T0),
    .gop .n0 .n8 g8 (fun _ => rfl) true D10 (.nilck T9),
    .gop .n0 .n8 g8 (fun _ => rfl) true D11 (.fadd (nat_lit 1) T10),
    .gop .n0 .n8 g8 (fun _ => rfl) true D12 (.ld1 T11),
    .gop .n0 .n8 g8 (fun _ => rfl) true D13 (.mv T1),
    .gop .n0 .n8 g8 (fun _ => rfl) true D14 (.mv T1),
    .gop .n0 .n8 g8 (fun _ => rfl) true D15 (.bin .add T14 (.c (.int .u64 (.ofNat (nat_lit 1))))),
    .gop .n0 .n8 g8 (fun _ => rfl) true D16 (.call (nat_lit 62) [T12, T13, T15]),
    .op D17 (.pick T8 T16 (.c (.bool false))),
    .op D4 (.mv T17)])
  (.ret)),
  [.t .n0 .n4 g4 (fun _ => rfl)]⟩
/-- messuage/word.Args -/
noncomputable def ff41 : FFunc := ⟨.seq (.reg [.op D2 (.mv (.c (.int .i64 (.ofNat (nat_lit 0)))))])
  (.seq (.reg [.op D3 (.mv T0),
    .op D4 (.call (nat_lit 44) [T3]),
    .op D5 (.lenL T4),
    .op D2 (.mv T5)])
  (.ret)),
  [.t .n0 .n2 g2 (fun _ => rfl)]⟩
/-- messuage/pte.Within -/
noncomputable def ff42 : FFunc := ⟨.seq (.reg [.op D4 (.mv (.c (.bool false)))])
  (.seq (.reg [.op D5 (.mv T0),
    .op D6 (.call (nat_lit 52) [T5]),
    .op D7 (.mv T6),
    .gop .n0 .n7 g7 (fun _ => rfl) true D8 (.mv T1),
    .gop .n0 .n7 g7 (fun _ => rfl) true D9 (.call (nat_lit 52) [T8]),
    .op D10 (.pick T7 T9 (.c (.bool false))),
    .op D11 (.mv T10),
    .gop .n0 .n11 g11 (fun _ => rfl) true D12 (.mv T0),
    .gop .n0 .n11 g11 (fun _ => rfl) true D13 (.mv T1),
    .gop .n0 .n11 g11 (fun _ => rfl) true D14 (.bin .andNot T12 T13),
    .gop .n0 .n11 g11 (fun _ => rfl) true D15 (.bin .eql T14 (.c (.int .i64 (.ofNat (nat_lit 0))))),
    .op D16 (.pick T11 T15 (.c (.bool false))),
    .op D4 (.mv T16)])
  (.ret)),
  [.t .n0 .n4 g4 (fun _ => rfl)]⟩
/-- (*messuage/table.Table).By -/
noncomputable def ff43 : FFunc := ⟨.seq (.reg [.op D4 (.mv (.c (.nils)))])
  (.seq (.seq (.reg [.op D8 (.mv T0),
    .op D9 (.eq false (.sc .ptr) T8 (.c (.nilp)))])
  (.cond T9 (.seq (.reg [.op D4 (.mv (.c (.nils)))])
  (.ret))
  (.skip)))
  (.seq (.reg [.op D5 (.mv (.c (.nils)))])
  (.seq (.seq (.reg [.op D10 (.mv T0),
    .op D11 (.nilck T10),
    .op D12 (.fadd (nat_lit 0) T11),
    .op D13 (.ldA (nat_lit 24) T12),
    .op D14 (.mv (.c (.int .i64 (.ofNat (nat_lit 0)))))])
  (.block (nat_lit 0) (.loop (.seq (.reg [.op D15 (.bin .lss T14 (.c (.int .i64 (.ofNat (nat_lit 8)))))])
  (.seq (.cond T15 (.skip)
  (.exit (nat_lit 0)))
  (.seq (.block (nat_lit 1) (.seq (.reg [.op D16 (.mv T14),
    .op D17 (.ixAA (nat_lit 8) (nat_lit 3) T13 T14),
    .op D7 (.new [.int .i64 (.ofNat (nat_lit 0)), .int .i64 (.ofNat (nat_lit 0)), .int .i64 (.ofNat (nat_lit 0))]),
    .op D6 (.mv T16),
    .op .no (.st (nat_lit 3) T7 T17)])
  (.seq (.reg [.op D18 (.fadd (nat_lit 2) T7),
    .op D19 (.ld1 T18),
    .op D20 (.bin .neq T19 (.c (.int .i64 (.ofNat (nat_lit 0))))),
    .op D21 (.mv T20),
    .gop .n1 .n5 g21 (fun _ => rfl) true D22 (.fadd (nat_lit 1) T7),
    .gop .n1 .n5 g21 (fun _ => rfl) true D23 (.ld1 T22),
    .gop .n1 .n5 g21 (fun _ => rfl) true D24 (.mv T1),
    .gop .n1 .n5 g21 (fun _ => rfl) true D25 (.bin .eql T23 T24),
    .op D26 (.pick T21 T25 (.c (.bool false)))])
  (.cond T26 (.reg [.op D27 (.mv T5),
    .op D28 (.mv T6),
    .op D29 (.bsl (nat_lit 1) [.int .i64 (.ofNat (nat_lit 0))] (nat_lit 1) [((nat_lit 0), (nat_lit 1), T28)]),
    .op D30 (.app (nat_lit 1) (nat_lit 8) T27 T29),
    .op D5 (.mv T30)])
  (.skip)))))
  (.reg [.op D31 (.bin .add T14 (.c (.int .i64 (.ofNat (nat_lit 1))))),
    .op D14 (.mv T31)])))))))
  (.seq (.reg [.op D32 (.mv T5),
    .op D4 (.mv T32)])
  (.ret))))),
  [.t .n0 .n4 g4 (fun _ => rfl)]⟩
/-- messuage/word.kinds -/
noncomputable def ff44 : FFunc := ⟨.seq (.reg [.op D2 (.mv (.c (.nils)))])
  (.seq (.seq (.reg [.op D3 (.mv T0)])
  (.block (nat_lit 0) (.seq (.seq (.reg [.op D5 (.bin .eql T3 (.c (.int .i64 (.ofNat (nat_lit 1))))),
    .op D4 (.mv T5)])
  (.cond T4 (.skip)
  (.seq (.reg [.op D6 (.bin .eql T3 (.c (.int .i64 (.ofNat (nat_lit 4))))),
    .op D4 (.mv T6)])
  (.cond T4 (.skip)
  (.reg [.op D7 (.bin .eql T3 (.c (.int .i64 (.ofNat (nat_lit 5))))),
    .op D4 (.mv T7)])))))
  (.cond T4 (.seq (.reg [.op D8 (.bsl (nat_lit 1) [.int .i64 (.ofNat (nat_lit 0))] (nat_lit 1) [((nat_lit 0), (nat_lit 1), .c (.int .i64 (.ofNat (nat_lit 0))))]),
    .op D2 (.mv T8)])
  (.ret))
  (.seq (.reg [.op D10 (.bin .eql T3 (.c (.int .i64 (.ofNat (nat_lit 2))))),
    .op D9 (.mv T10)])
  (.cond T9 (.seq (.reg [.op D11 (.bsl (nat_lit 1) [.int .i64 (.ofNat (nat_lit 0)), .int .i64 (.ofNat (nat_lit 0)), .int .i64 (.ofNat (nat_lit 0))] (nat_lit 3) [((nat_lit 0), (nat_lit 1), .c (.int .i64 (.ofNat (nat_lit 0)))), ((nat_lit 1), (nat_lit 1), .c (.int .i64 (.ofNat (nat_lit 0)))), ((nat_lit 2), (nat_lit 1), .c (.int .i64 (.ofNat (nat_lit 4))))]),
    .op D2 (.mv T11)])
  (.ret))
  (.seq (.reg [.op D13 (.bin .eql T3 (.c (.int .i64 (.ofNat (nat_lit 3))))),
    .op D12 (.mv T13)])
  (.cond T12 (.seq (.reg [.op D14 (.bsl (nat_lit 1) [.int .i64 (.ofNat (nat_lit 0)), .int .i64 (.ofNat (nat_lit 0)), .int .i64 (.ofNat (nat_lit 0)), .int .i64 (.ofNat (nat_lit 0))] (nat_lit 4) [((nat_lit 0), (nat_lit 1), .c (.int .i64 (.ofNat (nat_lit 0)))), ((nat_lit 1), (nat_lit 1), .c (.int .i64 (.ofNat (nat_lit 3)))), ((nat_lit 2), (nat_lit 1), .c (.int .i64 (.ofNat (nat_lit 0)))), ((nat_lit 3), (nat_lit 1), .c (.int .i64 (.ofNat (nat_lit 4))))]),
    .op D2 (.mv T14)])
  (.ret))
  (.seq (.reg [.op D16 (.bin .eql T3 (.c (.int .i64 (.ofNat (nat_lit 6))))),
    .op D15 (.mv T16)])
  (.cond T15 (.seq (.reg [.op D17 (.bsl (nat_lit 1) [.int .i64 (.ofNat (nat_lit 0)), .int .i64 (.ofNat (nat_lit 0)), .int .i64 (.ofNat (nat_lit 0))] (nat_lit 3) [((nat_lit 0), (nat_lit 1), .c (.int .i64 (.ofNat (nat_lit 1)))), ((nat_lit 1), (nat_lit 1), .c (.int .i64 (.ofNat (nat_lit 0)))), ((nat_lit 2), (nat_lit 1), .c (.int .i64 (.ofNat (nat_lit 4))))]),
    .op D2 (.mv T17)])
  (.ret))
  (.seq (.reg [.op D19 (.bin .eql T3 (.c (.int .i64 (.ofNat (nat_lit 7))))),
    .op D18 (.mv T19)])
  (.cond T18 (.seq (.reg [.op D20 (.bsl (nat_lit 1) [.int .i64 (.ofNat (nat_lit 0))] (nat_lit 1) [((nat_lit 0), (nat_lit 1), .c (.int .i64 (.ofNat (nat_lit 1))))]),
    .op D2 (.mv T20)])
  (.ret))
  (.seq (.reg [.op D22 (.bin .eql T3 (.c (.int .i64 (.ofNat (nat_lit 8))))),
    .op D21 (.mv T22)])
  (.cond T21 (.seq (.reg [.op D23 (.bsl (nat_lit 1) [.int .i64 (.ofNat (nat_lit 0)), .int .i64 (.ofNat (nat_lit 0))] (nat_lit 2) [((nat_lit 0), (nat_lit 1), .c (.int .i64 (.ofNat (nat_lit 1)))), ((nat_lit 1), (nat_lit 1), .c (.int .i64 (.ofNat (nat_lit 4))))]),
    .op D2 (.mv T23)])
  (.ret))
  (.seq (.reg [.op D25 (.bin .eql T3 (.c (.int .i64 (.ofNat (nat_lit 9))))),
    .op D24 (.mv T25)])
  (.cond T24 (.seq (.reg [.op D26 (.bsl (nat_lit 1) [.int .i64 (.ofNat (nat_lit 0)), .int .i64 (.ofNat (nat_lit 0)), .int .i64 (.ofNat (nat_lit 0)), .int .i64 (.ofNat (nat_lit 0))] (nat_lit 4) [((nat_lit 0), (nat_lit 1), .c (.int .i64 (.ofNat (nat_lit 0)))), ((nat_lit 1), (nat_lit 1), .c (.int .i64 (.ofNat (nat_lit 2)))), ((nat_lit 2), (nat_lit 1), .c (.int .i64 (.ofNat (nat_lit 5)))), ((nat_lit 3), (nat_lit 1), .c (.int .i64 (.ofNat (nat_lit 6))))]),
    .op D2 (.mv T26)])
  (.ret))
  (.seq (.reg [.op D28 (.bin .eql T3 (.c (.int .i64 (.ofNat (nat_lit 20))))),
    .op D27 (.mv T28)])
  (.cond T27 (.seq (.reg [.op D29 (.bsl (nat_lit 1) [.int .i64 (.ofNat (nat_lit 0)), .int .i64 (.ofNat (nat_lit 0))] (nat_lit 2) [((nat_lit 0), (nat_lit 1), .c (.int .i64 (.ofNat (nat_lit 1)))), ((nat_lit 1), (nat_lit 1), .c (.int .i64 (.ofNat (nat_lit 2))))]),
    .op D2 (.mv T29)])
  (.ret))
  (.seq (.seq (.reg [.op D31 (.bin .eql T3 (.c (.int .i64 (.ofNat (nat_lit 21))))),
    .op D30 (.mv T31)])
  (.cond T30 (.skip)
  (.reg [.op D32 (.bin .eql T3 (.c (.int .i64 (.ofNat (nat_lit 23))))),
    .op D30 (.mv T32)])))
  (.cond T30 (.seq (.reg [.op D33 (.bsl (nat_lit 1) [.int .i64 (.ofNat (nat_lit 0)), .int .i64 (.ofNat (nat_lit 0)), .int .i64 (.ofNat (nat_lit 0))] (nat_lit 3) [((nat_lit 0), (nat_lit 1), .c (.int .i64 (.ofNat (nat_lit 1)))), ((nat_lit 1), (nat_lit 1), .c (.int .i64 (.ofNat (nat_lit 2)))), ((nat_lit 2), (nat_lit 1), .c (.int .i64 (.ofNat (nat_lit 6))))]),
    .op D2 (.mv T33)])
  (.ret))
  (.seq (.reg [.op D35 (.bin .eql T3 (.c (.int .i64 (.ofNat (nat_lit 22))))),
    .op D34 (.mv T35)])
  (.cond T34 (.seq (.reg [.op D36 (.bsl (nat_lit 1) [.int .i64 (.ofNat (nat_lit 0)), .int .i64 (.ofNat (nat_lit 0)), .int .i64 (.ofNat (nat_lit 0)), .int .i64 (.ofNat (nat_lit 0))] (nat_lit 4) [((nat_lit 0), (nat_lit 1), .c (.int .i64 (.ofNat (nat_lit 1)))), ((nat_lit 1), (nat_lit 1), .c (.int .i64 (.ofNat (nat_lit 2)))), ((nat_lit 2), (nat_lit 1), .c (.int .i64 (.ofNat (nat_lit 6)))), ((nat_lit 3), (nat_lit 1), .c (.int .i64 (.ofNat (nat_lit 6))))]),
    .op D2 (.mv T36)])
  (.ret))
  (.skip)))))))))))))))))))))))
  (.seq (.reg [.op D2 (.mv (.c (.nils)))])
  (.ret))),
  [.t .n0 .n2 g2 (fun _ => rfl)]⟩
/-- messuage/word.fits -/
noncomputable def ff45 : FFunc := ⟨.seq (.reg [.op D4 (.box (nat_lit 5) T0),
    .op D8 (.mv (.c (.bool false)))])
  (.seq (.reg [.op D9 (.mv (.c (.bool true)))])
  (.seq (.seq (.reg [.op D10 (.mv T2)])
  (.block (nat_lit 0) (.seq (.reg [.op D12 (.bin .eql T10 (.c (.int .i64 (.ofNat (nat_lit 0))))),
    .op D11 (.mv T12)])
  (.cond T11 (.reg [.op D14 (.ldA (nat_lit 5) T4),
    .op D15 (.mv T1),
    .op D16 (.call (nat_lit 63) [T14, T15, .c (.int .i64 (.ofNat (nat_lit 8)))]),
    .op D13 (.mv T16),
    .op D17 (.ex (nat_lit 0) T13),
    .op D18 (.ex (nat_lit 1) T13),
    .op D9 (.mv T18)])
  (.seq (.reg [.op D20 (.bin .eql T10 (.c (.int .i64 (.ofNat (nat_lit 1))))),
    .op D19 (.mv T20)])
  (.cond T19 (.reg [.op D22 (.ldA (nat_lit 5) T4),
    .op D23 (.mv T1),
    .op D24 (.call (nat_lit 63) [T22, T23, .c (.int .i64 (.ofNat (nat_lit 8)))]),
    .op D21 (.mv T24),
    .op D25 (.ex (nat_lit 0) T21),
    .op D26 (.ex (nat_lit 1) T21),
    .op D9 (.mv T26)])
  (.seq (.reg [.op D28 (.bin .eql T10 (.c (.int .i64 (.ofNat (nat_lit 2))))),
    .op D27 (.mv T28)])
  (.cond T27 (.reg [.op D30 (.ldA (nat_lit 5) T4),
    .op D31 (.mv T1),
    .op D32 (.call (nat_lit 63) [T30, T31, .c (.int .i64 (.ofNat (nat_lit 16)))]),
    .op D29 (.mv T32),
    .op D33 (.ex (nat_lit 0) T29),
    .op D34 (.ex (nat_lit 1) T29),
    .op D9 (.mv T34)])
  (.seq (.reg [.op D36 (.bin .eql T10 (.c (.int .i64 (.ofNat (nat_lit 3))))),
    .op D35 (.mv T36)])
  (.cond T35 (.reg [.op D38 (.ldA (nat_lit 5) T4),
    .op D39 (.mv T1),
    .op D40 (.mv T3),
    .op D41 (.call (nat_lit 63) [T38, T39, T40]),
    .op D37 (.mv T41),
    .op D42 (.ex (nat_lit 0) T37),
    .op D43 (.ex (nat_lit 1) T37),
    .op D9 (.mv T43)])
  (.seq (.reg [.op D45 (.bin .eql T10 (.c (.int .i64 (.ofNat (nat_lit 4))))),
    .op D44 (.mv T45)])
  (.cond T44 (.reg [.op D47 (.mv T1),
    .op D48 (.ixaA (nat_lit 5) (nat_lit 1) T4 T47),
    .op D49 (.ld1 T48),
    .op D50 (.call (nat_lit 64) [T49]),
    .op D46 (.mv T50),
    .op D51 (.ex (nat_lit 0) T46),
    .op D52 (.ex (nat_lit 1) T46),
    .op D9 (.mv T52)])
  (.seq (.reg [.op D54 (.bin .eql T10 (.c (.int .i64 (.ofNat (nat_lit 5))))),
    .op D53 (.mv T54)])
  (.cond T53 (.reg [.op D55 (.mv T1),
    .op D56 (.ixaA (nat_lit 5) (nat_lit 1) T4 T55),
    .op D57 (.ld1 T56),
    .op D58 (.bin .geq T57 (.c (.int .u64 (.ofNat (nat_lit 1))))),
    .op D59 (.mv T58),
    .gop .n3 .n11 g59 (fun _ => rfl) true D60 (.mv T1),
    .gop .n3 .n11 g59 (fun _ => rfl) true D61 (.ixaA (nat_lit 5) (nat_lit 1) T4 T60),
    .gop .n3 .n11 g59 (fun _ => rfl) true D62 (.ld1 T61),
    .gop .n3 .n11 g59 (fun _ => rfl) true D63 (.bin .leq T62 (.c (.int .u64 (.ofNat (nat_lit 4))))),
    .op D64 (.pick T59 T63 (.c (.bool false))),
    .op D9 (.mv T64)])
  (.skip)))))))))))))))
  (.seq (.reg [.op D65 (.mv T9),
    .op D8 (.mv T65)])
  (.ret)))),
  [.t .n0 .n8 g8 (fun _ => rfl)]⟩
/-- messuage/messuageref2.Kind -/
noncomputable def ff46 : FFunc := ⟨.seq (.reg [.op D1 (.box (nat_lit 5) T0),
    .op D2 (.mv (.c (.int .i64 (.ofNat (nat_lit 0))))),
    .op D3 (.mv (.c (.bool false)))])
  (.seq (.reg [.op D5 (.ixaA (nat_lit 5) (nat_lit 1) T1 (.c (.int .i64 (.ofNat (nat_lit 0))))),
    .op D6 (.ld1 T5),
    .op D4 (.mv T6)])
  (.seq (.seq (.reg [.op D7 (.mv T4),
    .op D8 (.bin .geq T7 (.c (.int .u64 (.ofNat (nat_lit 1))))),
    .op D9 (.mv T8),
    .gop .n0 .n9 g9 (fun _ => rfl) true D10 (.mv T4),
    .gop .n0 .n9 g9 (fun _ => rfl) true D11 (.bin .leq T10 (.c (.int .u64 (.ofNat (nat_lit 10))))),
    .op D12 (.pick T9 T11 (.c (.bool false))),
    .op D13 (.mv T12),
    .gop .n0 .n13 g13 (fun _ => rfl) false D14 (.mv T4),
    .gop .n0 .n13 g13 (fun _ => rfl) false D15 (.bin .geq T14 (.c (.int .u64 (.ofNat (nat_lit 20))))),
    .gop .n0 .n13 g13 (fun _ => rfl) false D16 (.mv T15),
    .gop .n1 .n0 g16 (fun _ => rfl) true D17 (.mv T4),
    .gop .n1 .n0 g16 (fun _ => rfl) true D18 (.bin .leq T17 (.c (.int .u64 (.ofNat (nat_lit 23))))),
    .gop .n0 .n13 g13 (fun _ => rfl) false D19 (.pick T16 T18 (.c (.bool false))),
    .op D20 (.pick T13 (.c (.bool true)) T19)])
  (.cond T20 (.seq (.reg [.op D21 (.mv T4),
    .op D22 (.cvi .i64 T21),
    .op D2 (.mv T22),
    .op D3 (.mv (.c (.bool true)))])
  (.ret))
  (.skip)))
  (.seq (.reg [.op D2 (.mv (.c (.int .i64 (.ofNat (nat_lit 0))))),
    .op D3 (.mv (.c (.bool false)))])
  (.ret)))),
  [.t .n0 .n2 g2 (fun _ => rfl), .t .n0 .n3 g3 (fun _ => rfl)]⟩
/-- messuage/messuageref2.what -/
noncomputable def ff47 : FFunc := ⟨.seq (.reg [.op D2 (.mv (.c (.str [])))])
  (.seq (.reg [.op D5 (.bsl (nat_lit 1) [.str [], .str [], .str [], .str [], .str [], .str [], .str [], .str [], .str [], .str [], .str []] (nat_lit 11) [((nat_lit 0), (nat_lit 1), .c (.str [])), ((nat_lit 1), (nat_lit 1), .c (.str [(nat_lit 115)])), ((nat_lit 2), (nat_lit 1), .c (.str [(nat_lit 115), (nat_lit 115), (nat_lit 114)])), ((nat_lit 3), (nat_lit 1), .c (.str [(nat_lit 115), (nat_lit 101), (nat_lit 115), (nat_lit 114)])), ((nat_lit 4), (nat_lit 1), .c (.str [(nat_lit 115)])), ((nat_lit 5), (nat_lit 1), .c (.str [(nat_lit 115)])), ((nat_lit 6), (nat_lit 1), .c (.str [(nat_lit 112), (nat_lit 115), (nat_lit 114)])), ((nat_lit 7), (nat_lit 1), .c (.str [(nat_lit 112)])), ((nat_lit 8), (nat_lit 1), .c (.str [(nat_lit 112), (nat_lit 114)])), ((nat_lit 9), (nat_lit 1), .c (.str [(nat_lit 115), (nat_lit 119), (nat_lit 111), (nat_lit 46)])), ((nat_lit 10), (nat_lit 1), .c (.str []))]),
    .op D3 (.mv T5)])
  (.seq (.seq (.reg [.op D6 (.mv T0),
    .op D7 (.bin .geq T6 (.c (.int .i64 (.ofNat (nat_lit 0))))),
    .op D8 (.mv T7),
    .gop .n0 .n8 g8 (fun _ => rfl) true D9 (.mv T0),
    .gop .n0 .n8 g8 (fun _ => rfl) true D10 (.mv T3),
    .gop .n0 .n8 g8 (fun _ => rfl) true D11 (.lenL T10),
    .gop .n0 .n8 g8 (fun _ => rfl) true D12 (.bin .lss T9 T11),
    .op D13 (.pick T8 T12 (.c (.bool false)))])
  (.cond T13 (.seq (.reg [.op D14 (.mv T3),
    .op D15 (.mv T0),
    .op D16 (.ixaS (nat_lit 1) T14 T15),
    .op D17 (.ld1 T16),
    .op D2 (.mv T17)])
  (.ret))
  (.skip)))
  (.seq (.reg [.op D18 (.bsl (nat_lit 1) [.str [], .str [], .str [], .str []] (nat_lit 4) [((nat_lit 0), (nat_lit 1), .c (.str [(nat_lit 112), (nat_lit 119)])), ((nat_lit 1), (nat_lit 1), .c (.str [(nat_lit 112), (nat_lit 119), (nat_lit 46)])), ((nat_lit 2), (nat_lit 1), .c (.str [(nat_lit 112), (nat_lit 119), (nat_lit 46), (nat_lit 46)])), ((nat_lit 3), (nat_lit 1), .c (.str [(nat_lit 112), (nat_lit 119), (nat_lit 46)]))]),
    .op D4 (.mv T18)])
  (.seq (.seq (.reg [.op D19 (.mv T0),
    .op D20 (.bin .geq T19 (.c (.int .i64 (.ofNat (nat_lit 20))))),
    .op D21 (.mv T20),
    .gop .n1 .n5 g21 (fun _ => rfl) true D22 (.mv T0),
    .gop .n1 .n5 g21 (fun _ => rfl) true D23 (.bin .leq T22 (.c (.int .i64 (.ofNat (nat_lit 23))))),
    .op D24 (.pick T21 T23 (.c (.bool false)))])
  (.cond T24 (.seq (.reg [.op D25 (.mv T4),
    .op D26 (.mv T0),
    .op D27 (.bin .sub T26 (.c (.int .i64 (.ofNat (nat_lit 20))))),
    .op D28 (.ixaS (nat_lit 1) T25 T27),
    .op D29 (.ld1 T28),
    .op D2 (.mv T29)])
  (.ret))
  (.skip)))
  (.seq (.reg [.op D2 (.mv (.c (.str [])))])
  (.ret)))))),
  [.t .n0 .n2 g2 (fun _ => rfl)]⟩
/-- (*messuage/mail.Mail).is -/
noncomputable def ff48 : FFunc := ⟨.seq (.reg [.op D4 (.mv (.c (.bool false)))])
  (.seq (.reg [.op D5 (.mv T0),
    .op D6 (.eq true (.sc .ptr) T5 (.c (.nilp))),
    .op D7 (.mv T6),
    .gop .n0 .n7 g7 (fun _ => rfl) true D8 (.mv T1),
    .gop .n0 .n7 g7 (fun _ => rfl) true D9 (.bin .geq T8 (.c (.int .i64 (.ofNat (nat_lit 0))))),
    .op D10 (.pick T7 T9 (.c (.bool false))),
    .op D11 (.mv T10),
    .gop .n0 .n11 g11 (fun _ => rfl) true D12 (.mv T1),
    .gop .n0 .n11 g11 (fun _ => rfl) true D13 (.mv T0),
    .gop .n0 .n11 g11 (fun _ => rfl) true D14 (.nilck T13),
    .gop .n0 .n11 g11 (fun _ => rfl) true D15 (.fadd (nat_lit 0) T14),
    .gop .n0 .n11 g11 (fun _ => rfl) true D16 (.ld1 T15),
    .gop .n0 .n11 g11 (fun _ => rfl) true D17 (.lenL T16),
    .gop .n0 .n11 g11 (fun _ => rfl) true D18 (.bin .lss T12 T17),
    .op D19 (.pick T11 T18 (.c (.bool false))),
    .op D4 (.mv T19)])
  (.ret)),
  [.t .n0 .n4 g4 (fun _ => rfl)]⟩
/-- slices.BinarySearch[[]uint64,uint64] -/
noncomputable def ff49 : FFunc := ⟨.seq (.reg [.op D4 (.mv (.c (.int .i64 (.ofNat (nat_lit 0))))),
    .op D5 (.mv (.c (.bool false)))])
  (.seq (.reg [.op D10 (.mv T0),
    .op D11 (.lenL T10),
    .op D6 (.mv T11)])
  (.seq (.reg [.op D12 (.mv T6),
    .op D7 (.mv (.c (.int .i64 (.ofNat (nat_lit 0))))),
    .op D8 (.mv T12)])
  (.seq (.block (nat_lit 0) (.loop (.seq (.seq (.reg [.op D13 (.mv T7),
    .op D14 (.mv T8),
    .op D15 (.bin .lss T13 T14)])
  (.cond T15 (.skip)
  (.exit (nat_lit 0))))
  (.block (nat_lit 1) (.seq (.reg [.op D16 (.mv T7),
    .op D17 (.mv T8),
    .op D18 (.bin .add T16 T17),
    .op D19 (.cvi .u64 T18),
    .op D20 (.bin .shr T19 (.c (.int .u64 (.ofNat (nat_lit 1))))),
    .op D21 (.cvi .i64 T20),
    .op D9 (.mv T21)])
  (.seq (.reg [.op D22 (.mv T0),
    .op D23 (.mv T9),
    .op D24 (.ixaS (nat_lit 1) T22 T23),
    .op D25 (.ld1 T24),
    .op D26 (.mv T1),
    .op D27 (.call (nat_lit 65) [T25, T26])])
  (.cond T27 (.reg [.op D28 (.mv T9),
    .op D29 (.bin .add T28 (.c (.int .i64 (.ofNat (nat_lit 1))))),
    .op D7 (.mv T29)])
  (.reg [.op D30 (.mv T9),
    .op D8 (.mv T30)]))))))))
  (.seq (.reg [.op D31 (.mv T7),
    .op D32 (.mv T7),
    .op D33 (.mv T6),
    .op D34 (.bin .lss T32 T33),
    .op D35 (.mv T34),
    .gop .n2 .n3 g35 (fun _ => rfl) true D36 (.mv T0),
    .gop .n2 .n3 g35 (fun _ => rfl) true D37 (.mv T7),
    .gop .n2 .n3 g35 (fun _ => rfl) true D38 (.ixaS (nat_lit 1) T36 T37),
    .gop .n2 .n3 g35 (fun _ => rfl) true D39 (.ld1 T38),
    .gop .n2 .n3 g35 (fun _ => rfl) true D40 (.mv T1),
    .gop .n2 .n3 g35 (fun _ => rfl) true D41 (.bin .eql T39 T40),
    .gop .n2 .n3 g35 (fun _ => rfl) true D42 (.mv T41),
    .gop .n2 .n10 g42 (fun _ => rfl) false D43 (.mv T0),
    .gop .n2 .n10 g42 (fun _ => rfl) false D44 (.mv T7),
    .gop .n2 .n10 g42 (fun _ => rfl) false D45 (.ixaS (nat_lit 1) T43 T44),
    .gop .n2 .n10 g42 (fun _ => rfl) false D46 (.ld1 T45),
    .gop .n2 .n10 g42 (fun _ => rfl) false D47 (.call (nat_lit 66) [T46]),
    .gop .n2 .n10 g42 (fun _ => rfl) false D48 (.mv T47),
    .gop .n3 .n0 g48 (fun _ => rfl) true D49 (.mv T1),
    .gop .n3 .n0 g48 (fun _ => rfl) true D50 (.call (nat_lit 66) [T49]),
    .gop .n2 .n10 g42 (fun _ => rfl) false D51 (.pick T48 T50 (.c (.bool false))),
    .gop .n2 .n3 g35 (fun _ => rfl) true D52 (.pick T42 (.c (.bool true)) T51),
    .op D53 (.pick T35 T52 (.c (.bool false))),
    .op D4 (.mv T31),
    .op D5 (.mv T53)])
  (.ret))))),
  [.t .n0 .n4 g4 (fun _ => rfl), .t .n0 .n5 g5 (fun _ => rfl)]⟩
/-- slices.Insert[[]uint64,uint64] -/
noncomputable def ff50 : FFunc := ⟨.seq (.reg [.op D6 (.mv (.c (.nils)))])
  (.seq (.reg [.op D10 (.mv T0),
    .op D11 (.mv T1),
    .op D12 (.slSlc (nat_lit 1) T10 (.is T11) .no .no)])
  (.seq (.reg [.op D13 (.mv T2),
    .op D14 (.lenL T13),
    .op D7 (.mv T14)])
  (.seq (.seq (.reg [.op D15 (.mv T7),
    .op D16 (.bin .eql T15 (.c (.int .i64 (.ofNat (nat_lit 0)))))])
  (.cond T16 (.seq (.reg [.op D17 (.mv T0),
    .op D6 (.mv T17)])
  (.ret))
  (.skip)))
  (.seq (.reg [.op D18 (.mv T0),
    .op D19 (.lenL T18),
    .op D8 (.mv T19)])
  (.seq (.seq (.reg [.op D20 (.mv T1),
    .op D21 (.mv T8),
    .op D22 (.bin .eql T20 T21)])
  (.cond T22 (.seq (.reg [.op D23 (.mv T0),
    .op D24 (.mv T2),
    .op D25 (.app (nat_lit 1) (nat_lit 8) T23 T24),
    .op D6 (.mv T25)])
  (.ret))
  (.skip)))
  (.seq (.seq (.reg [.op D26 (.mv T8),
    .op D27 (.mv T7),
    .op D28 (.bin .add T26 T27),
    .op D29 (.mv T0),
    .op D30 (.cap T29),
    .op D31 (.bin .gtr T28 T30)])
  (.cond T31 (.seq (.reg [.op D32 (.mv T0),
    .op D33 (.mv T1),
    .op D34 (.slSlc (nat_lit 1) T32 .no (.is T33) .no),
    .op D35 (.mv T8),
    .op D36 (.mv T7),
    .op D37 (.bin .add T35 T36),
    .op D38 (.mv T1),
    .op D39 (.bin .sub T37 T38),
    .op D40 (.appZ (nat_lit 1) (nat_lit 8) [.int .u64 (.ofNat (nat_lit 0))] T34 T39),
    .op D9 (.mv T40)])
  (.seq (.reg [.op D41 (.mv T9),
    .op D42 (.mv T1),
    .op D43 (.slSlc (nat_lit 1) T41 (.is T42) .no .no),
    .op D44 (.mv T2),
    .op D45 (.copy (nat_lit 1) T43 T44)])
  (.seq (.drw [.op D46 (.mv T9),
    .op D47 (.mv T1),
    .op D48 (.mv T7),
    .op D49 (.bin .add T47 T48),
    .op D50 (.slSlc (nat_lit 1) T46 (.is T49) .no .no),
    .op D51 (.mv T0),
    .op D52 (.mv T1),
    .op D53 (.slSlc (nat_lit 1) T51 (.is T52) .no .no),
    .op D54 (.copy (nat_lit 1) T50 T53)] [])
  (.seq (.reg [.op D55 (.mv T9),
    .op D6 (.mv T55)])
  (.ret)))))
  (.skip)))
  (.seq (.reg [.op D56 (.mv T0),
    .op D57 (.mv T8),
    .op D58 (.mv T7),
    .op D59 (.bin .add T57 T58),
    .op D60 (.slSlc (nat_lit 1) T56 .no (.is T59) .no),
    .op D0 (.mv T60)])
  (.seq (.seq (.reg [.op D61 (.mv T2),
    .op D62 (.mv T0),
    .op D63 (.mv T1),
    .op D64 (.mv T7),
    .op D65 (.bin .add T63 T64),
    .op D66 (.slSlc (nat_lit 1) T62 (.is T65) .no .no),
    .op D67 (.call (nat_lit 67) [T61, T66]),
    .op D68 (.un .not T67)])
  (.cond T68 (.seq (.drw [.op D69 (.mv T0),
    .op D70 (.mv T1),
    .op D71 (.mv T7),
    .op D72 (.bin .add T70 T71),
    .op D73 (.slSlc (nat_lit 1) T69 (.is T72) .no .no),
    .op D74 (.mv T0),
    .op D75 (.mv T1),
    .op D76 (.slSlc (nat_lit 1) T74 (.is T75) .no .no),
    .op D77 (.copy (nat_lit 1) T73 T76)] [])
  (.seq (.reg [.op D78 (.mv T0),
    .op D79 (.mv T1),
    .op D80 (.slSlc (nat_lit 1) T78 (.is T79) .no .no),
    .op D81 (.mv T2),
    .op D82 (.copy (nat_lit 1) T80 T81)])
  (.seq (.reg [.op D83 (.mv T0),
    .op D6 (.mv T83)])
  (.ret))))
  (.skip)))
  (.seq (.reg [.op D84 (.mv T0),
    .op D85 (.mv T8),
    .op D86 (.slSlc (nat_lit 1) T84 (.is T85) .no .no),
    .op D87 (.mv T2),
    .op D88 (.copy (nat_lit 1) T86 T87)])
  (.seq (.reg [.op D89 (.mv T0),
    .op D90 (.mv T1),
    .op D91 (.slSlc (nat_lit 1) T89 (.is T90) .no .no),
    .op D92 (.mv T7),
    .op D93 (.call (nat_lit 68) [T91, T92])])
  (.seq (.reg [.op D94 (.mv T0),
    .op D6 (.mv T94)])
  (.ret)))))))))))),
  [.t .n0 .n6 g6 (fun _ => rfl)]⟩
/-- (*messuage/tlb.Tlb).Clear -/
noncomputable def ff51 : FFunc := ⟨.seq (.seq (.reg [.op D4 (.mv T0),
    .op D5 (.eq false (.sc .ptr) T4 (.c (.nilp)))])
  (.cond T5 (.ret)
  (.skip)))
  (.seq (.reg [.op D6 (.mv (.c (.int .i64 (.ofNat (nat_lit 0)))))])
  (.block (nat_lit 0) (.loop (.seq (.reg [.op D7 (.bin .lss T6 (.c (.int .i64 (.ofNat (nat_lit 4)))))])
  (.seq (.cond T7 (.skip)
  (.exit (nat_lit 0)))
  (.seq (.block (nat_lit 1) (.seq (.reg [.op D8 (.mv T6),
    .op D2 (.mv T8)])
  (.seq (.reg [.op D9 (.mv (.c (.int .i64 (.ofNat (nat_lit 0)))))])
  (.block (nat_lit 2) (.loop (.seq (.reg [.op D10 (.bin .lss T9 (.c (.int .i64 (.ofNat (nat_lit 2)))))])
  (.seq (.cond T10 (.skip)
  (.exit (nat_lit 2)))
  (.seq (.block (nat_lit 3) (.seq (.reg [.op D11 (.mv T9),
    .op D3 (.mv T11)])
  (.drw [.op D12 (.mv T0),
    .op D13 (.mv T2),
    .op D14 (.mv T3),
    .op D15 (.call (nat_lit 69) []),
    .op D16 (.nilck T12),
    .op D17 (.fadd (nat_lit 0) T16),
    .op D18 (.ixaA (nat_lit 4) (nat_lit 10) T17 T13),
    .op D19 (.ixaA (nat_lit 2) (nat_lit 5) T18 T14),
    .op D20 (.fadd (nat_lit 0) T19),
    .op .no (.st (nat_lit 4) T20 T15)] [])))
  (.reg [.op D21 (.bin .add T9 (.c (.int .i64 (.ofNat (nat_lit 1))))),
    .op D9 (.mv T21)])))))))))
  (.reg [.op D22 (.bin .add T6 (.c (.int .i64 (.ofNat (nat_lit 1))))),
    .op D6 (.mv T22)]))))))),
  []⟩
/-- messuage/pte.May -/
noncomputable def ff52 : FFunc := ⟨.seq (.reg [.op D2 (.mv (.c (.bool false)))])
  (.seq (.reg [.op D3 (.mv T0),
    .op D4 (.bin .geq T3 (.c (.int .i64 (.ofNat (nat_lit 1))))),
    .op D5 (.mv T4),
    .gop .n0 .n5 g5 (fun _ => rfl) true D6 (.mv T0),
    .gop .n0 .n5 g5 (fun _ => rfl) true D7 (.bin .leq T6 (.c (.int .i64 (.ofNat (nat_lit 3))))),
    .op D8 (.pick T5 T7 (.c (.bool false))),
    .op D2 (.mv T8)])
  (.ret)),
  [.t .n0 .n2 g2 (fun _ => rfl)]⟩
/-- (*messuage/tlb.Tlb).at -/
noncomputable def ff53 : FFunc := ⟨.seq (.reg [.op D6 (.mv (.c (.nilp)))])
  (.seq (.seq (.reg [.op D9 (.mv T0),
    .op D10 (.eq false (.sc .ptr) T9 (.c (.nilp))),
    .op D11 (.mv T10),
    .gop .n0 .n11 g11 (fun _ => rfl) false D12 (.mv T1),
    .gop .n0 .n11 g11 (fun _ => rfl) false D13 (.bin .lss T12 (.c (.int .i64 (.ofNat (nat_lit 0))))),
    .op D14 (.pick T11 (.c (.bool true)) T13),
    .op D15 (.mv T14),
    .gop .n0 .n15 g15 (fun _ => rfl) false D16 (.mv T2),
    .gop .n0 .n15 g15 (fun _ => rfl) false D17 (.bin .lss T16 (.c (.int .i64 (.ofNat (nat_lit 0))))),
    .op D18 (.pick T15 (.c (.bool true)) T17),
    .op D19 (.mv T18),
    .gop .n1 .n3 g19 (fun _ => rfl) false D20 (.mv T2),
    .gop .n1 .n3 g19 (fun _ => rfl) false D21 (.bin .geq T20 (.c (.int .i64 (.ofNat (nat_lit 8))))),
    .op D22 (.pick T19 (.c (.bool true)) T21)])
  (.cond T22 (.seq (.reg [.op D6 (.mv (.c (.nilp)))])
  (.ret))
  (.skip)))
  (.seq (.seq (.reg [.op D23 (.mv (.c (.int .i64 (.ofNat (nat_lit 0)))))])
  (.block (nat_lit 0) (.loop (.seq (.reg [.op D24 (.bin .lss T23 (.c (.int .i64 (.ofNat (nat_lit 2)))))])
  (.seq (.cond T24 (.skip)
  (.exit (nat_lit 0)))
  (.seq (.block (nat_lit 1) (.seq (.reg [.op D25 (.mv T23),
    .op D7 (.mv T25)])
  (.seq (.reg [.op D26 (.mv T0),
    .op D27 (.mv T2),
    .op D28 (.bin .rem T27 (.c (.int .i64 (.ofNat (nat_lit 4))))),
    .op D29 (.mv T7),
    .op D30 (.nilck T26),
    .op D31 (.fadd (nat_lit 0) T30),
    .op D32 (.ixaA (nat_lit 4) (nat_lit 10) T31 T28),
    .op D33 (.ixaA (nat_lit 2) (nat_lit 5) T32 T29),
    .op D8 (.mv T33)])
  (.seq (.reg [.op D34 (.mv T8),
    .op D35 (.nilck T34),
    .op D36 (.fadd (nat_lit 0) T35),
    .op D37 (.fadd (nat_lit 0) T36),
    .op D38 (.ld1 T37),
    .op D39 (.mv T1),
    .op D40 (.bin .eql T38 T39),
    .op D41 (.mv T40),
    .gop .n2 .n9 g41 (fun _ => rfl) true D42 (.mv T8),
    .gop .n2 .n9 g41 (fun _ => rfl) true D43 (.nilck T42),
    .gop .n2 .n9 g41 (fun _ => rfl) true D44 (.fadd (nat_lit 0) T43),
    .gop .n2 .n9 g41 (fun _ => rfl) true D45 (.fadd (nat_lit 1) T44),
    .gop .n2 .n9 g41 (fun _ => rfl) true D46 (.ld1 T45),
    .gop .n2 .n9 g41 (fun _ => rfl) true D47 (.mv T2),
    .gop .n2 .n9 g41 (fun _ => rfl) true D48 (.bin .eql T46 T47),
    .op D49 (.pick T41 T48 (.c (.bool false)))])
  (.cond T49 (.seq (.reg [.op D50 (.mv T8),
    .op D6 (.mv T50)])
  (.ret))
  (.skip))))))
  (.reg [.op D51 (.bin .add T23 (.c (.int .i64 (.ofNat (nat_lit 1))))),
    .op D23 (.mv T51)])))))))
  (.seq (.reg [.op D6 (.mv (.c (.nilp)))])
  (.ret)))),
  [.t .n0 .n6 g6 (fun _ => rfl)]⟩
/-- (*messuage/tlb.Tlb).room -/
noncomputable def ff54 : FFunc := ⟨.seq (.reg [.op D4 (.mv (.c (.nilp)))])
  (.seq (.reg [.op D5 (.mv (.c (.nilp)))])
  (.seq (.seq (.reg [.op D8 (.mv (.c (.int .i64 (.ofNat (nat_lit 0)))))])
  (.block (nat_lit 0) (.loop (.seq (.reg [.op D9 (.bin .lss T8 (.c (.int .i64 (.ofNat (nat_lit 2)))))])
  (.seq (.cond T9 (.skip)
  (.exit (nat_lit 0)))
  (.seq (.block (nat_lit 1) (.seq (.reg [.op D10 (.mv T8),
    .op D6 (.mv T10)])
  (.seq (.reg [.op D11 (.mv T0),
    .op D12 (.mv T1),
    .op D13 (.mv T6),
    .op D14 (.nilck T11),
    .op D15 (.fadd (nat_lit 0) T14),
    .op D16 (.ixaA (nat_lit 4) (nat_lit 10) T15 T12),
    .op D17 (.ixaA (nat_lit 2) (nat_lit 5) T16 T13),
    .op D7 (.mv T17)])
  (.seq (.seq (.reg [.op D18 (.mv T7),
    .op D19 (.nilck T18),
    .op D20 (.fadd (nat_lit 0) T19),
    .op D21 (.fadd (nat_lit 0) T20),
    .op D22 (.ld1 T21),
    .op D23 (.bin .lss T22 (.c (.int .i64 (.ofNat (nat_lit 0)))))])
  (.cond T23 (.seq (.reg [.op D24 (.mv T7),
    .op D4 (.mv T24)])
  (.ret))
  (.skip)))
  (.seq (.drw [.op D25 (.mv T5),
    .op D26 (.eq false (.sc .ptr) T25 (.c (.nilp))),
    .op D27 (.mv T26),
    .gop .n1 .n11 g27 (fun _ => rfl) false D28 (.mv T7),
    .gop .n1 .n11 g27 (fun _ => rfl) false D29 (.nilck T28),
    .gop .n1 .n11 g27 (fun _ => rfl) false D30 (.fadd (nat_lit 4) T29),
    .gop .n1 .n11 g27 (fun _ => rfl) false D31 (.ld1 T30),
    .gop .n1 .n11 g27 (fun _ => rfl) false D32 (.mv T5),
    .gop .n1 .n11 g27 (fun _ => rfl) false D33 (.nilck T32),
    .gop .n1 .n11 g27 (fun _ => rfl) false D34 (.fadd (nat_lit 4) T33),
    .gop .n1 .n11 g27 (fun _ => rfl) false D35 (.ld1 T34),
    .gop .n1 .n11 g27 (fun _ => rfl) false D36 (.bin .lss T31 T35),
    .op D37 (.pick T27 (.c (.bool true)) T36)] [])
  (.cond T37 (.reg [.op D38 (.mv T7),
    .op D5 (.mv T38)])
  (.skip)))))))
  (.reg [.op D39 (.bin .add T8 (.c (.int .i64 (.ofNat (nat_lit 1))))),
    .op D8 (.mv T39)])))))))
  (.seq (.reg [.op D40 (.mv T5),
    .op D4 (.mv T40)])
  (.ret)))),
  [.t .n0 .n4 g4 (fun _ => rfl)]⟩
/-- slices.Index[[]int,int] -/
noncomputable def ff55 : FFunc := ⟨.seq (.reg [.op D4 (.mv (.c (.int .i64 (.ofNat (nat_lit 0)))))])
  (.seq (.seq (.reg [.op D6 (.mv T0),
    .op D7 (.lenL T6),
    .op D8 (.mv (.c (.int .i64 (.ofNat (nat_lit 0)))))])
  (.block (nat_lit 0) (.loop (.seq (.reg [.op D9 (.bin .lss T8 T7)])
  (.seq (.cond T9 (.skip)
  (.exit (nat_lit 0)))
  (.seq (.block (nat_lit 1) (.seq (.reg [.op D10 (.mv T8),
    .op D5 (.mv T10)])
  (.seq (.reg [.op D11 (.mv T1),
    .op D12 (.mv T0),
    .op D13 (.mv T5),
    .op D14 (.ixaS (nat_lit 1) T12 T13),
    .op D15 (.ld1 T14),
    .op D16 (.bin .eql T11 T15)])
  (.cond T16 (.seq (.reg [.op D17 (.mv T5),
    .op D4 (.mv T17)])
  (.ret))
  (.skip)))))
  (.reg [.op D18 (.bin .add T8 (.c (.int .i64 (.ofNat (nat_lit 1))))),
    .op D8 (.mv T18)])))))))
  (.seq (.reg [.op D4 (.mv (.c (.int .i64 (.negSucc (nat_lit 0)))))])
  (.ret))),
  [.t .n0 .n4 g4 (fun _ => rfl)]⟩
/-- (*messuage/pool.Pool).Refs -/
noncomputable def ff56 : FFunc := ⟨.seq (.reg [.op D4 (.mv (.c (.int .i64 (.ofNat (nat_lit 0)))))])
  (.seq (.seq (.reg [.op D5 (.mv T0),
    .op D6 (.eq false (.sc .ptr) T5 (.c (.nilp))),
    .op D7 (.mv T6),
    .gop .n0 .n7 g7 (fun _ => rfl) false D8 (.mv T1),
    .gop .n0 .n7 g7 (fun _ => rfl) false D9 (.bin .lss T8 (.c (.int .i64 (.ofNat (nat_lit 0))))),
    .op D10 (.pick T7 (.c (.bool true)) T9),
    .op D11 (.mv T10),
    .gop .n0 .n11 g11 (fun _ => rfl) false D12 (.mv T1),
    .gop .n0 .n11 g11 (fun _ => rfl) false D13 (.mv T0),
    .gop .n0 .n11 g11 (fun _ => rfl) false D14 (.nilck T13),
    .gop .n0 .n11 g11 (fun _ => rfl) false D15 (.fadd (nat_lit 0) T14),
    .gop .n0 .n11 g11 (fun _ => rfl) false D16 (.ld1 T15),
    .gop .n0 .n11 g11 (fun _ => rfl) false D17 (.lenL T16),
    .gop .n0 .n11 g11 (fun _ => rfl) false D18 (.bin .geq T12 T17),
    .op D19 (.pick T11 (.c (.bool true)) T18)])
  (.cond T19 (.seq (.reg [.op D4 (.mv (.c (.int .i64 (.ofNat (nat_lit 0)))))])
  (.ret))
  (.skip)))
  (.seq (.reg [.op D20 (.mv T0),
    .op D21 (.nilck T20),
    .op D22 (.fadd (nat_lit 0) T21),
    .op D23 (.ld1 T22),
    .op D24 (.mv T1),
    .op D25 (.ixaS (nat_lit 1) T23 T24),
    .op D26 (.ld1 T25),
    .op D4 (.mv T26)])
  (.ret))),
  [.t .n0 .n4 g4 (fun _ => rfl)]⟩
/-- (*messuage/mem.Mem).at -/
noncomputable def ff57 : FFunc := ⟨.seq (.reg [.op D6 (.mv (.c (.nilp)))])
  (.seq (.seq (.reg [.op D7 (.mv T1),
    .op D8 (.bin .lss T7 (.c (.int .i64 (.ofNat (nat_lit 0))))),
    .op D9 (.mv T8),
    .gop .n0 .n9 g9 (fun _ => rfl) false D10 (.mv T1),
    .gop .n0 .n9 g9 (fun _ => rfl) false D11 (.mv T0),
    .gop .n0 .n9 g9 (fun _ => rfl) false D12 (.call (nat_lit 70) [T11]),
    .gop .n0 .n9 g9 (fun _ => rfl) false D13 (.bin .geq T10 T12),
    .op D14 (.pick T9 (.c (.bool true)) T13),
    .op D15 (.mv T14),
    .gop .n0 .n15 g15 (fun _ => rfl) false D16 (.mv T2),
    .gop .n0 .n15 g15 (fun _ => rfl) false D17 (.bin .lss T16 (.c (.int .i64 (.ofNat (nat_lit 0))))),
    .op D18 (.pick T15 (.c (.bool true)) T17),
    .op D19 (.mv T18),
    .gop .n1 .n3 g19 (fun _ => rfl) false D20 (.mv T2),
    .gop .n1 .n3 g19 (fun _ => rfl) false D21 (.bin .geq T20 (.c (.int .i64 (.ofNat (nat_lit 16))))),
    .op D22 (.pick T19 (.c (.bool true)) T21)])
  (.cond T22 (.seq (.reg [.op D6 (.mv (.c (.nilp)))])
  (.ret))
  (.skip)))
  (.seq (.reg [.op D23 (.mv T0),
    .op D24 (.nilck T23),
    .op D25 (.fadd (nat_lit 0) T24),
    .op D26 (.ld1 T25),
    .op D27 (.mv T1),
    .op D28 (.ixaS (nat_lit 1) T26 T27),
    .op D29 (.ld1 T28),
    .op D30 (.mv T2),
    .op D31 (.ixaS (nat_lit 1) T29 T30),
    .op D6 (.mv T31)])
  (.ret))),
  [.t .n0 .n6 g6 (fun _ => rfl)]⟩
/-- slices.Clone[[]uint64,uint64] -/
noncomputable def ff58 : FFunc := ⟨.seq (.reg [.op D2 (.mv (.c (.nils)))])
  (.seq (.seq (.reg [.op D3 (.mv T0),
    .op D4 (.eq false (.sc .slcN) T3 (.c (.nils)))])
  (.cond T4 (.seq (.reg [.op D2 (.mv (.c (.nils)))])
  (.ret))
  (.skip)))
  (.seq (.reg [.op D5 (.bsl (nat_lit 1) [] (nat_lit 0) []),
    .op D6 (.mv T0),
    .op D7 (.app (nat_lit 1) (nat_lit 8) T5 T6),
    .op D2 (.mv T7)])
  (.ret))),
  [.t .n0 .n2 g2 (fun _ => rfl)]⟩
/-- messuage/table.is -/
noncomputable def ff59 : FFunc := ⟨.seq (.reg [.op D2 (.mv (.c (.bool false)))])
  (.seq (.reg [.op D3 (.mv T0),
    .op D4 (.bin .geq T3 (.c (.int .i64 (.ofNat (nat_lit 0))))),
    .op D5 (.mv T4),
    .gop .n0 .n5 g5 (fun _ => rfl) true D6 (.mv T0),
    .gop .n0 .n5 g5 (fun _ => rfl) true D7 (.bin .lss T6 (.c (.int .i64 (.ofNat (nat_lit 8))))),
    .op D8 (.pick T5 T7 (.c (.bool false))),
    .op D2 (.mv T8)])
  (.ret)),
  [.t .n0 .n2 g2 (fun _ => rfl)]⟩
/-- messuage/messuagelaw1.begun -/
noncomputable def ff60 : FFunc := ⟨.seq (.reg [.op D0 (.mv (.c (.bool false)))])
  (.seq (.reg [.op D4 (.build [.int .u64 (.ofNat (nat_lit 0)), .int .u64 (.ofNat (nat_lit 0)), .int .u64 (.ofNat (nat_lit 0)), .int .u64 (.ofNat (nat_lit 0)), .int .u64 (.ofNat (nat_lit 0))] [((nat_lit 0), (nat_lit 1), .c (.int .u64 (.ofNat (nat_lit 1)))), ((nat_lit 1), (nat_lit 1), .c (.int .u64 (.ofNat (nat_lit 2))))]),
    .op D5 (.call (nat_lit 72) [.c (.int .i64 (.ofNat (nat_lit 3)))]),
    .op D6 (.call (nat_lit 71) [.c (.int .i64 (.ofNat (nat_lit 2))), T4, T5]),
    .op D1 (.mv T6)])
  (.seq (.reg [.op D8 (.mv T1),
    .op D9 (.call (nat_lit 73) [T8]),
    .op D7 (.mv T9),
    .op D10 (.ex (nat_lit 0) T7),
    .op D11 (.ex (nat_lit 1) T7),
    .op D2 (.mv T10),
    .op D3 (.mv T11)])
  (.seq (.seq (.reg [.op D12 (.mv T1),
    .op D13 (.eq false (.sc .ifc) T12 (.c (.nili))),
    .op D14 (.mv T13),
    .gop .n0 .n14 g14 (fun _ => rfl) false D15 (.mv T2),
    .gop .n0 .n14 g14 (fun _ => rfl) false D16 (.eq false (.sc .ptr) T15 (.c (.nilp))),
    .op D17 (.pick T14 (.c (.bool true)) T16)])
  (.cond T17 (.seq (.reg [.op D0 (.mv (.c (.bool false)))])
  (.ret))
  (.skip)))
  (.seq (.reg [.op D18 (.mv T3),
    .op D19 (.mv T18),
    .gop .n1 .n3 g19 (fun _ => rfl) true D20 (.mv T2),
    .gop .n1 .n3 g19 (fun _ => rfl) true D21 (.nilck T20),
    .gop .n1 .n3 g19 (fun _ => rfl) true D22 (.fadd (nat_lit 1) T21),
    .gop .n1 .n3 g19 (fun _ => rfl) true D23 (.ld1 T22),
    .gop .n1 .n3 g19 (fun _ => rfl) true D24 (.bin .eql T23 (.c (.int .i64 (.ofNat (nat_lit 2))))),
    .op D25 (.pick T19 T24 (.c (.bool false))),
    .op D26 (.mv T25),
    .gop .n1 .n10 g26 (fun _ => rfl) true D27 (.mv T2),
    .gop .n1 .n10 g26 (fun _ => rfl) true D28 (.nilck T27),
    .gop .n1 .n10 g26 (fun _ => rfl) true D29 (.fadd (nat_lit 2) T28),
    .gop .n1 .n10 g26 (fun _ => rfl) true D30 (.ldA (nat_lit 5) T29),
    .gop .n1 .n10 g26 (fun _ => rfl) true D31 (.build [.int .u64 (.ofNat (nat_lit 0)), .int .u64 (.ofNat (nat_lit 0)), .int .u64 (.ofNat (nat_lit 0)), .int .u64 (.ofNat (nat_lit 0)), .int .u64 (.ofNat (nat_lit 0))] [((nat_lit 0), (nat_lit 1), .c (.int .u64 (.ofNat (nat_lit 1)))), ((nat_lit 1), (nat_lit 1), .c (.int .u64 (.ofNat (nat_lit 2))))]),
    .gop .n1 .n10 g26 (fun _ => rfl) true D32 (.eq false (.flat [((nat_lit 0), .int), ((nat_lit 1), .int), ((nat_lit 2), .int), ((nat_lit 3), .int), ((nat_lit 4), .int)]) T30 T31),
    .op D33 (.pick T26 T32 (.c (.bool false))),
    .op D34 (.mv T33),
    .gop .n2 .n2 g34 (fun _ => rfl) true D35 (.mv T2),
    .gop .n2 .n2 g34 (fun _ => rfl) true D36 (.nilck T35),
    .gop .n2 .n2 g34 (fun _ => rfl) true D37 (.fadd (nat_lit 0) T36),
    .gop .n2 .n2 g34 (fun _ => rfl) true D38 (.ld1 T37),
    .gop .n2 .n2 g34 (fun _ => rfl) true D39 (.bin .eql T38 (.c (.int .i64 (.ofNat (nat_lit 3))))),
    .op D40 (.pick T34 T39 (.c (.bool false))),
    .op D41 (.mv T40),
    .gop .n2 .n9 g41 (fun _ => rfl) true D42 (.mv T1),
    .gop .n2 .n9 g41 (fun _ => rfl) true D43 (.call (nat_lit 74) [T42]),
    .gop .n2 .n9 g41 (fun _ => rfl) true D44 (.bin .eql T43 (.c (.int .i64 (.ofNat (nat_lit 3))))),
    .op D45 (.pick T41 T44 (.c (.bool false))),
    .op D46 (.mv T45),
    .gop .n2 .n14 g46 (fun _ => rfl) true D47 (.mv T1),
    .gop .n2 .n14 g46 (fun _ => rfl) true D48 (.call (nat_lit 75) [T47]),
    .gop .n2 .n14 g46 (fun _ => rfl) true D49 (.bin .eql T48 (.c (.int .i64 (.ofNat (nat_lit 2))))),
    .op D50 (.pick T46 T49 (.c (.bool false))),
    .op D51 (.mv T50),
    .gop .n3 .n3 g51 (fun _ => rfl) true D52 (.mv T1),
    .gop .n3 .n3 g51 (fun _ => rfl) true D53 (.call (nat_lit 72) [.c (.int .i64 (.ofNat (nat_lit 3)))]),
    .gop .n3 .n3 g51 (fun _ => rfl) true D54 (.call (nat_lit 76) [T52, T53]),
    .op D55 (.pick T51 T54 (.c (.bool false))),
    .op D56 (.mv T55),
    .gop .n3 .n8 g56 (fun _ => rfl) true D57 (.mv T1),
    .gop .n3 .n8 g56 (fun _ => rfl) true D58 (.call (nat_lit 72) [.c (.int .i64 (.ofNat (nat_lit 4)))]),
    .gop .n3 .n8 g56 (fun _ => rfl) true D59 (.call (nat_lit 76) [T57, T58]),
    .gop .n3 .n8 g56 (fun _ => rfl) true D60 (.un .not T59),
    .op D61 (.pick T56 T60 (.c (.bool false))),
    .op D62 (.mv T61),
    .gop .n3 .n14 g62 (fun _ => rfl) true D63 (.mv T1),
    .gop .n3 .n14 g62 (fun _ => rfl) true D64 (.inv [((nat_lit 8), (nat_lit 89)), ((nat_lit 14), (nat_lit 95)), ((nat_lit 15), (nat_lit 97)), ((nat_lit 16), (nat_lit 99)), ((nat_lit 19), (nat_lit 104)), ((nat_lit 126), (nat_lit 107)), ((nat_lit 154), (nat_lit 137))] T63 []),
    .gop .n3 .n14 g62 (fun _ => rfl) true D65 (.bin .eql T64 (.c (.str [(nat_lit 116), (nat_lit 114), (nat_lit 97), (nat_lit 112), (nat_lit 32), (nat_lit 51), (nat_lit 58), (nat_lit 32), (nat_lit 116), (nat_lit 114), (nat_lit 97), (nat_lit 112), (nat_lit 32), (nat_lit 51)]))),
    .op D66 (.pick T62 T65 (.c (.bool false))),
    .op D67 (.mv T66),
    .gop .n4 .n3 g67 (fun _ => rfl) true D68 (.call (nat_lit 72) [.c (.int .i64 (.ofNat (nat_lit 0)))]),
    .gop .n4 .n3 g67 (fun _ => rfl) true D69 (.eq false (.sc .ifc) T68 (.c (.nili))),
    .op D70 (.pick T67 T69 (.c (.bool false))),
    .op D0 (.mv T70)])
  (.ret))))),
  [.t .n0 .n0 g0 (fun _ => rfl)]⟩
/-- (*messuage/cell.Cell).Load -/
noncomputable def ff61 : FFunc := ⟨.seq (.reg [.op D2 (.mv (.c (.int .u64 (.ofNat (nat_lit 0)))))])
  (.seq (.seq (.reg [.op D3 (.mv T0),
    .op D4 (.eq false (.sc .ptr) T3 (.c (.nilp)))])
  (.cond T4 (.seq (.reg [.op D2 (.mv (.c (.int .u64 (.ofNat (nat_lit 0)))))])
  (.ret))
  (.skip)))
  (.seq (.reg [.op D5 (.mv T0),
    .op D6 (.nilck T5),
    .op D7 (.fadd (nat_lit 1) T6),
    .op D8 (.ld1 T7),
    .op D9 (.bin .add T8 (.c (.int .i64 (.ofNat (nat_lit 1))))),
    .op D10 (.nilck T5),
    .op D11 (.fadd (nat_lit 1) T10),
    .op .no (.st (nat_lit 1) T11 T9)])
  (.seq (.reg [.op D12 (.mv T0),
    .op D13 (.nilck T12),
    .op D14 (.fadd (nat_lit 0) T13),
    .op D15 (.ld1 T14),
    .op D2 (.mv T15)])
  (.ret)))),
  [.t .n0 .n2 g2 (fun _ => rfl)]⟩
/-- (*messuage/cell.Cell).Cas -/
noncomputable def ff62 : FFunc := ⟨.seq (.reg [.op D6 (.mv (.c (.bool false)))])
  (.seq (.seq (.reg [.op D7 (.mv T0),
    .op D8 (.eq false (.sc .ptr) T7 (.c (.nilp)))])
  (.cond T8 (.seq (.reg [.op D6 (.mv (.c (.bool false)))])
  (.ret))
  (.skip)))
  (.seq (.reg [.op D9 (.mv T0),
    .op D10 (.nilck T9),
    .op D11 (.fadd (nat_lit 1) T10),
    .op D12 (.ld1 T11),
    .op D13 (.bin .add T12 (.c (.int .i64 (.ofNat (nat_lit 1))))),
    .op D14 (.nilck T9),
    .op D15 (.fadd (nat_lit 1) T14),
    .op .no (.st (nat_lit 1) T15 T13)])
  (.seq (.seq (.reg [.op D16 (.mv T0),
    .op D17 (.nilck T16),
    .op D18 (.fadd (nat_lit 0) T17),
    .op D19 (.ld1 T18),
    .op D20 (.mv T1),
    .op D21 (.bin .neq T19 T20)])
  (.cond T21 (.seq (.reg [.op D6 (.mv (.c (.bool false)))])
  (.ret))
  (.skip)))
  (.seq (.reg [.op D22 (.mv T0),
    .op D23 (.mv T2),
    .op D24 (.nilck T22),
    .op D25 (.fadd (nat_lit 0) T24),
    .op .no (.st (nat_lit 1) T25 T23)])
  (.seq (.reg [.op D6 (.mv (.c (.bool true)))])
  (.ret)))))),
  [.t .n0 .n6 g6 (fun _ => rfl)]⟩
/-- messuage/word.Arg -/
noncomputable def ff63 : FFunc := ⟨.seq (.reg [.op D3 (.box (nat_lit 5) T0),
    .op D6 (.mv (.c (.int .i64 (.ofNat (nat_lit 0))))),
    .op D7 (.mv (.c (.bool false)))])
  (.seq (.seq (.reg [.op D8 (.mv T1),
    .op D9 (.bin .lss T8 (.c (.int .i64 (.ofNat (nat_lit 1))))),
    .op D10 (.mv T9),
    .gop .n0 .n10 g10 (fun _ => rfl) false D11 (.mv T1),
    .gop .n0 .n10 g10 (fun _ => rfl) false D12 (.bin .geq T11 (.c (.int .i64 (.ofNat (nat_lit 5))))),
    .op D13 (.pick T10 (.c (.bool true)) T12),
    .op D14 (.mv T13),
    .gop .n0 .n14 g14 (fun _ => rfl) false D15 (.mv T2),
    .gop .n0 .n14 g14 (fun _ => rfl) false D16 (.bin .leq T15 (.c (.int .i64 (.ofNat (nat_lit 0))))),
    .op D17 (.pick T14 (.c (.bool true)) T16),
    .op D18 (.mv T17),
    .gop .n1 .n2 g18 (fun _ => rfl) false D19 (.mv T1),
    .gop .n1 .n2 g18 (fun _ => rfl) false D20 (.ixaA (nat_lit 5) (nat_lit 1) T3 T19),
    .gop .n1 .n2 g18 (fun _ => rfl) false D21 (.ld1 T20),
    .gop .n1 .n2 g18 (fun _ => rfl) false D22 (.mv T2),
    .gop .n1 .n2 g18 (fun _ => rfl) false D23 (.cvi .u64 T22),
    .gop .n1 .n2 g18 (fun _ => rfl) false D24 (.bin .geq T21 T23),
    .op D25 (.pick T18 (.c (.bool true)) T24)])
  (.cond T25 (.seq (.reg [.op D6 (.mv (.c (.int .i64 (.ofNat (nat_lit 0))))),
    .op D7 (.mv (.c (.bool false)))])
  (.ret))
  (.skip)))
  (.seq (.reg [.op D26 (.mv T1),
    .op D27 (.ixaA (nat_lit 5) (nat_lit 1) T3 T26),
    .op D28 (.ld1 T27),
    .op D29 (.cvi .i64 T28),
    .op D6 (.mv T29),
    .op D7 (.mv (.c (.bool true)))])
  (.ret))),
  [.t .n0 .n6 g6 (fun _ => rfl), .t .n0 .n7 g7 (fun _ => rfl)]⟩
/-- messuage/word.Rights -/
noncomputable def ff64 : FFunc := ⟨.seq (.reg [.op D2 (.mv (.c (.int .i64 (.ofNat (nat_lit 0))))),
    .op D3 (.mv (.c (.bool false)))])
  (.seq (.seq (.reg [.op D4 (.mv T0),
    .op D5 (.bin .lss T4 (.c (.int .u64 (.ofNat (nat_lit 1))))),
    .op D6 (.mv T5),
    .gop .n0 .n6 g6 (fun _ => rfl) false D7 (.mv T0),
    .gop .n0 .n6 g6 (fun _ => rfl) false D8 (.bin .gtr T7 (.c (.int .u64 (.ofNat (nat_lit 3))))),
    .op D9 (.pick T6 (.c (.bool true)) T8)])
  (.cond T9 (.seq (.reg [.op D2 (.mv (.c (.int .i64 (.ofNat (nat_lit 0))))),
    .op D3 (.mv (.c (.bool false)))])
  (.ret))
  (.skip)))
  (.seq (.reg [.op D10 (.mv T0),
    .op D11 (.cvi .i64 T10),
    .op D2 (.mv T11),
    .op D3 (.mv (.c (.bool true)))])
  (.ret))),
  [.t .n0 .n2 g2 (fun _ => rfl), .t .n0 .n3 g3 (fun _ => rfl)]⟩
/-- cmp.Less[uint64] -/
noncomputable def ff65 : FFunc := ⟨.seq (.reg [.op D4 (.mv (.c (.bool false)))])
  (.seq (.reg [.op D5 (.mv T0),
    .op D6 (.call (nat_lit 77) [T5]),
    .op D7 (.mv T6),
    .gop .n0 .n7 g7 (fun _ => rfl) true D8 (.mv T1),
    .gop .n0 .n7 g7 (fun _ => rfl) true D9 (.call (nat_lit 77) [T8]),
    .gop .n0 .n7 g7 (fun _ => rfl) true D10 (.un .not T9),
    .op D11 (.pick T7 T10 (.c (.bool false))),
    .op D12 (.mv T11),
    .gop .n0 .n12 g12 (fun _ => rfl) false D13 (.mv T0),
    .gop .n0 .n12 g12 (fun _ => rfl) false D14 (.mv T1),
    .gop .n0 .n12 g12 (fun _ => rfl) false D15 (.bin .lss T13 T14),
    .op D16 (.pick T12 (.c (.bool true)) T15),
    .op D4 (.mv T16)])
  (.ret)),
  [.t .n0 .n4 g4 (fun _ => rfl)]⟩
/-- slices.isNaN[uint64] -/
noncomputable def ff66 : FFunc := ⟨.seq (.reg [.op D2 (.mv (.c (.bool false)))])
  (.seq (.reg [.op D3 (.mv T0),
    .op D4 (.mv T0),
    .op D5 (.bin .neq T3 T4),
    .op D2 (.mv T5)])
  (.ret)),
  [.t .n0 .n2 g2 (fun _ => rfl)]⟩
/-- slices.rotateRight[uint64] -/
noncomputable def ff68 : FFunc := ⟨.reg [.op D4 (.mv T0),
    .op D5 (.mv T0),
    .op D6 (.lenL T5),
    .op D7 (.mv T1),
    .op D8 (.bin .sub T6 T7),
    .op D9 (.call (nat_lit 78) [T4, T8])],
  []⟩
/-- messuage/tlb.empty -/
noncomputable def ff69 : FFunc := ⟨.seq (.reg [.op D0 (.new [.int .i64 (.ofNat (nat_lit 0)), .int .i64 (.ofNat (nat_lit 0)), .int .i64 (.ofNat (nat_lit 0)), .int .i64 (.ofNat (nat_lit 0))])])
  (.seq (.reg [.op D1 (.build [.int .i64 (.ofNat (nat_lit 0)), .int .i64 (.ofNat (nat_lit 0)), .int .i64 (.ofNat (nat_lit 0)), .int .i64 (.ofNat (nat_lit 0))] [((nat_lit 0), (nat_lit 1), .c (.int .i64 (.negSucc (nat_lit 0))))]),
    .op .no (.st (nat_lit 4) T0 T1)])
  (.ret)),
  [.cellA .n0 .n0 g0 (fun _ => rfl) (nat_lit 4)]⟩
/-- (*messuage/mem.Mem).Frames -/
noncomputable def ff70 : FFunc := ⟨.seq (.reg [.op D2 (.mv (.c (.int .i64 (.ofNat (nat_lit 0)))))])
  (.seq (.seq (.reg [.op D3 (.mv T0),
    .op D4 (.eq false (.sc .ptr) T3 (.c (.nilp)))])
  (.cond T4 (.seq (.reg [.op D2 (.mv (.c (.int .i64 (.ofNat (nat_lit 0)))))])
  (.ret))
  (.skip)))
  (.seq (.reg [.op D5 (.mv T0),
    .op D6 (.nilck T5),
    .op D7 (.fadd (nat_lit 0) T6),
    .op D8 (.ld1 T7),
    .op D9 (.lenL T8),
    .op D2 (.mv T9)])
  (.ret))),
  [.t .n0 .n2 g2 (fun _ => rfl)]⟩
/-- messuage/trap.In -/
noncomputable def ff71 : FFunc := ⟨.seq (.reg [.op D4 (.box (nat_lit 5) T1),
    .op D6 (.mv (.c (.nili)))])
  (.seq (.seq (.reg [.op D7 (.mv T2),
    .op D8 (.eq false (.sc .ifc) T7 (.c (.nili)))])
  (.cond T8 (.seq (.reg [.op D6 (.mv (.c (.nili)))])
  (.ret))
  (.skip)))
  (.seq (.drw [.op D9 (.mv T2),
    .op D10 (.call (nat_lit 74) [T9]),
    .op D11 (.mv T0),
    .op D12 (.ldA (nat_lit 5) T4),
    .op D13 (.mv T2),
    .op D14 (.build [.int .i64 (.ofNat (nat_lit 0)), .int .i64 (.ofNat (nat_lit 0)), .int .u64 (.ofNat (nat_lit 0)), .int .u64 (.ofNat (nat_lit 0)), .int .u64 (.ofNat (nat_lit 0)), .int .u64 (.ofNat (nat_lit 0)), .int .u64 (.ofNat (nat_lit 0)), .nili] [((nat_lit 0), (nat_lit 1), T10), ((nat_lit 1), (nat_lit 1), T11), ((nat_lit 2), (nat_lit 5), T12), ((nat_lit 7), (nat_lit 1), T13)]),
    .op D15 (.box (nat_lit 8) T14),
    .op D16 (.mkifc (nat_lit 126) T15),
    .op D6 (.mv T16)] [((nat_lit 3), (nat_lit 1))])
  (.ret))),
  [.t .n0 .n6 g6 (fun _ => rfl)]⟩
/-- messuage/trap.Of -/
noncomputable def ff72 : FFunc := ⟨.seq (.reg [.op D2 (.mv (.c (.nili)))])
  (.seq (.seq (.reg [.op D3 (.mv T0),
    .op D4 (.bin .eql T3 (.c (.int .i64 (.ofNat (nat_lit 0)))))])
  (.cond T4 (.seq (.reg [.op D2 (.mv (.c (.nili)))])
  (.ret))
  (.skip)))
  (.seq (.reg [.op D5 (.mv T0),
    .op D6 (.build [.int .i64 (.ofNat (nat_lit 0)), .int .i64 (.ofNat (nat_lit 0)), .int .u64 (.ofNat (nat_lit 0)), .int .u64 (.ofNat (nat_lit 0)), .int .u64 (.ofNat (nat_lit 0)), .int .u64 (.ofNat (nat_lit 0)), .int .u64 (.ofNat (nat_lit 0)), .nili] [((nat_lit 0), (nat_lit 1), T5), ((nat_lit 1), (nat_lit 1), .c (.int .i64 (.negSucc (nat_lit 0))))]),
    .op D7 (.box (nat_lit 8) T6),
    .op D8 (.mkifc (nat_lit 126) T7),
    .op D2 (.mv T8)])
  (.ret))),
  [.t .n0 .n2 g2 (fun _ => rfl)]⟩
/-- messuage/trap.First -/
noncomputable def ff73 : FFunc := ⟨.seq (.reg [.op D2 (.mv (.c (.nilp))),
    .op D3 (.mv (.c (.bool false)))])
  (.seq (.reg [.op D4 (.new [.nilp])])
  (.seq (.seq (.reg [.op D5 (.mv T0),
    .op D6 (.mkifc (nat_lit 136) T4),
    .op D7 (.call (nat_lit 79) [T5, T6]),
    .op D8 (.un .not T7),
    .op D9 (.mv T8),
    .gop .n0 .n9 g9 (fun _ => rfl) false D10 (.ld1 T4),
    .gop .n0 .n9 g9 (fun _ => rfl) false D11 (.eq false (.sc .ptr) T10 (.c (.nilp))),
    .op D12 (.pick T9 (.c (.bool true)) T11)])
  (.cond T12 (.seq (.reg [.op D2 (.mv (.c (.nilp))),
    .op D3 (.mv (.c (.bool false)))])
  (.ret))
  (.skip)))
  (.seq (.reg [.op D13 (.ld1 T4),
    .op D2 (.mv T13),
    .op D3 (.mv (.c (.bool true)))])
  (.ret)))),
  [.t .n0 .n2 g2 (fun _ => rfl), .t .n0 .n3 g3 (fun _ => rfl)]⟩
/-- messuage/trap.Code -/
noncomputable def ff74 : FFunc := ⟨.seq (.reg [.op D2 (.mv (.c (.int .i64 (.ofNat (nat_lit 0)))))])
  (.seq (.seq (.reg [.op D5 (.mv T0),
    .op D6 (.eq false (.sc .ifc) T5 (.c (.nili)))])
  (.cond T6 (.seq (.reg [.op D2 (.mv (.c (.int .i64 (.ofNat (nat_lit 0)))))])
  (.ret))
  (.skip)))
  (.seq (.seq (.reg [.op D8 (.mv T0),
    .op D9 (.call (nat_lit 73) [T8]),
    .op D7 (.mv T9),
    .op D10 (.ex (nat_lit 0) T7),
    .op D11 (.ex (nat_lit 1) T7),
    .op D3 (.mv T10),
    .op D4 (.mv T11)])
  (.seq (.reg [.op D12 (.mv T4)])
  (.cond T12 (.seq (.reg [.op D13 (.mv T3),
    .op D14 (.nilck T13),
    .op D15 (.fadd (nat_lit 0) T14),
    .op D16 (.ld1 T15),
    .op D2 (.mv T16)])
  (.ret))
  (.skip))))
  (.seq (.reg [.op D2 (.mv (.c (.int .i64 (.ofNat (nat_lit 9)))))])
  (.ret)))),
  [.t .n0 .n2 g2 (fun _ => rfl)]⟩
/-- messuage/trap.Depth -/
noncomputable def ff75 : FFunc := ⟨.seq (.reg [.op D2 (.mv (.c (.int .i64 (.ofNat (nat_lit 0)))))])
  (.seq (.reg [.op D3 (.mv (.c (.int .i64 (.ofNat (nat_lit 0)))))])
  (.seq (.seq (.reg [.op D7 (.mv T0),
    .op D8 (.call (nat_lit 73) [T7]),
    .op D6 (.mv T8),
    .op D9 (.ex (nat_lit 0) T6),
    .op D10 (.ex (nat_lit 1) T6),
    .op D4 (.mv T9),
    .op D5 (.mv T10)])
  (.block (nat_lit 0) (.loop (.seq (.seq (.reg [.op D11 (.mv T5)])
  (.cond T11 (.skip)
  (.exit (nat_lit 0))))
  (.seq (.block (nat_lit 1) (.reg [.op D20 (.mv T3),
    .op D21 (.bin .add T20 (.c (.int .i64 (.ofNat (nat_lit 1))))),
    .op D3 (.mv T21)]))
  (.reg [.op D13 (.mv T4),
    .op D14 (.nilck T13),
    .op D15 (.fadd (nat_lit 7) T14),
    .op D16 (.ld1 T15),
    .op D17 (.call (nat_lit 73) [T16]),
    .op D12 (.mv T17),
    .op D18 (.ex (nat_lit 0) T12),
    .op D19 (.ex (nat_lit 1) T12),
    .op D4 (.mv T18),
    .op D5 (.mv T19)]))))))
  (.seq (.reg [.op D22 (.mv T3),
    .op D2 (.mv T22)])
  (.ret)))),
  [.t .n0 .n2 g2 (fun _ => rfl)]⟩
/-- errors.Is -/
noncomputable def ff76 : FFunc := ⟨.seq (.reg [.op D4 (.mv (.c (.bool false)))])
  (.seq (.seq (.reg [.op D6 (.mv T0),
    .op D7 (.eq false (.sc .ifc) T6 (.c (.nili))),
    .op D8 (.mv T7),
    .gop .n0 .n8 g8 (fun _ => rfl) false D9 (.mv T1),
    .gop .n0 .n8 g8 (fun _ => rfl) false D10 (.eq false (.sc .ifc) T9 (.c (.nili))),
    .op D11 (.pick T8 (.c (.bool true)) T10)])
  (.cond T11 (.seq (.reg [.op D12 (.mv T0),
    .op D13 (.mv T1),
    .op D14 (.eq false (.sc .ifcS) T12 T13),
    .op D4 (.mv T14)])
  (.ret))
  (.skip)))
  (.seq (.reg [.op D15 (.mv T1),
    .op D16 (.call (nat_lit 80) [T15]),
    .op D17 (.inv [((nat_lit 153), (nat_lit 129))] T16 []),
    .op D5 (.mv T17)])
  (.seq (.reg [.op D18 (.mv T0),
    .op D19 (.mv T1),
    .op D20 (.mv T5),
    .op D21 (.call (nat_lit 81) [T18, T19, T20]),
    .op D4 (.mv T21)])
  (.ret)))),
  [.t .n0 .n4 g4 (fun _ => rfl)]⟩
/-- cmp.isNaN[uint64] -/
noncomputable def ff77 : FFunc := ⟨.seq (.reg [.op D2 (.mv (.c (.bool false)))])
  (.seq (.reg [.op D3 (.mv T0),
    .op D4 (.mv T0),
    .op D5 (.bin .neq T3 T4),
    .op D2 (.mv T5)])
  (.ret)),
  [.t .n0 .n2 g2 (fun _ => rfl)]⟩
/-- slices.rotateLeft[uint64] -/
noncomputable def ff78 : FFunc := ⟨.seq (.reg [.op D4 (.mv T0),
    .op D5 (.mv T1),
    .op D6 (.slSlc (nat_lit 1) T4 .no (.is T5) .no),
    .op D7 (.call (nat_lit 82) [T6])])
  (.seq (.reg [.op D8 (.mv T0),
    .op D9 (.mv T1),
    .op D10 (.slSlc (nat_lit 1) T8 (.is T9) .no .no),
    .op D11 (.call (nat_lit 82) [T10])])
  (.reg [.op D12 (.mv T0),
    .op D13 (.call (nat_lit 82) [T12])])),
  []⟩
/-- errors.is -/
noncomputable def ff81 : FFunc := ⟨.seq (.reg [.op D6 (.mv (.c (.bool false)))])
  (.block (nat_lit 0) (.loop (.block (nat_lit 1) (.seq (.seq (.reg [.op D14 (.mv T2),
    .op D15 (.mv T14),
    .gop .n0 .n15 g15 (fun _ => rfl) true D16 (.mv T0),
    .gop .n0 .n15 g15 (fun _ => rfl) true D17 (.mv T1),
    .gop .n0 .n15 g15 (fun _ => rfl) true D18 (.eq false (.sc .ifcS) T16 T17),
    .op D19 (.pick T15 T18 (.c (.bool false)))])
  (.cond T19 (.seq (.reg [.op D6 (.mv (.c (.bool true)))])
  (.ret))
  (.skip)))
  (.seq (.seq (.reg [.op D21 (.mv T0),
    .op D22 (.asI [(nat_lit 126)] (.nili) true T21),
    .op D20 (.mv T22),
    .op D23 (.ex (nat_lit 0) T20),
    .op D24 (.ex (nat_lit 1) T20),
    .op D7 (.mv T23),
    .op D8 (.mv T24)])
  (.seq (.reg [.op D25 (.mv T8),
    .op D26 (.mv T25),
    .gop .n1 .n10 g26 (fun _ => rfl) true D27 (.mv T7),
    .gop .n1 .n10 g26 (fun _ => rfl) true D28 (.mv T1),
    .gop .n1 .n10 g26 (fun _ => rfl) true D29 (.inv [((nat_lit 126), (nat_lit 108))] T27 [T28]),
    .op D30 (.pick T26 T29 (.c (.bool false)))])
  (.cond T30 (.seq (.reg [.op D6 (.mv (.c (.bool true)))])
  (.ret))
  (.skip))))
  (.seq (.reg [.op D31 (.mv T0)])
  (.block (nat_lit 2) (.seq (.reg [.op D32 (.asI [(nat_lit 126)] (.nili) true T31),
    .op D33 (.ex (nat_lit 1) T32),
    .op D34 (.ex (nat_lit 0) T32)])
  (.cond T33 (.seq (.reg [.op D9 (.mv T34)])
  (.seq (.reg [.op D35 (.mv T9),
    .op D36 (.inv [((nat_lit 126), (nat_lit 109))] T35 []),
    .op D0 (.mv T36)])
  (.seq (.reg [.op D37 (.mv T0),
    .op D38 (.eq false (.sc .ifc) T37 (.c (.nili)))])
  (.cond T38 (.seq (.reg [.op D6 (.mv (.c (.bool false)))])
  (.ret))
  (.skip)))))
  (.seq (.reg [.op D39 (.asI [] (.nili) true T31),
    .op D40 (.ex (nat_lit 1) T39),
    .op D41 (.ex (nat_lit 0) T39)])
  (.cond T40 (.seq (.reg [.op D10 (.mv T41)])
  (.seq (.seq (.reg [.op D42 (.mv T10),
    .op D43 (.inv [((nat_lit 126), (nat_lit 109))] T42 []),
    .op D44 (.lenL T43),
    .op D45 (.mv (.c (.int .i64 (.ofNat (nat_lit 0)))))])
  (.block (nat_lit 3) (.loop (.seq (.reg [.op D46 (.bin .lss T45 T44)])
  (.seq (.cond T46 (.skip)
  (.exit (nat_lit 3)))
  (.seq (.block (nat_lit 4) (.seq (.reg [.op D47 (.ixaS (nat_lit 1) T43 T45),
    .op D48 (.ld1 T47),
    .op D12 (.mv T48)])
  (.seq (.reg [.op D49 (.mv T12),
    .op D50 (.mv T1),
    .op D51 (.mv T2),
    .op D52 (.call (nat_lit 81) [T49, T50, T51])])
  (.cond T52 (.seq (.reg [.op D6 (.mv (.c (.bool true)))])
  (.ret))
  (.skip)))))
  (.reg [.op D53 (.bin .add T45 (.c (.int .i64 (.ofNat (nat_lit 1))))),
    .op D45 (.mv T53)])))))))
  (.seq (.reg [.op D6 (.mv (.c (.bool false)))])
  (.ret))))
  (.seq (.reg [.op D13 (.mv T31)])
  (.seq (.reg [.op D6 (.mv (.c (.bool false)))])
  (.ret)))))))))))))),
  [.t .n0 .n6 g6 (fun _ => rfl)]⟩
/-- slices.Reverse[[]uint64,uint64] -/
noncomputable def ff82 : FFunc := ⟨.seq (.reg [.op D4 (.mv T0),
    .op D5 (.lenL T4),
    .op D6 (.bin .sub T5 (.c (.int .i64 (.ofNat (nat_lit 1))))),
    .op D2 (.mv (.c (.int .i64 (.ofNat (nat_lit 0))))),
    .op D3 (.mv T6)])
  (.block (nat_lit 0) (.loop (.seq (.seq (.reg [.op D7 (.mv T2),
    .op D8 (.mv T3),
    .op D9 (.bin .lss T7 T8)])
  (.cond T9 (.skip)
  (.exit (nat_lit 0))))
  (.seq (.block (nat_lit 1) (.drw [.op D14 (.mv T0),
    .op D15 (.mv T2),
    .op D16 (.mv T0),
    .op D17 (.mv T3),
    .op D18 (.mv T0),
    .op D19 (.mv T3),
    .op D20 (.ixaS (nat_lit 1) T18 T19),
    .op D21 (.ld1 T20),
    .op D22 (.mv T0),
    .op D23 (.mv T2),
    .op D24 (.ixaS (nat_lit 1) T22 T23),
    .op D25 (.ld1 T24),
    .op D26 (.ixaS (nat_lit 1) T14 T15),
    .op .no (.st (nat_lit 1) T26 T21),
    .op D27 (.ixaS (nat_lit 1) T16 T17),
    .op .no (.st (nat_lit 1) T27 T25)] []))
  (.reg [.op D10 (.mv T2),
    .op D11 (.bin .add T10 (.c (.int .i64 (.ofNat (nat_lit 1))))),
    .op D12 (.mv T3),
    .op D13 (.bin .sub T12 (.c (.int .i64 (.ofNat (nat_lit 1))))),
    .op D2 (.mv T11),
    .op D3 (.mv T13)]))))),
  []⟩
/-- (*messuage/trap.Trap).Error -/
noncomputable def ff107 : FFunc := ⟨.seq (.reg [.op D2 (.mv (.c (.str [])))])
  (.seq (.seq (.reg [.op D4 (.mv T0),
    .op D5 (.eq false (.sc .ptr) T4 (.c (.nilp)))])
  (.cond T5 (.seq (.reg [.op D2 (.mv (.c (.str [])))])
  (.ret))
  (.skip)))
  (.seq (.reg [.op D6 (.mv T0),
    .op D7 (.nilck T6),
    .op D8 (.fadd (nat_lit 0) T7),
    .op D9 (.ld1 T8),
    .op D10 (.call (nat_lit 110) [T9]),
    .op D11 (.bin .add (.c (.str [(nat_lit 116), (nat_lit 114), (nat_lit 97), (nat_lit 112), (nat_lit 32)])) T10),
    .op D3 (.mv T11)])
  (.seq (.seq (.reg [.op D12 (.mv T0),
    .op D13 (.nilck T12),
    .op D14 (.fadd (nat_lit 7) T13),
    .op D15 (.ld1 T14),
    .op D16 (.eq true (.sc .ifc) T15 (.c (.nili)))])
  (.cond T16 (.reg [.op D17 (.mv T3),
    .op D18 (.mv T0),
    .op D19 (.nilck T18),
    .op D20 (.fadd (nat_lit 7) T19),
    .op D21 (.ld1 T20),
    .op D22 (.inv [((nat_lit 8), (nat_lit 89)), ((nat_lit 14), (nat_lit 95)), ((nat_lit 15), (nat_lit 97)), ((nat_lit 16), (nat_lit 99)), ((nat_lit 19), (nat_lit 104)), ((nat_lit 126), (nat_lit 107)), ((nat_lit 154), (nat_lit 137))] T21 []),
    .op D23 (.bin .add (.c (.str [(nat_lit 58), (nat_lit 32)])) T22),
    .op D24 (.bin .add T17 T23),
    .op D3 (.mv T24)])
  (.skip)))
  (.seq (.reg [.op D25 (.mv T3),
    .op D2 (.mv T25)])
  (.ret))))),
  [.t .n0 .n2 g2 (fun _ => rfl)]⟩
/-- (*messuage/trap.Trap).Is -/
noncomputable def ff108 : FFunc := ⟨.seq (.reg [.op D4 (.mv (.c (.bool false)))])
  (.seq (.reg [.op D8 (.mv T1),
    .op D9 (.asC (nat_lit 126) (.nilp) true T8),
    .op D7 (.mv T9),
    .op D10 (.ex (nat_lit 0) T7),
    .op D11 (.ex (nat_lit 1) T7),
    .op D5 (.mv T10),
    .op D6 (.mv T11)])
  (.seq (.drw [.op D12 (.mv T6),
    .op D13 (.mv T12),
    .gop .n0 .n13 g13 (fun _ => rfl) true D14 (.mv T0),
    .gop .n0 .n13 g13 (fun _ => rfl) true D15 (.eq true (.sc .ptr) T14 (.c (.nilp))),
    .op D16 (.pick T13 T15 (.c (.bool false))),
    .op D17 (.mv T16),
    .gop .n1 .n1 g17 (fun _ => rfl) true D18 (.mv T5),
    .gop .n1 .n1 g17 (fun _ => rfl) true D19 (.eq true (.sc .ptr) T18 (.c (.nilp))),
    .op D20 (.pick T17 T19 (.c (.bool false))),
    .op D21 (.mv T20),
    .gop .n1 .n5 g21 (fun _ => rfl) true D22 (.mv T0),
    .gop .n1 .n5 g21 (fun _ => rfl) true D23 (.nilck T22),
    .gop .n1 .n5 g21 (fun _ => rfl) true D24 (.fadd (nat_lit 0) T23),
    .gop .n1 .n5 g21 (fun _ => rfl) true D25 (.ld1 T24),
    .gop .n1 .n5 g21 (fun _ => rfl) true D26 (.mv T5),
    .gop .n1 .n5 g21 (fun _ => rfl) true D27 (.nilck T26),
    .gop .n1 .n5 g21 (fun _ => rfl) true D28 (.fadd (nat_lit 0) T27),
    .gop .n1 .n5 g21 (fun _ => rfl) true D29 (.ld1 T28),
    .gop .n1 .n5 g21 (fun _ => rfl) true D30 (.bin .eql T25 T29),
    .op D31 (.pick T21 T30 (.c (.bool false))),
    .op D4 (.mv T31)] [])
  (.ret))),
  [.t .n0 .n4 g4 (fun _ => rfl)]⟩
/-- (*messuage/trap.Trap).Unwrap -/
noncomputable def ff109 : FFunc := ⟨.seq (.reg [.op D2 (.mv (.c (.nili)))])
  (.seq (.seq (.reg [.op D3 (.mv T0),
    .op D4 (.eq false (.sc .ptr) T3 (.c (.nilp)))])
  (.cond T4 (.seq (.reg [.op D2 (.mv (.c (.nili)))])
  (.ret))
  (.skip)))
  (.seq (.reg [.op D5 (.mv T0),
    .op D6 (.nilck T5),
    .op D7 (.fadd (nat_lit 7) T6),
    .op D8 (.ld1 T7),
    .op D2 (.mv T8)])
  (.ret))),
  [.t .n0 .n2 g2 (fun _ => rfl)]⟩
/-- strconv.Itoa -/
noncomputable def ff110 : FFunc := ⟨.seq (.reg [.op D2 (.mv (.c (.str [])))])
  (.seq (.reg [.op D3 (.mv T0),
    .op D4 (.call (nat_lit 111) [T3]),
    .op D2 (.mv T4)])
  (.ret)),
  [.t .n0 .n2 g2 (fun _ => rfl)]⟩
/-- internal/strconv.Itoa -/
noncomputable def ff111 : FFunc := ⟨.seq (.reg [.op D2 (.mv (.c (.str [])))])
  (.seq (.reg [.op D3 (.mv T0),
    .op D4 (.call (nat_lit 112) [T3, .c (.int .i64 (.ofNat (nat_lit 10)))]),
    .op D2 (.mv T4)])
  (.ret)),
  [.t .n0 .n2 g2 (fun _ => rfl)]⟩
/-- internal/strconv.FormatInt -/
noncomputable def ff112 : FFunc := ⟨.seq (.reg [.op D4 (.mv (.c (.str [])))])
  (.seq (.seq (.reg [.op D10 (.mv T1),
    .op D11 (.bin .eql T10 (.c (.int .i64 (.ofNat (nat_lit 10)))))])
  (.cond T11 (.seq (.seq (.reg [.op D12 (.mv T0),
    .op D13 (.bin .leq (.c (.int .i64 (.ofNat (nat_lit 0)))) T12),
    .op D14 (.mv T13),
    .gop .n0 .n14 g14 (fun _ => rfl) true D15 (.mv T0),
    .gop .n0 .n14 g14 (fun _ => rfl) true D16 (.bin .lss T15 (.c (.int .i64 (.ofNat (nat_lit 100))))),
    .op D17 (.pick T14 T16 (.c (.bool false)))])
  (.cond T17 (.seq (.reg [.op D18 (.mv T0),
    .op D19 (.call (nat_lit 113) [T18]),
    .op D4 (.mv T19)])
  (.ret))
  (.skip)))
  (.seq (.reg [.op D5 (.new [.int .u8 (.ofNat (nat_lit 0)), .int .u8 (.ofNat (nat_lit 0)), .int .u8 (.ofNat (nat_lit 0)), .int .u8 (.ofNat (nat_lit 0)), .int .u8 (.ofNat (nat_lit 0)), .int .u8 (.ofNat (nat_lit 0)), .int .u8 (.ofNat (nat_lit 0)), .int .u8 (.ofNat (nat_lit 0)), .int .u8 (.ofNat (nat_lit 0)), .int .u8 (.ofNat (nat_lit 0)), .int .u8 (.ofNat (nat_lit 0)), .int .u8 (.ofNat (nat_lit 0)), .int .u8 (.ofNat (nat_lit 0)), .int .u8 (.ofNat (nat_lit 0)), .int .u8 (.ofNat (nat_lit 0)), .int .u8 (.ofNat (nat_lit 0)), .int .u8 (.ofNat (nat_lit 0)), .int .u8 (.ofNat (nat_lit 0)), .int .u8 (.ofNat (nat_lit 0)), .int .u8 (.ofNat (nat_lit 0)), .int .u8 (.ofNat (nat_lit 0)), .int .u8 (.ofNat (nat_lit 0)), .int .u8 (.ofNat (nat_lit 0)), .int .u8 (.ofNat (nat_lit 0))])])
  (.seq (.reg [.op D20 (.mv T0),
    .op D21 (.cvi .u64 T20),
    .op D6 (.mv T21)])
  (.seq (.seq (.reg [.op D22 (.mv T0),
    .op D23 (.bin .lss T22 (.c (.int .i64 (.ofNat (nat_lit 0)))))])
  (.cond T23 (.reg [.op D24 (.mv T6),
    .op D25 (.un .neg T24),
    .op D6 (.mv T25)])
  (.skip)))
  (.seq (.reg [.op D26 (.mv T6),
    .op D27 (.call (nat_lit 114) [T26]),
    .op D7 (.mv T27)])
  (.seq (.reg [.op D28 (.mv T7),
    .op D29 (.bin .add (.c (.int .i64 (.ofNat (nat_lit 1)))) T28),
    .op D30 (.slArr (nat_lit 24) (nat_lit 1) T5 (.is (.c (.int .i64 (.ofNat (nat_lit 1))))) (.is T29) .no),
    .op D31 (.mv T6),
    .op D32 (.call (nat_lit 115) [T30, T31])])
  (.seq (.seq (.reg [.op D33 (.mv T0),
    .op D34 (.bin .lss T33 (.c (.int .i64 (.ofNat (nat_lit 0)))))])
  (.cond T34 (.seq (.reg [.op D35 (.ixaA (nat_lit 24) (nat_lit 1) T5 (.c (.int .i64 (.ofNat (nat_lit 0))))),
    .op .no (.st (nat_lit 1) T35 (.c (.int .u8 (.ofNat (nat_lit 45)))))])
  (.seq (.reg [.op D36 (.mv T7),
    .op D37 (.bin .add (.c (.int .i64 (.ofNat (nat_lit 1)))) T36),
    .op D38 (.slArr (nat_lit 24) (nat_lit 1) T5 .no (.is T37) .no),
    .op D39 (.bad),
    .op D4 (.mv T39)])
  (.ret)))
  (.skip)))
  (.seq (.reg [.op D40 (.mv T7),
    .op D41 (.bin .add (.c (.int .i64 (.ofNat (nat_lit 1)))) T40),
    .op D42 (.slArr (nat_lit 24) (nat_lit 1) T5 (.is (.c (.int .i64 (.ofNat (nat_lit 1))))) (.is T41) .no),
    .op D43 (.bad),
    .op D4 (.mv T43)])
  (.ret)))))))))
  (.skip)))
  (.seq (.reg [.op D45 (.mv T0),
    .op D46 (.cvi .u64 T45),
    .op D47 (.mv T1),
    .op D48 (.mv T0),
    .op D49 (.bin .lss T48 (.c (.int .i64 (.ofNat (nat_lit 0))))),
    .op D50 (.call (nat_lit 116) [.c (.nils), T46, T47, T49, .c (.bool false)]),
    .op D44 (.mv T50),
    .op D51 (.ex (nat_lit 0) T44),
    .op D52 (.ex (nat_lit 1) T44),
    .op D8 (.mv T51),
    .op D9 (.mv T52)])
  (.seq (.reg [.op D53 (.mv T9),
    .op D4 (.mv T53)])
  (.ret)))),
  [.t .n0 .n4 g4 (fun _ => rfl)]⟩
/-- internal/strconv.small -/
noncomputable def ff113 : FFunc := ⟨.seq (.reg [.op D2 (.mv (.c (.str [])))])
  (.seq (.seq (.reg [.op D3 (.mv T0),
    .op D4 (.bin .lss T3 (.c (.int .i64 (.ofNat (nat_lit 10)))))])
  (.cond T4 (.seq (.reg [.op D5 (.mv T0),
    .op D6 (.mv T0),
    .op D7 (.bin .add T6 (.c (.int .i64 (.ofNat (nat_lit 1))))),
    .op D8 (.slStr (.c (.str [(nat_lit 48), (nat_lit 49), (nat_lit 50), (nat_lit 51), (nat_lit 52), (nat_lit 53), (nat_lit 54), (nat_lit 55), (nat_lit 56), (nat_lit 57), (nat_lit 97), (nat_lit 98), (nat_lit 99), (nat_lit 100), (nat_lit 101), (nat_lit 102), (nat_lit 103), (nat_lit 104), (nat_lit 105), (nat_lit 106), (nat_lit 107), (nat_lit 108), (nat_lit 109), (nat_lit 110), (nat_lit 111), (nat_lit 112), (nat_lit 113), (nat_lit 114), (nat_lit 115), (nat_lit 116), (nat_lit 117), (nat_lit 118), (nat_lit 119), (nat_lit 120), (nat_lit 121), (nat_lit 122)])) (.is T5) (.is T7)),
    .op D2 (.mv T8)])
  (.ret))
  (.skip)))
  (.seq (.reg [.op D9 (.mv T0),
    .op D10 (.bin .mul T9 (.c (.int .i64 (.ofNat (nat_lit 2))))),
    .op D11 (.mv T0),
    .op D12 (.bin .mul T11 (.c (.int .i64 (.ofNat (nat_lit 2))))),
    .op D13 (.bin .add T12 (.c (.int .i64 (.ofNat (nat_lit 2))))),
    .op D14 (.slStr (.c (.str [(nat_lit 48), (nat_lit 48), (nat_lit 48), (nat_lit 49), (nat_lit 48), (nat_lit 50), (nat_lit 48), (nat_lit 51), (nat_lit 48), (nat_lit 52), (nat_lit 48), (nat_lit 53), (nat_lit 48), (nat_lit 54), (nat_lit 48), (nat_lit 55), (nat_lit 48), (nat_lit 56), (nat_lit 48), (nat_lit 57), (nat_lit 49), (nat_lit 48), (nat_lit 49), (nat_lit 49), (nat_lit 49), (nat_lit 50), (nat_lit 49), (nat_lit 51), (nat_lit 49), (nat_lit 52), (nat_lit 49), (nat_lit 53), (nat_lit 49), (nat_lit 54), (nat_lit 49), (nat_lit 55), (nat_lit 49), (nat_lit 56), (nat_lit 49), (nat_lit 57), (nat_lit 50), (nat_lit 48), (nat_lit 50), (nat_lit 49), (nat_lit 50), (nat_lit 50), (nat_lit 50), (nat_lit 51), (nat_lit 50), (nat_lit 52), (nat_lit 50), (nat_lit 53), (nat_lit 50), (nat_lit 54), (nat_lit 50), (nat_lit 55), (nat_lit 50), (nat_lit 56), (nat_lit 50), (nat_lit 57), (nat_lit 51), (nat_lit 48), (nat_lit 51), (nat_lit 49), (nat_lit 51), (nat_lit 50), (nat_lit 51), (nat_lit 51), (nat_lit 51), (nat_lit 52), (nat_lit 51), (nat_lit 53), (nat_lit 51), (nat_lit 54), (nat_lit 51), (nat_lit 55), (nat_lit 51), (nat_lit 56), (nat_lit 51), (nat_lit 57), (nat_lit 52), (nat_lit 48), (nat_lit 52), (nat_lit 49), (nat_lit 52), (nat_lit 50), (nat_lit 52), (nat_lit 51), (nat_lit 52), (nat_lit 52), (nat_lit 52), (nat_lit 53), (nat_lit 52), (nat_lit 54), (nat_lit 52), (nat_lit 55), (nat_lit 52), (nat_lit 56), (nat_lit 52), (nat_lit 57), (nat_lit 53), (nat_lit 48), (nat_lit 53), (nat_lit 49), (nat_lit 53), (nat_lit 50), (nat_lit 53), (nat_lit 51), (nat_lit 53), (nat_lit 52), (nat_lit 53), (nat_lit 53), (nat_lit 53), (nat_lit 54), (nat_lit 53), (nat_lit 55), (nat_lit 53), (nat_lit 56), (nat_lit 53), (nat_lit 57), (nat_lit 54), (nat_lit 48), (nat_lit 54), (nat_lit 49), (nat_lit 54), (nat_lit 50), (nat_lit 54), (nat_lit 51), (nat_lit 54), (nat_lit 52), (nat_lit 54), (nat_lit 53), (nat_lit 54), (nat_lit 54), (nat_lit 54), (nat_lit 55), (nat_lit 54), (nat_lit 56), (nat_lit 54), (nat_lit 57), (nat_lit 55), (nat_lit 48), (nat_lit 55), (nat_lit 49), (nat_lit 55), (nat_lit 50), (nat_lit 55), (nat_lit 51), (nat_lit 55), (nat_lit 52), (nat_lit 55), (nat_lit 53), (nat_lit 55), (nat_lit 54), (nat_lit 55), (nat_lit 55), (nat_lit 55), (nat_lit 56), (nat_lit 55), (nat_lit 57), (nat_lit 56), (nat_lit 48), (nat_lit 56), (nat_lit 49), (nat_lit 56), (nat_lit 50), (nat_lit 56), (nat_lit 51), (nat_lit 56), (nat_lit 52), (nat_lit 56), (nat_lit 53), (nat_lit 56), (nat_lit 54), (nat_lit 56), (nat_lit 55), (nat_lit 56), (nat_lit 56), (nat_lit 56), (nat_lit 57), (nat_lit 57), (nat_lit 48), (nat_lit 57), (nat_lit 49), (nat_lit 57), (nat_lit 50), (nat_lit 57), (nat_lit 51), (nat_lit 57), (nat_lit 52), (nat_lit 57), (nat_lit 53), (nat_lit 57), (nat_lit 54), (nat_lit 57), (nat_lit 55), (nat_lit 57), (nat_lit 56), (nat_lit 57), (nat_lit 57)])) (.is T10) (.is T13)),
    .op D2 (.mv T14)])
  (.ret))),
  [.t .n0 .n2 g2 (fun _ => rfl)]⟩
/-- internal/strconv.numDigits -/
noncomputable def ff114 : FFunc := ⟨.seq (.reg [.op D2 (.mv (.c (.int .i64 (.ofNat (nat_lit 0)))))])
  (.seq (.reg [.op D4 (.mv T0),
    .op D5 (.call (nat_lit 118) [T4]),
    .op D6 (.call (nat_lit 117) [T5]),
    .op D3 (.mv T6)])
  (.seq (.reg [.op D7 (.mv T3),
    .op D8 (.mv T0),
    .op D9 (.mv T3),
    .op D10 (.ixaA (nat_lit 20) (nat_lit 1) (.c (.ptr (nat_lit 1) (nat_lit 0))) T9),
    .op D11 (.ld1 T10),
    .op D12 (.bin .geq T8 T11),
    .op D13 (.call (nat_lit 119) [T12]),
    .op D14 (.bin .add T7 T13),
    .op D2 (.mv T14)])
  (.ret))),
  [.t .n0 .n2 g2 (fun _ => rfl)]⟩
end Go.Ev.Pg
