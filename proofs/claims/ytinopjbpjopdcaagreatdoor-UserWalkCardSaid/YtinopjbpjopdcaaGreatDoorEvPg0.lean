import Derived.Test.YtinopjbpjopdcaaGreatDoorEvFast
namespace Go.Ev.Pg
/-- messuage/messuagelaw11.UserWalk -/
noncomputable def ff3 : FFunc := ⟨.seq (.reg [.op D10 (.mv (.c (.bool false)))])
  (.seq (.reg [.op D24 (.call (nat_lit 8) []),
    .op D11 (.mv T24)])
  (.seq (.seq (.reg [.op D25 (.mv T11),
    .op D26 (.un .not T25)])
  (.cond T26 (.seq (.reg [.op D10 (.mv (.c (.bool false)))])
  (.ret))
  (.skip)))
  (.seq (.reg [.op D27 (.call (nat_lit 9) []),
    .op D28 (.call (nat_lit 10) []),
    .op D12 (.mv T27),
    .op D13 (.mv T28)])
  (.seq (.seq (.reg [.op D14 (.mv (.c (.int .i64 (.ofNat (nat_lit 0)))))])
  (.block (nat_lit 0) (.loop (.seq (.seq (.reg [.op D29 (.mv T14),
    .op D30 (.mv T0),
    .op D31 (.lenL T30),
    .op D32 (.bin .lss T29 T31),
    .op D33 (.mv T32),
    .gop .n2 .n1 g33 (fun _ => rfl) true D34 (.mv T14),
    .gop .n2 .n1 g33 (fun _ => rfl) true D35 (.bin .lss T34 (.c (.int .i64 (.ofNat (nat_lit 12))))),
    .op D36 (.pick T33 T35 (.c (.bool false)))])
  (.cond T36 (.skip)
  (.exit (nat_lit 0))))
  (.seq (.block (nat_lit 1) (.reg [.op D39 (.mv T12),
    .op D40 (.mv T0),
    .op D41 (.mv T14),
    .op D42 (.ixaS (nat_lit 4) T40 T41),
    .op D43 (.ldA (nat_lit 4) T42),
    .op D44 (.call (nat_lit 11) [T39, T43])]))
  (.reg [.op D37 (.mv T14),
    .op D38 (.bin .add T37 (.c (.int .i64 (.ofNat (nat_lit 1))))),
    .op D14 (.mv T38)]))))))
  (.seq (.seq (.reg [.op D15 (.mv (.c (.int .i64 (.ofNat (nat_lit 0)))))])
  (.block (nat_lit 2) (.loop (.seq (.seq (.reg [.op D45 (.mv T15),
    .op D46 (.mv T1),
    .op D47 (.lenL T46),
    .op D48 (.bin .lss T45 T47),
    .op D49 (.mv T48),
    .gop .n3 .n1 g49 (fun _ => rfl) true D50 (.mv T15),
    .gop .n3 .n1 g49 (fun _ => rfl) true D51 (.bin .lss T50 (.c (.int .i64 (.ofNat (nat_lit 8))))),
    .op D52 (.pick T49 T51 (.c (.bool false)))])
  (.cond T52 (.skip)
  (.exit (nat_lit 2))))
  (.seq (.block (nat_lit 3) (.reg [.op D55 (.mv T13),
    .op D56 (.mv T15),
    .op D57 (.mv T1),
    .op D58 (.mv T15),
    .op D59 (.ixaS (nat_lit 3) T57 T58),
    .op D60 (.ldA (nat_lit 3) T59),
    .op D61 (.call (nat_lit 12) [T55, T56, T60])]))
  (.reg [.op D53 (.mv T15),
    .op D54 (.bin .add T53 (.c (.int .i64 (.ofNat (nat_lit 1))))),
    .op D15 (.mv T54)]))))))
  (.seq (.reg [.op D62 (.mv T2),
    .op D63 (.bin .rem T62 (.c (.int .i64 (.ofNat (nat_lit 4))))),
    .op D64 (.bin .add T63 (.c (.int .i64 (.ofNat (nat_lit 4))))),
    .op D65 (.bin .rem T64 (.c (.int .i64 (.ofNat (nat_lit 4))))),
    .op D66 (.mv T3),
    .op D67 (.bin .rem T66 (.c (.int .i64 (.ofNat (nat_lit 8))))),
    .op D68 (.bin .add T67 (.c (.int .i64 (.ofNat (nat_lit 8))))),
    .op D69 (.bin .rem T68 (.c (.int .i64 (.ofNat (nat_lit 8))))),
    .op D2 (.mv T65),
    .op D3 (.mv T69)])
  (.seq (.reg [.op D71 (.mv T12),
    .op D72 (.mv T2),
    .op D73 (.mv T3),
    .op D74 (.call (nat_lit 13) [T71, T72, T73]),
    .op D70 (.mv T74),
    .op D75 (.ex (nat_lit 0) T70),
    .op D76 (.ex (nat_lit 1) T70),
    .op D16 (.new [.int .i64 (.ofNat (nat_lit 0)), .int .i64 (.ofNat (nat_lit 0)), .int .i64 (.ofNat (nat_lit 0)), .int .i64 (.ofNat (nat_lit 0))]),
    .op .no (.st (nat_lit 4) T16 T75),
    .op D17 (.mv T76)])
  (.seq (.reg [.op D78 (.mv T13),
    .op D79 (.mv T3),
    .op D80 (.call (nat_lit 14) [T78, T79]),
    .op D77 (.mv T80),
    .op D81 (.ex (nat_lit 0) T77),
    .op D82 (.ex (nat_lit 1) T77),
    .op D18 (.new [.int .i64 (.ofNat (nat_lit 0)), .int .i64 (.ofNat (nat_lit 0)), .int .i64 (.ofNat (nat_lit 0))]),
    .op .no (.st (nat_lit 3) T18 T81),
    .op D19 (.mv T82)])
  (.seq (.reg [.op D84 (.mv T12),
    .op D85 (.mv T13),
    .op D86 (.mv T2),
    .op D87 (.mv T3),
    .op D88 (.mv T4),
    .op D89 (.call (nat_lit 15) [T84, T85, T86, T87, T88]),
    .op D83 (.mv T89),
    .op D90 (.ex (nat_lit 0) T83),
    .op D91 (.ex (nat_lit 1) T83),
    .op D20 (.new [.int .i64 (.ofNat (nat_lit 0)), .int .i64 (.ofNat (nat_lit 0)), .int .i64 (.ofNat (nat_lit 0)), .int .i64 (.ofNat (nat_lit 0))]),
    .op .no (.st (nat_lit 4) T20 T90),
    .op D21 (.mv T91)])
  (.seq (.reg [.op D93 (.mv T12),
    .op D94 (.mv T2),
    .op D95 (.mv T3),
    .op D96 (.call (nat_lit 13) [T93, T94, T95]),
    .op D92 (.mv T96),
    .op D97 (.ex (nat_lit 0) T92),
    .op D98 (.ex (nat_lit 1) T92),
    .op D22 (.new [.int .i64 (.ofNat (nat_lit 0)), .int .i64 (.ofNat (nat_lit 0)), .int .i64 (.ofNat (nat_lit 0)), .int .i64 (.ofNat (nat_lit 0))]),
    .op .no (.st (nat_lit 4) T22 T97),
    .op D23 (.mv T98)])
  (.seq (.block (nat_lit 4) (.seq (.reg [.op D100 (.mv T17),
    .op D101 (.mv T100),
    .gop .n6 .n5 g101 (fun _ => rfl) true D102 (.fadd (nat_lit 3) T16),
    .gop .n6 .n5 g101 (fun _ => rfl) true D103 (.ld1 T102),
    .gop .n6 .n5 g101 (fun _ => rfl) true D104 (.mv T4),
    .gop .n6 .n5 g101 (fun _ => rfl) true D105 (.call (nat_lit 16) [T103, T104]),
    .op D106 (.pick T101 T105 (.c (.bool false))),
    .op D99 (.mv T106)])
  (.cond T99 (.seq (.reg [.op D107 (.mv T21),
    .op D108 (.mv T107),
    .gop .n6 .n12 g108 (fun _ => rfl) true D109 (.ldA (nat_lit 4) T20),
    .gop .n6 .n12 g108 (fun _ => rfl) true D110 (.ldA (nat_lit 4) T16),
    .gop .n6 .n12 g108 (fun _ => rfl) true D111 (.eq false (.flat [((nat_lit 0), .int), ((nat_lit 1), .int), ((nat_lit 2), .int), ((nat_lit 3), .int)]) T109 T110),
    .op D112 (.pick T108 T111 (.c (.bool false))),
    .op D113 (.mv T112),
    .gop .n7 .n1 g113 (fun _ => rfl) true D114 (.mv T23),
    .op D115 (.pick T113 T114 (.c (.bool false))),
    .op D116 (.mv T115),
    .gop .n7 .n4 g116 (fun _ => rfl) true D117 (.ldA (nat_lit 4) T22),
    .gop .n7 .n4 g116 (fun _ => rfl) true D118 (.ldA (nat_lit 4) T16),
    .gop .n7 .n4 g116 (fun _ => rfl) true D119 (.eq false (.flat [((nat_lit 0), .int), ((nat_lit 1), .int), ((nat_lit 2), .int), ((nat_lit 3), .int)]) T117 T118),
    .op D120 (.pick T116 T119 (.c (.bool false))),
    .op D10 (.mv T120)])
  (.ret))
  (.seq (.reg [.op D122 (.mv T19),
    .op D123 (.mv T122),
    .gop .n7 .n11 g123 (fun _ => rfl) true D124 (.fadd (nat_lit 2) T18),
    .gop .n7 .n11 g123 (fun _ => rfl) true D125 (.ld1 T124),
    .gop .n7 .n11 g123 (fun _ => rfl) true D126 (.mv T4),
    .gop .n7 .n11 g123 (fun _ => rfl) true D127 (.call (nat_lit 16) [T125, T126]),
    .op D128 (.pick T123 T127 (.c (.bool false))),
    .op D121 (.mv T128)])
  (.cond T121 (.seq (.reg [.op D129 (.mv T21),
    .op D130 (.mv T129),
    .gop .n8 .n2 g130 (fun _ => rfl) true D131 (.mv T23),
    .op D132 (.pick T130 T131 (.c (.bool false))),
    .op D133 (.mv T132),
    .gop .n8 .n5 g133 (fun _ => rfl) true D134 (.ldA (nat_lit 4) T22),
    .gop .n8 .n5 g133 (fun _ => rfl) true D135 (.ldA (nat_lit 4) T20),
    .gop .n8 .n5 g133 (fun _ => rfl) true D136 (.eq false (.flat [((nat_lit 0), .int), ((nat_lit 1), .int), ((nat_lit 2), .int), ((nat_lit 3), .int)]) T134 T135),
    .op D137 (.pick T133 T136 (.c (.bool false))),
    .op D138 (.mv T137),
    .gop .n8 .n10 g138 (fun _ => rfl) true D139 (.ldA (nat_lit 4) T20),
    .gop .n8 .n10 g138 (fun _ => rfl) true D140 (.mv T2),
    .gop .n8 .n10 g138 (fun _ => rfl) true D141 (.mv T3),
    .gop .n8 .n10 g138 (fun _ => rfl) true D142 (.fadd (nat_lit 0) T18),
    .gop .n8 .n10 g138 (fun _ => rfl) true D143 (.ld1 T142),
    .gop .n8 .n10 g138 (fun _ => rfl) true D144 (.fadd (nat_lit 2) T18),
    .gop .n8 .n10 g138 (fun _ => rfl) true D145 (.ld1 T144),
    .gop .n8 .n10 g138 (fun _ => rfl) true D146 (.build [.int .i64 (.ofNat (nat_lit 0)), .int .i64 (.ofNat (nat_lit 0)), .int .i64 (.ofNat (nat_lit 0)), .int .i64 (.ofNat (nat_lit 0))] [((nat_lit 0), (nat_lit 1), T140), ((nat_lit 1), (nat_lit 1), T141), ((nat_lit 2), (nat_lit 1), T143), ((nat_lit 3), (nat_lit 1), T145)]),
    .gop .n8 .n10 g138 (fun _ => rfl) true D147 (.eq false (.flat [((nat_lit 0), .int), ((nat_lit 1), .int), ((nat_lit 2), .int), ((nat_lit 3), .int)]) T139 T146),
    .op D148 (.pick T138 T147 (.c (.bool false))),
    .op D10 (.mv T148)])
  (.ret))
  (.skip))))))
  (.seq (.reg [.op D149 (.mv T21),
    .op D150 (.un .not T149),
    .op D151 (.mv T150),
    .gop .n9 .n7 g151 (fun _ => rfl) true D152 (.ldA (nat_lit 4) T20),
    .gop .n9 .n7 g151 (fun _ => rfl) true D153 (.build [.int .i64 (.ofNat (nat_lit 0)), .int .i64 (.ofNat (nat_lit 0)), .int .i64 (.ofNat (nat_lit 0)), .int .i64 (.ofNat (nat_lit 0))] []),
    .gop .n9 .n7 g151 (fun _ => rfl) true D154 (.eq false (.flat [((nat_lit 0), .int), ((nat_lit 1), .int), ((nat_lit 2), .int), ((nat_lit 3), .int)]) T152 T153),
    .op D155 (.pick T151 T154 (.c (.bool false))),
    .op D156 (.mv T155),
    .gop .n9 .n12 g156 (fun _ => rfl) true D157 (.mv T23),
    .gop .n9 .n12 g156 (fun _ => rfl) true D158 (.un .not T157),
    .op D159 (.pick T156 T158 (.c (.bool false))),
    .op D10 (.mv T159)])
  (.ret))))))))))))),
  [.t .n0 .n10 g10 (fun _ => rfl)]⟩
/-- messuage/messuagelaw11.CapsRights -/
noncomputable def ff4 : FFunc := ⟨.seq (.reg [.op D2 (.mv (.c (.bool false)))])
  (.seq (.reg [.op D12 (.call (nat_lit 8) []),
    .op D3 (.mv T12)])
  (.seq (.seq (.reg [.op D13 (.mv T3),
    .op D14 (.un .not T13)])
  (.cond T14 (.seq (.reg [.op D2 (.mv (.c (.bool false)))])
  (.ret))
  (.skip)))
  (.seq (.reg [.op D15 (.call (nat_lit 17) [.c (.int .i64 (.ofNat (nat_lit 1)))]),
    .op D4 (.mv T15)])
  (.seq (.reg [.op D16 (.mv T4),
    .op D17 (.call (nat_lit 18) [T16, .c (.int .i64 (.ofNat (nat_lit 0))), .c (.int .i64 (.ofNat (nat_lit 0))), .c (.int .i64 (.ofNat (nat_lit 1)))])])
  (.seq (.reg [.op D5 (.mv (.c (.int .i64 (.ofNat (nat_lit 3)))))])
  (.seq (.reg [.op D6 (.mv (.c (.int .i64 (.ofNat (nat_lit 0)))))])
  (.seq (.seq (.reg [.op D7 (.mv (.c (.int .i64 (.ofNat (nat_lit 0)))))])
  (.block (nat_lit 0) (.loop (.seq (.seq (.reg [.op D18 (.mv T7),
    .op D19 (.mv T0),
    .op D20 (.lenL T19),
    .op D21 (.bin .lss T18 T20),
    .op D22 (.mv T21),
    .gop .n1 .n6 g22 (fun _ => rfl) true D23 (.mv T6),
    .gop .n1 .n6 g22 (fun _ => rfl) true D24 (.bin .lss T23 (.c (.int .i64 (.ofNat (nat_lit 7))))),
    .op D25 (.pick T22 T24 (.c (.bool false))),
    .op D26 (.mv T25),
    .gop .n1 .n10 g26 (fun _ => rfl) true D27 (.mv T7),
    .gop .n1 .n10 g26 (fun _ => rfl) true D28 (.bin .lss T27 (.c (.int .i64 (.ofNat (nat_lit 20))))),
    .op D29 (.pick T26 T28 (.c (.bool false)))])
  (.cond T29 (.skip)
  (.exit (nat_lit 0))))
  (.seq (.block (nat_lit 1) (.seq (.reg [.op D32 (.mv T0),
    .op D33 (.mv T7),
    .op D34 (.ixaS (nat_lit 1) T32 T33),
    .op D35 (.ld1 T34),
    .op D8 (.mv T35)])
  (.seq (.reg [.op D36 (.mv T4),
    .op D37 (.mv T6),
    .op D38 (.mv T6),
    .op D39 (.bin .add T38 (.c (.int .i64 (.ofNat (nat_lit 1))))),
    .op D40 (.mv T8),
    .op D41 (.call (nat_lit 19) [T36, .c (.int .i64 (.ofNat (nat_lit 0))), T37, .c (.int .i64 (.ofNat (nat_lit 0))), T39, T40]),
    .op D9 (.mv T41)])
  (.block (nat_lit 2) (.seq (.reg [.op D48 (.mv T8),
    .op D49 (.call (nat_lit 20) [T48]),
    .op D50 (.un .not T49),
    .op D47 (.mv T50)])
  (.cond T47 (.seq (.reg [.op D51 (.mv T9),
    .op D52 (.bin .neq T51 (.c (.int .i64 (.ofNat (nat_lit 2)))))])
  (.cond T52 (.seq (.reg [.op D2 (.mv (.c (.bool false)))])
  (.ret))
  (.skip)))
  (.seq (.reg [.op D54 (.mv T8),
    .op D55 (.mv T5),
    .op D56 (.call (nat_lit 21) [T54, T55]),
    .op D57 (.un .not T56),
    .op D53 (.mv T57)])
  (.cond T53 (.seq (.reg [.op D58 (.mv T9),
    .op D59 (.bin .neq T58 (.c (.int .i64 (.ofNat (nat_lit 5)))))])
  (.cond T59 (.seq (.reg [.op D2 (.mv (.c (.bool false)))])
  (.ret))
  (.skip)))
  (.seq (.seq (.reg [.op D42 (.mv T9),
    .op D43 (.bin .neq T42 (.c (.int .i64 (.ofNat (nat_lit 0)))))])
  (.cond T43 (.seq (.reg [.op D2 (.mv (.c (.bool false)))])
  (.ret))
  (.skip)))
  (.seq (.reg [.op D44 (.mv T6),
    .op D45 (.bin .add T44 (.c (.int .i64 (.ofNat (nat_lit 1))))),
    .op D6 (.mv T45)])
  (.reg [.op D46 (.mv T8),
    .op D5 (.mv T46)])))))))))))
  (.reg [.op D30 (.mv T7),
    .op D31 (.bin .add T30 (.c (.int .i64 (.ofNat (nat_lit 1))))),
    .op D7 (.mv T31)]))))))
  (.seq (.reg [.op D61 (.mv T4),
    .op D62 (.mv T6),
    .op D63 (.call (nat_lit 22) [T61, .c (.int .i64 (.ofNat (nat_lit 0))), T62]),
    .op D60 (.mv T63),
    .op D64 (.ex (nat_lit 0) T60),
    .op D65 (.ex (nat_lit 1) T60),
    .op D10 (.new [.int .i64 (.ofNat (nat_lit 0)), .int .i64 (.ofNat (nat_lit 0)), .int .i64 (.ofNat (nat_lit 0)), .int .i64 (.ofNat (nat_lit 0))]),
    .op .no (.st (nat_lit 4) T10 T64),
    .op D11 (.mv T65)])
  (.seq (.reg [.op D66 (.mv T11),
    .op D67 (.mv T66),
    .gop .n4 .n3 g67 (fun _ => rfl) true D68 (.fadd (nat_lit 1) T10),
    .gop .n4 .n3 g67 (fun _ => rfl) true D69 (.ld1 T68),
    .gop .n4 .n3 g67 (fun _ => rfl) true D70 (.mv T5),
    .gop .n4 .n3 g67 (fun _ => rfl) true D71 (.bin .eql T69 T70),
    .op D72 (.pick T67 T71 (.c (.bool false))),
    .op D73 (.mv T72),
    .gop .n4 .n9 g73 (fun _ => rfl) true D74 (.fadd (nat_lit 0) T10),
    .gop .n4 .n9 g73 (fun _ => rfl) true D75 (.ld1 T74),
    .gop .n4 .n9 g73 (fun _ => rfl) true D76 (.bin .eql T75 (.c (.int .i64 (.ofNat (nat_lit 1))))),
    .op D77 (.pick T73 T76 (.c (.bool false))),
    .op D2 (.mv T77)])
  (.ret)))))))))),
  [.t .n0 .n2 g2 (fun _ => rfl)]⟩
/-- messuage/messuagelaw11.PlainFull -/
noncomputable def ff5 : FFunc := ⟨.seq (.reg [.op D2 (.mv (.c (.bool false)))])
  (.seq (.reg [.op D14 (.call (nat_lit 8) []),
    .op D3 (.mv T14)])
  (.seq (.seq (.reg [.op D15 (.mv T3),
    .op D16 (.un .not T15)])
  (.cond T16 (.seq (.reg [.op D2 (.mv (.c (.bool false)))])
  (.ret))
  (.skip)))
  (.seq (.reg [.op D17 (.call (nat_lit 23) [.c (.int .i64 (.ofNat (nat_lit 2)))]),
    .op D4 (.mv T17)])
  (.seq (.seq (.reg [.op D18 (.mv T4),
    .op D19 (.build [.int .u64 (.ofNat (nat_lit 0)), .int .u64 (.ofNat (nat_lit 0)), .int .u64 (.ofNat (nat_lit 0)), .int .u64 (.ofNat (nat_lit 0)), .int .u64 (.ofNat (nat_lit 0))] [((nat_lit 0), (nat_lit 1), .c (.int .u64 (.ofNat (nat_lit 1)))), ((nat_lit 1), (nat_lit 1), .c (.int .u64 (.ofNat (nat_lit 0))))]),
    .op D20 (.call (nat_lit 24) [T18, .c (.int .i64 (.ofNat (nat_lit 0))), T19]),
    .op D21 (.un .not T20)])
  (.cond T21 (.seq (.reg [.op D2 (.mv (.c (.bool false)))])
  (.ret))
  (.skip)))
  (.seq (.reg [.op D5 (.mv (.c (.int .i64 (.ofNat (nat_lit 1)))))])
  (.seq (.seq (.reg [.op D6 (.mv (.c (.int .i64 (.ofNat (nat_lit 0)))))])
  (.block (nat_lit 0) (.loop (.seq (.seq (.reg [.op D22 (.mv T6),
    .op D23 (.bin .lss T22 (.c (.int .i64 (.ofNat (nat_lit 9)))))])
  (.cond T23 (.skip)
  (.exit (nat_lit 0))))
  (.seq (.block (nat_lit 1) (.seq (.reg [.op D7 (.mv (.c (.int .i64 (.ofNat (nat_lit 0)))))])
  (.seq (.seq (.reg [.op D26 (.mv T6),
    .op D27 (.mv T0),
    .op D28 (.lenL T27),
    .op D29 (.bin .lss T26 T28)])
  (.cond T29 (.reg [.op D30 (.mv T0),
    .op D31 (.mv T6),
    .op D32 (.ixaS (nat_lit 1) T30 T31),
    .op D33 (.ld1 T32),
    .op D34 (.mv T5),
    .op D35 (.bin .rem T33 T34),
    .op D36 (.mv T5),
    .op D37 (.bin .add T35 T36),
    .op D38 (.mv T5),
    .op D39 (.bin .rem T37 T38),
    .op D7 (.mv T39)])
  (.skip)))
  (.seq (.reg [.op D41 (.mv T4),
    .op D42 (.mv T7),
    .op D43 (.cvi .u64 T42),
    .op D44 (.mv T5),
    .op D45 (.mnn [T44, .c (.int .i64 (.ofNat (nat_lit 7)))]),
    .op D46 (.cvi .u64 T45),
    .op D47 (.build [.int .u64 (.ofNat (nat_lit 0)), .int .u64 (.ofNat (nat_lit 0)), .int .u64 (.ofNat (nat_lit 0)), .int .u64 (.ofNat (nat_lit 0)), .int .u64 (.ofNat (nat_lit 0))] [((nat_lit 0), (nat_lit 1), .c (.int .u64 (.ofNat (nat_lit 2)))), ((nat_lit 1), (nat_lit 1), T43), ((nat_lit 2), (nat_lit 1), T46), ((nat_lit 3), (nat_lit 1), .c (.int .u64 (.ofNat (nat_lit 3))))]),
    .op D48 (.call (nat_lit 25) [T41, .c (.int .i64 (.ofNat (nat_lit 0))), T47]),
    .op D40 (.mv T48),
    .op D49 (.ex (nat_lit 0) T40),
    .op D50 (.ex (nat_lit 1) T40),
    .op D8 (.new [.int .i64 (.ofNat (nat_lit 0)), .int .u64 (.ofNat (nat_lit 0))]),
    .op .no (.st (nat_lit 2) T8 T49),
    .op D9 (.mv T50)])
  (.seq (.reg [.op D51 (.mv T5),
    .op D52 (.bin .lss T51 (.c (.int .i64 (.ofNat (nat_lit 7)))))])
  (.cond T52 (.seq (.seq (.reg [.op D53 (.fadd (nat_lit 0) T8),
    .op D54 (.ld1 T53),
    .op D55 (.bin .neq T54 (.c (.int .i64 (.ofNat (nat_lit 0)))))])
  (.cond T55 (.seq (.reg [.op D2 (.mv (.c (.bool false)))])
  (.ret))
  (.skip)))
  (.reg [.op D56 (.mv T5),
    .op D57 (.bin .add T56 (.c (.int .i64 (.ofNat (nat_lit 1))))),
    .op D5 (.mv T57)]))
  (.seq (.reg [.op D58 (.fadd (nat_lit 0) T8),
    .op D59 (.ld1 T58),
    .op D60 (.bin .neq T59 (.c (.int .i64 (.ofNat (nat_lit 6)))))])
  (.cond T60 (.seq (.reg [.op D2 (.mv (.c (.bool false)))])
  (.ret))
  (.skip)))))))))
  (.reg [.op D24 (.mv T6),
    .op D25 (.bin .add T24 (.c (.int .i64 (.ofNat (nat_lit 1))))),
    .op D6 (.mv T25)]))))))
  (.seq (.reg [.op D62 (.mv T4),
    .op D63 (.build [.int .u64 (.ofNat (nat_lit 0)), .int .u64 (.ofNat (nat_lit 0)), .int .u64 (.ofNat (nat_lit 0)), .int .u64 (.ofNat (nat_lit 0)), .int .u64 (.ofNat (nat_lit 0))] [((nat_lit 0), (nat_lit 1), .c (.int .u64 (.ofNat (nat_lit 3)))), ((nat_lit 1), (nat_lit 1), .c (.int .u64 (.ofNat (nat_lit 0)))), ((nat_lit 2), (nat_lit 1), .c (.int .u64 (.ofNat (nat_lit 1)))), ((nat_lit 3), (nat_lit 1), .c (.int .u64 (.ofNat (nat_lit 0)))), ((nat_lit 4), (nat_lit 1), .c (.int .u64 (.ofNat (nat_lit 1))))]),
    .op D64 (.call (nat_lit 25) [T62, .c (.int .i64 (.ofNat (nat_lit 0))), T63]),
    .op D61 (.mv T64),
    .op D65 (.ex (nat_lit 0) T61),
    .op D66 (.ex (nat_lit 1) T61),
    .op D10 (.new [.int .i64 (.ofNat (nat_lit 0)), .int .u64 (.ofNat (nat_lit 0))]),
    .op .no (.st (nat_lit 2) T10 T65),
    .op D11 (.mv T66)])
  (.seq (.reg [.op D68 (.mv T4),
    .op D69 (.build [.int .u64 (.ofNat (nat_lit 0)), .int .u64 (.ofNat (nat_lit 0)), .int .u64 (.ofNat (nat_lit 0)), .int .u64 (.ofNat (nat_lit 0)), .int .u64 (.ofNat (nat_lit 0))] [((nat_lit 0), (nat_lit 1), .c (.int .u64 (.ofNat (nat_lit 5)))), ((nat_lit 1), (nat_lit 1), .c (.int .u64 (.ofNat (nat_lit 0))))]),
    .op D70 (.call (nat_lit 25) [T68, .c (.int .i64 (.ofNat (nat_lit 0))), T69]),
    .op D67 (.mv T70),
    .op D71 (.ex (nat_lit 0) T67),
    .op D72 (.ex (nat_lit 1) T67),
    .op D12 (.new [.int .i64 (.ofNat (nat_lit 0)), .int .u64 (.ofNat (nat_lit 0))]),
    .op .no (.st (nat_lit 2) T12 T71),
    .op D13 (.mv T72)])
  (.seq (.reg [.op D73 (.fadd (nat_lit 0) T10),
    .op D74 (.ld1 T73),
    .op D75 (.bin .eql T74 (.c (.int .i64 (.ofNat (nat_lit 6))))),
    .op D76 (.mv T75),
    .gop .n4 .n12 g76 (fun _ => rfl) true D77 (.ldA (nat_lit 2) T12),
    .gop .n4 .n12 g76 (fun _ => rfl) true D78 (.build [.int .i64 (.ofNat (nat_lit 0)), .int .u64 (.ofNat (nat_lit 0))] [((nat_lit 1), (nat_lit 1), .c (.int .u64 (.ofNat (nat_lit 7))))]),
    .gop .n4 .n12 g76 (fun _ => rfl) true D79 (.eq false (.flat [((nat_lit 0), .int), ((nat_lit 1), .int)]) T77 T78),
    .op D80 (.pick T76 T79 (.c (.bool false))),
    .op D81 (.mv T80),
    .gop .n5 .n1 g81 (fun _ => rfl) true D82 (.mv T4),
    .gop .n5 .n1 g81 (fun _ => rfl) true D83 (.call (nat_lit 26) [T82]),
    .gop .n5 .n1 g81 (fun _ => rfl) true D84 (.lenL T83),
    .gop .n5 .n1 g81 (fun _ => rfl) true D85 (.bin .eql T84 (.c (.int .i64 (.ofNat (nat_lit 2))))),
    .op D86 (.pick T81 T85 (.c (.bool false))),
    .op D2 (.mv T86)])
  (.ret)))))))))),
  [.t .n0 .n2 g2 (fun _ => rfl)]⟩
/-- messuage/messuagelaw11.PlainSleep -/
noncomputable def ff6 : FFunc := ⟨.seq (.reg [.op D8 (.mv (.c (.bool false)))])
  (.seq (.reg [.op D18 (.call (nat_lit 8) []),
    .op D9 (.mv T18)])
  (.seq (.seq (.reg [.op D19 (.mv T9),
    .op D20 (.un .not T19)])
  (.cond T20 (.seq (.reg [.op D8 (.mv (.c (.bool false)))])
  (.ret))
  (.skip)))
  (.seq (.reg [.op D21 (.mv T0),
    .op D22 (.bin .rem T21 (.c (.int .i64 (.ofNat (nat_lit 4))))),
    .op D23 (.bin .add T22 (.c (.int .i64 (.ofNat (nat_lit 4))))),
    .op D24 (.bin .rem T23 (.c (.int .i64 (.ofNat (nat_lit 4))))),
    .op D25 (.bin .add (.c (.int .i64 (.ofNat (nat_lit 1)))) T24),
    .op D26 (.mv T3),
    .op D27 (.bin .rem T26 (.c (.int .i64 (.ofNat (nat_lit 16))))),
    .op D28 (.bin .add T27 (.c (.int .i64 (.ofNat (nat_lit 16))))),
    .op D29 (.bin .rem T28 (.c (.int .i64 (.ofNat (nat_lit 16))))),
    .op D0 (.mv T25),
    .op D3 (.mv T29)])
  (.seq (.reg [.op D30 (.call (nat_lit 23) [.c (.int .i64 (.ofNat (nat_lit 1)))]),
    .op D10 (.mv T30)])
  (.seq (.seq (.reg [.op D31 (.mv T10),
    .op D32 (.build [.int .u64 (.ofNat (nat_lit 0)), .int .u64 (.ofNat (nat_lit 0)), .int .u64 (.ofNat (nat_lit 0)), .int .u64 (.ofNat (nat_lit 0)), .int .u64 (.ofNat (nat_lit 0))] [((nat_lit 0), (nat_lit 1), .c (.int .u64 (.ofNat (nat_lit 1)))), ((nat_lit 1), (nat_lit 1), .c (.int .u64 (.ofNat (nat_lit 4))))]),
    .op D33 (.call (nat_lit 24) [T31, .c (.int .i64 (.ofNat (nat_lit 0))), T32]),
    .op D34 (.un .not T33),
    .op D35 (.mv T34),
    .gop .n2 .n3 g35 (fun _ => rfl) false D36 (.mv T10),
    .gop .n2 .n3 g35 (fun _ => rfl) false D37 (.build [.int .u64 (.ofNat (nat_lit 0)), .int .u64 (.ofNat (nat_lit 0)), .int .u64 (.ofNat (nat_lit 0)), .int .u64 (.ofNat (nat_lit 0)), .int .u64 (.ofNat (nat_lit 0))] [((nat_lit 0), (nat_lit 1), .c (.int .u64 (.ofNat (nat_lit 6)))), ((nat_lit 1), (nat_lit 1), .c (.int .u64 (.ofNat (nat_lit 0)))), ((nat_lit 2), (nat_lit 1), .c (.int .u64 (.ofNat (nat_lit 4)))), ((nat_lit 3), (nat_lit 1), .c (.int .u64 (.ofNat (nat_lit 3))))]),
    .gop .n2 .n3 g35 (fun _ => rfl) false D38 (.call (nat_lit 24) [T36, .c (.int .i64 (.ofNat (nat_lit 0))), T37]),
    .gop .n2 .n3 g35 (fun _ => rfl) false D39 (.un .not T38),
    .op D40 (.pick T35 (.c (.bool true)) T39),
    .op D41 (.mv T40),
    .gop .n2 .n9 g41 (fun _ => rfl) false D42 (.mv T10),
    .gop .n2 .n9 g41 (fun _ => rfl) false D43 (.mv T3),
    .gop .n2 .n9 g41 (fun _ => rfl) false D44 (.cvi .u64 T43),
    .gop .n2 .n9 g41 (fun _ => rfl) false D45 (.mv T1),
    .gop .n2 .n9 g41 (fun _ => rfl) false D46 (.build [.int .u64 (.ofNat (nat_lit 0)), .int .u64 (.ofNat (nat_lit 0)), .int .u64 (.ofNat (nat_lit 0)), .int .u64 (.ofNat (nat_lit 0)), .int .u64 (.ofNat (nat_lit 0))] [((nat_lit 0), (nat_lit 1), .c (.int .u64 (.ofNat (nat_lit 21)))), ((nat_lit 1), (nat_lit 1), .c (.int .u64 (.ofNat (nat_lit 0)))), ((nat_lit 2), (nat_lit 1), T44), ((nat_lit 3), (nat_lit 1), T45)]),
    .gop .n2 .n9 g41 (fun _ => rfl) false D47 (.call (nat_lit 24) [T42, .c (.int .i64 (.ofNat (nat_lit 0))), T46]),
    .gop .n2 .n9 g41 (fun _ => rfl) false D48 (.un .not T47),
    .op D49 (.pick T41 (.c (.bool true)) T48)])
  (.cond T49 (.seq (.reg [.op D8 (.mv (.c (.bool false)))])
  (.ret))
  (.skip)))
  (.seq (.reg [.op D50 (.mv T3),
    .op D51 (.cvi .u64 T50),
    .op D52 (.mv T0),
    .op D53 (.cvi .u64 T52),
    .op D54 (.mv T2),
    .op D55 (.build [.int .u64 (.ofNat (nat_lit 0)), .int .u64 (.ofNat (nat_lit 0)), .int .u64 (.ofNat (nat_lit 0)), .int .u64 (.ofNat (nat_lit 0)), .int .u64 (.ofNat (nat_lit 0))] [((nat_lit 0), (nat_lit 1), .c (.int .u64 (.ofNat (nat_lit 9)))), ((nat_lit 1), (nat_lit 1), .c (.int .u64 (.ofNat (nat_lit 4)))), ((nat_lit 2), (nat_lit 1), T51), ((nat_lit 3), (nat_lit 1), T53), ((nat_lit 4), (nat_lit 1), T54)]),
    .op D11 (.new [.int .u64 (.ofNat (nat_lit 0)), .int .u64 (.ofNat (nat_lit 0)), .int .u64 (.ofNat (nat_lit 0)), .int .u64 (.ofNat (nat_lit 0)), .int .u64 (.ofNat (nat_lit 0))]),
    .op .no (.st (nat_lit 5) T11 T55)])
  (.seq (.reg [.op D57 (.mv T10),
    .op D58 (.ldA (nat_lit 5) T11),
    .op D59 (.call (nat_lit 25) [T57, .c (.int .i64 (.ofNat (nat_lit 0))), T58]),
    .op D56 (.mv T59),
    .op D60 (.ex (nat_lit 0) T56),
    .op D61 (.ex (nat_lit 1) T56),
    .op D12 (.new [.int .i64 (.ofNat (nat_lit 0)), .int .u64 (.ofNat (nat_lit 0))]),
    .op .no (.st (nat_lit 2) T12 T60),
    .op D13 (.mv T61)])
  (.seq (.reg [.op D62 (.mv T0),
    .op D63 (.mv T1),
    .op D64 (.mv T2),
    .op D65 (.call (nat_lit 27) [T62, T63, T64]),
    .op D14 (.mv T65)])
  (.seq (.seq (.reg [.op D66 (.mv T13),
    .op D67 (.mv T14),
    .op D68 (.eq true (.sc .bool) T66 T67),
    .op D69 (.mv T68),
    .gop .n4 .n5 g69 (fun _ => rfl) false D70 (.mv T14),
    .gop .n4 .n5 g69 (fun _ => rfl) false D71 (.mv T70),
    .gop .n4 .n7 g71 (fun _ => rfl) true D72 (.ldA (nat_lit 2) T12),
    .gop .n4 .n7 g71 (fun _ => rfl) true D73 (.mv T1),
    .gop .n4 .n7 g71 (fun _ => rfl) true D74 (.build [.int .i64 (.ofNat (nat_lit 0)), .int .u64 (.ofNat (nat_lit 0))] [((nat_lit 1), (nat_lit 1), T73)]),
    .gop .n4 .n7 g71 (fun _ => rfl) true D75 (.eq true (.flat [((nat_lit 0), .int), ((nat_lit 1), .int)]) T72 T74),
    .gop .n4 .n5 g69 (fun _ => rfl) false D76 (.pick T71 T75 (.c (.bool false))),
    .op D77 (.pick T69 (.c (.bool true)) T76),
    .op D78 (.mv T77),
    .gop .n4 .n14 g78 (fun _ => rfl) false D79 (.mv T14),
    .gop .n4 .n14 g78 (fun _ => rfl) false D80 (.un .not T79),
    .gop .n4 .n14 g78 (fun _ => rfl) false D81 (.mv T80),
    .gop .n5 .n1 g81 (fun _ => rfl) true D82 (.ldA (nat_lit 2) T12),
    .gop .n5 .n1 g81 (fun _ => rfl) true D83 (.build [.int .i64 (.ofNat (nat_lit 0)), .int .u64 (.ofNat (nat_lit 0))] []),
    .gop .n5 .n1 g81 (fun _ => rfl) true D84 (.eq true (.flat [((nat_lit 0), .int), ((nat_lit 1), .int)]) T82 T83),
    .gop .n4 .n14 g78 (fun _ => rfl) false D85 (.pick T81 T84 (.c (.bool false))),
    .op D86 (.pick T78 (.c (.bool true)) T85),
    .op D87 (.mv T86),
    .gop .n5 .n7 g87 (fun _ => rfl) false D88 (.mv T10),
    .gop .n5 .n7 g87 (fun _ => rfl) false D89 (.ldA (nat_lit 5) T11),
    .gop .n5 .n7 g87 (fun _ => rfl) false D90 (.call (nat_lit 28) [T88, .c (.int .i64 (.ofNat (nat_lit 0))), T89]),
    .gop .n5 .n7 g87 (fun _ => rfl) false D91 (.eq true (.sc .ifc) T90 (.c (.nili))),
    .op D92 (.pick T87 (.c (.bool true)) T91)])
  (.cond T92 (.seq (.reg [.op D8 (.mv (.c (.bool false)))])
  (.ret))
  (.skip)))
  (.seq (.reg [.op D93 (.mv T10),
    .op D94 (.build [.int .u64 (.ofNat (nat_lit 0)), .int .u64 (.ofNat (nat_lit 0)), .int .u64 (.ofNat (nat_lit 0)), .int .u64 (.ofNat (nat_lit 0)), .int .u64 (.ofNat (nat_lit 0))] [((nat_lit 0), (nat_lit 1), .c (.int .u64 (.ofNat (nat_lit 2)))), ((nat_lit 1), (nat_lit 1), .c (.int .u64 (.ofNat (nat_lit 4)))), ((nat_lit 2), (nat_lit 1), .c (.int .u64 (.ofNat (nat_lit 5)))), ((nat_lit 3), (nat_lit 1), .c (.int .u64 (.ofNat (nat_lit 2))))]),
    .op D95 (.call (nat_lit 25) [T93, .c (.int .i64 (.ofNat (nat_lit 0))), T94])])
  (.seq (.reg [.op D96 (.ixaA (nat_lit 5) (nat_lit 1) T11 (.c (.int .i64 (.ofNat (nat_lit 1))))),
    .op .no (.st (nat_lit 1) T96 (.c (.int .u64 (.ofNat (nat_lit 5)))))])
  (.seq (.reg [.op D98 (.mv T10),
    .op D99 (.ldA (nat_lit 5) T11),
    .op D100 (.call (nat_lit 25) [T98, .c (.int .i64 (.ofNat (nat_lit 0))), T99]),
    .op D97 (.mv T100),
    .op D101 (.ex (nat_lit 0) T97),
    .op D102 (.ex (nat_lit 1) T97),
    .op D15 (.new [.int .i64 (.ofNat (nat_lit 0)), .int .u64 (.ofNat (nat_lit 0))]),
    .op .no (.st (nat_lit 2) T15 T101),
    .op D13 (.mv T102)])
  (.seq (.reg [.op D103 (.ixaA (nat_lit 5) (nat_lit 1) T11 (.c (.int .i64 (.ofNat (nat_lit 1))))),
    .op .no (.st (nat_lit 1) T103 (.c (.int .u64 (.ofNat (nat_lit 6)))))])
  (.seq (.reg [.op D105 (.mv T10),
    .op D106 (.ldA (nat_lit 5) T11),
    .op D107 (.call (nat_lit 25) [T105, .c (.int .i64 (.ofNat (nat_lit 0))), T106]),
    .op D104 (.mv T107),
    .op D108 (.ex (nat_lit 0) T104),
    .op D109 (.ex (nat_lit 1) T104),
    .op D16 (.new [.int .i64 (.ofNat (nat_lit 0)), .int .u64 (.ofNat (nat_lit 0))]),
    .op .no (.st (nat_lit 2) T16 T108),
    .op D17 (.mv T109)])
  (.seq (.reg [.op D110 (.mv T13),
    .op D111 (.mv T110),
    .gop .n6 .n15 g111 (fun _ => rfl) true D112 (.fadd (nat_lit 0) T15),
    .gop .n6 .n15 g111 (fun _ => rfl) true D113 (.ld1 T112),
    .gop .n6 .n15 g111 (fun _ => rfl) true D114 (.bin .eql T113 (.c (.int .i64 (.ofNat (nat_lit 5))))),
    .op D115 (.pick T111 T114 (.c (.bool false))),
    .op D116 (.mv T115),
    .gop .n7 .n4 g116 (fun _ => rfl) true D117 (.mv T17),
    .op D118 (.pick T116 T117 (.c (.bool false))),
    .op D119 (.mv T118),
    .gop .n7 .n7 g119 (fun _ => rfl) true D120 (.fadd (nat_lit 0) T16),
    .gop .n7 .n7 g119 (fun _ => rfl) true D121 (.ld1 T120),
    .gop .n7 .n7 g119 (fun _ => rfl) true D122 (.bin .eql T121 (.c (.int .i64 (.ofNat (nat_lit 3))))),
    .op D123 (.pick T119 T122 (.c (.bool false))),
    .op D8 (.mv T123)])
  (.ret)))))))))))))))),
  [.t .n0 .n8 g8 (fun _ => rfl)]⟩
/-- messuage/messuagelaw11.PlainOrder -/
noncomputable def ff7 : FFunc := ⟨.seq (.reg [.op D2 (.mv (.c (.bool false)))])
  (.seq (.reg [.op D11 (.call (nat_lit 8) []),
    .op D3 (.mv T11)])
  (.seq (.seq (.reg [.op D12 (.mv T3),
    .op D13 (.un .not T12)])
  (.cond T13 (.seq (.reg [.op D2 (.mv (.c (.bool false)))])
  (.ret))
  (.skip)))
  (.seq (.reg [.op D14 (.call (nat_lit 23) [.c (.int .i64 (.ofNat (nat_lit 1)))]),
    .op D4 (.mv T14)])
  (.seq (.seq (.reg [.op D15 (.mv T4),
    .op D16 (.build [.int .u64 (.ofNat (nat_lit 0)), .int .u64 (.ofNat (nat_lit 0)), .int .u64 (.ofNat (nat_lit 0)), .int .u64 (.ofNat (nat_lit 0)), .int .u64 (.ofNat (nat_lit 0))] [((nat_lit 0), (nat_lit 1), .c (.int .u64 (.ofNat (nat_lit 1)))), ((nat_lit 1), (nat_lit 1), .c (.int .u64 (.ofNat (nat_lit 0))))]),
    .op D17 (.call (nat_lit 24) [T15, .c (.int .i64 (.ofNat (nat_lit 0))), T16]),
    .op D18 (.un .not T17),
    .op D19 (.mv T18),
    .gop .n1 .n3 g19 (fun _ => rfl) false D20 (.mv T4),
    .gop .n1 .n3 g19 (fun _ => rfl) false D21 (.build [.int .u64 (.ofNat (nat_lit 0)), .int .u64 (.ofNat (nat_lit 0)), .int .u64 (.ofNat (nat_lit 0)), .int .u64 (.ofNat (nat_lit 0)), .int .u64 (.ofNat (nat_lit 0))] [((nat_lit 0), (nat_lit 1), .c (.int .u64 (.ofNat (nat_lit 2)))), ((nat_lit 1), (nat_lit 1), .c (.int .u64 (.ofNat (nat_lit 0)))), ((nat_lit 2), (nat_lit 1), .c (.int .u64 (.ofNat (nat_lit 1)))), ((nat_lit 3), (nat_lit 1), .c (.int .u64 (.ofNat (nat_lit 1))))]),
    .gop .n1 .n3 g19 (fun _ => rfl) false D22 (.call (nat_lit 24) [T20, .c (.int .i64 (.ofNat (nat_lit 0))), T21]),
    .gop .n1 .n3 g19 (fun _ => rfl) false D23 (.un .not T22),
    .op D24 (.pick T19 (.c (.bool true)) T23),
    .op D25 (.mv T24),
    .gop .n1 .n9 g25 (fun _ => rfl) false D26 (.mv T4),
    .gop .n1 .n9 g25 (fun _ => rfl) false D27 (.build [.int .u64 (.ofNat (nat_lit 0)), .int .u64 (.ofNat (nat_lit 0)), .int .u64 (.ofNat (nat_lit 0)), .int .u64 (.ofNat (nat_lit 0)), .int .u64 (.ofNat (nat_lit 0))] [((nat_lit 0), (nat_lit 1), .c (.int .u64 (.ofNat (nat_lit 6)))), ((nat_lit 1), (nat_lit 1), .c (.int .u64 (.ofNat (nat_lit 0)))), ((nat_lit 2), (nat_lit 1), .c (.int .u64 (.ofNat (nat_lit 1)))), ((nat_lit 3), (nat_lit 1), .c (.int .u64 (.ofNat (nat_lit 1))))]),
    .gop .n1 .n9 g25 (fun _ => rfl) false D28 (.call (nat_lit 24) [T26, .c (.int .i64 (.ofNat (nat_lit 0))), T27]),
    .gop .n1 .n9 g25 (fun _ => rfl) false D29 (.un .not T28),
    .op D30 (.pick T25 (.c (.bool true)) T29)])
  (.cond T30 (.seq (.reg [.op D2 (.mv (.c (.bool false)))])
  (.ret))
  (.skip)))
  (.seq (.reg [.op D31 (.build [.int .u64 (.ofNat (nat_lit 0)), .int .u64 (.ofNat (nat_lit 0)), .int .u64 (.ofNat (nat_lit 0)), .int .u64 (.ofNat (nat_lit 0)), .int .u64 (.ofNat (nat_lit 0))] [((nat_lit 0), (nat_lit 1), .c (.int .u64 (.ofNat (nat_lit 1)))), ((nat_lit 1), (nat_lit 1), .c (.int .u64 (.ofNat (nat_lit 0))))]),
    .op D32 (.build [.int .u64 (.ofNat (nat_lit 0)), .int .u64 (.ofNat (nat_lit 0)), .int .u64 (.ofNat (nat_lit 0)), .int .u64 (.ofNat (nat_lit 0)), .int .u64 (.ofNat (nat_lit 0)), .int .i64 (.ofNat (nat_lit 0))] [((nat_lit 0), (nat_lit 5), T31), ((nat_lit 5), (nat_lit 1), .c (.int .i64 (.ofNat (nat_lit 4))))]),
    .op D33 (.build [.int .u64 (.ofNat (nat_lit 0)), .int .u64 (.ofNat (nat_lit 0)), .int .u64 (.ofNat (nat_lit 0)), .int .u64 (.ofNat (nat_lit 0)), .int .u64 (.ofNat (nat_lit 0))] [((nat_lit 0), (nat_lit 1), .c (.int .u64 (.ofNat (nat_lit 1)))), ((nat_lit 1), (nat_lit 1), .c (.int .u64 (.ofNat (nat_lit 2))))]),
    .op D34 (.build [.int .u64 (.ofNat (nat_lit 0)), .int .u64 (.ofNat (nat_lit 0)), .int .u64 (.ofNat (nat_lit 0)), .int .u64 (.ofNat (nat_lit 0)), .int .u64 (.ofNat (nat_lit 0)), .int .i64 (.ofNat (nat_lit 0))] [((nat_lit 0), (nat_lit 5), T33), ((nat_lit 5), (nat_lit 1), .c (.int .i64 (.ofNat (nat_lit 6))))]),
    .op D35 (.build [.int .u64 (.ofNat (nat_lit 0)), .int .u64 (.ofNat (nat_lit 0)), .int .u64 (.ofNat (nat_lit 0)), .int .u64 (.ofNat (nat_lit 0)), .int .u64 (.ofNat (nat_lit 0))] [((nat_lit 0), (nat_lit 1), .c (.int .u64 (.ofNat (nat_lit 2)))), ((nat_lit 1), (nat_lit 1), .c (.int .u64 (.ofNat (nat_lit 5)))), ((nat_lit 2), (nat_lit 1), .c (.int .u64 (.ofNat (nat_lit 0)))), ((nat_lit 3), (nat_lit 1), .c (.int .u64 (.ofNat (nat_lit 3))))]),
    .op D36 (.build [.int .u64 (.ofNat (nat_lit 0)), .int .u64 (.ofNat (nat_lit 0)), .int .u64 (.ofNat (nat_lit 0)), .int .u64 (.ofNat (nat_lit 0)), .int .u64 (.ofNat (nat_lit 0)), .int .i64 (.ofNat (nat_lit 0))] [((nat_lit 0), (nat_lit 5), T35), ((nat_lit 5), (nat_lit 1), .c (.int .i64 (.ofNat (nat_lit 3))))]),
    .op D37 (.build [.int .u64 (.ofNat (nat_lit 0)), .int .u64 (.ofNat (nat_lit 0)), .int .u64 (.ofNat (nat_lit 0)), .int .u64 (.ofNat (nat_lit 0)), .int .u64 (.ofNat (nat_lit 0))] [((nat_lit 0), (nat_lit 1), .c (.int .u64 (.ofNat (nat_lit 2)))), ((nat_lit 1), (nat_lit 1), .c (.int .u64 (.ofNat (nat_lit 1)))), ((nat_lit 2), (nat_lit 1), .c (.int .u64 (.ofNat (nat_lit 0)))), ((nat_lit 3), (nat_lit 1), .c (.int .u64 (.ofNat (nat_lit 3))))]),
    .op D38 (.build [.int .u64 (.ofNat (nat_lit 0)), .int .u64 (.ofNat (nat_lit 0)), .int .u64 (.ofNat (nat_lit 0)), .int .u64 (.ofNat (nat_lit 0)), .int .u64 (.ofNat (nat_lit 0)), .int .i64 (.ofNat (nat_lit 0))] [((nat_lit 0), (nat_lit 5), T37), ((nat_lit 5), (nat_lit 1), .c (.int .i64 (.ofNat (nat_lit 4))))]),
    .op D39 (.build [.int .u64 (.ofNat (nat_lit 0)), .int .u64 (.ofNat (nat_lit 0)), .int .u64 (.ofNat (nat_lit 0)), .int .u64 (.ofNat (nat_lit 0)), .int .u64 (.ofNat (nat_lit 0))] [((nat_lit 0), (nat_lit 1), .c (.int .u64 (.ofNat (nat_lit 2)))), ((nat_lit 1), (nat_lit 1), .c (.int .u64 (.ofNat (nat_lit 1)))), ((nat_lit 2), (nat_lit 1), .c (.int .u64 (.ofNat (nat_lit 2)))), ((nat_lit 3), (nat_lit 1), .c (.int .u64 (.ofNat (nat_lit 3))))]),
    .op D40 (.build [.int .u64 (.ofNat (nat_lit 0)), .int .u64 (.ofNat (nat_lit 0)), .int .u64 (.ofNat (nat_lit 0)), .int .u64 (.ofNat (nat_lit 0)), .int .u64 (.ofNat (nat_lit 0)), .int .i64 (.ofNat (nat_lit 0))] [((nat_lit 0), (nat_lit 5), T39), ((nat_lit 5), (nat_lit 1), .c (.int .i64 (.ofNat (nat_lit 5))))]),
    .op D41 (.build [.int .u64 (.ofNat (nat_lit 0)), .int .u64 (.ofNat (nat_lit 0)), .int .u64 (.ofNat (nat_lit 0)), .int .u64 (.ofNat (nat_lit 0)), .int .u64 (.ofNat (nat_lit 0))] [((nat_lit 0), (nat_lit 1), .c (.int .u64 (.ofNat (nat_lit 6)))), ((nat_lit 1), (nat_lit 1), .c (.int .u64 (.ofNat (nat_lit 0)))), ((nat_lit 2), (nat_lit 1), .c (.int .u64 (.ofNat (nat_lit 5)))), ((nat_lit 3), (nat_lit 1), .c (.int .u64 (.ofNat (nat_lit 3))))]),
    .op D42 (.build [.int .u64 (.ofNat (nat_lit 0)), .int .u64 (.ofNat (nat_lit 0)), .int .u64 (.ofNat (nat_lit 0)), .int .u64 (.ofNat (nat_lit 0)), .int .u64 (.ofNat (nat_lit 0)), .int .i64 (.ofNat (nat_lit 0))] [((nat_lit 0), (nat_lit 5), T41), ((nat_lit 5), (nat_lit 1), .c (.int .i64 (.ofNat (nat_lit 3))))]),
    .op D43 (.build [.int .u64 (.ofNat (nat_lit 0)), .int .u64 (.ofNat (nat_lit 0)), .int .u64 (.ofNat (nat_lit 0)), .int .u64 (.ofNat (nat_lit 0)), .int .u64 (.ofNat (nat_lit 0))] [((nat_lit 0), (nat_lit 1), .c (.int .u64 (.ofNat (nat_lit 6)))), ((nat_lit 1), (nat_lit 1), .c (.int .u64 (.ofNat (nat_lit 0)))), ((nat_lit 2), (nat_lit 1), .c (.int .u64 (.ofNat (nat_lit 1)))), ((nat_lit 3), (nat_lit 1), .c (.int .u64 (.ofNat (nat_lit 3))))]),
    .op D44 (.build [.int .u64 (.ofNat (nat_lit 0)), .int .u64 (.ofNat (nat_lit 0)), .int .u64 (.ofNat (nat_lit 0)), .int .u64 (.ofNat (nat_lit 0)), .int .u64 (.ofNat (nat_lit 0)), .int .i64 (.ofNat (nat_lit 0))] [((nat_lit 0), (nat_lit 5), T43), ((nat_lit 5), (nat_lit 1), .c (.int .i64 (.ofNat (nat_lit 4))))]),
    .op D45 (.build [.int .u64 (.ofNat (nat_lit 0)), .int .u64 (.ofNat (nat_lit 0)), .int .u64 (.ofNat (nat_lit 0)), .int .u64 (.ofNat (nat_lit 0)), .int .u64 (.ofNat (nat_lit 0))] [((nat_lit 0), (nat_lit 1), .c (.int .u64 (.ofNat (nat_lit 6)))), ((nat_lit 1), (nat_lit 1), .c (.int .u64 (.ofNat (nat_lit 1)))), ((nat_lit 2), (nat_lit 1), .c (.int .u64 (.ofNat (nat_lit 1)))), ((nat_lit 3), (nat_lit 1), .c (.int .u64 (.ofNat (nat_lit 3))))]),
    .op D46 (.build [.int .u64 (.ofNat (nat_lit 0)), .int .u64 (.ofNat (nat_lit 0)), .int .u64 (.ofNat (nat_lit 0)), .int .u64 (.ofNat (nat_lit 0)), .int .u64 (.ofNat (nat_lit 0)), .int .i64 (.ofNat (nat_lit 0))] [((nat_lit 0), (nat_lit 5), T45), ((nat_lit 5), (nat_lit 1), .c (.int .i64 (.ofNat (nat_lit 5))))]),
    .op D47 (.build [.int .u64 (.ofNat (nat_lit 0)), .int .u64 (.ofNat (nat_lit 0)), .int .u64 (.ofNat (nat_lit 0)), .int .u64 (.ofNat (nat_lit 0)), .int .u64 (.ofNat (nat_lit 0))] [((nat_lit 0), (nat_lit 1), .c (.int .u64 (.ofNat (nat_lit 8)))), ((nat_lit 1), (nat_lit 1), .c (.int .u64 (.ofNat (nat_lit 4)))), ((nat_lit 2), (nat_lit 1), .c (.int .u64 (.ofNat (nat_lit 3))))]),
    .op D48 (.build [.int .u64 (.ofNat (nat_lit 0)), .int .u64 (.ofNat (nat_lit 0)), .int .u64 (.ofNat (nat_lit 0)), .int .u64 (.ofNat (nat_lit 0)), .int .u64 (.ofNat (nat_lit 0)), .int .i64 (.ofNat (nat_lit 0))] [((nat_lit 0), (nat_lit 5), T47), ((nat_lit 5), (nat_lit 1), .c (.int .i64 (.ofNat (nat_lit 3))))]),
    .op D49 (.build [.int .u64 (.ofNat (nat_lit 0)), .int .u64 (.ofNat (nat_lit 0)), .int .u64 (.ofNat (nat_lit 0)), .int .u64 (.ofNat (nat_lit 0)), .int .u64 (.ofNat (nat_lit 0))] [((nat_lit 0), (nat_lit 1), .c (.int .u64 (.ofNat (nat_lit 8)))), ((nat_lit 1), (nat_lit 1), .c (.int .u64 (.ofNat (nat_lit 0)))), ((nat_lit 2), (nat_lit 1), .c (.int .u64 (.ofNat (nat_lit 3))))]),
    .op D50 (.build [.int .u64 (.ofNat (nat_lit 0)), .int .u64 (.ofNat (nat_lit 0)), .int .u64 (.ofNat (nat_lit 0)), .int .u64 (.ofNat (nat_lit 0)), .int .u64 (.ofNat (nat_lit 0)), .int .i64 (.ofNat (nat_lit 0))] [((nat_lit 0), (nat_lit 5), T49), ((nat_lit 5), (nat_lit 1), .c (.int .i64 (.ofNat (nat_lit 5))))]),
    .op D51 (.build [.int .u64 (.ofNat (nat_lit 0)), .int .u64 (.ofNat (nat_lit 0)), .int .u64 (.ofNat (nat_lit 0)), .int .u64 (.ofNat (nat_lit 0)), .int .u64 (.ofNat (nat_lit 0))] [((nat_lit 0), (nat_lit 1), .c (.int .u64 (.ofNat (nat_lit 6)))), ((nat_lit 1), (nat_lit 1), .c (.int .u64 (.ofNat (nat_lit 0)))), ((nat_lit 2), (nat_lit 1), .c (.int .u64 (.ofNat (nat_lit 5)))), ((nat_lit 3), (nat_lit 1), .c (.int .u64 (.ofNat (nat_lit 0))))]),
    .op D52 (.build [.int .u64 (.ofNat (nat_lit 0)), .int .u64 (.ofNat (nat_lit 0)), .int .u64 (.ofNat (nat_lit 0)), .int .u64 (.ofNat (nat_lit 0)), .int .u64 (.ofNat (nat_lit 0)), .int .i64 (.ofNat (nat_lit 0))] [((nat_lit 0), (nat_lit 5), T51), ((nat_lit 5), (nat_lit 1), .c (.int .i64 (.ofNat (nat_lit 2))))]),
    .op D53 (.build [.int .u64 (.ofNat (nat_lit 0)), .int .u64 (.ofNat (nat_lit 0)), .int .u64 (.ofNat (nat_lit 0)), .int .u64 (.ofNat (nat_lit 0)), .int .u64 (.ofNat (nat_lit 0))] [((nat_lit 0), (nat_lit 1), .c (.int .u64 (.ofNat (nat_lit 99))))]),
    .op D54 (.build [.int .u64 (.ofNat (nat_lit 0)), .int .u64 (.ofNat (nat_lit 0)), .int .u64 (.ofNat (nat_lit 0)), .int .u64 (.ofNat (nat_lit 0)), .int .u64 (.ofNat (nat_lit 0)), .int .i64 (.ofNat (nat_lit 0))] [((nat_lit 0), (nat_lit 5), T53), ((nat_lit 5), (nat_lit 1), .c (.int .i64 (.ofNat (nat_lit 1))))]),
    .op D55 (.build [.int .u64 (.ofNat (nat_lit 0)), .int .u64 (.ofNat (nat_lit 0)), .int .u64 (.ofNat (nat_lit 0)), .int .u64 (.ofNat (nat_lit 0)), .int .u64 (.ofNat (nat_lit 0))] [((nat_lit 0), (nat_lit 1), .c (.int .u64 (.ofNat (nat_lit 2)))), ((nat_lit 1), (nat_lit 1), .c (.int .u64 (.ofNat (nat_lit 0)))), ((nat_lit 2), (nat_lit 1), .c (.int .u64 (.ofNat (nat_lit 0)))), ((nat_lit 3), (nat_lit 1), .c (.int .u64 (.ofNat (nat_lit 3))))]),
    .op D56 (.build [.int .u64 (.ofNat (nat_lit 0)), .int .u64 (.ofNat (nat_lit 0)), .int .u64 (.ofNat (nat_lit 0)), .int .u64 (.ofNat (nat_lit 0)), .int .u64 (.ofNat (nat_lit 0)), .int .i64 (.ofNat (nat_lit 0))] [((nat_lit 0), (nat_lit 5), T55), ((nat_lit 5), (nat_lit 1), .c (.int .i64 (.ofNat (nat_lit 4))))]),
    .op D57 (.build [.int .u64 (.ofNat (nat_lit 0)), .int .u64 (.ofNat (nat_lit 0)), .int .u64 (.ofNat (nat_lit 0)), .int .u64 (.ofNat (nat_lit 0)), .int .u64 (.ofNat (nat_lit 0))] [((nat_lit 0), (nat_lit 1), .c (.int .u64 (.ofNat (nat_lit 7)))), ((nat_lit 1), (nat_lit 1), .c (.int .u64 (.ofNat (nat_lit 7))))]),
    .op D58 (.build [.int .u64 (.ofNat (nat_lit 0)), .int .u64 (.ofNat (nat_lit 0)), .int .u64 (.ofNat (nat_lit 0)), .int .u64 (.ofNat (nat_lit 0)), .int .u64 (.ofNat (nat_lit 0)), .int .i64 (.ofNat (nat_lit 0))] [((nat_lit 0), (nat_lit 5), T57), ((nat_lit 5), (nat_lit 1), .c (.int .i64 (.ofNat (nat_lit 3))))]),
    .op D59 (.bsl (nat_lit 6) [.int .u64 (.ofNat (nat_lit 0)), .int .u64 (.ofNat (nat_lit 0)), .int .u64 (.ofNat (nat_lit 0)), .int .u64 (.ofNat (nat_lit 0)), .int .u64 (.ofNat (nat_lit 0)), .int .i64 (.ofNat (nat_lit 0)), .int .u64 (.ofNat (nat_lit 0)), .int .u64 (.ofNat (nat_lit 0)), .int .u64 (.ofNat (nat_lit 0)), .int .u64 (.ofNat (nat_lit 0)), .int .u64 (.ofNat (nat_lit 0)), .int .i64 (.ofNat (nat_lit 0)), .int .u64 (.ofNat (nat_lit 0)), .int .u64 (.ofNat (nat_lit 0)), .int .u64 (.ofNat (nat_lit 0)), .int .u64 (.ofNat (nat_lit 0)), .int .u64 (.ofNat (nat_lit 0)), .int .i64 (.ofNat (nat_lit 0)), .int .u64 (.ofNat (nat_lit 0)), .int .u64 (.ofNat (nat_lit 0)), .int .u64 (.ofNat (nat_lit 0)), .int .u64 (.ofNat (nat_lit 0)), .int .u64 (.ofNat (nat_lit 0)), .int .i64 (.ofNat (nat_lit 0)), .int .u64 (.ofNat (nat_lit 0)), .int .u64 (.ofNat (nat_lit 0)), .int .u64 (.ofNat (nat_lit 0)), .int .u64 (.ofNat (nat_lit 0)), .int .u64 (.ofNat (nat_lit 0)), .int .i64 (.ofNat (nat_lit 0)), .int .u64 (.ofNat (nat_lit 0)), .int .u64 (.ofNat (nat_lit 0)), .int .u64 (.ofNat (nat_lit 0)), .int .u64 (.ofNat (nat_lit 0)), .int .u64 (.ofNat (nat_lit 0)), .int .i64 (.ofNat (nat_lit 0)), .int .u64 (.ofNat (nat_lit 0)), .int .u64 (.ofNat (nat_lit 0)), .int .u64 (.ofNat (nat_lit 0)), .int .u64 (.ofNat (nat_lit 0)), .int .u64 (.ofNat (nat_lit 0)), .int .i64 (.ofNat (nat_lit 0)), .int .u64 (.ofNat (nat_lit 0)), .int .u64 (.ofNat (nat_lit 0)), .int .u64 (.ofNat (nat_lit 0)), .int .u64 (.ofNat (nat_lit 0)), .int .u64 (.ofNat (nat_lit 0)), .int .i64 (.ofNat (nat_lit 0)), .int .u64 (.ofNat (nat_lit 0)), .int .u64 (.ofNat (nat_lit 0)), .int .u64 (.ofNat (nat_lit 0)), .int .u64 (.ofNat (nat_lit 0)), .int .u64 (.ofNat (nat_lit 0)), .int .i64 (.ofNat (nat_lit 0)), .int .u64 (.ofNat (nat_lit 0)), .int .u64 (.ofNat (nat_lit 0)), .int .u64 (.ofNat (nat_lit 0)), .int .u64 (.ofNat (nat_lit 0)), .int .u64 (.ofNat (nat_lit 0)), .int .i64 (.ofNat (nat_lit 0)), .int .u64 (.ofNat (nat_lit 0)), .int .u64 (.ofNat (nat_lit 0)), .int .u64 (.ofNat (nat_lit 0)), .int .u64 (.ofNat (nat_lit 0)), .int .u64 (.ofNat (nat_lit 0)), .int .i64 (.ofNat (nat_lit 0)), .int .u64 (.ofNat (nat_lit 0)), .int .u64 (.ofNat (nat_lit 0)), .int .u64 (.ofNat (nat_lit 0)), .int .u64 (.ofNat (nat_lit 0)), .int .u64 (.ofNat (nat_lit 0)), .int .i64 (.ofNat (nat_lit 0)), .int .u64 (.ofNat (nat_lit 0)), .int .u64 (.ofNat (nat_lit 0)), .int .u64 (.ofNat (nat_lit 0)), .int .u64 (.ofNat (nat_lit 0)), .int .u64 (.ofNat (nat_lit 0)), .int .i64 (.ofNat (nat_lit 0)), .int .u64 (.ofNat (nat_lit 0)), .int .u64 (.ofNat (nat_lit 0)), .int .u64 (.ofNat (nat_lit 0)), .int .u64 (.ofNat (nat_lit 0)), .int .u64 (.ofNat (nat_lit 0)), .int .i64 (.ofNat (nat_lit 0))] (nat_lit 14) [((nat_lit 0), (nat_lit 6), T32), ((nat_lit 6), (nat_lit 6), T34), ((nat_lit 12), (nat_lit 6), T36), ((nat_lit 18), (nat_lit 6), T38), ((nat_lit 24), (nat_lit 6), T40), ((nat_lit 30), (nat_lit 6), T42), ((nat_lit 36), (nat_lit 6), T44), ((nat_lit 42), (nat_lit 6), T46), ((nat_lit 48), (nat_lit 6), T48), ((nat_lit 54), (nat_lit 6), T50), ((nat_lit 60), (nat_lit 6), T52), ((nat_lit 66), (nat_lit 6), T54), ((nat_lit 72), (nat_lit 6), T56), ((nat_lit 78), (nat_lit 6), T58)]),
    .op D5 (.mv T59)])
  (.seq (.reg [.op D60 (.mv T5),
    .op D61 (.mv T0),
    .op D62 (.mv T5),
    .op D63 (.lenL T62),
    .op D64 (.bin .rem T61 T63),
    .op D65 (.mv T5),
    .op D66 (.lenL T65),
    .op D67 (.bin .add T64 T66),
    .op D68 (.mv T5),
    .op D69 (.lenL T68),
    .op D70 (.bin .rem T67 T69),
    .op D71 (.ixaS (nat_lit 6) T60 T70),
    .op D72 (.ldA (nat_lit 6) T71),
    .op D6 (.new [.int .u64 (.ofNat (nat_lit 0)), .int .u64 (.ofNat (nat_lit 0)), .int .u64 (.ofNat (nat_lit 0)), .int .u64 (.ofNat (nat_lit 0)), .int .u64 (.ofNat (nat_lit 0)), .int .i64 (.ofNat (nat_lit 0))]),
    .op .no (.st (nat_lit 6) T6 T72)])
  (.seq (.reg [.op D74 (.mv T4),
    .op D75 (.fadd (nat_lit 0) T6),
    .op D76 (.ldA (nat_lit 5) T75),
    .op D77 (.call (nat_lit 25) [T74, .c (.int .i64 (.ofNat (nat_lit 0))), T76]),
    .op D73 (.mv T77),
    .op D78 (.ex (nat_lit 0) T73),
    .op D79 (.ex (nat_lit 1) T73),
    .op D7 (.new [.int .i64 (.ofNat (nat_lit 0)), .int .u64 (.ofNat (nat_lit 0))]),
    .op .no (.st (nat_lit 2) T7 T78),
    .op D8 (.mv T79)])
  (.seq (.reg [.op D81 (.mv T4),
    .op D82 (.fadd (nat_lit 0) T6),
    .op D83 (.ldA (nat_lit 5) T82),
    .op D84 (.call (nat_lit 25) [T81, .c (.int .i64 (.ofNat (nat_lit 2))), T83]),
    .op D80 (.mv T84),
    .op D85 (.ex (nat_lit 0) T80),
    .op D86 (.ex (nat_lit 1) T80),
    .op D9 (.new [.int .i64 (.ofNat (nat_lit 0)), .int .u64 (.ofNat (nat_lit 0))]),
    .op .no (.st (nat_lit 2) T9 T85),
    .op D10 (.mv T86)])
  (.seq (.drw [.op D87 (.mv T8),
    .op D88 (.mv T87),
    .gop .n5 .n8 g88 (fun _ => rfl) true D89 (.fadd (nat_lit 0) T7),
    .gop .n5 .n8 g88 (fun _ => rfl) true D90 (.ld1 T89),
    .gop .n5 .n8 g88 (fun _ => rfl) true D91 (.fadd (nat_lit 5) T6),
    .gop .n5 .n8 g88 (fun _ => rfl) true D92 (.ld1 T91),
    .gop .n5 .n8 g88 (fun _ => rfl) true D93 (.bin .eql T90 T92),
    .op D94 (.pick T88 T93 (.c (.bool false))),
    .op D95 (.mv T94),
    .gop .n5 .n15 g95 (fun _ => rfl) true D96 (.fadd (nat_lit 0) T9),
    .gop .n5 .n15 g95 (fun _ => rfl) true D97 (.ld1 T96),
    .gop .n5 .n15 g95 (fun _ => rfl) true D98 (.bin .eql T97 (.c (.int .i64 (.ofNat (nat_lit 10))))),
    .op D99 (.pick T95 T98 (.c (.bool false))),
    .op D100 (.mv T99),
    .gop .n6 .n4 g100 (fun _ => rfl) true D101 (.mv T4),
    .gop .n6 .n4 g100 (fun _ => rfl) true D102 (.fadd (nat_lit 0) T6),
    .gop .n6 .n4 g100 (fun _ => rfl) true D103 (.ldA (nat_lit 5) T102),
    .gop .n6 .n4 g100 (fun _ => rfl) true D104 (.call (nat_lit 28) [T101, .c (.int .i64 (.ofNat (nat_lit 0))), T103]),
    .gop .n6 .n4 g100 (fun _ => rfl) true D105 (.call (nat_lit 29) [T104]),
    .gop .n6 .n4 g100 (fun _ => rfl) true D106 (.fadd (nat_lit 5) T6),
    .gop .n6 .n4 g100 (fun _ => rfl) true D107 (.ld1 T106),
    .gop .n6 .n4 g100 (fun _ => rfl) true D108 (.bin .eql T105 T107),
    .op D109 (.pick T100 T108 (.c (.bool false))),
    .op D2 (.mv T109)] [((nat_lit 20), (nat_lit 17)), ((nat_lit 20), (nat_lit 18))])
  (.ret)))))))))),
  [.t .n0 .n2 g2 (fun _ => rfl)]⟩
/-- messuage/messuagelaw11.begun -/
noncomputable def ff8 : FFunc := ⟨.seq (.reg [.op D0 (.mv (.c (.bool false)))])
  (.seq (.reg [.op D22 (.build [.int .i64 (.ofNat (nat_lit 0)), .int .i64 (.ofNat (nat_lit 0)), .int .i64 (.ofNat (nat_lit 0))] [((nat_lit 0), (nat_lit 1), .c (.int .i64 (.ofNat (nat_lit 1)))), ((nat_lit 1), (nat_lit 1), .c (.int .i64 (.ofNat (nat_lit 2)))), ((nat_lit 2), (nat_lit 1), .c (.int .i64 (.ofNat (nat_lit 2))))]),
    .op D23 (.call (nat_lit 30) [T22]),
    .op D24 (.call (nat_lit 17) [.c (.int .i64 (.ofNat (nat_lit 2)))]),
    .op D25 (.call (nat_lit 31) [.c (.int .i64 (.ofNat (nat_lit 3)))]),
    .op D1 (.mv T23),
    .op D2 (.mv T24),
    .op D3 (.mv T25)])
  (.seq (.reg [.op D26 (.call (nat_lit 9) []),
    .op D27 (.call (nat_lit 10) []),
    .op D28 (.call (nat_lit 32) [.c (.int .i64 (.ofNat (nat_lit 2)))]),
    .op D4 (.mv T26),
    .op D5 (.mv T27),
    .op D6 (.mv T28)])
  (.seq (.seq (.reg [.op D29 (.mv T1),
    .op D30 (.eq false (.sc .ptr) T29 (.c (.nilp))),
    .op D31 (.mv T30),
    .gop .n1 .n15 g31 (fun _ => rfl) false D32 (.mv T2),
    .gop .n1 .n15 g31 (fun _ => rfl) false D33 (.eq false (.sc .ptr) T32 (.c (.nilp))),
    .op D34 (.pick T31 (.c (.bool true)) T33),
    .op D35 (.mv T34),
    .gop .n2 .n3 g35 (fun _ => rfl) false D36 (.mv T3),
    .gop .n2 .n3 g35 (fun _ => rfl) false D37 (.eq false (.sc .ptr) T36 (.c (.nilp))),
    .op D38 (.pick T35 (.c (.bool true)) T37),
    .op D39 (.mv T38),
    .gop .n2 .n7 g39 (fun _ => rfl) false D40 (.mv T4),
    .gop .n2 .n7 g39 (fun _ => rfl) false D41 (.eq false (.sc .ptr) T40 (.c (.nilp))),
    .op D42 (.pick T39 (.c (.bool true)) T41),
    .op D43 (.mv T42),
    .gop .n2 .n11 g43 (fun _ => rfl) false D44 (.mv T5),
    .gop .n2 .n11 g43 (fun _ => rfl) false D45 (.eq false (.sc .ptr) T44 (.c (.nilp))),
    .op D46 (.pick T43 (.c (.bool true)) T45),
    .op D47 (.mv T46),
    .gop .n2 .n15 g47 (fun _ => rfl) false D48 (.mv T6),
    .gop .n2 .n15 g47 (fun _ => rfl) false D49 (.eq false (.sc .ptr) T48 (.c (.nilp))),
    .op D50 (.pick T47 (.c (.bool true)) T49)])
  (.cond T50 (.seq (.reg [.op D0 (.mv (.c (.bool false)))])
  (.ret))
  (.skip)))
  (.seq (.reg [.op D52 (.mv T1),
    .op D53 (.build [.int .u64 (.ofNat (nat_lit 0)), .int .u64 (.ofNat (nat_lit 0)), .int .u64 (.ofNat (nat_lit 0)), .int .u64 (.ofNat (nat_lit 0)), .int .u64 (.ofNat (nat_lit 0))] [((nat_lit 0), (nat_lit 1), .c (.int .u64 (.ofNat (nat_lit 1)))), ((nat_lit 1), (nat_lit 1), .c (.int .u64 (.ofNat (nat_lit 1))))]),
    .op D54 (.call (nat_lit 25) [T52, .c (.int .i64 (.ofNat (nat_lit 0))), T53]),
    .op D51 (.mv T54),
    .op D55 (.ex (nat_lit 0) T51),
    .op D56 (.ex (nat_lit 1) T51),
    .op D7 (.new [.int .i64 (.ofNat (nat_lit 0)), .int .u64 (.ofNat (nat_lit 0))]),
    .op .no (.st (nat_lit 2) T7 T55),
    .op D8 (.mv T56)])
  (.seq (.reg [.op D58 (.mv T1),
    .op D59 (.build [.int .u64 (.ofNat (nat_lit 0)), .int .u64 (.ofNat (nat_lit 0)), .int .u64 (.ofNat (nat_lit 0)), .int .u64 (.ofNat (nat_lit 0)), .int .u64 (.ofNat (nat_lit 0))] [((nat_lit 0), (nat_lit 1), .c (.int .u64 (.ofNat (nat_lit 6)))), ((nat_lit 1), (nat_lit 1), .c (.int .u64 (.ofNat (nat_lit 2)))), ((nat_lit 2), (nat_lit 1), .c (.int .u64 (.ofNat (nat_lit 1)))), ((nat_lit 3), (nat_lit 1), .c (.int .u64 (.ofNat (nat_lit 3))))]),
    .op D60 (.call (nat_lit 25) [T58, .c (.int .i64 (.ofNat (nat_lit 0))), T59]),
    .op D57 (.mv T60),
    .op D61 (.ex (nat_lit 0) T57),
    .op D62 (.ex (nat_lit 1) T57),
    .op D9 (.new [.int .i64 (.ofNat (nat_lit 0)), .int .u64 (.ofNat (nat_lit 0))]),
    .op .no (.st (nat_lit 2) T9 T61),
    .op D10 (.mv T62)])
  (.seq (.reg [.op D63 (.mv T1),
    .op D64 (.build [.int .u64 (.ofNat (nat_lit 0)), .int .u64 (.ofNat (nat_lit 0)), .int .u64 (.ofNat (nat_lit 0)), .int .u64 (.ofNat (nat_lit 0)), .int .u64 (.ofNat (nat_lit 0))] [((nat_lit 0), (nat_lit 1), .c (.int .u64 (.ofNat (nat_lit 21)))), ((nat_lit 1), (nat_lit 1), .c (.int .u64 (.ofNat (nat_lit 2)))), ((nat_lit 2), (nat_lit 1), .c (.int .u64 (.ofNat (nat_lit 5)))), ((nat_lit 3), (nat_lit 1), .c (.int .u64 (.ofNat (nat_lit 77))))]),
    .op D65 (.call (nat_lit 25) [T63, .c (.int .i64 (.ofNat (nat_lit 0))), T64])])
  (.seq (.reg [.op D67 (.mv T1),
    .op D68 (.build [.int .u64 (.ofNat (nat_lit 0)), .int .u64 (.ofNat (nat_lit 0)), .int .u64 (.ofNat (nat_lit 0)), .int .u64 (.ofNat (nat_lit 0)), .int .u64 (.ofNat (nat_lit 0))] [((nat_lit 0), (nat_lit 1), .c (.int .u64 (.ofNat (nat_lit 20)))), ((nat_lit 1), (nat_lit 1), .c (.int .u64 (.ofNat (nat_lit 2)))), ((nat_lit 2), (nat_lit 1), .c (.int .u64 (.ofNat (nat_lit 5))))]),
    .op D69 (.call (nat_lit 25) [T67, .c (.int .i64 (.ofNat (nat_lit 0))), T68]),
    .op D66 (.mv T69),
    .op D70 (.ex (nat_lit 0) T66),
    .op D71 (.ex (nat_lit 1) T66),
    .op D11 (.new [.int .i64 (.ofNat (nat_lit 0)), .int .u64 (.ofNat (nat_lit 0))]),
    .op .no (.st (nat_lit 2) T11 T70),
    .op D12 (.mv T71)])
  (.seq (.reg [.op D72 (.mv T2),
    .op D73 (.call (nat_lit 18) [T72, .c (.int .i64 (.ofNat (nat_lit 0))), .c (.int .i64 (.ofNat (nat_lit 1))), .c (.int .i64 (.ofNat (nat_lit 1)))]),
    .op D74 (.mv T2),
    .op D75 (.call (nat_lit 19) [T74, .c (.int .i64 (.ofNat (nat_lit 0))), .c (.int .i64 (.ofNat (nat_lit 1))), .c (.int .i64 (.ofNat (nat_lit 1))), .c (.int .i64 (.ofNat (nat_lit 3))), .c (.int .i64 (.ofNat (nat_lit 1)))]),
    .op D13 (.mv T73),
    .op D14 (.mv T75)])
  (.seq (.reg [.op D77 (.mv T3),
    .op D78 (.call (nat_lit 33) [T77, .c (.int .i64 (.ofNat (nat_lit 0)))]),
    .op D76 (.mv T78),
    .op D79 (.ex (nat_lit 0) T76),
    .op D80 (.ex (nat_lit 1) T76),
    .op D15 (.mv T79),
    .op D16 (.mv T80)])
  (.seq (.reg [.op D81 (.mv T3),
    .op D82 (.mv T15),
    .op D83 (.call (nat_lit 34) [T81, .c (.int .i64 (.ofNat (nat_lit 1))), T82]),
    .op D17 (.mv T83)])
  (.seq (.reg [.op D84 (.mv T5),
    .op D85 (.build [.int .i64 (.ofNat (nat_lit 0)), .int .i64 (.ofNat (nat_lit 0)), .int .i64 (.ofNat (nat_lit 0))] [((nat_lit 0), (nat_lit 1), .c (.int .i64 (.ofNat (nat_lit 1)))), ((nat_lit 1), (nat_lit 1), .c (.int .i64 (.ofNat (nat_lit 1)))), ((nat_lit 2), (nat_lit 1), .c (.int .i64 (.ofNat (nat_lit 1))))]),
    .op D86 (.call (nat_lit 12) [T84, .c (.int .i64 (.ofNat (nat_lit 2))), T85]),
    .op D18 (.mv T86)])
  (.seq (.reg [.op D88 (.mv T4),
    .op D89 (.mv T5),
    .op D90 (.mv T6),
    .op D91 (.build [.int .u64 (.ofNat (nat_lit 0)), .int .u64 (.ofNat (nat_lit 0)), .int .u64 (.ofNat (nat_lit 0)), .int .u64 (.ofNat (nat_lit 0)), .int .u64 (.ofNat (nat_lit 0))] [((nat_lit 0), (nat_lit 1), .c (.int .u64 (.ofNat (nat_lit 20)))), ((nat_lit 1), (nat_lit 1), .c (.int .u64 (.ofNat (nat_lit 2)))), ((nat_lit 2), (nat_lit 1), .c (.int .u64 (.ofNat (nat_lit 3))))]),
    .op D92 (.call (nat_lit 35) [T88, T89, T90, .c (.int .i64 (.ofNat (nat_lit 0))), T91]),
    .op D87 (.mv T92),
    .op D93 (.ex (nat_lit 0) T87),
    .op D94 (.ex (nat_lit 1) T87),
    .op D19 (.new [.int .i64 (.ofNat (nat_lit 0)), .int .u64 (.ofNat (nat_lit 0))]),
    .op D20 (.new [.int .i64 (.ofNat (nat_lit 0)), .int .i64 (.ofNat (nat_lit 0)), .int .i64 (.ofNat (nat_lit 0)), .int .i64 (.ofNat (nat_lit 0))]),
    .op .no (.st (nat_lit 2) T19 T93),
    .op .no (.st (nat_lit 4) T20 T94)])
  (.seq (.reg [.op D95 (.mv T1),
    .op D96 (.build [.int .u64 (.ofNat (nat_lit 0)), .int .u64 (.ofNat (nat_lit 0)), .int .u64 (.ofNat (nat_lit 0)), .int .u64 (.ofNat (nat_lit 0)), .int .u64 (.ofNat (nat_lit 0))] [((nat_lit 0), (nat_lit 1), .c (.int .u64 (.ofNat (nat_lit 7)))), ((nat_lit 1), (nat_lit 1), .c (.int .u64 (.ofNat (nat_lit 5))))]),
    .op D97 (.call (nat_lit 28) [T95, .c (.int .i64 (.ofNat (nat_lit 0))), T96]),
    .op D21 (.mv T97)])
  (.seq (.reg [.op D98 (.call (nat_lit 36) []),
    .op D99 (.mv T98),
    .gop .n6 .n3 g99 (fun _ => rfl) true D100 (.mv T8),
    .op D101 (.pick T99 T100 (.c (.bool false))),
    .op D102 (.mv T101),
    .gop .n6 .n6 g102 (fun _ => rfl) true D103 (.fadd (nat_lit 0) T7),
    .gop .n6 .n6 g102 (fun _ => rfl) true D104 (.ld1 T103),
    .gop .n6 .n6 g102 (fun _ => rfl) true D105 (.bin .eql T104 (.c (.int .i64 (.ofNat (nat_lit 0))))),
    .op D106 (.pick T102 T105 (.c (.bool false))),
    .op D107 (.mv T106),
    .gop .n6 .n11 g107 (fun _ => rfl) true D108 (.fadd (nat_lit 0) T9),
    .gop .n6 .n11 g107 (fun _ => rfl) true D109 (.ld1 T108),
    .gop .n6 .n11 g107 (fun _ => rfl) true D110 (.bin .eql T109 (.c (.int .i64 (.ofNat (nat_lit 0))))),
    .op D111 (.pick T107 T110 (.c (.bool false))),
    .op D112 (.mv T111),
    .gop .n7 .n0 g112 (fun _ => rfl) true D113 (.fadd (nat_lit 1) T11),
    .gop .n7 .n0 g112 (fun _ => rfl) true D114 (.ld1 T113),
    .gop .n7 .n0 g112 (fun _ => rfl) true D115 (.bin .eql T114 (.c (.int .u64 (.ofNat (nat_lit 77))))),
    .op D116 (.pick T112 T115 (.c (.bool false))),
    .op D117 (.mv T116),
    .gop .n7 .n5 g117 (fun _ => rfl) true D118 (.mv T13),
    .gop .n7 .n5 g117 (fun _ => rfl) true D119 (.bin .eql T118 (.c (.int .i64 (.ofNat (nat_lit 0))))),
    .op D120 (.pick T117 T119 (.c (.bool false))),
    .op D121 (.mv T120),
    .gop .n7 .n9 g121 (fun _ => rfl) true D122 (.mv T14),
    .gop .n7 .n9 g121 (fun _ => rfl) true D123 (.bin .eql T122 (.c (.int .i64 (.ofNat (nat_lit 0))))),
    .op D124 (.pick T121 T123 (.c (.bool false))),
    .op D125 (.mv T124),
    .gop .n7 .n13 g125 (fun _ => rfl) true D126 (.mv T2),
    .gop .n7 .n13 g125 (fun _ => rfl) true D127 (.call (nat_lit 37) [T126, .c (.int .i64 (.ofNat (nat_lit 0))), .c (.int .i64 (.ofNat (nat_lit 1)))]),
    .gop .n7 .n13 g125 (fun _ => rfl) true D128 (.lenL T127),
    .gop .n7 .n13 g125 (fun _ => rfl) true D129 (.bin .eql T128 (.c (.int .i64 (.ofNat (nat_lit 1))))),
    .op D130 (.pick T125 T129 (.c (.bool false))),
    .op D131 (.mv T130),
    .gop .n8 .n3 g131 (fun _ => rfl) true D132 (.mv T15),
    .gop .n8 .n3 g131 (fun _ => rfl) true D133 (.bin .eql T132 (.c (.int .u64 (.ofNat (nat_lit 1))))),
    .op D134 (.pick T131 T133 (.c (.bool false))),
    .op D135 (.mv T134),
    .gop .n8 .n7 g135 (fun _ => rfl) true D136 (.mv T16),
    .op D137 (.pick T135 T136 (.c (.bool false))),
    .op D138 (.mv T137),
    .gop .n8 .n10 g138 (fun _ => rfl) true D139 (.mv T17),
    .op D140 (.pick T138 T139 (.c (.bool false))),
    .op D141 (.mv T140),
    .gop .n8 .n13 g141 (fun _ => rfl) true D142 (.mv T3),
    .gop .n8 .n13 g141 (fun _ => rfl) true D143 (.call (nat_lit 38) [T142, .c (.int .u64 (.ofNat (nat_lit 1)))]),
    .gop .n8 .n13 g141 (fun _ => rfl) true D144 (.un .not T143),
    .op D145 (.pick T141 T144 (.c (.bool false))),
    .op D146 (.mv T145),
    .gop .n9 .n2 g146 (fun _ => rfl) true D147 (.mv T3),
    .gop .n9 .n2 g146 (fun _ => rfl) true D148 (.call (nat_lit 39) [T147, .c (.int .u64 (.ofNat (nat_lit 1)))]),
    .gop .n9 .n2 g146 (fun _ => rfl) true D149 (.lenL T148),
    .gop .n9 .n2 g146 (fun _ => rfl) true D150 (.bin .eql T149 (.c (.int .i64 (.ofNat (nat_lit 1))))),
    .op D151 (.pick T146 T150 (.c (.bool false))),
    .op D152 (.mv T151),
    .gop .n9 .n8 g152 (fun _ => rfl) true D153 (.mv T18),
    .gop .n9 .n8 g152 (fun _ => rfl) true D154 (.bin .eql T153 (.c (.int .i64 (.ofNat (nat_lit 0))))),
    .op D155 (.pick T152 T154 (.c (.bool false))),
    .op D156 (.mv T155),
    .gop .n9 .n12 g156 (fun _ => rfl) true D157 (.fadd (nat_lit 0) T19),
    .gop .n9 .n12 g156 (fun _ => rfl) true D158 (.ld1 T157),
    .gop .n9 .n12 g156 (fun _ => rfl) true D159 (.bin .eql T158 (.c (.int .i64 (.ofNat (nat_lit 0))))),
    .op D160 (.pick T156 T159 (.c (.bool false))),
    .op D161 (.mv T160),
    .gop .n10 .n1 g161 (fun _ => rfl) true D162 (.fadd (nat_lit 2) T20),
    .gop .n10 .n1 g161 (fun _ => rfl) true D163 (.ld1 T162),
    .gop .n10 .n1 g161 (fun _ => rfl) true D164 (.bin .eql T163 (.c (.int .i64 (.ofNat (nat_lit 1))))),
    .op D165 (.pick T161 T164 (.c (.bool false))),
    .op D166 (.mv T165),
    .gop .n10 .n6 g166 (fun _ => rfl) true D167 (.call (nat_lit 40) [.c (.int .i64 (.ofNat (nat_lit 3))), .c (.int .u64 (.ofNat (nat_lit 3))), .c (.int .u64 (.ofNat (nat_lit 4)))]),
    .op D168 (.pick T166 T167 (.c (.bool false))),
    .op D169 (.mv T168),
    .gop .n10 .n9 g169 (fun _ => rfl) true D170 (.mv T21),
    .gop .n10 .n9 g169 (fun _ => rfl) true D171 (.call (nat_lit 42) [.c (.int .i64 (.ofNat (nat_lit 3)))]),
    .gop .n10 .n9 g169 (fun _ => rfl) true D172 (.call (nat_lit 41) [T170, T171]),
    .op D173 (.pick T169 T172 (.c (.bool false))),
    .op D174 (.mv T173),
    .gop .n10 .n14 g174 (fun _ => rfl) true D175 (.mv T1),
    .gop .n10 .n14 g174 (fun _ => rfl) true D176 (.call (nat_lit 26) [T175]),
    .gop .n10 .n14 g174 (fun _ => rfl) true D177 (.lenL T176),
    .gop .n10 .n14 g174 (fun _ => rfl) true D178 (.bin .eql T177 (.c (.int .i64 (.ofNat (nat_lit 1))))),
    .op D179 (.pick T174 T178 (.c (.bool false))),
    .op D0 (.mv T179)])
  (.ret))))))))))))))),
  [.t .n0 .n0 g0 (fun _ => rfl)]⟩
/-- messuage/tlb.New -/
noncomputable def ff9 : FFunc := ⟨.seq (.reg [.op D0 (.mv (.c (.nilp)))])
  (.seq (.reg [.op D2 (.build [.int .i64 (.ofNat (nat_lit 0)), .int .i64 (.ofNat (nat_lit 0)), .int .i64 (.ofNat (nat_lit 0)), .int .i64 (.ofNat (nat_lit 0)), .int .i64 (.ofNat (nat_lit 0)), .int .i64 (.ofNat (nat_lit 0)), .int .i64 (.ofNat (nat_lit 0)), .int .i64 (.ofNat (nat_lit 0)), .int .i64 (.ofNat (nat_lit 0)), .int .i64 (.ofNat (nat_lit 0)), .int .i64 (.ofNat (nat_lit 0)), .int .i64 (.ofNat (nat_lit 0)), .int .i64 (.ofNat (nat_lit 0)), .int .i64 (.ofNat (nat_lit 0)), .int .i64 (.ofNat (nat_lit 0)), .int .i64 (.ofNat (nat_lit 0)), .int .i64 (.ofNat (nat_lit 0)), .int .i64 (.ofNat (nat_lit 0)), .int .i64 (.ofNat (nat_lit 0)), .int .i64 (.ofNat (nat_lit 0)), .int .i64 (.ofNat (nat_lit 0)), .int .i64 (.ofNat (nat_lit 0)), .int .i64 (.ofNat (nat_lit 0)), .int .i64 (.ofNat (nat_lit 0)), .int .i64 (.ofNat (nat_lit 0)), .int .i64 (.ofNat (nat_lit 0)), .int .i64 (.ofNat (nat_lit 0)), .int .i64 (.ofNat (nat_lit 0)), .int .i64 (.ofNat (nat_lit 0)), .int .i64 (.ofNat (nat_lit 0)), .int .i64 (.ofNat (nat_lit 0)), .int .i64 (.ofNat (nat_lit 0)), .int .i64 (.ofNat (nat_lit 0)), .int .i64 (.ofNat (nat_lit 0)), .int .i64 (.ofNat (nat_lit 0)), .int .i64 (.ofNat (nat_lit 0)), .int .i64 (.ofNat (nat_lit 0)), .int .i64 (.ofNat (nat_lit 0)), .int .i64 (.ofNat (nat_lit 0)), .int .i64 (.ofNat (nat_lit 0)), .int .i64 (.ofNat (nat_lit 0))] []),
    .op D3 (.box (nat_lit 41) T2),
    .op D1 (.mv T3)])
  (.seq (.reg [.op D4 (.mv T1),
    .op D5 (.call (nat_lit 43) [T4])])
  (.seq (.reg [.op D6 (.mv T1),
    .op D0 (.mv T6)])
  (.ret)))),
  [.t .n0 .n0 g0 (fun _ => rfl)]⟩
/-- messuage/table.New -/
noncomputable def ff10 : FFunc := ⟨.seq (.reg [.op D0 (.mv (.c (.nilp)))])
  (.seq (.reg [.op D1 (.build [.int .i64 (.ofNat (nat_lit 0)), .int .i64 (.ofNat (nat_lit 0)), .int .i64 (.ofNat (nat_lit 0)), .int .i64 (.ofNat (nat_lit 0)), .int .i64 (.ofNat (nat_lit 0)), .int .i64 (.ofNat (nat_lit 0)), .int .i64 (.ofNat (nat_lit 0)), .int .i64 (.ofNat (nat_lit 0)), .int .i64 (.ofNat (nat_lit 0)), .int .i64 (.ofNat (nat_lit 0)), .int .i64 (.ofNat (nat_lit 0)), .int .i64 (.ofNat (nat_lit 0)), .int .i64 (.ofNat (nat_lit 0)), .int .i64 (.ofNat (nat_lit 0)), .int .i64 (.ofNat (nat_lit 0)), .int .i64 (.ofNat (nat_lit 0)), .int .i64 (.ofNat (nat_lit 0)), .int .i64 (.ofNat (nat_lit 0)), .int .i64 (.ofNat (nat_lit 0)), .int .i64 (.ofNat (nat_lit 0)), .int .i64 (.ofNat (nat_lit 0)), .int .i64 (.ofNat (nat_lit 0)), .int .i64 (.ofNat (nat_lit 0)), .int .i64 (.ofNat (nat_lit 0))] []),
    .op D2 (.box (nat_lit 24) T1),
    .op D0 (.mv T2)])
  (.ret)),
  [.t .n0 .n0 g0 (fun _ => rfl)]⟩
/-- (*messuage/tlb.Tlb).Fill -/
noncomputable def ff11 : FFunc := ⟨.seq (.reg [.op D3 (.box (nat_lit 4) T1),
    .op D4 (.mv (.c (.bool false)))])
  (.seq (.reg [.op D7 (.fadd (nat_lit 0) T3),
    .op D8 (.ld1 T7),
    .op D9 (.bin .lss T8 (.c (.int .i64 (.ofNat (nat_lit 0))))),
    .op D10 (.mv T9),
    .gop .n0 .n10 g10 (fun _ => rfl) false D11 (.fadd (nat_lit 0) T3),
    .gop .n0 .n10 g10 (fun _ => rfl) false D12 (.ld1 T11),
    .gop .n0 .n10 g10 (fun _ => rfl) false D13 (.bin .geq T12 (.c (.int .i64 (.ofNat (nat_lit 4))))),
    .op D14 (.pick T10 (.c (.bool true)) T13),
    .op D15 (.mv T14),
    .gop .n0 .n15 g15 (fun _ => rfl) false D16 (.fadd (nat_lit 1) T3),
    .gop .n0 .n15 g15 (fun _ => rfl) false D17 (.ld1 T16),
    .gop .n0 .n15 g15 (fun _ => rfl) false D18 (.bin .lss T17 (.c (.int .i64 (.ofNat (nat_lit 0))))),
    .op D19 (.pick T15 (.c (.bool true)) T18),
    .op D20 (.mv T19),
    .gop .n1 .n4 g20 (fun _ => rfl) false D21 (.fadd (nat_lit 1) T3),
    .gop .n1 .n4 g20 (fun _ => rfl) false D22 (.ld1 T21),
    .gop .n1 .n4 g20 (fun _ => rfl) false D23 (.bin .geq T22 (.c (.int .i64 (.ofNat (nat_lit 8))))),
    .op D24 (.pick T20 (.c (.bool true)) T23),
    .op D25 (.mv T24),
    .gop .n1 .n9 g25 (fun _ => rfl) false D26 (.fadd (nat_lit 2) T3),
    .gop .n1 .n9 g25 (fun _ => rfl) false D27 (.ld1 T26),
    .gop .n1 .n9 g25 (fun _ => rfl) false D28 (.bin .lss T27 (.c (.int .i64 (.ofNat (nat_lit 0))))),
    .op D29 (.pick T25 (.c (.bool true)) T28),
    .op D30 (.mv T29),
    .gop .n1 .n14 g30 (fun _ => rfl) false D31 (.fadd (nat_lit 2) T3),
    .gop .n1 .n14 g30 (fun _ => rfl) false D32 (.ld1 T31),
    .gop .n1 .n14 g30 (fun _ => rfl) false D33 (.bin .geq T32 (.c (.int .i64 (.ofNat (nat_lit 16))))),
    .op D34 (.pick T30 (.c (.bool true)) T33),
    .op D5 (.mv T34)])
  (.seq (.seq (.reg [.op D35 (.mv T0),
    .op D36 (.eq false (.sc .ptr) T35 (.c (.nilp))),
    .op D37 (.mv T36),
    .gop .n2 .n5 g37 (fun _ => rfl) false D38 (.mv T5),
    .op D39 (.pick T37 (.c (.bool true)) T38),
    .op D40 (.mv T39),
    .gop .n2 .n8 g40 (fun _ => rfl) false D41 (.fadd (nat_lit 3) T3),
    .gop .n2 .n8 g40 (fun _ => rfl) false D42 (.ld1 T41),
    .gop .n2 .n8 g40 (fun _ => rfl) false D43 (.call (nat_lit 44) [T42]),
    .gop .n2 .n8 g40 (fun _ => rfl) false D44 (.un .not T43),
    .op D45 (.pick T40 (.c (.bool true)) T44)])
  (.cond T45 (.seq (.reg [.op D4 (.mv (.c (.bool false)))])
  (.ret))
  (.skip)))
  (.seq (.reg [.op D46 (.mv T0),
    .op D47 (.fadd (nat_lit 0) T3),
    .op D48 (.ld1 T47),
    .op D49 (.fadd (nat_lit 1) T3),
    .op D50 (.ld1 T49),
    .op D51 (.call (nat_lit 45) [T46, T48, T50]),
    .op D6 (.mv T51)])
  (.seq (.seq (.reg [.op D52 (.mv T6),
    .op D53 (.eq false (.sc .ptr) T52 (.c (.nilp)))])
  (.cond T53 (.reg [.op D54 (.mv T0),
    .op D55 (.fadd (nat_lit 1) T3),
    .op D56 (.ld1 T55),
    .op D57 (.bin .rem T56 (.c (.int .i64 (.ofNat (nat_lit 4))))),
    .op D58 (.call (nat_lit 46) [T54, T57]),
    .op D6 (.mv T58)])
  (.skip)))
  (.seq (.reg [.op D59 (.mv T0),
    .op D60 (.nilck T59),
    .op D61 (.fadd (nat_lit 40) T60),
    .op D62 (.ld1 T61),
    .op D63 (.bin .add T62 (.c (.int .i64 (.ofNat (nat_lit 1))))),
    .op D64 (.nilck T59),
    .op D65 (.fadd (nat_lit 40) T64),
    .op .no (.st (nat_lit 1) T65 T63)])
  (.seq (.drw [.op D66 (.mv T6),
    .op D67 (.ldA (nat_lit 4) T3),
    .op D68 (.mv T0),
    .op D69 (.nilck T68),
    .op D70 (.fadd (nat_lit 40) T69),
    .op D71 (.ld1 T70),
    .op D72 (.build [.int .i64 (.ofNat (nat_lit 0)), .int .i64 (.ofNat (nat_lit 0)), .int .i64 (.ofNat (nat_lit 0)), .int .i64 (.ofNat (nat_lit 0)), .int .i64 (.ofNat (nat_lit 0))] [((nat_lit 0), (nat_lit 4), T67), ((nat_lit 4), (nat_lit 1), T71)]),
    .op D73 (.nilck T66),
    .op .no (.st (nat_lit 5) T73 T72)] [])
  (.seq (.reg [.op D4 (.mv (.c (.bool true)))])
  (.ret)))))))),
  [.t .n0 .n4 g4 (fun _ => rfl)]⟩
/-- (*messuage/table.Table).Insert -/
noncomputable def ff12 : FFunc := ⟨.seq (.reg [.op D5 (.box (nat_lit 3) T2),
    .op D6 (.mv (.c (.int .i64 (.ofNat (nat_lit 0)))))])
  (.seq (.seq (.reg [.op D9 (.mv T0),
    .op D10 (.eq false (.sc .ptr) T9 (.c (.nilp)))])
  (.cond T10 (.seq (.reg [.op D6 (.mv (.c (.int .i64 (.ofNat (nat_lit 10)))))])
  (.ret))
  (.skip)))
  (.seq (.seq (.reg [.op D12 (.ldA (nat_lit 3) T5),
    .op D13 (.call (nat_lit 47) [T12]),
    .op D11 (.mv T13),
    .op D14 (.ex (nat_lit 0) T11),
    .op D15 (.ex (nat_lit 1) T11),
    .op D7 (.mv T14),
    .op D8 (.mv T15)])
  (.seq (.reg [.op D16 (.mv T8),
    .op D17 (.un .not T16),
    .op D18 (.mv T17),
    .gop .n1 .n2 g18 (fun _ => rfl) false D19 (.fadd (nat_lit 2) T5),
    .gop .n1 .n2 g18 (fun _ => rfl) false D20 (.ld1 T19),
    .gop .n1 .n2 g18 (fun _ => rfl) false D21 (.bin .eql T20 (.c (.int .i64 (.ofNat (nat_lit 0))))),
    .op D22 (.pick T18 (.c (.bool true)) T21),
    .op D23 (.mv T22),
    .gop .n1 .n7 g23 (fun _ => rfl) false D24 (.mv T1),
    .gop .n1 .n7 g23 (fun _ => rfl) false D25 (.call (nat_lit 48) [T24]),
    .gop .n1 .n7 g23 (fun _ => rfl) false D26 (.un .not T25),
    .op D27 (.pick T23 (.c (.bool true)) T26)])
  (.cond T27 (.seq (.reg [.op D6 (.mv (.c (.int .i64 (.ofNat (nat_lit 2)))))])
  (.ret))
  (.skip))))
  (.seq (.seq (.reg [.op D28 (.mv T0),
    .op D29 (.mv T1),
    .op D30 (.nilck T28),
    .op D31 (.fadd (nat_lit 0) T30),
    .op D32 (.ixaA (nat_lit 8) (nat_lit 3) T31 T29),
    .op D33 (.fadd (nat_lit 2) T32),
    .op D34 (.ld1 T33),
    .op D35 (.bin .neq T34 (.c (.int .i64 (.ofNat (nat_lit 0)))))])
  (.cond T35 (.seq (.reg [.op D6 (.mv (.c (.int .i64 (.ofNat (nat_lit 4)))))])
  (.ret))
  (.skip)))
  (.seq (.drw [.op D36 (.mv T0),
    .op D37 (.mv T1),
    .op D38 (.ldA (nat_lit 3) T5),
    .op D39 (.nilck T36),
    .op D40 (.fadd (nat_lit 0) T39),
    .op D41 (.ixaA (nat_lit 8) (nat_lit 3) T40 T37),
    .op .no (.st (nat_lit 3) T41 T38)] [])
  (.seq (.reg [.op D6 (.mv (.c (.int .i64 (.ofNat (nat_lit 0)))))])
  (.ret)))))),
  [.t .n0 .n6 g6 (fun _ => rfl)]⟩
/-- (*messuage/tlb.Tlb).Find -/
noncomputable def ff13 : FFunc := ⟨.seq (.reg [.op D6 (.new [.int .i64 (.ofNat (nat_lit 0)), .int .i64 (.ofNat (nat_lit 0)), .int .i64 (.ofNat (nat_lit 0)), .int .i64 (.ofNat (nat_lit 0))]),
    .op D7 (.mv (.c (.bool false)))])
  (.seq (.reg [.op D9 (.mv T0),
    .op D10 (.mv T1),
    .op D11 (.mv T2),
    .op D12 (.call (nat_lit 45) [T9, T10, T11]),
    .op D8 (.mv T12)])
  (.seq (.seq (.reg [.op D13 (.mv T8),
    .op D14 (.eq false (.sc .ptr) T13 (.c (.nilp)))])
  (.cond T14 (.seq (.reg [.op D15 (.build [.int .i64 (.ofNat (nat_lit 0)), .int .i64 (.ofNat (nat_lit 0)), .int .i64 (.ofNat (nat_lit 0)), .int .i64 (.ofNat (nat_lit 0))] []),
    .op .no (.st (nat_lit 4) T6 T15),
    .op D7 (.mv (.c (.bool false)))])
  (.ret))
  (.skip)))
  (.seq (.reg [.op D16 (.mv T8),
    .op D17 (.nilck T16),
    .op D18 (.fadd (nat_lit 0) T17),
    .op D19 (.ldA (nat_lit 4) T18),
    .op .no (.st (nat_lit 4) T6 T19),
    .op D7 (.mv (.c (.bool true)))])
  (.ret)))),
  [.cellA .n0 .n6 g6 (fun _ => rfl) (nat_lit 4), .t .n0 .n7 g7 (fun _ => rfl)]⟩
/-- (*messuage/table.Table).At -/
noncomputable def ff14 : FFunc := ⟨.seq (.reg [.op D4 (.new [.int .i64 (.ofNat (nat_lit 0)), .int .i64 (.ofNat (nat_lit 0)), .int .i64 (.ofNat (nat_lit 0))]),
    .op D5 (.mv (.c (.bool false)))])
  (.seq (.seq (.reg [.op D6 (.mv T0),
    .op D7 (.eq false (.sc .ptr) T6 (.c (.nilp))),
    .op D8 (.mv T7),
    .gop .n0 .n8 g8 (fun _ => rfl) false D9 (.mv T1),
    .gop .n0 .n8 g8 (fun _ => rfl) false D10 (.call (nat_lit 48) [T9]),
    .gop .n0 .n8 g8 (fun _ => rfl) false D11 (.un .not T10),
    .op D12 (.pick T8 (.c (.bool true)) T11),
    .op D13 (.mv T12),
    .gop .n0 .n13 g13 (fun _ => rfl) false D14 (.mv T0),
    .gop .n0 .n13 g13 (fun _ => rfl) false D15 (.mv T1),
    .gop .n0 .n13 g13 (fun _ => rfl) false D16 (.nilck T14),
    .gop .n0 .n13 g13 (fun _ => rfl) false D17 (.fadd (nat_lit 0) T16),
    .gop .n0 .n13 g13 (fun _ => rfl) false D18 (.ixaA (nat_lit 8) (nat_lit 3) T17 T15),
    .gop .n0 .n13 g13 (fun _ => rfl) false D19 (.fadd (nat_lit 2) T18),
    .gop .n0 .n13 g13 (fun _ => rfl) false D20 (.ld1 T19),
    .gop .n0 .n13 g13 (fun _ => rfl) false D21 (.bin .eql T20 (.c (.int .i64 (.ofNat (nat_lit 0))))),
    .op D22 (.pick T13 (.c (.bool true)) T21)])
  (.cond T22 (.seq (.reg [.op D23 (.build [.int .i64 (.ofNat (nat_lit 0)), .int .i64 (.ofNat (nat_lit 0)), .int .i64 (.ofNat (nat_lit 0))] []),
    .op .no (.st (nat_lit 3) T4 T23),
    .op D5 (.mv (.c (.bool false)))])
  (.ret))
  (.skip)))
  (.seq (.reg [.op D24 (.mv T0),
    .op D25 (.mv T1),
    .op D26 (.nilck T24),
    .op D27 (.fadd (nat_lit 0) T26),
    .op D28 (.ixaA (nat_lit 8) (nat_lit 3) T27 T25),
    .op D29 (.ldA (nat_lit 3) T28),
    .op .no (.st (nat_lit 3) T4 T29),
    .op D5 (.mv (.c (.bool true)))])
  (.ret))),
  [.cellA .n0 .n4 g4 (fun _ => rfl) (nat_lit 3), .t .n0 .n5 g5 (fun _ => rfl)]⟩
/-- messuage/user.Walk -/
noncomputable def ff15 : FFunc := ⟨.seq (.reg [.op D10 (.new [.int .i64 (.ofNat (nat_lit 0)), .int .i64 (.ofNat (nat_lit 0)), .int .i64 (.ofNat (nat_lit 0)), .int .i64 (.ofNat (nat_lit 0))]),
    .op D11 (.mv (.c (.bool false)))])
  (.seq (.seq (.reg [.op D18 (.mv T0),
    .op D19 (.mv T2),
    .op D20 (.mv T3),
    .op D21 (.call (nat_lit 13) [T18, T19, T20]),
    .op D17 (.mv T21),
    .op D22 (.ex (nat_lit 0) T17),
    .op D23 (.ex (nat_lit 1) T17),
    .op D12 (.new [.int .i64 (.ofNat (nat_lit 0)), .int .i64 (.ofNat (nat_lit 0)), .int .i64 (.ofNat (nat_lit 0)), .int .i64 (.ofNat (nat_lit 0))]),
    .op .no (.st (nat_lit 4) T12 T22),
    .op D13 (.mv T23)])
  (.seq (.reg [.op D24 (.mv T13),
    .op D25 (.mv T24),
    .gop .n1 .n9 g25 (fun _ => rfl) true D26 (.fadd (nat_lit 3) T12),
    .gop .n1 .n9 g25 (fun _ => rfl) true D27 (.ld1 T26),
    .gop .n1 .n9 g25 (fun _ => rfl) true D28 (.mv T4),
    .gop .n1 .n9 g25 (fun _ => rfl) true D29 (.call (nat_lit 49) [T27, T28]),
    .op D30 (.pick T25 T29 (.c (.bool false)))])
  (.cond T30 (.seq (.reg [.op D31 (.ldA (nat_lit 4) T12),
    .op .no (.st (nat_lit 4) T10 T31),
    .op D11 (.mv (.c (.bool true)))])
  (.ret))
  (.skip))))
  (.seq (.reg [.op D33 (.mv T1),
    .op D34 (.mv T3),
    .op D35 (.call (nat_lit 14) [T33, T34]),
    .op D32 (.mv T35),
    .op D36 (.ex (nat_lit 0) T32),
    .op D37 (.ex (nat_lit 1) T32),
    .op D14 (.new [.int .i64 (.ofNat (nat_lit 0)), .int .i64 (.ofNat (nat_lit 0)), .int .i64 (.ofNat (nat_lit 0))]),
    .op .no (.st (nat_lit 3) T14 T36),
    .op D15 (.mv T37)])
  (.seq (.seq (.reg [.op D38 (.fadd (nat_lit 2) T14),
    .op D39 (.ld1 T38),
    .op D40 (.mv T4),
    .op D41 (.call (nat_lit 49) [T39, T40]),
    .op D42 (.un .not T41)])
  (.cond T42 (.seq (.reg [.op D43 (.mv T0),
    .op D44 (.mv T2),
    .op D45 (.mv T3),
    .op D46 (.call (nat_lit 50) [T43, T44, T45])])
  (.seq (.reg [.op D47 (.build [.int .i64 (.ofNat (nat_lit 0)), .int .i64 (.ofNat (nat_lit 0)), .int .i64 (.ofNat (nat_lit 0)), .int .i64 (.ofNat (nat_lit 0))] []),
    .op .no (.st (nat_lit 4) T10 T47),
    .op D11 (.mv (.c (.bool false)))])
  (.ret)))
  (.skip)))
  (.seq (.reg [.op D48 (.mv T2),
    .op D49 (.mv T3),
    .op D50 (.fadd (nat_lit 0) T14),
    .op D51 (.ld1 T50),
    .op D52 (.fadd (nat_lit 2) T14),
    .op D53 (.ld1 T52),
    .op D54 (.build [.int .i64 (.ofNat (nat_lit 0)), .int .i64 (.ofNat (nat_lit 0)), .int .i64 (.ofNat (nat_lit 0)), .int .i64 (.ofNat (nat_lit 0))] [((nat_lit 0), (nat_lit 1), T48), ((nat_lit 1), (nat_lit 1), T49), ((nat_lit 2), (nat_lit 1), T51), ((nat_lit 3), (nat_lit 1), T53)]),
    .op D16 (.new [.int .i64 (.ofNat (nat_lit 0)), .int .i64 (.ofNat (nat_lit 0)), .int .i64 (.ofNat (nat_lit 0)), .int .i64 (.ofNat (nat_lit 0))]),
    .op .no (.st (nat_lit 4) T16 T54)])
  (.seq (.reg [.op D55 (.mv T0),
    .op D56 (.ldA (nat_lit 4) T16),
    .op D57 (.call (nat_lit 11) [T55, T56])])
  (.seq (.reg [.op D58 (.ldA (nat_lit 4) T16),
    .op .no (.st (nat_lit 4) T10 T58),
    .op D11 (.mv (.c (.bool true)))])
  (.ret))))))),
  [.cellA .n0 .n10 g10 (fun _ => rfl) (nat_lit 4), .t .n0 .n11 g11 (fun _ => rfl)]⟩
/-- messuage/messuageref2.Lets -/
noncomputable def ff16 : FFunc := ⟨.seq (.reg [.op D4 (.mv (.c (.bool false)))])
  (.seq (.seq (.reg [.op D5 (.mv T0),
    .op D6 (.call (nat_lit 20) [T5]),
    .op D7 (.un .not T6)])
  (.cond T7 (.seq (.reg [.op D4 (.mv (.c (.bool false)))])
  (.ret))
  (.skip)))
  (.seq (.seq (.reg [.op D8 (.mv T1)])
  (.block (nat_lit 0) (.seq (.reg [.op D10 (.bin .eql T8 (.c (.int .i64 (.ofNat (nat_lit 20))))),
    .op D9 (.mv T10)])
  (.cond T9 (.seq (.reg [.op D11 (.mv T0),
    .op D12 (.bin .rem T11 (.c (.int .i64 (.ofNat (nat_lit 2))))),
    .op D13 (.bin .eql T12 (.c (.int .i64 (.ofNat (nat_lit 1))))),
    .op D4 (.mv T13)])
  (.ret))
  (.seq (.reg [.op D15 (.bin .eql T8 (.c (.int .i64 (.ofNat (nat_lit 21))))),
    .op D14 (.mv T15)])
  (.cond T14 (.seq (.reg [.op D16 (.mv T0),
    .op D17 (.bin .geq T16 (.c (.int .i64 (.ofNat (nat_lit 2))))),
    .op D4 (.mv T17)])
  (.ret))
  (.seq (.seq (.reg [.op D19 (.bin .eql T8 (.c (.int .i64 (.ofNat (nat_lit 22))))),
    .op D18 (.mv T19)])
  (.cond T18 (.skip)
  (.reg [.op D20 (.bin .eql T8 (.c (.int .i64 (.ofNat (nat_lit 23))))),
    .op D18 (.mv T20)])))
  (.cond T18 (.seq (.reg [.op D21 (.mv T0),
    .op D22 (.bin .eql T21 (.c (.int .i64 (.ofNat (nat_lit 3))))),
    .op D4 (.mv T22)])
  (.ret))
  (.skip)))))))))
  (.seq (.reg [.op D4 (.mv (.c (.bool false)))])
  (.ret)))),
  [.t .n0 .n4 g4 (fun _ => rfl)]⟩
/-- messuage/caps.New -/
noncomputable def ff17 : FFunc := ⟨.seq (.reg [.op D2 (.mv (.c (.nilp)))])
  (.seq (.seq (.reg [.op D3 (.mv T0),
    .op D4 (.bin .lss T3 (.c (.int .i64 (.ofNat (nat_lit 1))))),
    .op D5 (.mv T4),
    .gop .n0 .n5 g5 (fun _ => rfl) false D6 (.mv T0),
    .gop .n0 .n5 g5 (fun _ => rfl) false D7 (.bin .gtr T6 (.c (.int .i64 (.ofNat (nat_lit 4))))),
    .op D8 (.pick T5 (.c (.bool true)) T7)])
  (.cond T8 (.seq (.reg [.op D2 (.mv (.c (.nilp)))])
  (.ret))
  (.skip)))
  (.seq (.reg [.op D9 (.mv T0),
    .op D10 (.mksl (nat_lit 32) (nat_lit 256) [.int .i64 (.ofNat (nat_lit 0)), .int .i64 (.ofNat (nat_lit 0)), .int .i64 (.ofNat (nat_lit 0)), .int .i64 (.ofNat (nat_lit 0)), .int .i64 (.ofNat (nat_lit 0)), .int .i64 (.ofNat (nat_lit 0)), .int .i64 (.ofNat (nat_lit 0)), .int .i64 (.ofNat (nat_lit 0)), .int .i64 (.ofNat (nat_lit 0)), .int .i64 (.ofNat (nat_lit 0)), .int .i64 (.ofNat (nat_lit 0)), .int .i64 (.ofNat (nat_lit 0)), .int .i64 (.ofNat (nat_lit 0)), .int .i64 (.ofNat (nat_lit 0)), .int .i64 (.ofNat (nat_lit 0)), .int .i64 (.ofNat (nat_lit 0)), .int .i64 (.ofNat (nat_lit 0)), .int .i64 (.ofNat (nat_lit 0)), .int .i64 (.ofNat (nat_lit 0)), .int .i64 (.ofNat (nat_lit 0)), .int .i64 (.ofNat (nat_lit 0)), .int .i64 (.ofNat (nat_lit 0)), .int .i64 (.ofNat (nat_lit 0)), .int .i64 (.ofNat (nat_lit 0)), .int .i64 (.ofNat (nat_lit 0)), .int .i64 (.ofNat (nat_lit 0)), .int .i64 (.ofNat (nat_lit 0)), .int .i64 (.ofNat (nat_lit 0)), .int .i64 (.ofNat (nat_lit 0)), .int .i64 (.ofNat (nat_lit 0)), .int .i64 (.ofNat (nat_lit 0)), .int .i64 (.ofNat (nat_lit 0))] T9 T9),
    .op D11 (.build [.nils] [((nat_lit 0), (nat_lit 1), T10)]),
    .op D12 (.box (nat_lit 1) T11),
    .op D2 (.mv T12)])
  (.ret))),
  [.t .n0 .n2 g2 (fun _ => rfl)]⟩
/-- (*messuage/caps.Tree).Root -/
noncomputable def ff18 : FFunc := ⟨.seq (.reg [.op D8 (.mv (.c (.int .i64 (.ofNat (nat_lit 0)))))])
  (.seq (.block (nat_lit 0) (.seq (.reg [.op D10 (.mv T0),
    .op D11 (.eq false (.sc .ptr) T10 (.c (.nilp))),
    .op D9 (.mv T11)])
  (.cond T9 (.seq (.reg [.op D8 (.mv (.c (.int .i64 (.ofNat (nat_lit 10)))))])
  (.ret))
  (.seq (.reg [.op D13 (.mv T0),
    .op D14 (.mv T1),
    .op D15 (.mv T2),
    .op D16 (.call (nat_lit 51) [T13, T14, T15]),
    .op D17 (.un .not T16),
    .op D18 (.mv T17),
    .gop .n1 .n2 g18 (fun _ => rfl) false D19 (.mv T3),
    .gop .n1 .n2 g18 (fun _ => rfl) false D20 (.bin .lss T19 (.c (.int .i64 (.ofNat (nat_lit 0))))),
    .op D21 (.pick T18 (.c (.bool true)) T20),
    .op D22 (.mv T21),
    .gop .n1 .n6 g22 (fun _ => rfl) false D23 (.mv T3),
    .gop .n1 .n6 g22 (fun _ => rfl) false D24 (.bin .geq T23 (.c (.int .i64 (.ofNat (nat_lit 16))))),
    .op D25 (.pick T22 (.c (.bool true)) T24),
    .op D12 (.mv T25)])
  (.cond T12 (.seq (.reg [.op D8 (.mv (.c (.int .i64 (.ofNat (nat_lit 2)))))])
  (.ret))
  (.seq (.reg [.op D27 (.mv T0),
    .op D28 (.nilck T27),
    .op D29 (.fadd (nat_lit 0) T28),
    .op D30 (.ld1 T29),
    .op D31 (.mv T1),
    .op D32 (.mv T2),
    .op D33 (.ixaS (nat_lit 32) T30 T31),
    .op D34 (.ixaA (nat_lit 8) (nat_lit 4) T33 T32),
    .op D35 (.fadd (nat_lit 1) T34),
    .op D36 (.ld1 T35),
    .op D37 (.bin .neq T36 (.c (.int .i64 (.ofNat (nat_lit 0))))),
    .op D26 (.mv T37)])
  (.cond T26 (.seq (.reg [.op D8 (.mv (.c (.int .i64 (.ofNat (nat_lit 4)))))])
  (.ret))
  (.skip))))))))
  (.seq (.reg [.op D38 (.mv T0),
    .op D39 (.nilck T38),
    .op D40 (.fadd (nat_lit 0) T39),
    .op D41 (.ld1 T40),
    .op D42 (.mv T1),
    .op D43 (.mv T2),
    .op D44 (.mv T3),
    .op D45 (.build [.int .i64 (.ofNat (nat_lit 0)), .int .i64 (.ofNat (nat_lit 0)), .int .i64 (.ofNat (nat_lit 0)), .int .i64 (.ofNat (nat_lit 0))] [((nat_lit 0), (nat_lit 1), T44), ((nat_lit 1), (nat_lit 1), .c (.int .i64 (.ofNat (nat_lit 3)))), ((nat_lit 2), (nat_lit 1), .c (.int .i64 (.negSucc (nat_lit 0))))]),
    .op D46 (.ixaS (nat_lit 32) T41 T42),
    .op D47 (.ixaA (nat_lit 8) (nat_lit 4) T46 T43),
    .op .no (.st (nat_lit 4) T47 T45)])
  (.seq (.reg [.op D8 (.mv (.c (.int .i64 (.ofNat (nat_lit 0)))))])
  (.ret)))),
  [.t .n0 .n8 g8 (fun _ => rfl)]⟩
/-- (*messuage/caps.Tree).Derive -/
noncomputable def ff19 : FFunc := ⟨.seq (.reg [.op D12 (.mv (.c (.int .i64 (.ofNat (nat_lit 0)))))])
  (.seq (.seq (.reg [.op D14 (.mv T0),
    .op D15 (.eq false (.sc .ptr) T14 (.c (.nilp)))])
  (.cond T15 (.seq (.reg [.op D12 (.mv (.c (.int .i64 (.ofNat (nat_lit 10)))))])
  (.ret))
  (.skip)))
  (.seq (.seq (.reg [.op D16 (.mv T0),
    .op D17 (.mv T1),
    .op D18 (.mv T2),
    .op D19 (.call (nat_lit 51) [T16, T17, T18]),
    .op D20 (.un .not T19),
    .op D21 (.mv T20),
    .gop .n1 .n5 g21 (fun _ => rfl) false D22 (.mv T0),
    .gop .n1 .n5 g21 (fun _ => rfl) false D23 (.mv T3),
    .gop .n1 .n5 g21 (fun _ => rfl) false D24 (.mv T4),
    .gop .n1 .n5 g21 (fun _ => rfl) false D25 (.call (nat_lit 51) [T22, T23, T24]),
    .gop .n1 .n5 g21 (fun _ => rfl) false D26 (.un .not T25),
    .op D27 (.pick T21 (.c (.bool true)) T26),
    .op D28 (.mv T27),
    .gop .n1 .n12 g28 (fun _ => rfl) false D29 (.mv T5),
    .gop .n1 .n12 g28 (fun _ => rfl) false D30 (.call (nat_lit 44) [T29]),
    .gop .n1 .n12 g28 (fun _ => rfl) false D31 (.un .not T30),
    .op D32 (.pick T28 (.c (.bool true)) T31)])
  (.cond T32 (.seq (.reg [.op D12 (.mv (.c (.int .i64 (.ofNat (nat_lit 2)))))])
  (.ret))
  (.skip)))
  (.seq (.reg [.op D33 (.mv T0),
    .op D34 (.nilck T33),
    .op D35 (.fadd (nat_lit 0) T34),
    .op D36 (.ld1 T35),
    .op D37 (.mv T1),
    .op D38 (.mv T2),
    .op D39 (.ixaS (nat_lit 32) T36 T37),
    .op D40 (.ixaA (nat_lit 8) (nat_lit 4) T39 T38),
    .op D41 (.ldA (nat_lit 4) T40),
    .op D13 (.new [.int .i64 (.ofNat (nat_lit 0)), .int .i64 (.ofNat (nat_lit 0)), .int .i64 (.ofNat (nat_lit 0)), .int .i64 (.ofNat (nat_lit 0))]),
    .op .no (.st (nat_lit 4) T13 T41)])
  (.seq (.block (nat_lit 0) (.seq (.reg [.op D43 (.fadd (nat_lit 1) T13),
    .op D44 (.ld1 T43),
    .op D45 (.bin .eql T44 (.c (.int .i64 (.ofNat (nat_lit 0))))),
    .op D42 (.mv T45)])
  (.cond T42 (.seq (.reg [.op D12 (.mv (.c (.int .i64 (.ofNat (nat_lit 3)))))])
  (.ret))
  (.seq (.reg [.op D47 (.mv T0),
    .op D48 (.nilck T47),
    .op D49 (.fadd (nat_lit 0) T48),
    .op D50 (.ld1 T49),
    .op D51 (.mv T3),
    .op D52 (.mv T4),
    .op D53 (.ixaS (nat_lit 32) T50 T51),
    .op D54 (.ixaA (nat_lit 8) (nat_lit 4) T53 T52),
    .op D55 (.fadd (nat_lit 1) T54),
    .op D56 (.ld1 T55),
    .op D57 (.bin .neq T56 (.c (.int .i64 (.ofNat (nat_lit 0))))),
    .op D46 (.mv T57)])
  (.cond T46 (.seq (.reg [.op D12 (.mv (.c (.int .i64 (.ofNat (nat_lit 4)))))])
  (.ret))
  (.seq (.reg [.op D59 (.mv T5),
    .op D60 (.fadd (nat_lit 1) T13),
    .op D61 (.ld1 T60),
    .op D62 (.call (nat_lit 52) [T59, T61]),
    .op D63 (.un .not T62),
    .op D58 (.mv T63)])
  (.cond T58 (.seq (.reg [.op D12 (.mv (.c (.int .i64 (.ofNat (nat_lit 5)))))])
  (.ret))
  (.skip))))))))
  (.seq (.drw [.op D64 (.mv T0),
    .op D65 (.nilck T64),
    .op D66 (.fadd (nat_lit 0) T65),
    .op D67 (.ld1 T66),
    .op D68 (.mv T3),
    .op D69 (.mv T4),
    .op D70 (.fadd (nat_lit 0) T13),
    .op D71 (.ld1 T70),
    .op D72 (.mv T5),
    .op D73 (.mv T1),
    .op D74 (.mv T2),
    .op D75 (.build [.int .i64 (.ofNat (nat_lit 0)), .int .i64 (.ofNat (nat_lit 0)), .int .i64 (.ofNat (nat_lit 0)), .int .i64 (.ofNat (nat_lit 0))] [((nat_lit 0), (nat_lit 1), T71), ((nat_lit 1), (nat_lit 1), T72), ((nat_lit 2), (nat_lit 1), T73), ((nat_lit 3), (nat_lit 1), T74)]),
    .op D76 (.ixaS (nat_lit 32) T67 T68),
    .op D77 (.ixaA (nat_lit 8) (nat_lit 4) T76 T69),
    .op .no (.st (nat_lit 4) T77 T75)] [])
  (.seq (.reg [.op D12 (.mv (.c (.int .i64 (.ofNat (nat_lit 0)))))])
  (.ret))))))),
  [.t .n0 .n12 g12 (fun _ => rfl)]⟩
/-- messuage/messuageref2.May -/
noncomputable def ff20 : FFunc := ⟨.seq (.reg [.op D2 (.mv (.c (.bool false)))])
  (.seq (.reg [.op D3 (.mv T0),
    .op D4 (.bin .geq T3 (.c (.int .i64 (.ofNat (nat_lit 1))))),
    .op D5 (.mv T4),
    .gop .n0 .n5 g5 (fun _ => rfl) true D6 (.mv T0),
    .gop .n0 .n5 g5 (fun _ => rfl) true D7 (.bin .leq T6 (.c (.int .i64 (.ofNat (nat_lit 3))))),
    .op D8 (.pick T5 T7 (.c (.bool false))),
    .op D2 (.mv T8)])
  (.ret)),
  [.t .n0 .n2 g2 (fun _ => rfl)]⟩
/-- messuage/messuageref2.Within -/
noncomputable def ff21 : FFunc := ⟨.seq (.reg [.op D4 (.mv (.c (.bool false)))])
  (.seq (.reg [.op D5 (.mv T0),
    .op D6 (.call (nat_lit 20) [T5]),
    .op D7 (.mv T6),
    .gop .n0 .n7 g7 (fun _ => rfl) true D8 (.mv T1),
    .gop .n0 .n7 g7 (fun _ => rfl) true D9 (.call (nat_lit 20) [T8]),
    .op D10 (.pick T7 T9 (.c (.bool false))),
    .op D11 (.mv T10),
    .gop .n0 .n11 g11 (fun _ => rfl) true D12 (.mv T0),
    .gop .n0 .n11 g11 (fun _ => rfl) true D13 (.bin .rem T12 (.c (.int .i64 (.ofNat (nat_lit 2))))),
    .gop .n0 .n11 g11 (fun _ => rfl) true D14 (.bin .eql T13 (.c (.int .i64 (.ofNat (nat_lit 0))))),
    .gop .n0 .n11 g11 (fun _ => rfl) true D15 (.mv T14),
    .gop .n0 .n15 g15 (fun _ => rfl) false D16 (.mv T1),
    .gop .n0 .n15 g15 (fun _ => rfl) false D17 (.bin .rem T16 (.c (.int .i64 (.ofNat (nat_lit 2))))),
    .gop .n0 .n15 g15 (fun _ => rfl) false D18 (.bin .eql T17 (.c (.int .i64 (.ofNat (nat_lit 1))))),
    .gop .n0 .n11 g11 (fun _ => rfl) true D19 (.pick T15 (.c (.bool true)) T18),
    .op D20 (.pick T11 T19 (.c (.bool false))),
    .op D21 (.mv T20),
    .gop .n1 .n5 g21 (fun _ => rfl) true D22 (.mv T0),
    .gop .n1 .n5 g21 (fun _ => rfl) true D23 (.bin .lss T22 (.c (.int .i64 (.ofNat (nat_lit 2))))),
    .gop .n1 .n5 g21 (fun _ => rfl) true D24 (.mv T23),
    .gop .n1 .n8 g24 (fun _ => rfl) false D25 (.mv T1),
    .gop .n1 .n8 g24 (fun _ => rfl) false D26 (.bin .geq T25 (.c (.int .i64 (.ofNat (nat_lit 2))))),
    .gop .n1 .n5 g21 (fun _ => rfl) true D27 (.pick T24 (.c (.bool true)) T26),
    .op D28 (.pick T21 T27 (.c (.bool false))),
    .op D4 (.mv T28)])
  (.ret)),
  [.t .n0 .n4 g4 (fun _ => rfl)]⟩
/-- (*messuage/caps.Tree).At -/
noncomputable def ff22 : FFunc := ⟨.seq (.reg [.op D6 (.new [.int .i64 (.ofNat (nat_lit 0)), .int .i64 (.ofNat (nat_lit 0)), .int .i64 (.ofNat (nat_lit 0)), .int .i64 (.ofNat (nat_lit 0))]),
    .op D7 (.mv (.c (.bool false)))])
  (.seq (.seq (.reg [.op D8 (.mv T0),
    .op D9 (.eq false (.sc .ptr) T8 (.c (.nilp))),
    .op D10 (.mv T9),
    .gop .n0 .n10 g10 (fun _ => rfl) false D11 (.mv T0),
    .gop .n0 .n10 g10 (fun _ => rfl) false D12 (.mv T1),
    .gop .n0 .n10 g10 (fun _ => rfl) false D13 (.mv T2),
    .gop .n0 .n10 g10 (fun _ => rfl) false D14 (.call (nat_lit 51) [T11, T12, T13]),
    .gop .n0 .n10 g10 (fun _ => rfl) false D15 (.un .not T14),
    .op D16 (.pick T10 (.c (.bool true)) T15),
    .op D17 (.mv T16),
    .gop .n1 .n1 g17 (fun _ => rfl) false D18 (.mv T0),
    .gop .n1 .n1 g17 (fun _ => rfl) false D19 (.nilck T18),
    .gop .n1 .n1 g17 (fun _ => rfl) false D20 (.fadd (nat_lit 0) T19),
    .gop .n1 .n1 g17 (fun _ => rfl) false D21 (.ld1 T20),
    .gop .n1 .n1 g17 (fun _ => rfl) false D22 (.mv T1),
    .gop .n1 .n1 g17 (fun _ => rfl) false D23 (.mv T2),
    .gop .n1 .n1 g17 (fun _ => rfl) false D24 (.ixaS (nat_lit 32) T21 T22),
    .gop .n1 .n1 g17 (fun _ => rfl) false D25 (.ixaA (nat_lit 8) (nat_lit 4) T24 T23),
    .gop .n1 .n1 g17 (fun _ => rfl) false D26 (.fadd (nat_lit 1) T25),
    .gop .n1 .n1 g17 (fun _ => rfl) false D27 (.ld1 T26),
    .gop .n1 .n1 g17 (fun _ => rfl) false D28 (.bin .eql T27 (.c (.int .i64 (.ofNat (nat_lit 0))))),
    .op D29 (.pick T17 (.c (.bool true)) T28)])
  (.cond T29 (.seq (.reg [.op D30 (.build [.int .i64 (.ofNat (nat_lit 0)), .int .i64 (.ofNat (nat_lit 0)), .int .i64 (.ofNat (nat_lit 0)), .int .i64 (.ofNat (nat_lit 0))] []),
    .op .no (.st (nat_lit 4) T6 T30),
    .op D7 (.mv (.c (.bool false)))])
  (.ret))
  (.skip)))
  (.seq (.reg [.op D31 (.mv T0),
    .op D32 (.nilck T31),
    .op D33 (.fadd (nat_lit 0) T32),
    .op D34 (.ld1 T33),
    .op D35 (.mv T1),
    .op D36 (.mv T2),
    .op D37 (.ixaS (nat_lit 32) T34 T35),
    .op D38 (.ixaA (nat_lit 8) (nat_lit 4) T37 T36),
    .op D39 (.ldA (nat_lit 4) T38),
    .op .no (.st (nat_lit 4) T6 T39),
    .op D7 (.mv (.c (.bool true)))])
  (.ret))),
  [.cellA .n0 .n6 g6 (fun _ => rfl) (nat_lit 4), .t .n0 .n7 g7 (fun _ => rfl)]⟩
/-- messuage/messuagelaw11.small -/
noncomputable def ff23 : FFunc := ⟨.seq (.reg [.op D2 (.mv (.c (.nilp)))])
  (.seq (.reg [.op D3 (.mv T0),
    .op D4 (.build [.int .i64 (.ofNat (nat_lit 0)), .int .i64 (.ofNat (nat_lit 0)), .int .i64 (.ofNat (nat_lit 0))] [((nat_lit 0), (nat_lit 1), .c (.int .i64 (.ofNat (nat_lit 1)))), ((nat_lit 1), (nat_lit 1), .c (.int .i64 (.ofNat (nat_lit 2)))), ((nat_lit 2), (nat_lit 1), T3)]),
    .op D5 (.call (nat_lit 30) [T4]),
    .op D2 (.mv T5)])
  (.ret)),
  [.t .n0 .n2 g2 (fun _ => rfl)]⟩
/-- messuage/messuagelaw11.ok -/
noncomputable def ff24 : FFunc := ⟨.seq (.reg [.op D5 (.box (nat_lit 5) T2),
    .op D6 (.mv (.c (.bool false)))])
  (.seq (.reg [.op D10 (.mv T0),
    .op D11 (.mv T1),
    .op D12 (.ldA (nat_lit 5) T5),
    .op D13 (.call (nat_lit 25) [T10, T11, T12]),
    .op D9 (.mv T13),
    .op D14 (.ex (nat_lit 0) T9),
    .op D15 (.ex (nat_lit 1) T9),
    .op D7 (.new [.int .i64 (.ofNat (nat_lit 0)), .int .u64 (.ofNat (nat_lit 0))]),
    .op .no (.st (nat_lit 2) T7 T14),
    .op D8 (.mv T15)])
  (.seq (.reg [.op D16 (.mv T8),
    .op D17 (.mv T16),
    .gop .n1 .n1 g17 (fun _ => rfl) true D18 (.fadd (nat_lit 0) T7),
    .gop .n1 .n1 g17 (fun _ => rfl) true D19 (.ld1 T18),
    .gop .n1 .n1 g17 (fun _ => rfl) true D20 (.bin .eql T19 (.c (.int .i64 (.ofNat (nat_lit 0))))),
    .op D21 (.pick T17 T20 (.c (.bool false))),
    .op D6 (.mv T21)])
  (.ret))),
  [.t .n0 .n6 g6 (fun _ => rfl)]⟩
/-- (*messuage/plain.Kernel).Do -/
noncomputable def ff25 : FFunc := ⟨.seq (.reg [.op D5 (.box (nat_lit 5) T2),
    .op D6 (.new [.int .i64 (.ofNat (nat_lit 0)), .int .u64 (.ofNat (nat_lit 0))]),
    .op D7 (.mv (.c (.bool false)))])
  (.seq (.seq (.reg [.op D15 (.mv T0),
    .op D16 (.mv T1),
    .op D17 (.call (nat_lit 53) [T15, T16])])
  (.cond T17 (.seq (.reg [.op D18 (.call (nat_lit 54) [.c (.int .i64 (.ofNat (nat_lit 10)))]),
    .op D19 (.ex (nat_lit 0) T18),
    .op D20 (.ex (nat_lit 1) T18),
    .op .no (.st (nat_lit 2) T6 T19),
    .op D7 (.mv T20)])
  (.ret))
  (.skip)))
  (.seq (.seq (.drw [.op D21 (.ldA (nat_lit 5) T5),
    .op D22 (.mv T0),
    .op D23 (.nilck T22),
    .op D24 (.fadd (nat_lit 0) T23),
    .op D25 (.fadd (nat_lit 1) T24),
    .op D26 (.ld1 T25),
    .op D27 (.call (nat_lit 55) [T21, T26]),
    .op D8 (.mv T27)] [])
  (.seq (.reg [.op D28 (.mv T8),
    .op D29 (.bin .neq T28 (.c (.int .i64 (.ofNat (nat_lit 0)))))])
  (.cond T29 (.seq (.reg [.op D30 (.mv T8),
    .op D31 (.call (nat_lit 54) [T30]),
    .op D32 (.ex (nat_lit 0) T31),
    .op D33 (.ex (nat_lit 1) T31),
    .op .no (.st (nat_lit 2) T6 T32),
    .op D7 (.mv T33)])
  (.ret))
  (.skip))))
  (.seq (.drw [.op D34 (.ixaA (nat_lit 5) (nat_lit 1) T5 (.c (.int .i64 (.ofNat (nat_lit 1))))),
    .op D35 (.ld1 T34),
    .op D36 (.cvi .i64 T35),
    .op D37 (.ixaA (nat_lit 5) (nat_lit 1) T5 (.c (.int .i64 (.ofNat (nat_lit 2))))),
    .op D38 (.ld1 T37),
    .op D39 (.cvi .i64 T38),
    .op D40 (.ixaA (nat_lit 5) (nat_lit 1) T5 (.c (.int .i64 (.ofNat (nat_lit 3))))),
    .op D41 (.ld1 T40),
    .op D42 (.cvi .i64 T41),
    .op D9 (.mv T36),
    .op D10 (.mv T39),
    .op D11 (.mv T42)] [])
  (.seq (.reg [.op D12 (.mv (.c (.bool false)))])
  (.seq (.seq (.reg [.op D43 (.ixaA (nat_lit 5) (nat_lit 1) T5 (.c (.int .i64 (.ofNat (nat_lit 0))))),
    .op D44 (.ld1 T43),
    .op D45 (.cvi .i64 T44)])
  (.block (nat_lit 0) (.seq (.block (nat_lit 10) (.seq (.block (nat_lit 9) (.seq (.block (nat_lit 8) (.seq (.block (nat_lit 7) (.seq (.block (nat_lit 6) (.seq (.block (nat_lit 5) (.seq (.block (nat_lit 4) (.seq (.block (nat_lit 3) (.seq (.block (nat_lit 2) (.seq (.block (nat_lit 1) (.seq (.seq (.seq (.reg [.op D47 (.bin .eql T45 (.c (.int .i64 (.ofNat (nat_lit 1))))),
    .op D46 (.mv T47)])
  (.cond T46 (.exit (nat_lit 1))
  (.skip)))
  (.seq (.seq (.reg [.op D49 (.bin .eql T45 (.c (.int .i64 (.ofNat (nat_lit 2))))),
    .op D48 (.mv T49)])
  (.cond T48 (.exit (nat_lit 2))
  (.skip)))
  (.seq (.seq (.reg [.op D51 (.bin .eql T45 (.c (.int .i64 (.ofNat (nat_lit 3))))),
    .op D50 (.mv T51)])
  (.cond T50 (.exit (nat_lit 3))
  (.skip)))
  (.seq (.seq (.reg [.op D53 (.bin .eql T45 (.c (.int .i64 (.ofNat (nat_lit 5))))),
    .op D52 (.mv T53)])
  (.cond T52 (.exit (nat_lit 4))
  (.skip)))
  (.seq (.seq (.reg [.op D55 (.bin .eql T45 (.c (.int .i64 (.ofNat (nat_lit 4))))),
    .op D54 (.mv T55)])
  (.cond T54 (.exit (nat_lit 5))
  (.skip)))
  (.seq (.seq (.reg [.op D57 (.bin .eql T45 (.c (.int .i64 (.ofNat (nat_lit 6))))),
    .op D56 (.mv T57)])
  (.cond T56 (.exit (nat_lit 6))
  (.skip)))
  (.seq (.seq (.reg [.op D59 (.bin .eql T45 (.c (.int .i64 (.ofNat (nat_lit 7))))),
    .op D58 (.mv T59)])
  (.cond T58 (.exit (nat_lit 7))
  (.skip)))
  (.seq (.seq (.reg [.op D61 (.bin .eql T45 (.c (.int .i64 (.ofNat (nat_lit 8))))),
    .op D60 (.mv T61)])
  (.cond T60 (.exit (nat_lit 8))
  (.skip)))
  (.seq (.seq (.reg [.op D63 (.bin .eql T45 (.c (.int .i64 (.ofNat (nat_lit 9))))),
    .op D62 (.mv T63)])
  (.cond T62 (.exit (nat_lit 9))
  (.skip)))
  (.seq (.reg [.op D65 (.bin .eql T45 (.c (.int .i64 (.ofNat (nat_lit 10))))),
    .op D64 (.mv T65)])
  (.cond T64 (.exit (nat_lit 10))
  (.skip))))))))))))
  (.exit (nat_lit 0))))
  (.seq (.seq (.reg [.op D66 (.mv T0),
    .op D67 (.mv T1),
    .op D68 (.mv T9),
    .op D69 (.call (nat_lit 56) [T66, T67, T68]),
    .op D70 (.call (nat_lit 54) [T69]),
    .op D71 (.ex (nat_lit 0) T70),
    .op D72 (.ex (nat_lit 1) T70),
    .op .no (.st (nat_lit 2) T6 T71),
    .op D7 (.mv T72)])
  (.ret))
  (.exit (nat_lit 0)))))
  (.seq (.seq (.reg [.op D73 (.mv T0),
    .op D74 (.mv T1),
    .op D75 (.mv T9),
    .op D76 (.mv T1),
    .op D77 (.mv T10),
    .op D78 (.mv T11),
    .op D79 (.call (nat_lit 57) [T73, T74, T75, T76, T77, T78]),
    .op D80 (.call (nat_lit 54) [T79]),
    .op D81 (.ex (nat_lit 0) T80),
    .op D82 (.ex (nat_lit 1) T80),
    .op .no (.st (nat_lit 2) T6 T81),
    .op D7 (.mv T82)])
  (.ret))
  (.exit (nat_lit 0)))))
  (.seq (.seq (.reg [.op D83 (.mv T0),
    .op D84 (.mv T1),
    .op D85 (.mv T9),
    .op D86 (.mv T10),
    .op D87 (.mv T11),
    .op D88 (.ixaA (nat_lit 5) (nat_lit 1) T5 (.c (.int .i64 (.ofNat (nat_lit 4))))),
    .op D89 (.ld1 T88),
    .op D90 (.cvi .i64 T89),
    .op D91 (.call (nat_lit 57) [T83, T84, T85, T86, T87, T90]),
    .op D92 (.call (nat_lit 54) [T91]),
    .op D93 (.ex (nat_lit 0) T92),
    .op D94 (.ex (nat_lit 1) T92),
    .op .no (.st (nat_lit 2) T6 T93),
    .op D7 (.mv T94)])
  (.ret))
  (.exit (nat_lit 0)))))
  (.reg [.op D12 (.mv (.c (.bool true)))])))
  (.seq (.seq (.reg [.op D95 (.mv T0),
    .op D96 (.mv T1),
    .op D97 (.mv T9),
    .op D98 (.mv T12),
    .op D99 (.call (nat_lit 58) [T95, T96, T97, T98]),
    .op .no (.st (nat_lit 2) T6 T99),
    .op D7 (.mv (.c (.bool true)))])
  (.ret))
  (.exit (nat_lit 0)))))
  (.seq (.seq (.reg [.op D100 (.mv T0),
    .op D101 (.mv T1),
    .op D102 (.mv T9),
    .op D103 (.mv T10),
    .op D104 (.mv T11),
    .op D105 (.call (nat_lit 59) [T100, T101, T102, T103, T104]),
    .op D106 (.call (nat_lit 54) [T105]),
    .op D107 (.ex (nat_lit 0) T106),
    .op D108 (.ex (nat_lit 1) T106),
    .op .no (.st (nat_lit 2) T6 T107),
    .op D7 (.mv T108)])
  (.ret))
  (.exit (nat_lit 0)))))
  (.seq (.seq (.reg [.op D110 (.mv T0),
    .op D111 (.nilck T110),
    .op D112 (.fadd (nat_lit 4) T111),
    .op D113 (.ld1 T112),
    .op D114 (.mv T1),
    .op D115 (.ixaS (nat_lit 1) T113 T114),
    .op D116 (.ld1 T115),
    .op D117 (.mv T9),
    .op D118 (.call (nat_lit 60) [T116, T117]),
    .op D109 (.mv T118),
    .op D119 (.ex (nat_lit 0) T109),
    .op D120 (.ex (nat_lit 1) T109),
    .op D13 (.new [.int .i64 (.ofNat (nat_lit 0)), .int .i64 (.ofNat (nat_lit 0)), .int .i64 (.ofNat (nat_lit 0))]),
    .op .no (.st (nat_lit 3) T13 T119),
    .op D14 (.mv T120)])
  (.seq (.reg [.op D121 (.mv T14),
    .op D122 (.call (nat_lit 54) [T121]),
    .op D123 (.ex (nat_lit 0) T122),
    .op D124 (.ex (nat_lit 1) T122),
    .op .no (.st (nat_lit 2) T6 T123),
    .op D7 (.mv T124)])
  (.ret)))
  (.exit (nat_lit 0)))))
  (.seq (.seq (.reg [.op D125 (.mv T0),
    .op D126 (.mv T1),
    .op D127 (.mv T9),
    .op D128 (.mv T10),
    .op D129 (.call (nat_lit 61) [T125, T126, T127, T128]),
    .op D130 (.call (nat_lit 54) [T129]),
    .op D131 (.ex (nat_lit 0) T130),
    .op D132 (.ex (nat_lit 1) T130),
    .op .no (.st (nat_lit 2) T6 T131),
    .op D7 (.mv T132)])
  (.ret))
  (.exit (nat_lit 0)))))
  (.seq (.seq (.reg [.op D133 (.mv T0),
    .op D134 (.mv T1),
    .op D135 (.ldA (nat_lit 5) T5),
    .op D136 (.call (nat_lit 62) [T133, T134, T135]),
    .op D137 (.ex (nat_lit 0) T136),
    .op D138 (.ex (nat_lit 1) T136),
    .op .no (.st (nat_lit 2) T6 T137),
    .op D7 (.mv T138)])
  (.ret))
  (.exit (nat_lit 0)))))
  (.seq (.seq (.reg [.op D139 (.build [.int .i64 (.ofNat (nat_lit 0)), .int .u64 (.ofNat (nat_lit 0))] []),
    .op .no (.st (nat_lit 2) T6 T139),
    .op D7 (.mv (.c (.bool true)))])
  (.ret))
  (.exit (nat_lit 0))))))
  (.seq (.reg [.op D140 (.mv T0),
    .op D141 (.mv T1),
    .op D142 (.ldA (nat_lit 5) T5),
    .op D143 (.call (nat_lit 63) [T140, T141, T142]),
    .op .no (.st (nat_lit 2) T6 T143),
    .op D7 (.mv (.c (.bool true)))])
  (.ret))))))),
  [.cellA .n0 .n6 g6 (fun _ => rfl) (nat_lit 2), .t .n0 .n7 g7 (fun _ => rfl)]⟩
/-- (*messuage/plain.Kernel).Free -/
noncomputable def ff26 : FFunc := ⟨.seq (.reg [.op D2 (.mv (.c (.nils)))])
  (.seq (.seq (.reg [.op D3 (.mv T0),
    .op D4 (.eq false (.sc .ptr) T3 (.c (.nilp)))])
  (.cond T4 (.seq (.reg [.op D2 (.mv (.c (.nils)))])
  (.ret))
  (.skip)))
  (.seq (.reg [.op D5 (.mv T0),
    .op D6 (.nilck T5),
    .op D7 (.fadd (nat_lit 5) T6),
    .op D8 (.ld1 T7),
    .op D9 (.call (nat_lit 64) [T8]),
    .op D2 (.mv T9)])
  (.ret))),
  [.t .n0 .n2 g2 (fun _ => rfl)]⟩
/-- messuage/messuageref2.Holds -/
noncomputable def ff27 : FFunc := ⟨.seq (.reg [.op D6 (.mv (.c (.bool false)))])
  (.seq (.seq (.reg [.op D7 (.mv T0)])
  (.block (nat_lit 0) (.seq (.reg [.op D9 (.bin .eql T7 (.c (.int .i64 (.ofNat (nat_lit 1))))),
    .op D8 (.mv T9)])
  (.cond T8 (.seq (.reg [.op D10 (.mv T1),
    .op D11 (.mv T2),
    .op D12 (.bin .eql T10 T11),
    .op D6 (.mv T12)])
  (.ret))
  (.seq (.reg [.op D14 (.bin .eql T7 (.c (.int .i64 (.ofNat (nat_lit 2))))),
    .op D13 (.mv T14)])
  (.cond T13 (.seq (.reg [.op D15 (.mv T1),
    .op D16 (.mv T2),
    .op D17 (.bin .neq T15 T16),
    .op D6 (.mv T17)])
  (.ret))
  (.seq (.reg [.op D19 (.bin .eql T7 (.c (.int .i64 (.ofNat (nat_lit 3))))),
    .op D18 (.mv T19)])
  (.cond T18 (.seq (.reg [.op D20 (.mv T1),
    .op D21 (.mv T2),
    .op D22 (.bin .lss T20 T21),
    .op D6 (.mv T22)])
  (.ret))
  (.seq (.reg [.op D24 (.bin .eql T7 (.c (.int .i64 (.ofNat (nat_lit 4))))),
    .op D23 (.mv T24)])
  (.cond T23 (.seq (.reg [.op D25 (.mv T2),
    .op D26 (.mv T1),
    .op D27 (.bin .lss T25 T26),
    .op D6 (.mv T27)])
  (.ret))
  (.skip)))))))))))
  (.seq (.reg [.op D6 (.mv (.c (.bool false)))])
  (.ret))),
  [.t .n0 .n6 g6 (fun _ => rfl)]⟩
/-- (*messuage/plain.Kernel).Err -/
noncomputable def ff28 : FFunc := ⟨.seq (.reg [.op D5 (.box (nat_lit 5) T2),
    .op D6 (.mv (.c (.nili)))])
  (.seq (.seq (.reg [.op D9 (.mv T0),
    .op D10 (.eq false (.sc .ptr) T9 (.c (.nilp)))])
  (.cond T10 (.seq (.reg [.op D11 (.call (nat_lit 42) [.c (.int .i64 (.ofNat (nat_lit 10)))]),
    .op D6 (.mv T11)])
  (.ret))
  (.skip)))
  (.seq (.drw [.op D13 (.mv T0),
    .op D14 (.call (nat_lit 65) [T13]),
    .op D15 (.mv T1),
    .op D16 (.ldA (nat_lit 5) T5),
    .op D17 (.call (nat_lit 25) [T14, T15, T16]),
    .op D12 (.mv T17),
    .op D18 (.ex (nat_lit 0) T12),
    .op D19 (.ex (nat_lit 1) T12),
    .op D7 (.new [.int .i64 (.ofNat (nat_lit 0)), .int .u64 (.ofNat (nat_lit 0))]),
    .op .no (.st (nat_lit 2) T7 T18),
    .op D8 (.mv T19)] [((nat_lit 3), (nat_lit 1)), ((nat_lit 8), (nat_lit 1)), ((nat_lit 8), (nat_lit 4))])
  (.seq (.seq (.reg [.op D20 (.mv T8),
    .op D21 (.un .not T20)])
  (.cond T21 (.seq (.reg [.op D6 (.mv (.c (.nili)))])
  (.ret))
  (.skip)))
  (.seq (.drw [.op D22 (.mv T1),
    .op D23 (.ldA (nat_lit 5) T5),
    .op D24 (.fadd (nat_lit 0) T7),
    .op D25 (.ld1 T24),
    .op D26 (.call (nat_lit 42) [T25]),
    .op D27 (.call (nat_lit 66) [T22, T23, T26]),
    .op D6 (.mv T27)] [((nat_lit 1), (nat_lit 4))])
  (.ret))))),
  [.t .n0 .n6 g6 (fun _ => rfl)]⟩
/-- messuage/trap.Code -/
noncomputable def ff29 : FFunc := ⟨.seq (.reg [.op D2 (.mv (.c (.int .i64 (.ofNat (nat_lit 0)))))])
  (.seq (.seq (.reg [.op D5 (.mv T0),
    .op D6 (.eq false (.sc .ifc) T5 (.c (.nili)))])
  (.cond T6 (.seq (.reg [.op D2 (.mv (.c (.int .i64 (.ofNat (nat_lit 0)))))])
  (.ret))
  (.skip)))
  (.seq (.seq (.reg [.op D8 (.mv T0),
    .op D9 (.call (nat_lit 67) [T8]),
    .op D7 (.mv T9),
    .op D10 (.ex (nat_lit 0) T7),
    .op D11 (.ex (nat_lit 1) T7),
    .op D3 (.mv T10),
    .op D4 (.mv T11)])
  (.seq (.reg [.op D12 (.mv T4)])
  (.cond T12 (.seq (.reg [.op D13 (.mv T3),
    .op D14 (.nilck T13),
    .op D15 (.fadd (nat_lit 0) T14),
    .op D16 (.ld1 T15),
    .op D2 (.mv T16)])
  (.ret))
  (.skip))))
  (.seq (.reg [.op D2 (.mv (.c (.int .i64 (.ofNat (nat_lit 9)))))])
  (.ret)))),
  [.t .n0 .n2 g2 (fun _ => rfl)]⟩
/-- messuage/plain.New -/
noncomputable def ff30 : FFunc := ⟨.seq (.reg [.op D1 (.box (nat_lit 3) T0),
    .op D2 (.mv (.c (.nilp)))])
  (.seq (.seq (.reg [.op D4 (.fadd (nat_lit 0) T1),
    .op D5 (.ld1 T4),
    .op D6 (.bin .lss T5 (.c (.int .i64 (.ofNat (nat_lit 1))))),
    .op D7 (.mv T6),
    .gop .n0 .n7 g7 (fun _ => rfl) false D8 (.fadd (nat_lit 0) T1),
    .gop .n0 .n7 g7 (fun _ => rfl) false D9 (.ld1 T8),
    .gop .n0 .n7 g7 (fun _ => rfl) false D10 (.bin .gtr T9 (.c (.int .i64 (.ofNat (nat_lit 8))))),
    .op D11 (.pick T7 (.c (.bool true)) T10),
    .op D12 (.mv T11),
    .gop .n0 .n12 g12 (fun _ => rfl) false D13 (.fadd (nat_lit 1) T1),
    .gop .n0 .n12 g12 (fun _ => rfl) false D14 (.ld1 T13),
    .gop .n0 .n12 g12 (fun _ => rfl) false D15 (.bin .lss T14 (.c (.int .i64 (.ofNat (nat_lit 1))))),
    .op D16 (.pick T12 (.c (.bool true)) T15),
    .op D17 (.mv T16),
    .gop .n1 .n1 g17 (fun _ => rfl) false D18 (.fadd (nat_lit 1) T1),
    .gop .n1 .n1 g17 (fun _ => rfl) false D19 (.ld1 T18),
    .gop .n1 .n1 g17 (fun _ => rfl) false D20 (.bin .gtr T19 (.c (.int .i64 (.ofNat (nat_lit 4))))),
    .op D21 (.pick T17 (.c (.bool true)) T20),
    .op D22 (.mv T21),
    .gop .n1 .n6 g22 (fun _ => rfl) false D23 (.fadd (nat_lit 2) T1),
    .gop .n1 .n6 g22 (fun _ => rfl) false D24 (.ld1 T23),
    .gop .n1 .n6 g22 (fun _ => rfl) false D25 (.bin .lss T24 (.c (.int .i64 (.ofNat (nat_lit 1))))),
    .op D26 (.pick T22 (.c (.bool true)) T25),
    .op D27 (.mv T26),
    .gop .n1 .n11 g27 (fun _ => rfl) false D28 (.fadd (nat_lit 2) T1),
    .gop .n1 .n11 g27 (fun _ => rfl) false D29 (.ld1 T28),
    .gop .n1 .n11 g27 (fun _ => rfl) false D30 (.bin .gtr T29 (.c (.int .i64 (.ofNat (nat_lit 16))))),
    .op D31 (.pick T27 (.c (.bool true)) T30)])
  (.cond T31 (.seq (.reg [.op D2 (.mv (.c (.nilp)))])
  (.ret))
  (.skip)))
  (.seq (.drw [.op D32 (.ldA (nat_lit 3) T1),
    .op D33 (.fadd (nat_lit 2) T1),
    .op D34 (.ld1 T33),
    .op D35 (.call (nat_lit 32) [T34]),
    .op D36 (.fadd (nat_lit 2) T1),
    .op D37 (.ld1 T36),
    .op D38 (.call (nat_lit 68) [T37]),
    .op D39 (.fadd (nat_lit 1) T1),
    .op D40 (.ld1 T39),
    .op D41 (.call (nat_lit 17) [T40]),
    .op D42 (.build [.int .i64 (.ofNat (nat_lit 0)), .int .i64 (.ofNat (nat_lit 0)), .int .i64 (.ofNat (nat_lit 0)), .nilp, .nils, .nilp, .nilp] [((nat_lit 0), (nat_lit 3), T32), ((nat_lit 3), (nat_lit 1), T35), ((nat_lit 5), (nat_lit 1), T38), ((nat_lit 6), (nat_lit 1), T41)]),
    .op D43 (.box (nat_lit 7) T42),
    .op D3 (.mv T43)] [((nat_lit 0), (nat_lit 3)), ((nat_lit 0), (nat_lit 6)), ((nat_lit 0), (nat_lit 9)), ((nat_lit 5), (nat_lit 3)), ((nat_lit 8), (nat_lit 3)), ((nat_lit 8), (nat_lit 6))])
  (.seq (.seq (.reg [.op D44 (.fadd (nat_lit 1) T1),
    .op D45 (.ld1 T44),
    .op D46 (.mv (.c (.int .i64 (.ofNat (nat_lit 0)))))])
  (.block (nat_lit 0) (.loop (.seq (.reg [.op D47 (.bin .lss T46 T45)])
  (.seq (.cond T47 (.skip)
  (.exit (nat_lit 0)))
  (.seq (.block (nat_lit 1) (.drw [.op D48 (.mv T3),
    .op D49 (.mv T3),
    .op D50 (.nilck T49),
    .op D51 (.fadd (nat_lit 4) T50),
    .op D52 (.ld1 T51),
    .op D53 (.call (nat_lit 10) []),
    .op D54 (.bsl (nat_lit 1) [.nilp] (nat_lit 1) [((nat_lit 0), (nat_lit 1), T53)]),
    .op D55 (.app (nat_lit 1) (nat_lit 8) T52 T54),
    .op D56 (.nilck T48),
    .op D57 (.fadd (nat_lit 4) T56),
    .op .no (.st (nat_lit 1) T57 T55)] [((nat_lit 4), (nat_lit 5))]))
  (.reg [.op D58 (.bin .add T46 (.c (.int .i64 (.ofNat (nat_lit 1))))),
    .op D46 (.mv T58)])))))))
  (.seq (.reg [.op D59 (.mv T3),
    .op D2 (.mv T59)])
  (.ret))))),
  [.t .n0 .n2 g2 (fun _ => rfl)]⟩
/-- messuage/epoch.New -/
noncomputable def ff31 : FFunc := ⟨.seq (.reg [.op D2 (.mv (.c (.nilp)))])
  (.seq (.seq (.reg [.op D3 (.mv T0),
    .op D4 (.bin .lss T3 (.c (.int .i64 (.ofNat (nat_lit 1))))),
    .op D5 (.mv T4),
    .gop .n0 .n5 g5 (fun _ => rfl) false D6 (.mv T0),
    .gop .n0 .n5 g5 (fun _ => rfl) false D7 (.bin .gtr T6 (.c (.int .i64 (.ofNat (nat_lit 8))))),
    .op D8 (.pick T5 (.c (.bool true)) T7)])
  (.cond T8 (.seq (.reg [.op D2 (.mv (.c (.nilp)))])
  (.ret))
  (.skip)))
  (.seq (.reg [.op D9 (.mv T0),
    .op D10 (.mksl (nat_lit 1) (nat_lit 8) [.int .u64 (.ofNat (nat_lit 0))] T9 T9),
    .op D11 (.build [.nils, .nils] [((nat_lit 1), (nat_lit 1), T10)]),
    .op D12 (.box (nat_lit 2) T11),
    .op D2 (.mv T12)])
  (.ret))),
  [.t .n0 .n2 g2 (fun _ => rfl)]⟩
/-- messuage/mem.New -/
noncomputable def ff32 : FFunc := ⟨.seq (.reg [.op D2 (.mv (.c (.nilp)))])
  (.seq (.seq (.reg [.op D4 (.mv T0),
    .op D5 (.bin .lss T4 (.c (.int .i64 (.ofNat (nat_lit 1))))),
    .op D6 (.mv T5),
    .gop .n0 .n6 g6 (fun _ => rfl) false D7 (.mv T0),
    .gop .n0 .n6 g6 (fun _ => rfl) false D8 (.bin .gtr T7 (.c (.int .i64 (.ofNat (nat_lit 16))))),
    .op D9 (.pick T6 (.c (.bool true)) T8)])
  (.cond T9 (.seq (.reg [.op D2 (.mv (.c (.nilp)))])
  (.ret))
  (.skip)))
  (.seq (.reg [.op D10 (.build [.nils] []),
    .op D11 (.box (nat_lit 1) T10),
    .op D3 (.mv T11)])
  (.seq (.seq (.reg [.op D12 (.mv T0),
    .op D13 (.mv (.c (.int .i64 (.ofNat (nat_lit 0)))))])
  (.block (nat_lit 0) (.loop (.seq (.reg [.op D14 (.bin .lss T13 T12)])
  (.seq (.cond T14 (.skip)
  (.exit (nat_lit 0)))
  (.seq (.block (nat_lit 1) (.drw [.op D15 (.mv T3),
    .op D16 (.mv T3),
    .op D17 (.nilck T16),
    .op D18 (.fadd (nat_lit 0) T17),
    .op D19 (.ld1 T18),
    .op D20 (.mksl (nat_lit 1) (nat_lit 8) [.int .u64 (.ofNat (nat_lit 0))] (.c (.int .i64 (.ofNat (nat_lit 16)))) (.c (.int .i64 (.ofNat (nat_lit 16))))),
    .op D21 (.bsl (nat_lit 1) [.nils] (nat_lit 1) [((nat_lit 0), (nat_lit 1), T20)]),
    .op D22 (.app (nat_lit 1) (nat_lit 24) T19 T21),
    .op D23 (.nilck T15),
    .op D24 (.fadd (nat_lit 0) T23),
    .op .no (.st (nat_lit 1) T24 T22)] []))
  (.reg [.op D25 (.bin .add T13 (.c (.int .i64 (.ofNat (nat_lit 1))))),
    .op D13 (.mv T25)])))))))
  (.seq (.reg [.op D26 (.mv T3),
    .op D2 (.mv T26)])
  (.ret))))),
  [.t .n0 .n2 g2 (fun _ => rfl)]⟩
/-- (*messuage/epoch.Epochs).Begin -/
noncomputable def ff33 : FFunc := ⟨.seq (.reg [.op D4 (.mv (.c (.int .u64 (.ofNat (nat_lit 0))))),
    .op D5 (.mv (.c (.bool false)))])
  (.seq (.seq (.reg [.op D6 (.mv T0),
    .op D7 (.mv T1),
    .op D8 (.call (nat_lit 69) [T6, T7]),
    .op D9 (.un .not T8)])
  (.cond T9 (.seq (.reg [.op D4 (.mv (.c (.int .u64 (.ofNat (nat_lit 0))))),
    .op D5 (.mv (.c (.bool false)))])
  (.ret))
  (.skip)))
  (.seq (.reg [.op D10 (.mv T0),
    .op D11 (.mv T0),
    .op D12 (.nilck T11),
    .op D13 (.fadd (nat_lit 0) T12),
    .op D14 (.ld1 T13),
    .op D15 (.mv T1),
    .op D16 (.bsl (nat_lit 1) [.int .i64 (.ofNat (nat_lit 0))] (nat_lit 1) [((nat_lit 0), (nat_lit 1), T15)]),
    .op D17 (.app (nat_lit 1) (nat_lit 8) T14 T16),
    .op D18 (.nilck T10),
    .op D19 (.fadd (nat_lit 0) T18),
    .op .no (.st (nat_lit 1) T19 T17)])
  (.seq (.reg [.op D20 (.mv T0),
    .op D21 (.call (nat_lit 70) [T20]),
    .op D4 (.mv T21),
    .op D5 (.mv (.c (.bool true)))])
  (.ret)))),
  [.t .n0 .n4 g4 (fun _ => rfl), .t .n0 .n5 g5 (fun _ => rfl)]⟩
/-- (*messuage/epoch.Epochs).Ack -/
noncomputable def ff34 : FFunc := ⟨.seq (.reg [.op D6 (.mv (.c (.bool false)))])
  (.seq (.seq (.reg [.op D7 (.mv T0),
    .op D8 (.mv T1),
    .op D9 (.call (nat_lit 69) [T7, T8]),
    .op D10 (.un .not T9),
    .op D11 (.mv T10),
    .gop .n0 .n11 g11 (fun _ => rfl) false D12 (.mv T2),
    .gop .n0 .n11 g11 (fun _ => rfl) false D13 (.bin .lss T12 (.c (.int .u64 (.ofNat (nat_lit 1))))),
    .op D14 (.pick T11 (.c (.bool true)) T13),
    .op D15 (.mv T14),
    .gop .n0 .n15 g15 (fun _ => rfl) false D16 (.mv T2),
    .gop .n0 .n15 g15 (fun _ => rfl) false D17 (.mv T0),
    .gop .n0 .n15 g15 (fun _ => rfl) false D18 (.call (nat_lit 70) [T17]),
    .gop .n0 .n15 g15 (fun _ => rfl) false D19 (.bin .gtr T16 T18),
    .op D20 (.pick T15 (.c (.bool true)) T19)])
  (.cond T20 (.seq (.reg [.op D6 (.mv (.c (.bool false)))])
  (.ret))
  (.skip)))
  (.seq (.drw [.op D21 (.mv T0),
    .op D22 (.nilck T21),
    .op D23 (.fadd (nat_lit 1) T22),
    .op D24 (.ld1 T23),
    .op D25 (.mv T1),
    .op D26 (.mv T0),
    .op D27 (.nilck T26),
    .op D28 (.fadd (nat_lit 1) T27),
    .op D29 (.ld1 T28),
    .op D30 (.mv T1),
    .op D31 (.ixaS (nat_lit 1) T29 T30),
    .op D32 (.ld1 T31),
    .op D33 (.mv T2),
    .op D34 (.mxx [T32, T33]),
    .op D35 (.ixaS (nat_lit 1) T24 T25),
    .op .no (.st (nat_lit 1) T35 T34)] [])
  (.seq (.reg [.op D6 (.mv (.c (.bool true)))])
  (.ret)))),
  [.t .n0 .n6 g6 (fun _ => rfl)]⟩
/-- messuage/user.Do -/
noncomputable def ff35 : FFunc := ⟨.seq (.reg [.op D9 (.box (nat_lit 5) T4),
    .op D10 (.new [.int .i64 (.ofNat (nat_lit 0)), .int .u64 (.ofNat (nat_lit 0))]),
    .op D11 (.new [.int .i64 (.ofNat (nat_lit 0)), .int .i64 (.ofNat (nat_lit 0)), .int .i64 (.ofNat (nat_lit 0)), .int .i64 (.ofNat (nat_lit 0))])])
  (.seq (.reg [.op D17 (.ldA (nat_lit 5) T9),
    .op D18 (.call (nat_lit 55) [T17, .c (.int .i64 (.ofNat (nat_lit 4)))]),
    .op D12 (.mv T18)])
  (.seq (.reg [.op D20 (.ldA (nat_lit 5) T9),
    .op D21 (.call (nat_lit 71) [T20]),
    .op D19 (.mv T21),
    .op D22 (.ex (nat_lit 0) T19),
    .op D23 (.ex (nat_lit 1) T19),
    .op D13 (.mv T22),
    .op D14 (.mv T23)])
  (.seq (.block (nat_lit 0) (.seq (.reg [.op D25 (.mv T3),
    .op D26 (.bin .lss T25 (.c (.int .i64 (.ofNat (nat_lit 0))))),
    .op D27 (.mv T26),
    .gop .n1 .n11 g27 (fun _ => rfl) false D28 (.mv T3),
    .gop .n1 .n11 g27 (fun _ => rfl) false D29 (.bin .geq T28 (.c (.int .i64 (.ofNat (nat_lit 4))))),
    .op D30 (.pick T27 (.c (.bool true)) T29),
    .op D24 (.mv T30)])
  (.cond T24 (.reg [.op D12 (.mv (.c (.int .i64 (.ofNat (nat_lit 10)))))])
  (.seq (.reg [.op D32 (.mv T13),
    .op D33 (.call (nat_lit 72) [T32]),
    .op D34 (.un .not T33),
    .op D31 (.mv T34)])
  (.cond T31 (.reg [.op D12 (.mv (.c (.int .i64 (.ofNat (nat_lit 1)))))])
  (.skip))))))
  (.seq (.seq (.reg [.op D35 (.mv T12),
    .op D36 (.bin .neq T35 (.c (.int .i64 (.ofNat (nat_lit 0)))))])
  (.cond T36 (.seq (.reg [.op D37 (.mv T12),
    .op D38 (.build [.int .i64 (.ofNat (nat_lit 0)), .int .u64 (.ofNat (nat_lit 0))] [((nat_lit 0), (nat_lit 1), T37)]),
    .op D39 (.build [.int .i64 (.ofNat (nat_lit 0)), .int .i64 (.ofNat (nat_lit 0)), .int .i64 (.ofNat (nat_lit 0)), .int .i64 (.ofNat (nat_lit 0))] []),
    .op .no (.st (nat_lit 2) T10 T38),
    .op .no (.st (nat_lit 4) T11 T39)])
  (.ret))
  (.skip)))
  (.seq (.reg [.op D41 (.mv T0),
    .op D42 (.mv T1),
    .op D43 (.mv T3),
    .op D44 (.ixaA (nat_lit 5) (nat_lit 1) T9 (.c (.int .i64 (.ofNat (nat_lit 1))))),
    .op D45 (.ld1 T44),
    .op D46 (.cvi .i64 T45),
    .op D47 (.mv T13),
    .op D48 (.call (nat_lit 15) [T41, T42, T43, T46, T47]),
    .op D40 (.mv T48),
    .op D49 (.ex (nat_lit 0) T40),
    .op D50 (.ex (nat_lit 1) T40),
    .op D15 (.new [.int .i64 (.ofNat (nat_lit 0)), .int .i64 (.ofNat (nat_lit 0)), .int .i64 (.ofNat (nat_lit 0)), .int .i64 (.ofNat (nat_lit 0))]),
    .op .no (.st (nat_lit 4) T15 T49),
    .op D16 (.mv T50)])
  (.seq (.seq (.reg [.op D51 (.mv T16),
    .op D52 (.un .not T51)])
  (.cond T52 (.seq (.reg [.op D53 (.build [.int .i64 (.ofNat (nat_lit 0)), .int .u64 (.ofNat (nat_lit 0))] [((nat_lit 0), (nat_lit 1), .c (.int .i64 (.ofNat (nat_lit 7))))]),
    .op D54 (.build [.int .i64 (.ofNat (nat_lit 0)), .int .i64 (.ofNat (nat_lit 0)), .int .i64 (.ofNat (nat_lit 0)), .int .i64 (.ofNat (nat_lit 0))] []),
    .op .no (.st (nat_lit 2) T10 T53),
    .op .no (.st (nat_lit 4) T11 T54)])
  (.ret))
  (.skip)))
  (.seq (.drw [.op D55 (.mv T2),
    .op D56 (.fadd (nat_lit 2) T15),
    .op D57 (.ld1 T56),
    .op D58 (.ldA (nat_lit 5) T9),
    .op D59 (.call (nat_lit 73) [T55, T57, T58]),
    .op D60 (.ldA (nat_lit 4) T15),
    .op .no (.st (nat_lit 2) T10 T59),
    .op .no (.st (nat_lit 4) T11 T60)] [((nat_lit 5), (nat_lit 4)), ((nat_lit 5), (nat_lit 6))])
  (.ret)))))))),
  [.cellA .n0 .n10 g10 (fun _ => rfl) (nat_lit 2), .cellA .n0 .n11 g11 (fun _ => rfl) (nat_lit 4)]⟩
/-- messuage/messuagelaw2.Begun -/
noncomputable def ff36 : FFunc := ⟨.seq (.reg [.op D0 (.mv (.c (.bool false)))])
  (.seq (.reg [.op D1 (.call (nat_lit 74) []),
    .op D0 (.mv T1)])
  (.ret)),
  [.t .n0 .n0 g0 (fun _ => rfl)]⟩
/-- (*messuage/caps.Tree).Below -/
noncomputable def ff37 : FFunc := ⟨.seq (.reg [.op D3 (.box (nat_lit 1) T0),
    .op D4 (.box (nat_lit 1) T1),
    .op D5 (.box (nat_lit 1) T2),
    .op D6 (.mv (.c (.nils)))])
  (.seq (.reg [.op D7 (.ld1 T3),
    .op D8 (.mkfn (nat_lit 76) [] [T3, T4, T5]),
    .op D9 (.call (nat_lit 75) [T7, T8]),
    .op D6 (.mv T9)])
  (.ret)),
  [.t .n0 .n6 g6 (fun _ => rfl)]⟩
/-- (*messuage/epoch.Epochs).Done -/
noncomputable def ff38 : FFunc := ⟨.seq (.reg [.op D4 (.mv (.c (.bool false)))])
  (.seq (.reg [.op D5 (.mv T1),
    .op D6 (.bin .geq T5 (.c (.int .u64 (.ofNat (nat_lit 1))))),
    .op D7 (.mv T6),
    .gop .n0 .n7 g7 (fun _ => rfl) true D8 (.mv T1),
    .gop .n0 .n7 g7 (fun _ => rfl) true D9 (.mv T0),
    .gop .n0 .n7 g7 (fun _ => rfl) true D10 (.call (nat_lit 70) [T9]),
    .gop .n0 .n7 g7 (fun _ => rfl) true D11 (.bin .leq T8 T10),
    .op D12 (.pick T7 T11 (.c (.bool false))),
    .op D13 (.mv T12),
    .gop .n0 .n13 g13 (fun _ => rfl) true D14 (.mv T0),
    .gop .n0 .n13 g13 (fun _ => rfl) true D15 (.mv T1),
    .gop .n0 .n13 g13 (fun _ => rfl) true D16 (.call (nat_lit 39) [T14, T15]),
    .gop .n0 .n13 g13 (fun _ => rfl) true D17 (.lenL T16),
    .gop .n0 .n13 g13 (fun _ => rfl) true D18 (.bin .eql T17 (.c (.int .i64 (.ofNat (nat_lit 0))))),
    .op D19 (.pick T13 T18 (.c (.bool false))),
    .op D4 (.mv T19)])
  (.ret)),
  [.t .n0 .n4 g4 (fun _ => rfl)]⟩
/-- (*messuage/epoch.Epochs).Waits -/
noncomputable def ff39 : FFunc := ⟨.seq (.reg [.op D4 (.mv (.c (.nils)))])
  (.seq (.seq (.reg [.op D8 (.mv T1),
    .op D9 (.bin .lss T8 (.c (.int .u64 (.ofNat (nat_lit 1))))),
    .op D10 (.mv T9),
    .gop .n0 .n10 g10 (fun _ => rfl) false D11 (.mv T1),
    .gop .n0 .n10 g10 (fun _ => rfl) false D12 (.mv T0),
    .gop .n0 .n10 g10 (fun _ => rfl) false D13 (.call (nat_lit 70) [T12]),
    .gop .n0 .n10 g10 (fun _ => rfl) false D14 (.bin .gtr T11 T13),
    .op D15 (.pick T10 (.c (.bool true)) T14)])
  (.cond T15 (.seq (.reg [.op D4 (.mv (.c (.nils)))])
  (.ret))
  (.skip)))
  (.seq (.reg [.op D5 (.mv (.c (.nils)))])
  (.seq (.seq (.reg [.op D16 (.mv T0),
    .op D17 (.nilck T16),
    .op D18 (.fadd (nat_lit 1) T17),
    .op D19 (.ld1 T18),
    .op D20 (.lenL T19),
    .op D21 (.mv (.c (.int .i64 (.ofNat (nat_lit 0)))))])
  (.block (nat_lit 0) (.loop (.seq (.reg [.op D22 (.bin .lss T21 T20)])
  (.seq (.cond T22 (.skip)
  (.exit (nat_lit 0)))
  (.seq (.block (nat_lit 1) (.seq (.reg [.op D23 (.mv T21),
    .op D24 (.ixaS (nat_lit 1) T19 T21),
    .op D25 (.ld1 T24),
    .op D6 (.mv T23),
    .op D7 (.mv T25)])
  (.seq (.reg [.op D26 (.mv T7),
    .op D27 (.mv T1),
    .op D28 (.bin .lss T26 T27),
    .op D29 (.mv T28),
    .gop .n1 .n13 g29 (fun _ => rfl) true D30 (.mv T0),
    .gop .n1 .n13 g29 (fun _ => rfl) true D31 (.nilck T30),
    .gop .n1 .n13 g29 (fun _ => rfl) true D32 (.fadd (nat_lit 0) T31),
    .gop .n1 .n13 g29 (fun _ => rfl) true D33 (.ld1 T32),
    .gop .n1 .n13 g29 (fun _ => rfl) true D34 (.mv T1),
    .gop .n1 .n13 g29 (fun _ => rfl) true D35 (.bin .sub T34 (.c (.int .u64 (.ofNat (nat_lit 1))))),
    .gop .n1 .n13 g29 (fun _ => rfl) true D36 (.ixaS (nat_lit 1) T33 T35),
    .gop .n1 .n13 g29 (fun _ => rfl) true D37 (.ld1 T36),
    .gop .n1 .n13 g29 (fun _ => rfl) true D38 (.mv T6),
    .gop .n1 .n13 g29 (fun _ => rfl) true D39 (.bin .neq T37 T38),
    .op D40 (.pick T29 T39 (.c (.bool false)))])
  (.cond T40 (.reg [.op D41 (.mv T5),
    .op D42 (.mv T6),
    .op D43 (.bsl (nat_lit 1) [.int .i64 (.ofNat (nat_lit 0))] (nat_lit 1) [((nat_lit 0), (nat_lit 1), T42)]),
    .op D44 (.app (nat_lit 1) (nat_lit 8) T41 T43),
    .op D5 (.mv T44)])
  (.skip)))))
  (.reg [.op D45 (.bin .add T21 (.c (.int .i64 (.ofNat (nat_lit 1))))),
    .op D21 (.mv T45)])))))))
  (.seq (.reg [.op D46 (.mv T5),
    .op D4 (.mv T46)])
  (.ret))))),
  [.t .n0 .n4 g4 (fun _ => rfl)]⟩
/-- messuage/pred.Holds -/
noncomputable def ff40 : FFunc := ⟨.seq (.reg [.op D6 (.mv (.c (.bool false)))])
  (.seq (.seq (.reg [.op D7 (.mv T0)])
  (.block (nat_lit 0) (.seq (.reg [.op D9 (.bin .eql T7 (.c (.int .i64 (.ofNat (nat_lit 1))))),
    .op D8 (.mv T9)])
  (.cond T8 (.seq (.reg [.op D10 (.mv T1),
    .op D11 (.mv T2),
    .op D12 (.bin .eql T10 T11),
    .op D6 (.mv T12)])
  (.ret))
  (.seq (.reg [.op D14 (.bin .eql T7 (.c (.int .i64 (.ofNat (nat_lit 2))))),
    .op D13 (.mv T14)])
  (.cond T13 (.seq (.reg [.op D15 (.mv T1),
    .op D16 (.mv T2),
    .op D17 (.bin .neq T15 T16),
    .op D6 (.mv T17)])
  (.ret))
  (.seq (.reg [.op D19 (.bin .eql T7 (.c (.int .i64 (.ofNat (nat_lit 3))))),
    .op D18 (.mv T19)])
  (.cond T18 (.seq (.reg [.op D20 (.mv T1),
    .op D21 (.mv T2),
    .op D22 (.bin .lss T20 T21),
    .op D6 (.mv T22)])
  (.ret))
  (.seq (.reg [.op D24 (.bin .eql T7 (.c (.int .i64 (.ofNat (nat_lit 4))))),
    .op D23 (.mv T24)])
  (.cond T23 (.seq (.reg [.op D25 (.mv T1),
    .op D26 (.mv T2),
    .op D27 (.bin .gtr T25 T26),
    .op D6 (.mv T27)])
  (.ret))
  (.skip)))))))))))
  (.seq (.reg [.op D6 (.mv (.c (.bool false)))])
  (.ret))),
  [.t .n0 .n6 g6 (fun _ => rfl)]⟩
/-- errors.Is -/
noncomputable def ff41 : FFunc := ⟨.seq (.reg [.op D4 (.mv (.c (.bool false)))])
  (.seq (.seq (.reg [.op D6 (.mv T0),
    .op D7 (.eq false (.sc .ifc) T6 (.c (.nili))),
    .op D8 (.mv T7),
    .gop .n0 .n8 g8 (fun _ => rfl) false D9 (.mv T1),
    .gop .n0 .n8 g8 (fun _ => rfl) false D10 (.eq false (.sc .ifc) T9 (.c (.nili))),
    .op D11 (.pick T8 (.c (.bool true)) T10)])
  (.cond T11 (.seq (.reg [.op D12 (.mv T0),
    .op D13 (.mv T1),
    .op D14 (.eq false (.sc .ifcS) T12 T13),
    .op D4 (.mv T14)])
  (.ret))
  (.skip)))
  (.seq (.reg [.op D15 (.mv T1),
    .op D16 (.call (nat_lit 78) [T15]),
    .op D17 (.inv [((nat_lit 174), (nat_lit 180))] T16 []),
    .op D5 (.mv T17)])
  (.seq (.reg [.op D18 (.mv T0),
    .op D19 (.mv T1),
    .op D20 (.mv T5),
    .op D21 (.call (nat_lit 79) [T18, T19, T20]),
    .op D4 (.mv T21)])
  (.ret)))),
  [.t .n0 .n4 g4 (fun _ => rfl)]⟩
/-- messuage/trap.Of -/
noncomputable def ff42 : FFunc := ⟨.seq (.reg [.op D2 (.mv (.c (.nili)))])
  (.seq (.seq (.reg [.op D3 (.mv T0),
    .op D4 (.bin .eql T3 (.c (.int .i64 (.ofNat (nat_lit 0)))))])
  (.cond T4 (.seq (.reg [.op D2 (.mv (.c (.nili)))])
  (.ret))
  (.skip)))
  (.seq (.reg [.op D5 (.mv T0),
    .op D6 (.build [.int .i64 (.ofNat (nat_lit 0)), .int .i64 (.ofNat (nat_lit 0)), .int .u64 (.ofNat (nat_lit 0)), .int .u64 (.ofNat (nat_lit 0)), .int .u64 (.ofNat (nat_lit 0)), .int .u64 (.ofNat (nat_lit 0)), .int .u64 (.ofNat (nat_lit 0)), .nili] [((nat_lit 0), (nat_lit 1), T5), ((nat_lit 1), (nat_lit 1), .c (.int .i64 (.negSucc (nat_lit 0))))]),
    .op D7 (.box (nat_lit 8) T6),
    .op D8 (.mkifc (nat_lit 122) T7),
    .op D2 (.mv T8)])
  (.ret))),
  [.t .n0 .n2 g2 (fun _ => rfl)]⟩
/-- (*messuage/tlb.Tlb).Clear -/
noncomputable def ff43 : FFunc := ⟨.seq (.seq (.reg [.op D4 (.mv T0),
    .op D5 (.eq false (.sc .ptr) T4 (.c (.nilp)))])
  (.cond T5 (.ret)
  (.skip)))
  (.seq (.reg [.op D6 (.mv (.c (.int .i64 (.ofNat (nat_lit 0)))))])
  (.block (nat_lit 0) (.loop (.seq (.reg [.op D7 (.bin .lss T6 (.c (.int .i64 (.ofNat (nat_lit 4)))))])
  (.seq (.cond T7 (.skip)
  (.exit (nat_lit 0)))
  (.seq (.block (nat_lit 1) (.seq (.reg [.op D8 (.mv T6),
    .op D2 (.mv T8)])
  (.seq (.reg [.op D9 (.mv (.c (.int .i64 (.ofNat (nat_lit 0)))))])
  (.block (nat_lit 2) (.loop (.seq (.reg [.op D10 (.bin .lss T9 (.c (.int .i64 (.ofNat (nat_lit 2)))))])
  (.seq (.cond T10 (.skip)
  (.exit (nat_lit 2)))
  (.seq (.block (nat_lit 3) (.seq (.reg [.op D11 (.mv T9),
    .op D3 (.mv T11)])
  (.drw [.op D12 (.mv T0),
    .op D13 (.mv T2),
    .op D14 (.mv T3),
    .op D15 (.call (nat_lit 80) []),
    .op D16 (.nilck T12),
    .op D17 (.fadd (nat_lit 0) T16),
    .op D18 (.ixaA (nat_lit 4) (nat_lit 10) T17 T13),
    .op D19 (.ixaA (nat_lit 2) (nat_lit 5) T18 T14),
    .op D20 (.fadd (nat_lit 0) T19),
    .op .no (.st (nat_lit 4) T20 T15)] [])))
  (.reg [.op D21 (.bin .add T9 (.c (.int .i64 (.ofNat (nat_lit 1))))),
    .op D9 (.mv T21)])))))))))
  (.reg [.op D22 (.bin .add T6 (.c (.int .i64 (.ofNat (nat_lit 1))))),
    .op D6 (.mv T22)]))))))),
  []⟩
/-- messuage/pte.May -/
noncomputable def ff44 : FFunc := ⟨.seq (.reg [.op D2 (.mv (.c (.bool false)))])
  (.seq (.reg [.op D3 (.mv T0),
    .op D4 (.bin .geq T3 (.c (.int .i64 (.ofNat (nat_lit 1))))),
    .op D5 (.mv T4),
    .gop .n0 .n5 g5 (fun _ => rfl) true D6 (.mv T0),
    .gop .n0 .n5 g5 (fun _ => rfl) true D7 (.bin .leq T6 (.c (.int .i64 (.ofNat (nat_lit 3))))),
    .op D8 (.pick T5 T7 (.c (.bool false))),
    .op D2 (.mv T8)])
  (.ret)),
  [.t .n0 .n2 g2 (fun _ => rfl)]⟩
/-- (*messuage/tlb.Tlb).at -/
noncomputable def ff45 : FFunc := ⟨.seq (.reg [.op D6 (.mv (.c (.nilp)))])
  (.seq (.seq (.reg [.op D9 (.mv T0),
    .op D10 (.eq false (.sc .ptr) T9 (.c (.nilp))),
    .op D11 (.mv T10),
    .gop .n0 .n11 g11 (fun _ => rfl) false D12 (.mv T1),
    .gop .n0 .n11 g11 (fun _ => rfl) false D13 (.bin .lss T12 (.c (.int .i64 (.ofNat (nat_lit 0))))),
    .op D14 (.pick T11 (.c (.bool true)) T13),
    .op D15 (.mv T14),
    .gop .n0 .n15 g15 (fun _ => rfl) false D16 (.mv T2),
    .gop .n0 .n15 g15 (fun _ => rfl) false D17 (.bin .lss T16 (.c (.int .i64 (.ofNat (nat_lit 0))))),
    .op D18 (.pick T15 (.c (.bool true)) T17),
    .op D19 (.mv T18),
    .gop .n1 .n3 g19 (fun _ => rfl) false D20 (.mv T2),
    .gop .n1 .n3 g19 (fun _ => rfl) false D21 (.bin .geq T20 (.c (.int .i64 (.ofNat (nat_lit 8))))),
    .op D22 (.pick T19 (.c (.bool true)) T21)])
  (.cond T22 (.seq (.reg [.op D6 (.mv (.c (.nilp)))])
  (.ret))
  (.skip)))
  (.seq (.seq (.reg [.op D23 (.mv (.c (.int .i64 (.ofNat (nat_lit 0)))))])
  (.block (nat_lit 0) (.loop (.seq (.reg [.op D24 (.bin .lss T23 (.c (.int .i64 (.ofNat (nat_lit 2)))))])
  (.seq (.cond T24 (.skip)
  (.exit (nat_lit 0)))
  (.seq (.block (nat_lit 1) (.seq (.reg [.op D25 (.mv T23),
    .op D7 (.mv T25)])
  (.seq (.reg [.op D26 (.mv T0),
    .op D27 (.mv T2),
    .op D28 (.bin .rem T27 (.c (.int .i64 (.ofNat (nat_lit 4))))),
    .op D29 (.mv T7),
    .op D30 (.nilck T26),
    .op D31 (.fadd (nat_lit 0) T30),
    .op D32 (.ixaA (nat_lit 4) (nat_lit 10) T31 T28),
    .op D33 (.ixaA (nat_lit 2) (nat_lit 5) T32 T29),
    .op D8 (.mv T33)])
  (.seq (.reg [.op D34 (.mv T8),
    .op D35 (.nilck T34),
    .op D36 (.fadd (nat_lit 0) T35),
    .op D37 (.fadd (nat_lit 0) T36),
    .op D38 (.ld1 T37),
    .op D39 (.mv T1),
    .op D40 (.bin .eql T38 T39),
    .op D41 (.mv T40),
    .gop .n2 .n9 g41 (fun _ => rfl) true D42 (.mv T8),
    .gop .n2 .n9 g41 (fun _ => rfl) true D43 (.nilck T42),
    .gop .n2 .n9 g41 (fun _ => rfl) true D44 (.fadd (nat_lit 0) T43),
    .gop .n2 .n9 g41 (fun _ => rfl) true D45 (.fadd (nat_lit 1) T44),
    .gop .n2 .n9 g41 (fun _ => rfl) true D46 (.ld1 T45),
    .gop .n2 .n9 g41 (fun _ => rfl) true D47 (.mv T2),
    .gop .n2 .n9 g41 (fun _ => rfl) true D48 (.bin .eql T46 T47),
    .op D49 (.pick T41 T48 (.c (.bool false)))])
  (.cond T49 (.seq (.reg [.op D50 (.mv T8),
    .op D6 (.mv T50)])
  (.ret))
  (.skip))))))
  (.reg [.op D51 (.bin .add T23 (.c (.int .i64 (.ofNat (nat_lit 1))))),
    .op D23 (.mv T51)])))))))
  (.seq (.reg [.op D6 (.mv (.c (.nilp)))])
  (.ret)))),
  [.t .n0 .n6 g6 (fun _ => rfl)]⟩
/-- (*messuage/tlb.Tlb).room -/
noncomputable def ff46 : FFunc := ⟨.seq (.reg [.op D4 (.mv (.c (.nilp)))])
  (.seq (.reg [.op D5 (.mv (.c (.nilp)))])
  (.seq (.seq (.reg [.op D8 (.mv (.c (.int .i64 (.ofNat (nat_lit 0)))))])
  (.block (nat_lit 0) (.loop (.seq (.reg [.op D9 (.bin .lss T8 (.c (.int .i64 (.ofNat (nat_lit 2)))))])
  (.seq (.cond T9 (.skip)
  (.exit (nat_lit 0)))
  (.seq (.block (nat_lit 1) (.seq (.reg [.op D10 (.mv T8),
    .op D6 (.mv T10)])
  (.seq (.reg [.op D11 (.mv T0),
    .op D12 (.mv T1),
    .op D13 (.mv T6),
    .op D14 (.nilck T11),
    .op D15 (.fadd (nat_lit 0) T14),
    .op D16 (.ixaA (nat_lit 4) (nat_lit 10) T15 T12),
    .op D17 (.ixaA (nat_lit 2) (nat_lit 5) T16 T13),
    .op D7 (.mv T17)])
  (.seq (.seq (.reg [.op D18 (.mv T7),
    .op D19 (.nilck T18),
    .op D20 (.fadd (nat_lit 0) T19),
    .op D21 (.fadd (nat_lit 0) T20),
    .op D22 (.ld1 T21),
    .op D23 (.bin .lss T22 (.c (.int .i64 (.ofNat (nat_lit 0)))))])
  (.cond T23 (.seq (.reg [.op D24 (.mv T7),
    .op D4 (.mv T24)])
  (.ret))
  (.skip)))
  (.seq (.drw [.op D25 (.mv T5),
    .op D26 (.eq false (.sc .ptr) T25 (.c (.nilp))),
    .op D27 (.mv T26),
    .gop .n1 .n11 g27 (fun _ => rfl) false D28 (.mv T7),
    .gop .n1 .n11 g27 (fun _ => rfl) false D29 (.nilck T28),
    .gop .n1 .n11 g27 (fun _ => rfl) false D30 (.fadd (nat_lit 4) T29),
    .gop .n1 .n11 g27 (fun _ => rfl) false D31 (.ld1 T30),
    .gop .n1 .n11 g27 (fun _ => rfl) false D32 (.mv T5),
    .gop .n1 .n11 g27 (fun _ => rfl) false D33 (.nilck T32),
    .gop .n1 .n11 g27 (fun _ => rfl) false D34 (.fadd (nat_lit 4) T33),
    .gop .n1 .n11 g27 (fun _ => rfl) false D35 (.ld1 T34),
    .gop .n1 .n11 g27 (fun _ => rfl) false D36 (.bin .lss T31 T35),
    .op D37 (.pick T27 (.c (.bool true)) T36)] [])
  (.cond T37 (.reg [.op D38 (.mv T7),
    .op D5 (.mv T38)])
  (.skip)))))))
  (.reg [.op D39 (.bin .add T8 (.c (.int .i64 (.ofNat (nat_lit 1))))),
    .op D8 (.mv T39)])))))))
  (.seq (.reg [.op D40 (.mv T5),
    .op D4 (.mv T40)])
  (.ret)))),
  [.t .n0 .n4 g4 (fun _ => rfl)]⟩
/-- messuage/pte.Put -/
noncomputable def ff47 : FFunc := ⟨.seq (.reg [.op D1 (.box (nat_lit 3) T0),
    .op D2 (.mv (.c (.int .u64 (.ofNat (nat_lit 0))))),
    .op D3 (.mv (.c (.bool false)))])
  (.seq (.seq (.reg [.op D4 (.ldA (nat_lit 3) T1),
    .op D5 (.build [.int .i64 (.ofNat (nat_lit 0)), .int .i64 (.ofNat (nat_lit 0)), .int .i64 (.ofNat (nat_lit 0))] []),
    .op D6 (.eq false (.flat [((nat_lit 0), .int), ((nat_lit 1), .int), ((nat_lit 2), .int)]) T4 T5)])
  (.cond T6 (.seq (.reg [.op D2 (.mv (.c (.int .u64 (.ofNat (nat_lit 0))))),
    .op D3 (.mv (.c (.bool true)))])
  (.ret))
  (.skip)))
  (.seq (.seq (.reg [.op D7 (.fadd (nat_lit 0) T1),
    .op D8 (.ld1 T7),
    .op D9 (.bin .lss T8 (.c (.int .i64 (.ofNat (nat_lit 0))))),
    .op D10 (.mv T9),
    .gop .n0 .n10 g10 (fun _ => rfl) false D11 (.fadd (nat_lit 0) T1),
    .gop .n0 .n10 g10 (fun _ => rfl) false D12 (.ld1 T11),
    .gop .n0 .n10 g10 (fun _ => rfl) false D13 (.bin .geq T12 (.c (.int .i64 (.ofNat (nat_lit 16))))),
    .op D14 (.pick T10 (.c (.bool true)) T13),
    .op D15 (.mv T14),
    .gop .n0 .n15 g15 (fun _ => rfl) false D16 (.fadd (nat_lit 1) T1),
    .gop .n0 .n15 g15 (fun _ => rfl) false D17 (.ld1 T16),
    .gop .n0 .n15 g15 (fun _ => rfl) false D18 (.bin .lss T17 (.c (.int .i64 (.ofNat (nat_lit 0))))),
    .op D19 (.pick T15 (.c (.bool true)) T18),
    .op D20 (.mv T19),
    .gop .n1 .n4 g20 (fun _ => rfl) false D21 (.fadd (nat_lit 1) T1),
    .gop .n1 .n4 g20 (fun _ => rfl) false D22 (.ld1 T21),
    .gop .n1 .n4 g20 (fun _ => rfl) false D23 (.bin .geq T22 (.c (.int .i64 (.ofNat (nat_lit 8))))),
    .op D24 (.pick T20 (.c (.bool true)) T23),
    .op D25 (.mv T24),
    .gop .n1 .n9 g25 (fun _ => rfl) false D26 (.fadd (nat_lit 2) T1),
    .gop .n1 .n9 g25 (fun _ => rfl) false D27 (.ld1 T26),
    .gop .n1 .n9 g25 (fun _ => rfl) false D28 (.call (nat_lit 44) [T27]),
    .gop .n1 .n9 g25 (fun _ => rfl) false D29 (.un .not T28),
    .op D30 (.pick T25 (.c (.bool true)) T29)])
  (.cond T30 (.seq (.reg [.op D2 (.mv (.c (.int .u64 (.ofNat (nat_lit 0))))),
    .op D3 (.mv (.c (.bool false)))])
  (.ret))
  (.skip)))
  (.seq (.reg [.op D31 (.fadd (nat_lit 0) T1),
    .op D32 (.ld1 T31),
    .op D33 (.bin .mul (.c (.int .i64 (.ofNat (nat_lit 256)))) T32),
    .op D34 (.bin .add (.c (.int .i64 (.ofNat (nat_lit 32768)))) T33),
    .op D35 (.fadd (nat_lit 1) T1),
    .op D36 (.ld1 T35),
    .op D37 (.bin .mul (.c (.int .i64 (.ofNat (nat_lit 16)))) T36),
    .op D38 (.bin .add T34 T37),
    .op D39 (.fadd (nat_lit 2) T1),
    .op D40 (.ld1 T39),
    .op D41 (.bin .add T38 T40),
    .op D42 (.cvi .u64 T41),
    .op D2 (.mv T42),
    .op D3 (.mv (.c (.bool true)))])
  (.ret)))),
  [.t .n0 .n2 g2 (fun _ => rfl), .t .n0 .n3 g3 (fun _ => rfl)]⟩
/-- messuage/table.is -/
noncomputable def ff48 : FFunc := ⟨.seq (.reg [.op D2 (.mv (.c (.bool false)))])
  (.seq (.reg [.op D3 (.mv T0),
    .op D4 (.bin .geq T3 (.c (.int .i64 (.ofNat (nat_lit 0))))),
    .op D5 (.mv T4),
    .gop .n0 .n5 g5 (fun _ => rfl) true D6 (.mv T0),
    .gop .n0 .n5 g5 (fun _ => rfl) true D7 (.bin .lss T6 (.c (.int .i64 (.ofNat (nat_lit 8))))),
    .op D8 (.pick T5 T7 (.c (.bool false))),
    .op D2 (.mv T8)])
  (.ret)),
  [.t .n0 .n2 g2 (fun _ => rfl)]⟩
/-- messuage/pte.Lets -/
noncomputable def ff49 : FFunc := ⟨.seq (.reg [.op D4 (.mv (.c (.bool false)))])
  (.seq (.reg [.op D5 (.mv (.c (.int .i64 (.ofNat (nat_lit 0)))))])
  (.seq (.seq (.reg [.op D6 (.mv T1)])
  (.block (nat_lit 0) (.seq (.reg [.op D8 (.bin .eql T6 (.c (.int .i64 (.ofNat (nat_lit 20))))),
    .op D7 (.mv T8)])
  (.cond T7 (.reg [.op D5 (.mv (.c (.int .i64 (.ofNat (nat_lit 1)))))])
  (.seq (.reg [.op D10 (.bin .eql T6 (.c (.int .i64 (.ofNat (nat_lit 21))))),
    .op D9 (.mv T10)])
  (.cond T9 (.reg [.op D5 (.mv (.c (.int .i64 (.ofNat (nat_lit 2)))))])
  (.seq (.seq (.reg [.op D12 (.bin .eql T6 (.c (.int .i64 (.ofNat (nat_lit 22))))),
    .op D11 (.mv T12)])
  (.cond T11 (.skip)
  (.reg [.op D13 (.bin .eql T6 (.c (.int .i64 (.ofNat (nat_lit 23))))),
    .op D11 (.mv T13)])))
  (.cond T11 (.reg [.op D5 (.mv (.c (.int .i64 (.ofNat (nat_lit 3)))))])
  (.skip)))))))))
  (.seq (.reg [.op D14 (.mv T5),
    .op D15 (.mv T0),
    .op D16 (.call (nat_lit 52) [T14, T15]),
    .op D4 (.mv T16)])
  (.ret)))),
  [.t .n0 .n4 g4 (fun _ => rfl)]⟩
/-- (*messuage/tlb.Tlb).Flush -/
noncomputable def ff50 : FFunc := ⟨.seq (.reg [.op D6 (.mv (.c (.bool false)))])
  (.seq (.reg [.op D8 (.mv T0),
    .op D9 (.mv T1),
    .op D10 (.mv T2),
    .op D11 (.call (nat_lit 45) [T8, T9, T10]),
    .op D7 (.mv T11)])
  (.seq (.seq (.reg [.op D12 (.mv T7),
    .op D13 (.eq false (.sc .ptr) T12 (.c (.nilp)))])
  (.cond T13 (.seq (.reg [.op D6 (.mv (.c (.bool false)))])
  (.ret))
  (.skip)))
  (.seq (.reg [.op D14 (.mv T7),
    .op D15 (.call (nat_lit 80) []),
    .op D16 (.nilck T14),
    .op D17 (.fadd (nat_lit 0) T16),
    .op .no (.st (nat_lit 4) T17 T15)])
  (.seq (.reg [.op D6 (.mv (.c (.bool true)))])
  (.ret))))),
  [.t .n0 .n6 g6 (fun _ => rfl)]⟩
/-- (*messuage/caps.Tree).is -/
noncomputable def ff51 : FFunc := ⟨.seq (.reg [.op D6 (.mv (.c (.bool false)))])
  (.seq (.reg [.op D7 (.mv T1),
    .op D8 (.bin .geq T7 (.c (.int .i64 (.ofNat (nat_lit 0))))),
    .op D9 (.mv T8),
    .gop .n0 .n9 g9 (fun _ => rfl) true D10 (.mv T1),
    .gop .n0 .n9 g9 (fun _ => rfl) true D11 (.mv T0),
    .gop .n0 .n9 g9 (fun _ => rfl) true D12 (.nilck T11),
    .gop .n0 .n9 g9 (fun _ => rfl) true D13 (.fadd (nat_lit 0) T12),
    .gop .n0 .n9 g9 (fun _ => rfl) true D14 (.ld1 T13),
    .gop .n0 .n9 g9 (fun _ => rfl) true D15 (.lenL T14),
    .gop .n0 .n9 g9 (fun _ => rfl) true D16 (.bin .lss T10 T15),
    .op D17 (.pick T9 T16 (.c (.bool false))),
    .op D18 (.mv T17),
    .gop .n1 .n2 g18 (fun _ => rfl) true D19 (.mv T2),
    .gop .n1 .n2 g18 (fun _ => rfl) true D20 (.bin .geq T19 (.c (.int .i64 (.ofNat (nat_lit 0))))),
    .op D21 (.pick T18 T20 (.c (.bool false))),
    .op D22 (.mv T21),
    .gop .n1 .n6 g22 (fun _ => rfl) true D23 (.mv T2),
    .gop .n1 .n6 g22 (fun _ => rfl) true D24 (.bin .lss T23 (.c (.int .i64 (.ofNat (nat_lit 8))))),
    .op D25 (.pick T22 T24 (.c (.bool false))),
    .op D6 (.mv T25)])
  (.ret)),
  [.t .n0 .n6 g6 (fun _ => rfl)]⟩
/-- messuage/pte.Within -/
noncomputable def ff52 : FFunc := ⟨.seq (.reg [.op D4 (.mv (.c (.bool false)))])
  (.seq (.reg [.op D5 (.mv T0),
    .op D6 (.call (nat_lit 44) [T5]),
    .op D7 (.mv T6),
    .gop .n0 .n7 g7 (fun _ => rfl) true D8 (.mv T1),
    .gop .n0 .n7 g7 (fun _ => rfl) true D9 (.call (nat_lit 44) [T8]),
    .op D10 (.pick T7 T9 (.c (.bool false))),
    .op D11 (.mv T10),
    .gop .n0 .n11 g11 (fun _ => rfl) true D12 (.mv T0),
    .gop .n0 .n11 g11 (fun _ => rfl) true D13 (.mv T1),
    .gop .n0 .n11 g11 (fun _ => rfl) true D14 (.bin .andNot T12 T13),
    .gop .n0 .n11 g11 (fun _ => rfl) true D15 (.bin .eql T14 (.c (.int .i64 (.ofNat (nat_lit 0))))),
    .op D16 (.pick T11 T15 (.c (.bool false))),
    .op D4 (.mv T16)])
  (.ret)),
  [.t .n0 .n4 g4 (fun _ => rfl)]⟩
/-- (*messuage/plain.Kernel).off -/
noncomputable def ff53 : FFunc := ⟨.seq (.reg [.op D4 (.mv (.c (.bool false)))])
  (.seq (.reg [.op D5 (.mv T0),
    .op D6 (.eq false (.sc .ptr) T5 (.c (.nilp))),
    .op D7 (.mv T6),
    .gop .n0 .n7 g7 (fun _ => rfl) false D8 (.mv T1),
    .gop .n0 .n7 g7 (fun _ => rfl) false D9 (.bin .lss T8 (.c (.int .i64 (.ofNat (nat_lit 0))))),
    .op D10 (.pick T7 (.c (.bool true)) T9),
    .op D11 (.mv T10),
    .gop .n0 .n11 g11 (fun _ => rfl) false D12 (.mv T1),
    .gop .n0 .n11 g11 (fun _ => rfl) false D13 (.mv T0),
    .gop .n0 .n11 g11 (fun _ => rfl) false D14 (.nilck T13),
    .gop .n0 .n11 g11 (fun _ => rfl) false D15 (.fadd (nat_lit 0) T14),
    .gop .n0 .n11 g11 (fun _ => rfl) false D16 (.fadd (nat_lit 1) T15),
    .gop .n0 .n11 g11 (fun _ => rfl) false D17 (.ld1 T16),
    .gop .n0 .n11 g11 (fun _ => rfl) false D18 (.bin .geq T12 T17),
    .op D19 (.pick T11 (.c (.bool true)) T18),
    .op D4 (.mv T19)])
  (.ret)),
  [.t .n0 .n4 g4 (fun _ => rfl)]⟩
/-- messuage/plain.fails -/
noncomputable def ff54 : FFunc := ⟨.seq (.reg [.op D2 (.new [.int .i64 (.ofNat (nat_lit 0)), .int .u64 (.ofNat (nat_lit 0))]),
    .op D3 (.mv (.c (.bool false)))])
  (.seq (.reg [.op D4 (.mv T0),
    .op D5 (.build [.int .i64 (.ofNat (nat_lit 0)), .int .u64 (.ofNat (nat_lit 0))] [((nat_lit 0), (nat_lit 1), T4)]),
    .op .no (.st (nat_lit 2) T2 T5),
    .op D3 (.mv (.c (.bool true)))])
  (.ret)),
  [.cellA .n0 .n2 g2 (fun _ => rfl) (nat_lit 2), .t .n0 .n3 g3 (fun _ => rfl)]⟩
/-- messuage/word.Check -/
noncomputable def ff55 : FFunc := ⟨.seq (.reg [.op D2 (.box (nat_lit 5) T0),
    .op D4 (.mv (.c (.int .i64 (.ofNat (nat_lit 0)))))])
  (.seq (.reg [.op D10 (.ldA (nat_lit 5) T2),
    .op D11 (.call (nat_lit 71) [T10]),
    .op D9 (.mv T11),
    .op D12 (.ex (nat_lit 0) T9),
    .op D13 (.ex (nat_lit 1) T9),
    .op D5 (.mv T12),
    .op D6 (.mv T13)])
  (.seq (.seq (.reg [.op D14 (.mv T6),
    .op D15 (.un .not T14)])
  (.cond T15 (.seq (.reg [.op D4 (.mv (.c (.int .i64 (.ofNat (nat_lit 1)))))])
  (.ret))
  (.skip)))
  (.seq (.seq (.reg [.op D16 (.mv T5),
    .op D17 (.call (nat_lit 81) [T16]),
    .op D18 (.lenL T17),
    .op D19 (.mv (.c (.int .i64 (.ofNat (nat_lit 0)))))])
  (.block (nat_lit 0) (.loop (.seq (.reg [.op D20 (.bin .lss T19 T18)])
  (.seq (.cond T20 (.skip)
  (.exit (nat_lit 0)))
  (.seq (.block (nat_lit 1) (.seq (.reg [.op D21 (.mv T19),
    .op D22 (.ixaS (nat_lit 1) T17 T19),
    .op D23 (.ld1 T22),
    .op D7 (.mv T21),
    .op D8 (.mv T23)])
  (.seq (.reg [.op D24 (.ldA (nat_lit 5) T2),
    .op D25 (.mv T7),
    .op D26 (.bin .add T25 (.c (.int .i64 (.ofNat (nat_lit 1))))),
    .op D27 (.mv T8),
    .op D28 (.mv T1),
    .op D29 (.call (nat_lit 82) [T24, T26, T27, T28]),
    .op D30 (.un .not T29)])
  (.cond T30 (.seq (.reg [.op D4 (.mv (.c (.int .i64 (.ofNat (nat_lit 2)))))])
  (.ret))
  (.skip)))))
  (.reg [.op D31 (.bin .add T19 (.c (.int .i64 (.ofNat (nat_lit 1))))),
    .op D19 (.mv T31)])))))))
  (.seq (.reg [.op D4 (.mv (.c (.int .i64 (.ofNat (nat_lit 0)))))])
  (.ret))))),
  [.t .n0 .n4 g4 (fun _ => rfl)]⟩
/-- (*messuage/plain.Kernel).alloc -/
noncomputable def ff56 : FFunc := ⟨.seq (.reg [.op D6 (.mv (.c (.int .i64 (.ofNat (nat_lit 0)))))])
  (.seq (.seq (.reg [.op D12 (.mv T0),
    .op D13 (.nilck T12),
    .op D14 (.fadd (nat_lit 6) T13),
    .op D15 (.ld1 T14),
    .op D16 (.mv T1),
    .op D17 (.mv T2),
    .op D18 (.call (nat_lit 22) [T15, T16, T17]),
    .op D11 (.mv T18),
    .op D19 (.ex (nat_lit 0) T11),
    .op D20 (.ex (nat_lit 1) T11),
    .op D7 (.new [.int .i64 (.ofNat (nat_lit 0)), .int .i64 (.ofNat (nat_lit 0)), .int .i64 (.ofNat (nat_lit 0)), .int .i64 (.ofNat (nat_lit 0))]),
    .op .no (.st (nat_lit 4) T7 T19),
    .op D8 (.mv T20)])
  (.seq (.reg [.op D21 (.mv T8)])
  (.cond T21 (.seq (.reg [.op D6 (.mv (.c (.int .i64 (.ofNat (nat_lit 4)))))])
  (.ret))
  (.skip))))
  (.seq (.reg [.op D23 (.mv T0),
    .op D24 (.nilck T23),
    .op D25 (.fadd (nat_lit 5) T24),
    .op D26 (.ld1 T25),
    .op D27 (.call (nat_lit 83) [T26]),
    .op D22 (.mv T27),
    .op D28 (.ex (nat_lit 0) T22),
    .op D29 (.ex (nat_lit 1) T22),
    .op D9 (.mv T28),
    .op D10 (.mv T29)])
  (.seq (.seq (.reg [.op D30 (.mv T10),
    .op D31 (.un .not T30)])
  (.cond T31 (.seq (.reg [.op D6 (.mv (.c (.int .i64 (.ofNat (nat_lit 6)))))])
  (.ret))
  (.skip)))
  (.seq (.reg [.op D32 (.mv T0),
    .op D33 (.nilck T32),
    .op D34 (.fadd (nat_lit 3) T33),
    .op D35 (.ld1 T34),
    .op D36 (.mv T9),
    .op D37 (.call (nat_lit 84) [T35, T36])])
  (.seq (.reg [.op D38 (.mv T0),
    .op D39 (.nilck T38),
    .op D40 (.fadd (nat_lit 6) T39),
    .op D41 (.ld1 T40),
    .op D42 (.mv T1),
    .op D43 (.mv T2),
    .op D44 (.mv T9),
    .op D45 (.call (nat_lit 18) [T41, T42, T43, T44]),
    .op D6 (.mv T45)])
  (.ret)))))),
  [.t .n0 .n6 g6 (fun _ => rfl)]⟩
/-- (*messuage/plain.Kernel).derive -/
noncomputable def ff57 : FFunc := ⟨.seq (.reg [.op D12 (.mv (.c (.int .i64 (.ofNat (nat_lit 0)))))])
  (.seq (.seq (.reg [.op D16 (.mv T0),
    .op D17 (.nilck T16),
    .op D18 (.fadd (nat_lit 6) T17),
    .op D19 (.ld1 T18),
    .op D20 (.mv T1),
    .op D21 (.mv T2),
    .op D22 (.mv T3),
    .op D23 (.mv T4),
    .op D24 (.mv T5),
    .op D25 (.call (nat_lit 19) [T19, T20, T21, T22, T23, T24]),
    .op D13 (.mv T25)])
  (.seq (.reg [.op D26 (.mv T13),
    .op D27 (.bin .neq T26 (.c (.int .i64 (.ofNat (nat_lit 0)))))])
  (.cond T27 (.seq (.reg [.op D28 (.mv T13),
    .op D12 (.mv T28)])
  (.ret))
  (.skip))))
  (.seq (.seq (.reg [.op D30 (.mv T0),
    .op D31 (.nilck T30),
    .op D32 (.fadd (nat_lit 6) T31),
    .op D33 (.ld1 T32),
    .op D34 (.mv T3),
    .op D35 (.mv T4),
    .op D36 (.call (nat_lit 22) [T33, T34, T35]),
    .op D29 (.mv T36),
    .op D37 (.ex (nat_lit 0) T29),
    .op D38 (.ex (nat_lit 1) T29),
    .op D14 (.new [.int .i64 (.ofNat (nat_lit 0)), .int .i64 (.ofNat (nat_lit 0)), .int .i64 (.ofNat (nat_lit 0)), .int .i64 (.ofNat (nat_lit 0))]),
    .op .no (.st (nat_lit 4) T14 T37),
    .op D15 (.mv T38)])
  (.seq (.drw [.op D39 (.mv T0),
    .op D40 (.nilck T39),
    .op D41 (.fadd (nat_lit 5) T40),
    .op D42 (.ld1 T41),
    .op D43 (.fadd (nat_lit 0) T14),
    .op D44 (.ld1 T43),
    .op D45 (.call (nat_lit 85) [T42, T44]),
    .op D46 (.un .not T45)] [])
  (.cond T46 (.seq (.reg [.op D47 (.mv T0),
    .op D48 (.nilck T47),
    .op D49 (.fadd (nat_lit 6) T48),
    .op D50 (.ld1 T49),
    .op D51 (.mv T3),
    .op D52 (.mv T4),
    .op D53 (.call (nat_lit 86) [T50, T51, T52])])
  (.seq (.reg [.op D12 (.mv (.c (.int .i64 (.ofNat (nat_lit 6)))))])
  (.ret)))
  (.skip))))
  (.seq (.reg [.op D12 (.mv (.c (.int .i64 (.ofNat (nat_lit 0)))))])
  (.ret)))),
  [.t .n0 .n12 g12 (fun _ => rfl)]⟩
/-- (*messuage/plain.Kernel).revoke -/
noncomputable def ff58 : FFunc := ⟨.seq (.reg [.op D8 (.new [.int .i64 (.ofNat (nat_lit 0)), .int .u64 (.ofNat (nat_lit 0))])])
  (.seq (.reg [.op D20 (.mv T0),
    .op D21 (.nilck T20),
    .op D22 (.fadd (nat_lit 6) T21),
    .op D23 (.ld1 T22),
    .op D24 (.mv T1),
    .op D25 (.mv T2),
    .op D26 (.call (nat_lit 22) [T23, T24, T25]),
    .op D19 (.mv T26),
    .op D27 (.ex (nat_lit 0) T19),
    .op D28 (.ex (nat_lit 1) T19),
    .op D9 (.new [.int .i64 (.ofNat (nat_lit 0)), .int .i64 (.ofNat (nat_lit 0)), .int .i64 (.ofNat (nat_lit 0)), .int .i64 (.ofNat (nat_lit 0))]),
    .op .no (.st (nat_lit 4) T9 T27),
    .op D10 (.mv T28)])
  (.seq (.reg [.op D30 (.mv T0),
    .op D31 (.nilck T30),
    .op D32 (.fadd (nat_lit 6) T31),
    .op D33 (.ld1 T32),
    .op D34 (.mv T1),
    .op D35 (.mv T2),
    .op D36 (.call (nat_lit 87) [T33, T34, T35]),
    .op D29 (.mv T36),
    .op D37 (.ex (nat_lit 0) T29),
    .op D38 (.ex (nat_lit 1) T29),
    .op D11 (.mv T37),
    .op D12 (.mv T38)])
  (.seq (.seq (.reg [.op D39 (.mv T3),
    .op D40 (.mv T39),
    .gop .n2 .n8 g40 (fun _ => rfl) true D41 (.mv T12),
    .gop .n2 .n8 g40 (fun _ => rfl) true D42 (.bin .eql T41 (.c (.int .i64 (.ofNat (nat_lit 0))))),
    .op D43 (.pick T40 T42 (.c (.bool false)))])
  (.cond T43 (.seq (.reg [.op D45 (.mv T0),
    .op D46 (.nilck T45),
    .op D47 (.fadd (nat_lit 6) T46),
    .op D48 (.ld1 T47),
    .op D49 (.mv T1),
    .op D50 (.mv T2),
    .op D51 (.call (nat_lit 86) [T48, T49, T50]),
    .op D44 (.mv T51),
    .op D52 (.ex (nat_lit 0) T44),
    .op D53 (.ex (nat_lit 1) T44),
    .op D13 (.mv T52),
    .op D14 (.mv T53)])
  (.reg [.op D54 (.mv T11),
    .op D55 (.mv T13),
    .op D56 (.app (nat_lit 2) (nat_lit 16) T54 T55),
    .op D11 (.mv T56)]))
  (.skip)))
  (.seq (.seq (.reg [.op D57 (.mv T12),
    .op D58 (.bin .neq T57 (.c (.int .i64 (.ofNat (nat_lit 0)))))])
  (.cond T58 (.seq (.reg [.op D59 (.mv T12),
    .op D60 (.build [.int .i64 (.ofNat (nat_lit 0)), .int .u64 (.ofNat (nat_lit 0))] [((nat_lit 0), (nat_lit 1), T59)]),
    .op .no (.st (nat_lit 2) T8 T60)])
  (.ret))
  (.skip)))
  (.seq (.seq (.reg [.op D61 (.mv T11),
    .op D62 (.lenL T61),
    .op D63 (.mv (.c (.int .i64 (.ofNat (nat_lit 0)))))])
  (.block (nat_lit 0) (.loop (.seq (.reg [.op D64 (.bin .lss T63 T62)])
  (.seq (.cond T64 (.skip)
  (.exit (nat_lit 0)))
  (.seq (.block (nat_lit 1) (.seq (.reg [.op D65 (.ixaS (nat_lit 2) T61 T63),
    .op D66 (.ldA (nat_lit 2) T65),
    .op D16 (.new [.int .i64 (.ofNat (nat_lit 0)), .int .i64 (.ofNat (nat_lit 0))]),
    .op .no (.st (nat_lit 2) T16 T66)])
  (.seq (.seq (.drw [.op D67 (.mv T0),
    .op D68 (.nilck T67),
    .op D69 (.fadd (nat_lit 4) T68),
    .op D70 (.ld1 T69),
    .op D71 (.fadd (nat_lit 0) T16),
    .op D72 (.ld1 T71),
    .op D73 (.ixaS (nat_lit 1) T70 T72),
    .op D74 (.ld1 T73),
    .op D75 (.fadd (nat_lit 1) T16),
    .op D76 (.ld1 T75),
    .op D77 (.call (nat_lit 88) [T74, T76]),
    .op D78 (.lenL T77),
    .op D79 (.mv (.c (.int .i64 (.ofNat (nat_lit 0)))))] [])
  (.block (nat_lit 2) (.loop (.seq (.reg [.op D80 (.bin .lss T79 T78)])
  (.seq (.cond T80 (.skip)
  (.exit (nat_lit 2)))
  (.seq (.block (nat_lit 3) (.seq (.reg [.op D81 (.ixaS (nat_lit 1) T77 T79),
    .op D82 (.ld1 T81),
    .op D18 (.mv T82)])
  (.drw [.op D83 (.mv T0),
    .op D84 (.nilck T83),
    .op D85 (.fadd (nat_lit 4) T84),
    .op D86 (.ld1 T85),
    .op D87 (.fadd (nat_lit 0) T16),
    .op D88 (.ld1 T87),
    .op D89 (.ixaS (nat_lit 1) T86 T88),
    .op D90 (.ld1 T89),
    .op D91 (.mv T18),
    .op D92 (.call (nat_lit 60) [T90, T91])] [])))
  (.reg [.op D93 (.bin .add T79 (.c (.int .i64 (.ofNat (nat_lit 1))))),
    .op D79 (.mv T93)])))))))
  (.drw [.op D94 (.mv T0),
    .op D95 (.nilck T94),
    .op D96 (.fadd (nat_lit 5) T95),
    .op D97 (.ld1 T96),
    .op D98 (.fadd (nat_lit 0) T9),
    .op D99 (.ld1 T98),
    .op D100 (.call (nat_lit 89) [T97, T99])] []))))
  (.reg [.op D101 (.bin .add T63 (.c (.int .i64 (.ofNat (nat_lit 1))))),
    .op D63 (.mv T101)])))))))
  (.seq (.reg [.op D102 (.mv T11),
    .op D103 (.lenL T102),
    .op D104 (.cvi .u64 T103),
    .op D105 (.build [.int .i64 (.ofNat (nat_lit 0)), .int .u64 (.ofNat (nat_lit 0))] [((nat_lit 1), (nat_lit 1), T104)]),
    .op .no (.st (nat_lit 2) T8 T105)])
  (.ret))))))),
  [.cellA .n0 .n8 g8 (fun _ => rfl) (nat_lit 2)]⟩
/-- (*messuage/plain.Kernel).maps -/
noncomputable def ff59 : FFunc := ⟨.seq (.reg [.op D10 (.mv (.c (.int .i64 (.ofNat (nat_lit 0)))))])
  (.seq (.reg [.op D16 (.mv T0),
    .op D17 (.nilck T16),
    .op D18 (.fadd (nat_lit 6) T17),
    .op D19 (.ld1 T18),
    .op D20 (.mv T1),
    .op D21 (.mv T3),
    .op D22 (.call (nat_lit 22) [T19, T20, T21]),
    .op D15 (.mv T22),
    .op D23 (.ex (nat_lit 0) T15),
    .op D24 (.ex (nat_lit 1) T15),
    .op D11 (.new [.int .i64 (.ofNat (nat_lit 0)), .int .i64 (.ofNat (nat_lit 0)), .int .i64 (.ofNat (nat_lit 0)), .int .i64 (.ofNat (nat_lit 0))]),
    .op .no (.st (nat_lit 4) T11 T23),
    .op D12 (.mv T24)])
  (.seq (.seq (.reg [.op D25 (.mv T12),
    .op D26 (.un .not T25)])
  (.cond T26 (.seq (.reg [.op D10 (.mv (.c (.int .i64 (.ofNat (nat_lit 3)))))])
  (.ret))
  (.skip)))
  (.seq (.seq (.reg [.op D28 (.mv T0),
    .op D29 (.nilck T28),
    .op D30 (.fadd (nat_lit 4) T29),
    .op D31 (.ld1 T30),
    .op D32 (.mv T1),
    .op D33 (.ixaS (nat_lit 1) T31 T32),
    .op D34 (.ld1 T33),
    .op D35 (.mv T2),
    .op D36 (.call (nat_lit 14) [T34, T35]),
    .op D27 (.mv T36),
    .op D37 (.ex (nat_lit 0) T27),
    .op D38 (.ex (nat_lit 1) T27),
    .op D13 (.new [.int .i64 (.ofNat (nat_lit 0)), .int .i64 (.ofNat (nat_lit 0)), .int .i64 (.ofNat (nat_lit 0))]),
    .op .no (.st (nat_lit 3) T13 T37),
    .op D14 (.mv T38)])
  (.seq (.reg [.op D39 (.mv T14)])
  (.cond T39 (.seq (.reg [.op D10 (.mv (.c (.int .i64 (.ofNat (nat_lit 4)))))])
  (.ret))
  (.skip))))
  (.seq (.seq (.reg [.op D40 (.mv T4),
    .op D41 (.fadd (nat_lit 1) T11),
    .op D42 (.ld1 T41),
    .op D43 (.call (nat_lit 52) [T40, T42]),
    .op D44 (.un .not T43)])
  (.cond T44 (.seq (.reg [.op D10 (.mv (.c (.int .i64 (.ofNat (nat_lit 5)))))])
  (.ret))
  (.skip)))
  (.seq (.drw [.op D45 (.mv T0),
    .op D46 (.nilck T45),
    .op D47 (.fadd (nat_lit 4) T46),
    .op D48 (.ld1 T47),
    .op D49 (.mv T1),
    .op D50 (.ixaS (nat_lit 1) T48 T49),
    .op D51 (.ld1 T50),
    .op D52 (.mv T2),
    .op D53 (.fadd (nat_lit 0) T11),
    .op D54 (.ld1 T53),
    .op D55 (.mv T3),
    .op D56 (.mv T4),
    .op D57 (.build [.int .i64 (.ofNat (nat_lit 0)), .int .i64 (.ofNat (nat_lit 0)), .int .i64 (.ofNat (nat_lit 0))] [((nat_lit 0), (nat_lit 1), T54), ((nat_lit 1), (nat_lit 1), T55), ((nat_lit 2), (nat_lit 1), T56)]),
    .op D58 (.call (nat_lit 12) [T51, T52, T57]),
    .op D10 (.mv T58)] [])
  (.ret)))))),
  [.t .n0 .n10 g10 (fun _ => rfl)]⟩
/-- (*messuage/table.Table).Remove -/
noncomputable def ff60 : FFunc := ⟨.seq (.reg [.op D4 (.new [.int .i64 (.ofNat (nat_lit 0)), .int .i64 (.ofNat (nat_lit 0)), .int .i64 (.ofNat (nat_lit 0))]),
    .op D5 (.mv (.c (.int .i64 (.ofNat (nat_lit 0)))))])
  (.seq (.block (nat_lit 0) (.seq (.reg [.op D8 (.mv T0),
    .op D9 (.eq false (.sc .ptr) T8 (.c (.nilp))),
    .op D7 (.mv T9)])
  (.cond T7 (.seq (.reg [.op D10 (.build [.int .i64 (.ofNat (nat_lit 0)), .int .i64 (.ofNat (nat_lit 0)), .int .i64 (.ofNat (nat_lit 0))] []),
    .op .no (.st (nat_lit 3) T4 T10),
    .op D5 (.mv (.c (.int .i64 (.ofNat (nat_lit 10)))))])
  (.ret))
  (.seq (.reg [.op D12 (.mv T1),
    .op D13 (.call (nat_lit 48) [T12]),
    .op D14 (.un .not T13),
    .op D11 (.mv T14)])
  (.cond T11 (.seq (.reg [.op D15 (.build [.int .i64 (.ofNat (nat_lit 0)), .int .i64 (.ofNat (nat_lit 0)), .int .i64 (.ofNat (nat_lit 0))] []),
    .op .no (.st (nat_lit 3) T4 T15),
    .op D5 (.mv (.c (.int .i64 (.ofNat (nat_lit 2)))))])
  (.ret))
  (.seq (.reg [.op D17 (.mv T0),
    .op D18 (.mv T1),
    .op D19 (.nilck T17),
    .op D20 (.fadd (nat_lit 0) T19),
    .op D21 (.ixaA (nat_lit 8) (nat_lit 3) T20 T18),
    .op D22 (.fadd (nat_lit 2) T21),
    .op D23 (.ld1 T22),
    .op D24 (.bin .eql T23 (.c (.int .i64 (.ofNat (nat_lit 0))))),
    .op D16 (.mv T24)])
  (.cond T16 (.seq (.reg [.op D25 (.build [.int .i64 (.ofNat (nat_lit 0)), .int .i64 (.ofNat (nat_lit 0)), .int .i64 (.ofNat (nat_lit 0))] []),
    .op .no (.st (nat_lit 3) T4 T25),
    .op D5 (.mv (.c (.int .i64 (.ofNat (nat_lit 3)))))])
  (.ret))
  (.skip))))))))
  (.seq (.reg [.op D26 (.mv T0),
    .op D27 (.mv T1),
    .op D28 (.nilck T26),
    .op D29 (.fadd (nat_lit 0) T28),
    .op D30 (.ixaA (nat_lit 8) (nat_lit 3) T29 T27),
    .op D31 (.ldA (nat_lit 3) T30),
    .op D6 (.new [.int .i64 (.ofNat (nat_lit 0)), .int .i64 (.ofNat (nat_lit 0)), .int .i64 (.ofNat (nat_lit 0))]),
    .op .no (.st (nat_lit 3) T6 T31)])
  (.seq (.reg [.op D32 (.mv T0),
    .op D33 (.mv T1),
    .op D34 (.build [.int .i64 (.ofNat (nat_lit 0)), .int .i64 (.ofNat (nat_lit 0)), .int .i64 (.ofNat (nat_lit 0))] []),
    .op D35 (.nilck T32),
    .op D36 (.fadd (nat_lit 0) T35),
    .op D37 (.ixaA (nat_lit 8) (nat_lit 3) T36 T33),
    .op .no (.st (nat_lit 3) T37 T34)])
  (.seq (.reg [.op D38 (.ldA (nat_lit 3) T6),
    .op .no (.st (nat_lit 3) T4 T38),
    .op D5 (.mv (.c (.int .i64 (.ofNat (nat_lit 0)))))])
  (.ret))))),
  [.cellA .n0 .n4 g4 (fun _ => rfl) (nat_lit 3), .t .n0 .n5 g5 (fun _ => rfl)]⟩
/-- (*messuage/plain.Kernel).protect -/
noncomputable def ff61 : FFunc := ⟨.seq (.reg [.op D8 (.mv (.c (.int .i64 (.ofNat (nat_lit 0)))))])
  (.seq (.reg [.op D14 (.mv T0),
    .op D15 (.nilck T14),
    .op D16 (.fadd (nat_lit 4) T15),
    .op D17 (.ld1 T16),
    .op D18 (.mv T1),
    .op D19 (.ixaS (nat_lit 1) T17 T18),
    .op D20 (.ld1 T19),
    .op D21 (.mv T2),
    .op D22 (.call (nat_lit 14) [T20, T21]),
    .op D13 (.mv T22),
    .op D23 (.ex (nat_lit 0) T13),
    .op D24 (.ex (nat_lit 1) T13),
    .op D9 (.new [.int .i64 (.ofNat (nat_lit 0)), .int .i64 (.ofNat (nat_lit 0)), .int .i64 (.ofNat (nat_lit 0))]),
    .op .no (.st (nat_lit 3) T9 T23),
    .op D10 (.mv T24)])
  (.seq (.seq (.reg [.op D25 (.mv T10),
    .op D26 (.un .not T25)])
  (.cond T26 (.seq (.reg [.op D8 (.mv (.c (.int .i64 (.ofNat (nat_lit 3)))))])
  (.ret))
  (.skip)))
  (.seq (.seq (.drw [.op D28 (.mv T0),
    .op D29 (.nilck T28),
    .op D30 (.fadd (nat_lit 6) T29),
    .op D31 (.ld1 T30),
    .op D32 (.mv T1),
    .op D33 (.fadd (nat_lit 1) T9),
    .op D34 (.ld1 T33),
    .op D35 (.call (nat_lit 22) [T31, T32, T34]),
    .op D27 (.mv T35),
    .op D36 (.ex (nat_lit 0) T27),
    .op D37 (.ex (nat_lit 1) T27),
    .op D11 (.new [.int .i64 (.ofNat (nat_lit 0)), .int .i64 (.ofNat (nat_lit 0)), .int .i64 (.ofNat (nat_lit 0)), .int .i64 (.ofNat (nat_lit 0))]),
    .op .no (.st (nat_lit 4) T11 T36),
    .op D12 (.mv T37)] [((nat_lit 11), (nat_lit 7))])
  (.seq (.reg [.op D38 (.mv T3),
    .op D39 (.fadd (nat_lit 1) T11),
    .op D40 (.ld1 T39),
    .op D41 (.call (nat_lit 52) [T38, T40]),
    .op D42 (.un .not T41)])
  (.cond T42 (.seq (.reg [.op D8 (.mv (.c (.int .i64 (.ofNat (nat_lit 5)))))])
  (.ret))
  (.skip))))
  (.seq (.reg [.op D43 (.mv T0),
    .op D44 (.nilck T43),
    .op D45 (.fadd (nat_lit 4) T44),
    .op D46 (.ld1 T45),
    .op D47 (.mv T1),
    .op D48 (.ixaS (nat_lit 1) T46 T47),
    .op D49 (.ld1 T48),
    .op D50 (.mv T2),
    .op D51 (.mv T3),
    .op D52 (.call (nat_lit 90) [T49, T50, T51]),
    .op D8 (.mv T52)])
  (.ret))))),
  [.t .n0 .n8 g8 (fun _ => rfl)]⟩
/-- (*messuage/plain.Kernel).sleep -/
noncomputable def ff62 : FFunc := ⟨.seq (.reg [.op D5 (.box (nat_lit 5) T2),
    .op D6 (.new [.int .i64 (.ofNat (nat_lit 0)), .int .u64 (.ofNat (nat_lit 0))]),
    .op D7 (.mv (.c (.bool false)))])
  (.seq (.drw [.op D13 (.mv T0),
    .op D14 (.nilck T13),
    .op D15 (.fadd (nat_lit 6) T14),
    .op D16 (.ld1 T15),
    .op D17 (.mv T1),
    .op D18 (.ixaA (nat_lit 5) (nat_lit 1) T5 (.c (.int .i64 (.ofNat (nat_lit 1))))),
    .op D19 (.ld1 T18),
    .op D20 (.cvi .i64 T19),
    .op D21 (.call (nat_lit 22) [T16, T17, T20]),
    .op D12 (.mv T21),
    .op D22 (.ex (nat_lit 0) T12),
    .op D23 (.ex (nat_lit 1) T12),
    .op D8 (.new [.int .i64 (.ofNat (nat_lit 0)), .int .i64 (.ofNat (nat_lit 0)), .int .i64 (.ofNat (nat_lit 0)), .int .i64 (.ofNat (nat_lit 0))]),
    .op .no (.st (nat_lit 4) T8 T22),
    .op D9 (.mv T23)] [((nat_lit 12), (nat_lit 8))])
  (.seq (.block (nat_lit 0) (.seq (.reg [.op D25 (.mv T9),
    .op D26 (.un .not T25),
    .op D24 (.mv T26)])
  (.cond T24 (.seq (.reg [.op D27 (.call (nat_lit 54) [.c (.int .i64 (.ofNat (nat_lit 3)))]),
    .op D28 (.ex (nat_lit 0) T27),
    .op D29 (.ex (nat_lit 1) T27),
    .op .no (.st (nat_lit 2) T6 T28),
    .op D7 (.mv T29)])
  (.ret))
  (.seq (.reg [.op D31 (.fadd (nat_lit 1) T8),
    .op D32 (.ld1 T31),
    .op D33 (.call (nat_lit 52) [.c (.int .i64 (.ofNat (nat_lit 1))), T32]),
    .op D34 (.un .not T33),
    .op D30 (.mv T34)])
  (.cond T30 (.seq (.reg [.op D35 (.call (nat_lit 54) [.c (.int .i64 (.ofNat (nat_lit 5)))]),
    .op D36 (.ex (nat_lit 0) T35),
    .op D37 (.ex (nat_lit 1) T35),
    .op .no (.st (nat_lit 2) T6 T36),
    .op D7 (.mv T37)])
  (.ret))
  (.skip))))))
  (.seq (.drw [.op D39 (.mv T0),
    .op D40 (.nilck T39),
    .op D41 (.fadd (nat_lit 3) T40),
    .op D42 (.ld1 T41),
    .op D43 (.fadd (nat_lit 0) T8),
    .op D44 (.ld1 T43),
    .op D45 (.ixaA (nat_lit 5) (nat_lit 1) T5 (.c (.int .i64 (.ofNat (nat_lit 2))))),
    .op D46 (.ld1 T45),
    .op D47 (.cvi .i64 T46),
    .op D48 (.call (nat_lit 91) [T42, T44, T47]),
    .op D38 (.mv T48),
    .op D49 (.ex (nat_lit 0) T38),
    .op D50 (.ex (nat_lit 1) T38),
    .op D10 (.mv T49),
    .op D11 (.mv T50)] [])
  (.seq (.seq (.reg [.op D51 (.ixaA (nat_lit 5) (nat_lit 1) T5 (.c (.int .i64 (.ofNat (nat_lit 3))))),
    .op D52 (.ld1 T51),
    .op D53 (.cvi .i64 T52),
    .op D54 (.mv T10),
    .op D55 (.ixaA (nat_lit 5) (nat_lit 1) T5 (.c (.int .i64 (.ofNat (nat_lit 4))))),
    .op D56 (.ld1 T55),
    .op D57 (.call (nat_lit 40) [T53, T54, T56]),
    .op D58 (.un .not T57)])
  (.cond T58 (.seq (.reg [.op D59 (.build [.int .i64 (.ofNat (nat_lit 0)), .int .u64 (.ofNat (nat_lit 0))] []),
    .op .no (.st (nat_lit 2) T6 T59),
    .op D7 (.mv (.c (.bool false)))])
  (.ret))
  (.skip)))
  (.seq (.reg [.op D60 (.mv T10),
    .op D61 (.build [.int .i64 (.ofNat (nat_lit 0)), .int .u64 (.ofNat (nat_lit 0))] [((nat_lit 1), (nat_lit 1), T60)]),
    .op .no (.st (nat_lit 2) T6 T61),
    .op D7 (.mv (.c (.bool true)))])
  (.ret)))))),
  [.cellA .n0 .n6 g6 (fun _ => rfl) (nat_lit 2), .t .n0 .n7 g7 (fun _ => rfl)]⟩
/-- (*messuage/plain.Kernel).user -/
noncomputable def ff63 : FFunc := ⟨.seq (.reg [.op D5 (.box (nat_lit 5) T2),
    .op D6 (.new [.int .i64 (.ofNat (nat_lit 0)), .int .u64 (.ofNat (nat_lit 0))])])
  (.seq (.drw [.op D12 (.mv T0),
    .op D13 (.nilck T12),
    .op D14 (.fadd (nat_lit 4) T13),
    .op D15 (.ld1 T14),
    .op D16 (.mv T1),
    .op D17 (.ixaS (nat_lit 1) T15 T16),
    .op D18 (.ld1 T17),
    .op D19 (.ixaA (nat_lit 5) (nat_lit 1) T5 (.c (.int .i64 (.ofNat (nat_lit 1))))),
    .op D20 (.ld1 T19),
    .op D21 (.cvi .i64 T20),
    .op D22 (.call (nat_lit 14) [T18, T21]),
    .op D11 (.mv T22),
    .op D23 (.ex (nat_lit 0) T11),
    .op D24 (.ex (nat_lit 1) T11),
    .op D7 (.new [.int .i64 (.ofNat (nat_lit 0)), .int .i64 (.ofNat (nat_lit 0)), .int .i64 (.ofNat (nat_lit 0))]),
    .op .no (.st (nat_lit 3) T7 T23),
    .op D8 (.mv T24)] [((nat_lit 14), (nat_lit 10))])
  (.seq (.seq (.reg [.op D25 (.mv T8),
    .op D26 (.un .not T25),
    .op D27 (.mv T26),
    .gop .n1 .n11 g27 (fun _ => rfl) false D28 (.fadd (nat_lit 2) T7),
    .gop .n1 .n11 g27 (fun _ => rfl) false D29 (.ld1 T28),
    .gop .n1 .n11 g27 (fun _ => rfl) false D30 (.ixaA (nat_lit 5) (nat_lit 1) T5 (.c (.int .i64 (.ofNat (nat_lit 0))))),
    .gop .n1 .n11 g27 (fun _ => rfl) false D31 (.ld1 T30),
    .gop .n1 .n11 g27 (fun _ => rfl) false D32 (.cvi .i64 T31),
    .gop .n1 .n11 g27 (fun _ => rfl) false D33 (.call (nat_lit 49) [T29, T32]),
    .gop .n1 .n11 g27 (fun _ => rfl) false D34 (.un .not T33),
    .op D35 (.pick T27 (.c (.bool true)) T34)])
  (.cond T35 (.seq (.reg [.op D36 (.build [.int .i64 (.ofNat (nat_lit 0)), .int .u64 (.ofNat (nat_lit 0))] [((nat_lit 0), (nat_lit 1), .c (.int .i64 (.ofNat (nat_lit 7))))]),
    .op .no (.st (nat_lit 2) T6 T36)])
  (.ret))
  (.skip)))
  (.seq (.reg [.op D38 (.mv T0),
    .op D39 (.fadd (nat_lit 0) T7),
    .op D40 (.ld1 T39),
    .op D41 (.ldA (nat_lit 5) T5),
    .op D42 (.call (nat_lit 92) [T38, T40, T41]),
    .op D37 (.mv T42),
    .op D43 (.ex (nat_lit 0) T37),
    .op D44 (.ex (nat_lit 1) T37),
    .op D9 (.new [.int .i64 (.ofNat (nat_lit 0)), .int .u64 (.ofNat (nat_lit 0))]),
    .op .no (.st (nat_lit 2) T9 T43),
    .op D10 (.mv T44)])
  (.seq (.reg [.op D45 (.ldA (nat_lit 2) T9),
    .op .no (.st (nat_lit 2) T6 T45)])
  (.ret))))),
  [.cellA .n0 .n6 g6 (fun _ => rfl) (nat_lit 2)]⟩
/-- (*messuage/pool.Pool).Free -/
noncomputable def ff64 : FFunc := ⟨.seq (.reg [.op D2 (.mv (.c (.nils)))])
  (.seq (.seq (.reg [.op D6 (.mv T0),
    .op D7 (.eq false (.sc .ptr) T6 (.c (.nilp)))])
  (.cond T7 (.seq (.reg [.op D2 (.mv (.c (.nils)))])
  (.ret))
  (.skip)))
  (.seq (.reg [.op D3 (.mv (.c (.nils)))])
  (.seq (.seq (.reg [.op D8 (.mv T0),
    .op D9 (.nilck T8),
    .op D10 (.fadd (nat_lit 0) T9),
    .op D11 (.ld1 T10),
    .op D12 (.lenL T11),
    .op D13 (.mv (.c (.int .i64 (.ofNat (nat_lit 0)))))])
  (.block (nat_lit 0) (.loop (.seq (.reg [.op D14 (.bin .lss T13 T12)])
  (.seq (.cond T14 (.skip)
  (.exit (nat_lit 0)))
  (.seq (.block (nat_lit 1) (.seq (.reg [.op D15 (.mv T13),
    .op D16 (.ixaS (nat_lit 1) T11 T13),
    .op D17 (.ld1 T16),
    .op D4 (.mv T15),
    .op D5 (.mv T17)])
  (.seq (.reg [.op D18 (.mv T5),
    .op D19 (.bin .eql T18 (.c (.int .i64 (.ofNat (nat_lit 0)))))])
  (.cond T19 (.reg [.op D20 (.mv T3),
    .op D21 (.mv T4),
    .op D22 (.bsl (nat_lit 1) [.int .i64 (.ofNat (nat_lit 0))] (nat_lit 1) [((nat_lit 0), (nat_lit 1), T21)]),
    .op D23 (.app (nat_lit 1) (nat_lit 8) T20 T22),
    .op D3 (.mv T23)])
  (.skip)))))
  (.reg [.op D24 (.bin .add T13 (.c (.int .i64 (.ofNat (nat_lit 1))))),
    .op D13 (.mv T24)])))))))
  (.seq (.reg [.op D25 (.mv T3),
    .op D2 (.mv T25)])
  (.ret))))),
  [.t .n0 .n2 g2 (fun _ => rfl)]⟩
/-- (*messuage/plain.Kernel).Copy -/
noncomputable def ff65 : FFunc := ⟨.seq (.reg [.op D2 (.mv (.c (.nilp)))])
  (.seq (.seq (.reg [.op D13 (.mv T0),
    .op D14 (.eq false (.sc .ptr) T13 (.c (.nilp)))])
  (.cond T14 (.seq (.reg [.op D2 (.mv (.c (.nilp)))])
  (.ret))
  (.skip)))
  (.seq (.reg [.op D15 (.mv T0),
    .op D16 (.nilck T15),
    .op D17 (.fadd (nat_lit 0) T16),
    .op D18 (.ldA (nat_lit 3) T17),
    .op D19 (.call (nat_lit 30) [T18]),
    .op D3 (.mv T19)])
  (.seq (.seq (.reg [.op D20 (.mv T0),
    .op D21 (.nilck T20),
    .op D22 (.fadd (nat_lit 0) T21),
    .op D23 (.fadd (nat_lit 2) T22),
    .op D24 (.ld1 T23),
    .op D25 (.mv (.c (.int .i64 (.ofNat (nat_lit 0)))))])
  (.block (nat_lit 0) (.loop (.seq (.reg [.op D26 (.bin .lss T25 T24)])
  (.seq (.cond T26 (.skip)
  (.exit (nat_lit 0)))
  (.seq (.block (nat_lit 1) (.seq (.reg [.op D27 (.mv T25),
    .op D4 (.mv T27)])
  (.seq (.seq (.reg [.op D28 (.mv T0),
    .op D29 (.nilck T28),
    .op D30 (.fadd (nat_lit 3) T29),
    .op D31 (.ld1 T30),
    .op D32 (.mv T4),
    .op D33 (.call (nat_lit 93) [T31, T32]),
    .op D34 (.lenL T33),
    .op D35 (.mv (.c (.int .i64 (.ofNat (nat_lit 0)))))])
  (.block (nat_lit 2) (.loop (.seq (.reg [.op D36 (.bin .lss T35 T34)])
  (.seq (.cond T36 (.skip)
  (.exit (nat_lit 2)))
  (.seq (.block (nat_lit 3) (.seq (.reg [.op D37 (.mv T35),
    .op D38 (.ixaS (nat_lit 1) T33 T35),
    .op D39 (.ld1 T38),
    .op D5 (.mv T37),
    .op D6 (.mv T39)])
  (.reg [.op D40 (.mv T3),
    .op D41 (.nilck T40),
    .op D42 (.fadd (nat_lit 3) T41),
    .op D43 (.ld1 T42),
    .op D44 (.mv T4),
    .op D45 (.mv T5),
    .op D46 (.mv T6),
    .op D47 (.call (nat_lit 94) [T43, T44, T45, T46])])))
  (.reg [.op D48 (.bin .add T35 (.c (.int .i64 (.ofNat (nat_lit 1))))),
    .op D35 (.mv T48)])))))))
  (.reg [.op D49 (.mv T3),
    .op D50 (.nilck T49),
    .op D51 (.fadd (nat_lit 5) T50),
    .op D52 (.ld1 T51),
    .op D53 (.call (nat_lit 83) [T52])]))))
  (.reg [.op D54 (.bin .add T25 (.c (.int .i64 (.ofNat (nat_lit 1))))),
    .op D25 (.mv T54)])))))))
  (.seq (.seq (.reg [.op D55 (.mv T0),
    .op D56 (.nilck T55),
    .op D57 (.fadd (nat_lit 0) T56),
    .op D58 (.fadd (nat_lit 2) T57),
    .op D59 (.ld1 T58),
    .op D60 (.mv (.c (.int .i64 (.ofNat (nat_lit 0)))))])
  (.block (nat_lit 4) (.loop (.seq (.reg [.op D61 (.bin .lss T60 T59)])
  (.seq (.cond T61 (.skip)
  (.exit (nat_lit 4)))
  (.seq (.block (nat_lit 5) (.seq (.reg [.op D62 (.mv T60),
    .op D7 (.mv T62)])
  (.seq (.reg [.op D63 (.mv T0),
    .op D64 (.nilck T63),
    .op D65 (.fadd (nat_lit 5) T64),
    .op D66 (.ld1 T65),
    .op D67 (.mv T7),
    .op D68 (.call (nat_lit 95) [T66, T67]),
    .op D8 (.mv T68)])
  (.seq (.seq (.reg [.op D69 (.mv T8),
    .op D70 (.bin .sub T69 (.c (.int .i64 (.ofNat (nat_lit 1))))),
    .op D71 (.mv (.c (.int .i64 (.ofNat (nat_lit 0)))))])
  (.block (nat_lit 6) (.loop (.seq (.reg [.op D72 (.bin .lss T71 T70)])
  (.seq (.cond T72 (.skip)
  (.exit (nat_lit 6)))
  (.seq (.block (nat_lit 7) (.reg [.op D73 (.mv T3),
    .op D74 (.nilck T73),
    .op D75 (.fadd (nat_lit 5) T74),
    .op D76 (.ld1 T75),
    .op D77 (.mv T7),
    .op D78 (.call (nat_lit 85) [T76, T77])]))
  (.reg [.op D79 (.bin .add T71 (.c (.int .i64 (.ofNat (nat_lit 1))))),
    .op D71 (.mv T79)])))))))
  (.seq (.reg [.op D80 (.mv T8),
    .op D81 (.bin .eql T80 (.c (.int .i64 (.ofNat (nat_lit 0)))))])
  (.cond T81 (.reg [.op D82 (.mv T3),
    .op D83 (.nilck T82),
    .op D84 (.fadd (nat_lit 5) T83),
    .op D85 (.ld1 T84),
    .op D86 (.mv T7),
    .op D87 (.call (nat_lit 89) [T85, T86])])
  (.skip)))))))
  (.reg [.op D88 (.bin .add T60 (.c (.int .i64 (.ofNat (nat_lit 1))))),
    .op D60 (.mv T88)])))))))
  (.seq (.seq (.reg [.op D89 (.mv T0),
    .op D90 (.nilck T89),
    .op D91 (.fadd (nat_lit 4) T90),
    .op D92 (.ld1 T91),
    .op D93 (.lenL T92),
    .op D94 (.mv (.c (.int .i64 (.ofNat (nat_lit 0)))))])
  (.block (nat_lit 8) (.loop (.seq (.reg [.op D95 (.bin .lss T94 T93)])
  (.seq (.cond T95 (.skip)
  (.exit (nat_lit 8)))
  (.seq (.block (nat_lit 9) (.seq (.reg [.op D96 (.mv T94),
    .op D9 (.mv T96)])
  (.seq (.reg [.op D97 (.mv (.c (.int .i64 (.ofNat (nat_lit 0)))))])
  (.block (nat_lit 10) (.loop (.seq (.reg [.op D98 (.bin .lss T97 (.c (.int .i64 (.ofNat (nat_lit 8)))))])
  (.seq (.cond T98 (.skip)
  (.exit (nat_lit 10)))
  (.seq (.block (nat_lit 11) (.seq (.reg [.op D99 (.mv T97),
    .op D10 (.mv T99)])
  (.seq (.reg [.op D101 (.mv T0),
    .op D102 (.nilck T101),
    .op D103 (.fadd (nat_lit 4) T102),
    .op D104 (.ld1 T103),
    .op D105 (.mv T9),
    .op D106 (.ixaS (nat_lit 1) T104 T105),
    .op D107 (.ld1 T106),
    .op D108 (.mv T10),
    .op D109 (.call (nat_lit 14) [T107, T108]),
    .op D100 (.mv T109),
    .op D110 (.ex (nat_lit 0) T100),
    .op D111 (.ex (nat_lit 1) T100),
    .op D11 (.new [.int .i64 (.ofNat (nat_lit 0)), .int .i64 (.ofNat (nat_lit 0)), .int .i64 (.ofNat (nat_lit 0))]),
    .op .no (.st (nat_lit 3) T11 T110),
    .op D12 (.mv T111)])
  (.seq (.reg [.op D112 (.mv T12)])
  (.cond T112 (.drw [.op D113 (.mv T3),
    .op D114 (.nilck T113),
    .op D115 (.fadd (nat_lit 4) T114),
    .op D116 (.ld1 T115),
    .op D117 (.mv T9),
    .op D118 (.ixaS (nat_lit 1) T116 T117),
    .op D119 (.ld1 T118),
    .op D120 (.mv T10),
    .op D121 (.ldA (nat_lit 3) T11),
    .op D122 (.call (nat_lit 12) [T119, T120, T121])] [])
  (.skip))))))
  (.reg [.op D123 (.bin .add T97 (.c (.int .i64 (.ofNat (nat_lit 1))))),
    .op D97 (.mv T123)])))))))))
  (.reg [.op D124 (.bin .add T94 (.c (.int .i64 (.ofNat (nat_lit 1))))),
    .op D94 (.mv T124)])))))))
  (.seq (.block (nat_lit 12) (.loop (.seq (.seq (.reg [.op D125 (.mv T3),
    .op D126 (.mv T0),
    .op D127 (.call (nat_lit 96) [T125, T126])])
  (.cond T127 (.skip)
  (.exit (nat_lit 12))))
  (.block (nat_lit 13) (.skip)))))
  (.seq (.reg [.op D128 (.mv T3),
    .op D2 (.mv T128)])
  (.ret)))))))),
  [.t .n0 .n2 g2 (fun _ => rfl)]⟩
/-- messuage/trap.In -/
noncomputable def ff66 : FFunc := ⟨.seq (.reg [.op D4 (.box (nat_lit 5) T1),
    .op D6 (.mv (.c (.nili)))])
  (.seq (.seq (.reg [.op D7 (.mv T2),
    .op D8 (.eq false (.sc .ifc) T7 (.c (.nili)))])
  (.cond T8 (.seq (.reg [.op D6 (.mv (.c (.nili)))])
  (.ret))
  (.skip)))
  (.seq (.drw [.op D9 (.mv T2),
    .op D10 (.call (nat_lit 29) [T9]),
    .op D11 (.mv T0),
    .op D12 (.ldA (nat_lit 5) T4),
    .op D13 (.mv T2),
    .op D14 (.build [.int .i64 (.ofNat (nat_lit 0)), .int .i64 (.ofNat (nat_lit 0)), .int .u64 (.ofNat (nat_lit 0)), .int .u64 (.ofNat (nat_lit 0)), .int .u64 (.ofNat (nat_lit 0)), .int .u64 (.ofNat (nat_lit 0)), .int .u64 (.ofNat (nat_lit 0)), .nili] [((nat_lit 0), (nat_lit 1), T10), ((nat_lit 1), (nat_lit 1), T11), ((nat_lit 2), (nat_lit 5), T12), ((nat_lit 7), (nat_lit 1), T13)]),
    .op D15 (.box (nat_lit 8) T14),
    .op D16 (.mkifc (nat_lit 122) T15),
    .op D6 (.mv T16)] [((nat_lit 3), (nat_lit 1))])
  (.ret))),
  [.t .n0 .n6 g6 (fun _ => rfl)]⟩
/-- messuage/trap.First -/
noncomputable def ff67 : FFunc := ⟨.seq (.reg [.op D2 (.mv (.c (.nilp))),
    .op D3 (.mv (.c (.bool false)))])
  (.seq (.reg [.op D4 (.new [.nilp])])
  (.seq (.seq (.reg [.op D5 (.mv T0),
    .op D6 (.mkifc (nat_lit 162) T4),
    .op D7 (.call (nat_lit 97) [T5, T6]),
    .op D8 (.un .not T7),
    .op D9 (.mv T8),
    .gop .n0 .n9 g9 (fun _ => rfl) false D10 (.ld1 T4),
    .gop .n0 .n9 g9 (fun _ => rfl) false D11 (.eq false (.sc .ptr) T10 (.c (.nilp))),
    .op D12 (.pick T9 (.c (.bool true)) T11)])
  (.cond T12 (.seq (.reg [.op D2 (.mv (.c (.nilp))),
    .op D3 (.mv (.c (.bool false)))])
  (.ret))
  (.skip)))
  (.seq (.reg [.op D13 (.ld1 T4),
    .op D2 (.mv T13),
    .op D3 (.mv (.c (.bool true)))])
  (.ret)))),
  [.t .n0 .n2 g2 (fun _ => rfl), .t .n0 .n3 g3 (fun _ => rfl)]⟩
/-- messuage/pool.New -/
noncomputable def ff68 : FFunc := ⟨.seq (.reg [.op D2 (.mv (.c (.nilp)))])
  (.seq (.seq (.reg [.op D3 (.mv T0),
    .op D4 (.bin .lss T3 (.c (.int .i64 (.ofNat (nat_lit 1))))),
    .op D5 (.mv T4),
    .gop .n0 .n5 g5 (fun _ => rfl) false D6 (.mv T0),
    .gop .n0 .n5 g5 (fun _ => rfl) false D7 (.bin .gtr T6 (.c (.int .i64 (.ofNat (nat_lit 16))))),
    .op D8 (.pick T5 (.c (.bool true)) T7)])
  (.cond T8 (.seq (.reg [.op D2 (.mv (.c (.nilp)))])
  (.ret))
  (.skip)))
  (.seq (.reg [.op D9 (.mv T0),
    .op D10 (.mksl (nat_lit 1) (nat_lit 8) [.int .i64 (.ofNat (nat_lit 0))] T9 T9),
    .op D11 (.build [.nils] [((nat_lit 0), (nat_lit 1), T10)]),
    .op D12 (.box (nat_lit 1) T11),
    .op D2 (.mv T12)])
  (.ret))),
  [.t .n0 .n2 g2 (fun _ => rfl)]⟩
/-- (*messuage/epoch.Epochs).is -/
noncomputable def ff69 : FFunc := ⟨.seq (.reg [.op D4 (.mv (.c (.bool false)))])
  (.seq (.reg [.op D5 (.mv T0),
    .op D6 (.eq true (.sc .ptr) T5 (.c (.nilp))),
    .op D7 (.mv T6),
    .gop .n0 .n7 g7 (fun _ => rfl) true D8 (.mv T1),
    .gop .n0 .n7 g7 (fun _ => rfl) true D9 (.bin .geq T8 (.c (.int .i64 (.ofNat (nat_lit 0))))),
    .op D10 (.pick T7 T9 (.c (.bool false))),
    .op D11 (.mv T10),
    .gop .n0 .n11 g11 (fun _ => rfl) true D12 (.mv T1),
    .gop .n0 .n11 g11 (fun _ => rfl) true D13 (.mv T0),
    .gop .n0 .n11 g11 (fun _ => rfl) true D14 (.nilck T13),
    .gop .n0 .n11 g11 (fun _ => rfl) true D15 (.fadd (nat_lit 1) T14),
    .gop .n0 .n11 g11 (fun _ => rfl) true D16 (.ld1 T15),
    .gop .n0 .n11 g11 (fun _ => rfl) true D17 (.lenL T16),
    .gop .n0 .n11 g11 (fun _ => rfl) true D18 (.bin .lss T12 T17),
    .op D19 (.pick T11 T18 (.c (.bool false))),
    .op D4 (.mv T19)])
  (.ret)),
  [.t .n0 .n4 g4 (fun _ => rfl)]⟩
/-- (*messuage/epoch.Epochs).Now -/
noncomputable def ff70 : FFunc := ⟨.seq (.reg [.op D2 (.mv (.c (.int .u64 (.ofNat (nat_lit 0)))))])
  (.seq (.seq (.reg [.op D3 (.mv T0),
    .op D4 (.eq false (.sc .ptr) T3 (.c (.nilp)))])
  (.cond T4 (.seq (.reg [.op D2 (.mv (.c (.int .u64 (.ofNat (nat_lit 0)))))])
  (.ret))
  (.skip)))
  (.seq (.reg [.op D5 (.mv T0),
    .op D6 (.nilck T5),
    .op D7 (.fadd (nat_lit 0) T6),
    .op D8 (.ld1 T7),
    .op D9 (.lenL T8),
    .op D10 (.cvi .u64 T9),
    .op D2 (.mv T10)])
  (.ret))),
  [.t .n0 .n2 g2 (fun _ => rfl)]⟩
/-- messuage/word.Kind -/
noncomputable def ff71 : FFunc := ⟨.seq (.reg [.op D1 (.box (nat_lit 5) T0),
    .op D2 (.mv (.c (.int .i64 (.ofNat (nat_lit 0))))),
    .op D3 (.mv (.c (.bool false)))])
  (.seq (.seq (.reg [.op D5 (.ixaA (nat_lit 5) (nat_lit 1) T1 (.c (.int .i64 (.ofNat (nat_lit 0))))),
    .op D6 (.ld1 T5),
    .op D4 (.mv T6)])
  (.seq (.reg [.op D7 (.mv T4),
    .op D8 (.bin .geq T7 (.c (.int .u64 (.ofNat (nat_lit 1))))),
    .op D9 (.mv T8),
    .gop .n0 .n9 g9 (fun _ => rfl) true D10 (.mv T4),
    .gop .n0 .n9 g9 (fun _ => rfl) true D11 (.bin .leq T10 (.c (.int .u64 (.ofNat (nat_lit 10))))),
    .op D12 (.pick T9 T11 (.c (.bool false))),
    .op D13 (.mv T12),
    .gop .n0 .n13 g13 (fun _ => rfl) false D14 (.mv T4),
    .gop .n0 .n13 g13 (fun _ => rfl) false D15 (.bin .geq T14 (.c (.int .u64 (.ofNat (nat_lit 20))))),
    .gop .n0 .n13 g13 (fun _ => rfl) false D16 (.mv T15),
    .gop .n1 .n0 g16 (fun _ => rfl) true D17 (.mv T4),
    .gop .n1 .n0 g16 (fun _ => rfl) true D18 (.bin .leq T17 (.c (.int .u64 (.ofNat (nat_lit 23))))),
    .gop .n0 .n13 g13 (fun _ => rfl) false D19 (.pick T16 T18 (.c (.bool false))),
    .op D20 (.pick T13 (.c (.bool true)) T19)])
  (.cond T20 (.seq (.reg [.op D21 (.mv T4),
    .op D22 (.cvi .i64 T21),
    .op D2 (.mv T22),
    .op D3 (.mv (.c (.bool true)))])
  (.ret))
  (.skip))))
  (.seq (.reg [.op D2 (.mv (.c (.int .i64 (.ofNat (nat_lit 0))))),
    .op D3 (.mv (.c (.bool false)))])
  (.ret))),
  [.t .n0 .n2 g2 (fun _ => rfl), .t .n0 .n3 g3 (fun _ => rfl)]⟩
/-- messuage/word.User -/
noncomputable def ff72 : FFunc := ⟨.seq (.reg [.op D2 (.mv (.c (.bool false)))])
  (.seq (.reg [.op D3 (.mv T0),
    .op D4 (.bin .geq T3 (.c (.int .i64 (.ofNat (nat_lit 20))))),
    .op D5 (.mv T4),
    .gop .n0 .n5 g5 (fun _ => rfl) true D6 (.mv T0),
    .gop .n0 .n5 g5 (fun _ => rfl) true D7 (.bin .leq T6 (.c (.int .i64 (.ofNat (nat_lit 23))))),
    .op D8 (.pick T5 T7 (.c (.bool false))),
    .op D2 (.mv T8)])
  (.ret)),
  [.t .n0 .n2 g2 (fun _ => rfl)]⟩
/-- messuage/user.touch -/
noncomputable def ff73 : FFunc := ⟨.seq (.reg [.op D5 (.box (nat_lit 5) T2),
    .op D6 (.new [.int .i64 (.ofNat (nat_lit 0)), .int .u64 (.ofNat (nat_lit 0))])])
  (.seq (.reg [.op D9 (.ixaA (nat_lit 5) (nat_lit 1) T5 (.c (.int .i64 (.ofNat (nat_lit 2))))),
    .op D10 (.ld1 T9),
    .op D11 (.cvi .i64 T10),
    .op D7 (.mv T11)])
  (.seq (.reg [.op D8 (.mv (.c (.int .u64 (.ofNat (nat_lit 0)))))])
  (.seq (.seq (.reg [.op D12 (.ixaA (nat_lit 5) (nat_lit 1) T5 (.c (.int .i64 (.ofNat (nat_lit 0))))),
    .op D13 (.ld1 T12),
    .op D14 (.cvi .i64 T13)])
  (.block (nat_lit 0) (.seq (.reg [.op D16 (.bin .eql T14 (.c (.int .i64 (.ofNat (nat_lit 20))))),
    .op D15 (.mv T16)])
  (.cond T15 (.reg [.op D18 (.mv T0),
    .op D19 (.mv T1),
    .op D20 (.mv T7),
    .op D21 (.call (nat_lit 91) [T18, T19, T20]),
    .op D17 (.mv T21),
    .op D22 (.ex (nat_lit 0) T17),
    .op D23 (.ex (nat_lit 1) T17),
    .op D8 (.mv T22)])
  (.seq (.reg [.op D25 (.bin .eql T14 (.c (.int .i64 (.ofNat (nat_lit 21))))),
    .op D24 (.mv T25)])
  (.cond T24 (.reg [.op D26 (.mv T0),
    .op D27 (.mv T1),
    .op D28 (.mv T7),
    .op D29 (.ixaA (nat_lit 5) (nat_lit 1) T5 (.c (.int .i64 (.ofNat (nat_lit 3))))),
    .op D30 (.ld1 T29),
    .op D31 (.call (nat_lit 94) [T26, T27, T28, T30])])
  (.seq (.reg [.op D33 (.bin .eql T14 (.c (.int .i64 (.ofNat (nat_lit 22))))),
    .op D32 (.mv T33)])
  (.cond T32 (.reg [.op D35 (.mv T0),
    .op D36 (.mv T1),
    .op D37 (.mv T7),
    .op D38 (.ixaA (nat_lit 5) (nat_lit 1) T5 (.c (.int .i64 (.ofNat (nat_lit 3))))),
    .op D39 (.ld1 T38),
    .op D40 (.ixaA (nat_lit 5) (nat_lit 1) T5 (.c (.int .i64 (.ofNat (nat_lit 4))))),
    .op D41 (.ld1 T40),
    .op D42 (.call (nat_lit 98) [T35, T36, T37, T39, T41]),
    .op D34 (.mv T42),
    .op D43 (.ex (nat_lit 0) T34),
    .op D44 (.ex (nat_lit 1) T34),
    .op D8 (.mv T43)])
  (.seq (.reg [.op D46 (.bin .eql T14 (.c (.int .i64 (.ofNat (nat_lit 23))))),
    .op D45 (.mv T46)])
  (.cond T45 (.reg [.op D48 (.mv T0),
    .op D49 (.mv T1),
    .op D50 (.mv T7),
    .op D51 (.ixaA (nat_lit 5) (nat_lit 1) T5 (.c (.int .i64 (.ofNat (nat_lit 3))))),
    .op D52 (.ld1 T51),
    .op D53 (.call (nat_lit 99) [T48, T49, T50, T52]),
    .op D47 (.mv T53),
    .op D54 (.ex (nat_lit 0) T47),
    .op D55 (.ex (nat_lit 1) T47),
    .op D8 (.mv T54)])
  (.skip)))))))))))
  (.seq (.reg [.op D56 (.mv T8),
    .op D57 (.build [.int .i64 (.ofNat (nat_lit 0)), .int .u64 (.ofNat (nat_lit 0))] [((nat_lit 1), (nat_lit 1), T56)]),
    .op .no (.st (nat_lit 2) T6 T57)])
  (.ret))))),
  [.cellA .n0 .n6 g6 (fun _ => rfl) (nat_lit 2)]⟩
/-- messuage/messuagelaw2.begun -/
noncomputable def ff74 : FFunc := ⟨.seq (.reg [.op D0 (.mv (.c (.bool false)))])
  (.seq (.reg [.op D24 (.call (nat_lit 32) [.c (.int .i64 (.ofNat (nat_lit 2)))]),
    .op D25 (.call (nat_lit 10) []),
    .op D26 (.call (nat_lit 9) []),
    .op D27 (.call (nat_lit 100) [.c (.int .i64 (.ofNat (nat_lit 3)))]),
    .op D1 (.mv T24),
    .op D2 (.mv T25),
    .op D3 (.mv T26),
    .op D4 (.mv T27)])
  (.seq (.reg [.op D28 (.call (nat_lit 101) [.c (.int .u64 (.ofNat (nat_lit 5)))]),
    .op D29 (.call (nat_lit 102) []),
    .op D30 (.call (nat_lit 68) [.c (.int .i64 (.ofNat (nat_lit 2)))]),
    .op D5 (.mv T28),
    .op D6 (.mv T29),
    .op D7 (.mv T30)])
  (.seq (.seq (.reg [.op D31 (.mv T1),
    .op D32 (.eq false (.sc .ptr) T31 (.c (.nilp))),
    .op D33 (.mv T32),
    .gop .n2 .n1 g33 (fun _ => rfl) false D34 (.mv T2),
    .gop .n2 .n1 g33 (fun _ => rfl) false D35 (.eq false (.sc .ptr) T34 (.c (.nilp))),
    .op D36 (.pick T33 (.c (.bool true)) T35),
    .op D37 (.mv T36),
    .gop .n2 .n5 g37 (fun _ => rfl) false D38 (.mv T3),
    .gop .n2 .n5 g37 (fun _ => rfl) false D39 (.eq false (.sc .ptr) T38 (.c (.nilp))),
    .op D40 (.pick T37 (.c (.bool true)) T39),
    .op D41 (.mv T40),
    .gop .n2 .n9 g41 (fun _ => rfl) false D42 (.mv T4),
    .gop .n2 .n9 g41 (fun _ => rfl) false D43 (.eq false (.sc .ptr) T42 (.c (.nilp))),
    .op D44 (.pick T41 (.c (.bool true)) T43),
    .op D45 (.mv T44),
    .gop .n2 .n13 g45 (fun _ => rfl) false D46 (.mv T5),
    .gop .n2 .n13 g45 (fun _ => rfl) false D47 (.eq false (.sc .ptr) T46 (.c (.nilp))),
    .op D48 (.pick T45 (.c (.bool true)) T47),
    .op D49 (.mv T48),
    .gop .n3 .n1 g49 (fun _ => rfl) false D50 (.mv T6),
    .gop .n3 .n1 g49 (fun _ => rfl) false D51 (.eq false (.sc .ptr) T50 (.c (.nilp))),
    .op D52 (.pick T49 (.c (.bool true)) T51),
    .op D53 (.mv T52),
    .gop .n3 .n5 g53 (fun _ => rfl) false D54 (.mv T7),
    .gop .n3 .n5 g53 (fun _ => rfl) false D55 (.eq false (.sc .ptr) T54 (.c (.nilp))),
    .op D56 (.pick T53 (.c (.bool true)) T55)])
  (.cond T56 (.seq (.reg [.op D0 (.mv (.c (.bool false)))])
  (.ret))
  (.skip)))
  (.seq (.reg [.op D57 (.mv T2),
    .op D58 (.build [.int .i64 (.ofNat (nat_lit 0)), .int .i64 (.ofNat (nat_lit 0)), .int .i64 (.ofNat (nat_lit 0))] [((nat_lit 0), (nat_lit 1), .c (.int .i64 (.ofNat (nat_lit 1)))), ((nat_lit 1), (nat_lit 1), .c (.int .i64 (.ofNat (nat_lit 2)))), ((nat_lit 2), (nat_lit 1), .c (.int .i64 (.ofNat (nat_lit 3))))]),
    .op D59 (.call (nat_lit 12) [T57, .c (.int .i64 (.ofNat (nat_lit 1))), T58]),
    .op D8 (.mv T59)])
  (.seq (.reg [.op D61 (.build [.int .i64 (.ofNat (nat_lit 0)), .int .i64 (.ofNat (nat_lit 0)), .int .i64 (.ofNat (nat_lit 0))] [((nat_lit 0), (nat_lit 1), .c (.int .i64 (.ofNat (nat_lit 1)))), ((nat_lit 1), (nat_lit 1), .c (.int .i64 (.ofNat (nat_lit 2)))), ((nat_lit 2), (nat_lit 1), .c (.int .i64 (.ofNat (nat_lit 3))))]),
    .op D62 (.call (nat_lit 47) [T61]),
    .op D60 (.mv T62),
    .op D63 (.ex (nat_lit 0) T60),
    .op D64 (.ex (nat_lit 1) T60),
    .op D9 (.mv T63),
    .op D10 (.mv T64)])
  (.seq (.reg [.op D65 (.mv T3),
    .op D66 (.build [.int .i64 (.ofNat (nat_lit 0)), .int .i64 (.ofNat (nat_lit 0)), .int .i64 (.ofNat (nat_lit 0)), .int .i64 (.ofNat (nat_lit 0))] [((nat_lit 0), (nat_lit 1), .c (.int .i64 (.ofNat (nat_lit 1)))), ((nat_lit 1), (nat_lit 1), .c (.int .i64 (.ofNat (nat_lit 5)))), ((nat_lit 2), (nat_lit 1), .c (.int .i64 (.ofNat (nat_lit 1)))), ((nat_lit 3), (nat_lit 1), .c (.int .i64 (.ofNat (nat_lit 1))))]),
    .op D67 (.call (nat_lit 11) [T65, T66]),
    .op D11 (.mv T67)])
  (.seq (.reg [.op D69 (.mv T3),
    .op D70 (.call (nat_lit 13) [T69, .c (.int .i64 (.ofNat (nat_lit 1))), .c (.int .i64 (.ofNat (nat_lit 5)))]),
    .op D68 (.mv T70),
    .op D71 (.ex (nat_lit 0) T68),
    .op D72 (.ex (nat_lit 1) T68),
    .op D12 (.new [.int .i64 (.ofNat (nat_lit 0)), .int .i64 (.ofNat (nat_lit 0)), .int .i64 (.ofNat (nat_lit 0)), .int .i64 (.ofNat (nat_lit 0))]),
    .op .no (.st (nat_lit 4) T12 T71),
    .op D13 (.mv T72)])
  (.seq (.reg [.op D73 (.mv T4),
    .op D74 (.call (nat_lit 103) [T73, .c (.int .i64 (.ofNat (nat_lit 0))), .c (.int .u64 (.ofNat (nat_lit 4)))]),
    .op D14 (.mv T74)])
  (.seq (.reg [.op D76 (.mv T4),
    .op D77 (.call (nat_lit 104) [T76, .c (.int .i64 (.ofNat (nat_lit 2)))]),
    .op D75 (.mv T77),
    .op D78 (.ex (nat_lit 0) T75),
    .op D79 (.ex (nat_lit 1) T75),
    .op D15 (.mv T78),
    .op D16 (.mv T79)])
  (.seq (.reg [.op D81 (.mv T5),
    .op D82 (.call (nat_lit 105) [T81, .c (.int .u64 (.ofNat (nat_lit 9)))]),
    .op D80 (.mv T82),
    .op D83 (.ex (nat_lit 0) T80),
    .op D84 (.ex (nat_lit 1) T80),
    .op D17 (.mv T83),
    .op D18 (.mv T84)])
  (.seq (.reg [.op D85 (.mv T6),
    .op D86 (.call (nat_lit 106) [T85]),
    .op D19 (.mv T86)])
  (.seq (.reg [.op D88 (.mv T7),
    .op D89 (.call (nat_lit 83) [T88]),
    .op D87 (.mv T89),
    .op D90 (.ex (nat_lit 0) T87),
    .op D91 (.ex (nat_lit 1) T87),
    .op D20 (.mv T90),
    .op D21 (.mv T91)])
  (.seq (.reg [.op D93 (.build [.int .u64 (.ofNat (nat_lit 0)), .int .u64 (.ofNat (nat_lit 0)), .int .u64 (.ofNat (nat_lit 0)), .int .u64 (.ofNat (nat_lit 0)), .int .u64 (.ofNat (nat_lit 0))] [((nat_lit 0), (nat_lit 1), .c (.int .u64 (.ofNat (nat_lit 6))))]),
    .op D94 (.call (nat_lit 71) [T93]),
    .op D92 (.mv T94),
    .op D95 (.ex (nat_lit 0) T92),
    .op D96 (.ex (nat_lit 1) T92),
    .op D22 (.mv T95),
    .op D23 (.mv T96)])
  (.seq (.reg [.op D97 (.call (nat_lit 107) []),
    .op D98 (.mv T97),
    .gop .n6 .n2 g98 (fun _ => rfl) true D99 (.mv T8),
    .gop .n6 .n2 g98 (fun _ => rfl) true D100 (.bin .eql T99 (.c (.int .i64 (.ofNat (nat_lit 0))))),
    .op D101 (.pick T98 T100 (.c (.bool false))),
    .op D102 (.mv T101),
    .gop .n6 .n6 g102 (fun _ => rfl) true D103 (.mv T10),
    .op D104 (.pick T102 T103 (.c (.bool false))),
    .op D105 (.mv T104),
    .gop .n6 .n9 g105 (fun _ => rfl) true D106 (.mv T9),
    .gop .n6 .n9 g105 (fun _ => rfl) true D107 (.bin .eql T106 (.c (.int .u64 (.ofNat (nat_lit 33059))))),
    .op D108 (.pick T105 T107 (.c (.bool false))),
    .op D109 (.mv T108),
    .gop .n6 .n13 g109 (fun _ => rfl) true D110 (.mv T11),
    .op D111 (.pick T109 T110 (.c (.bool false))),
    .op D112 (.mv T111),
    .gop .n7 .n0 g112 (fun _ => rfl) true D113 (.mv T13),
    .op D114 (.pick T112 T113 (.c (.bool false))),
    .op D115 (.mv T114),
    .gop .n7 .n3 g115 (fun _ => rfl) true D116 (.fadd (nat_lit 2) T12),
    .gop .n7 .n3 g115 (fun _ => rfl) true D117 (.ld1 T116),
    .gop .n7 .n3 g115 (fun _ => rfl) true D118 (.bin .eql T117 (.c (.int .i64 (.ofNat (nat_lit 1))))),
    .op D119 (.pick T115 T118 (.c (.bool false))),
    .op D120 (.mv T119),
    .gop .n7 .n8 g120 (fun _ => rfl) true D121 (.mv T14),
    .gop .n7 .n8 g120 (fun _ => rfl) true D122 (.bin .eql T121 (.c (.int .i64 (.ofNat (nat_lit 2))))),
    .op D123 (.pick T120 T122 (.c (.bool false))),
    .op D124 (.mv T123),
    .gop .n7 .n12 g124 (fun _ => rfl) true D125 (.mv T15),
    .gop .n7 .n12 g124 (fun _ => rfl) true D126 (.bin .eql T125 (.c (.int .u64 (.ofNat (nat_lit 4))))),
    .op D127 (.pick T124 T126 (.c (.bool false))),
    .op D128 (.mv T127),
    .gop .n8 .n0 g128 (fun _ => rfl) true D129 (.mv T16),
    .op D130 (.pick T128 T129 (.c (.bool false))),
    .op D131 (.mv T130),
    .gop .n8 .n3 g131 (fun _ => rfl) true D132 (.mv T17),
    .gop .n8 .n3 g131 (fun _ => rfl) true D133 (.bin .eql T132 (.c (.int .u64 (.ofNat (nat_lit 6))))),
    .op D134 (.pick T131 T133 (.c (.bool false))),
    .op D135 (.mv T134),
    .gop .n8 .n7 g135 (fun _ => rfl) true D136 (.mv T19),
    .gop .n8 .n7 g135 (fun _ => rfl) true D137 (.bin .eql T136 (.c (.int .u64 (.ofNat (nat_lit 0))))),
    .op D138 (.pick T135 T137 (.c (.bool false))),
    .op D139 (.mv T138),
    .gop .n8 .n11 g139 (fun _ => rfl) true D140 (.mv T6),
    .gop .n8 .n11 g139 (fun _ => rfl) true D141 (.call (nat_lit 108) [T140, .c (.int .u64 (.ofNat (nat_lit 0)))]),
    .op D142 (.pick T139 T141 (.c (.bool false))),
    .op D143 (.mv T142),
    .gop .n8 .n15 g143 (fun _ => rfl) true D144 (.mv T6),
    .gop .n8 .n15 g143 (fun _ => rfl) true D145 (.call (nat_lit 109) [T144, .c (.int .u64 (.ofNat (nat_lit 0)))]),
    .op D146 (.pick T143 T145 (.c (.bool false))),
    .op D147 (.mv T146),
    .gop .n9 .n3 g147 (fun _ => rfl) true D148 (.mv T20),
    .gop .n9 .n3 g147 (fun _ => rfl) true D149 (.bin .eql T148 (.c (.int .i64 (.ofNat (nat_lit 0))))),
    .op D150 (.pick T147 T149 (.c (.bool false))),
    .op D151 (.mv T150),
    .gop .n9 .n7 g151 (fun _ => rfl) true D152 (.mv T21),
    .op D153 (.pick T151 T152 (.c (.bool false))),
    .op D154 (.mv T153),
    .gop .n9 .n10 g154 (fun _ => rfl) true D155 (.mv T1),
    .gop .n9 .n10 g154 (fun _ => rfl) true D156 (.call (nat_lit 94) [T155, .c (.int .i64 (.ofNat (nat_lit 1))), .c (.int .i64 (.ofNat (nat_lit 3))), .c (.int .u64 (.ofNat (nat_lit 9)))]),
    .op D157 (.pick T154 T156 (.c (.bool false))),
    .op D158 (.mv T157),
    .gop .n9 .n14 g158 (fun _ => rfl) true D159 (.mv T23),
    .op D160 (.pick T158 T159 (.c (.bool false))),
    .op D161 (.mv T160),
    .gop .n10 .n1 g161 (fun _ => rfl) true D162 (.mv T22),
    .gop .n10 .n1 g161 (fun _ => rfl) true D163 (.bin .eql T162 (.c (.int .i64 (.ofNat (nat_lit 6))))),
    .op D164 (.pick T161 T163 (.c (.bool false))),
    .op D165 (.mv T164),
    .gop .n10 .n5 g165 (fun _ => rfl) true D166 (.build [.int .u64 (.ofNat (nat_lit 0)), .int .u64 (.ofNat (nat_lit 0)), .int .u64 (.ofNat (nat_lit 0)), .int .u64 (.ofNat (nat_lit 0)), .int .u64 (.ofNat (nat_lit 0))] [((nat_lit 0), (nat_lit 1), .c (.int .u64 (.ofNat (nat_lit 6)))), ((nat_lit 1), (nat_lit 1), .c (.int .u64 (.ofNat (nat_lit 8)))), ((nat_lit 2), (nat_lit 1), .c (.int .u64 (.ofNat (nat_lit 0)))), ((nat_lit 3), (nat_lit 1), .c (.int .u64 (.ofNat (nat_lit 1))))]),
    .gop .n10 .n5 g165 (fun _ => rfl) true D167 (.call (nat_lit 55) [T166, .c (.int .i64 (.ofNat (nat_lit 2)))]),
    .gop .n10 .n5 g165 (fun _ => rfl) true D168 (.bin .eql T167 (.c (.int .i64 (.ofNat (nat_lit 2))))),
    .op D169 (.pick T165 T168 (.c (.bool false))),
    .op D170 (.mv T169),
    .gop .n10 .n10 g170 (fun _ => rfl) true D171 (.call (nat_lit 110) [.c (.int .i64 (.ofNat (nat_lit 3)))]),
    .gop .n10 .n10 g170 (fun _ => rfl) true D172 (.bin .eql T171 (.c (.int .i64 (.ofNat (nat_lit 4))))),
    .op D173 (.pick T170 T172 (.c (.bool false))),
    .op D174 (.mv T173),
    .gop .n10 .n14 g174 (fun _ => rfl) true D175 (.call (nat_lit 52) [.c (.int .i64 (.ofNat (nat_lit 1))), .c (.int .i64 (.ofNat (nat_lit 3)))]),
    .op D176 (.pick T174 T175 (.c (.bool false))),
    .op D177 (.mv T176),
    .gop .n11 .n1 g177 (fun _ => rfl) true D178 (.mv T2),
    .gop .n11 .n1 g177 (fun _ => rfl) true D179 (.call (nat_lit 88) [T178, .c (.int .i64 (.ofNat (nat_lit 2)))]),
    .gop .n11 .n1 g177 (fun _ => rfl) true D180 (.lenL T179),
    .gop .n11 .n1 g177 (fun _ => rfl) true D181 (.bin .eql T180 (.c (.int .i64 (.ofNat (nat_lit 1))))),
    .op D182 (.pick T177 T181 (.c (.bool false))),
    .op D183 (.mv T182),
    .gop .n11 .n7 g183 (fun _ => rfl) true D184 (.mv T7),
    .gop .n11 .n7 g183 (fun _ => rfl) true D185 (.call (nat_lit 111) [T184]),
    .gop .n11 .n7 g183 (fun _ => rfl) true D186 (.bin .eql T185 (.c (.int .u64 (.ofNat (nat_lit 2))))),
    .op D187 (.pick T183 T186 (.c (.bool false))),
    .op D0 (.mv T187)])
  (.ret))))))))))))))),
  [.t .n0 .n0 g0 (fun _ => rfl)]⟩
/-- (*messuage/caps.Tree).all -/
noncomputable def ff75 : FFunc := ⟨.seq (.reg [.op D4 (.mv (.c (.nils)))])
  (.seq (.seq (.reg [.op D10 (.mv T0),
    .op D11 (.eq false (.sc .ptr) T10 (.c (.nilp)))])
  (.cond T11 (.seq (.reg [.op D4 (.mv (.c (.nils)))])
  (.ret))
  (.skip)))
  (.seq (.reg [.op D5 (.mv (.c (.nils)))])
  (.seq (.seq (.reg [.op D12 (.mv T0),
    .op D13 (.nilck T12),
    .op D14 (.fadd (nat_lit 0) T13),
    .op D15 (.ld1 T14),
    .op D16 (.lenL T15),
    .op D17 (.mv (.c (.int .i64 (.ofNat (nat_lit 0)))))])
  (.block (nat_lit 0) (.loop (.seq (.reg [.op D18 (.bin .lss T17 T16)])
  (.seq (.cond T18 (.skip)
  (.exit (nat_lit 0)))
  (.seq (.block (nat_lit 1) (.seq (.reg [.op D19 (.mv T17),
    .op D6 (.mv T19)])
  (.seq (.reg [.op D20 (.mv T0),
    .op D21 (.nilck T20),
    .op D22 (.fadd (nat_lit 0) T21),
    .op D23 (.ld1 T22),
    .op D24 (.mv T6),
    .op D25 (.ixaS (nat_lit 32) T23 T24),
    .op D26 (.ldA (nat_lit 32) T25),
    .op D27 (.mv (.c (.int .i64 (.ofNat (nat_lit 0)))))])
  (.block (nat_lit 2) (.loop (.seq (.reg [.op D28 (.bin .lss T27 (.c (.int .i64 (.ofNat (nat_lit 8)))))])
  (.seq (.cond T28 (.skip)
  (.exit (nat_lit 2)))
  (.seq (.block (nat_lit 3) (.seq (.reg [.op D29 (.mv T27),
    .op D30 (.ixAA (nat_lit 8) (nat_lit 4) T26 T27),
    .op D8 (.new [.int .i64 (.ofNat (nat_lit 0)), .int .i64 (.ofNat (nat_lit 0)), .int .i64 (.ofNat (nat_lit 0)), .int .i64 (.ofNat (nat_lit 0))]),
    .op D7 (.mv T29),
    .op .no (.st (nat_lit 4) T8 T30)])
  (.seq (.reg [.op D31 (.mv T6),
    .op D32 (.mv T7),
    .op D33 (.build [.int .i64 (.ofNat (nat_lit 0)), .int .i64 (.ofNat (nat_lit 0))] [((nat_lit 0), (nat_lit 1), T31), ((nat_lit 1), (nat_lit 1), T32)]),
    .op D9 (.new [.int .i64 (.ofNat (nat_lit 0)), .int .i64 (.ofNat (nat_lit 0))]),
    .op .no (.st (nat_lit 2) T9 T33)])
  (.seq (.reg [.op D34 (.fadd (nat_lit 1) T8),
    .op D35 (.ld1 T34),
    .op D36 (.bin .neq T35 (.c (.int .i64 (.ofNat (nat_lit 0))))),
    .op D37 (.mv T36),
    .gop .n2 .n5 g37 (fun _ => rfl) true D38 (.mv T1),
    .gop .n2 .n5 g37 (fun _ => rfl) true D39 (.ldA (nat_lit 2) T9),
    .gop .n2 .n5 g37 (fun _ => rfl) true D40 (.ldA (nat_lit 4) T8),
    .gop .n2 .n5 g37 (fun _ => rfl) true D41 (.callv T38 [T39, T40]),
    .op D42 (.pick T37 T41 (.c (.bool false)))])
  (.cond T42 (.reg [.op D43 (.mv T5),
    .op D44 (.ldA (nat_lit 2) T9),
    .op D45 (.bsl (nat_lit 2) [.int .i64 (.ofNat (nat_lit 0)), .int .i64 (.ofNat (nat_lit 0))] (nat_lit 1) [((nat_lit 0), (nat_lit 2), T44)]),
    .op D46 (.app (nat_lit 2) (nat_lit 16) T43 T45),
    .op D5 (.mv T46)])
  (.skip))))))
  (.reg [.op D47 (.bin .add T27 (.c (.int .i64 (.ofNat (nat_lit 1))))),
    .op D27 (.mv T47)])))))))))
  (.reg [.op D48 (.bin .add T17 (.c (.int .i64 (.ofNat (nat_lit 1))))),
    .op D17 (.mv T48)])))))))
  (.seq (.reg [.op D49 (.mv T5),
    .op D4 (.mv T49)])
  (.ret))))),
  [.t .n0 .n4 g4 (fun _ => rfl)]⟩
/-- (*messuage/caps.Tree).Below$1 -/
noncomputable def ff76 : FFunc := ⟨.seq (.reg [.op D5 (.box (nat_lit 2) T0),
    .op D6 (.box (nat_lit 4) T1),
    .op D7 (.mv (.c (.bool false)))])
  (.seq (.reg [.op D8 (.ld1 T2),
    .op D9 (.ldA (nat_lit 4) T6),
    .op D10 (.ld1 T3),
    .op D11 (.ld1 T4),
    .op D12 (.build [.int .i64 (.ofNat (nat_lit 0)), .int .i64 (.ofNat (nat_lit 0))] [((nat_lit 0), (nat_lit 1), T10), ((nat_lit 1), (nat_lit 1), T11)]),
    .op D13 (.call (nat_lit 77) [T8, T9, T12]),
    .op D7 (.mv T13)])
  (.ret)),
  [.t .n0 .n7 g7 (fun _ => rfl)]⟩
/-- (*messuage/caps.Tree).under -/
noncomputable def ff77 : FFunc := ⟨.seq (.reg [.op D4 (.box (nat_lit 4) T1),
    .op D5 (.box (nat_lit 2) T2),
    .op D6 (.mv (.c (.bool false)))])
  (.seq (.block (nat_lit 0) (.loop (.seq (.seq (.reg [.op D7 (.fadd (nat_lit 1) T4),
    .op D8 (.ld1 T7),
    .op D9 (.bin .neq T8 (.c (.int .i64 (.ofNat (nat_lit 0))))),
    .op D10 (.mv T9),
    .gop .n0 .n10 g10 (fun _ => rfl) true D11 (.fadd (nat_lit 2) T4),
    .gop .n0 .n10 g10 (fun _ => rfl) true D12 (.ld1 T11),
    .gop .n0 .n10 g10 (fun _ => rfl) true D13 (.bin .geq T12 (.c (.int .i64 (.ofNat (nat_lit 0))))),
    .op D14 (.pick T10 T13 (.c (.bool false)))])
  (.cond T14 (.skip)
  (.exit (nat_lit 0))))
  (.block (nat_lit 1) (.seq (.seq (.reg [.op D15 (.fadd (nat_lit 2) T4),
    .op D16 (.ld1 T15),
    .op D17 (.fadd (nat_lit 0) T5),
    .op D18 (.ld1 T17),
    .op D19 (.bin .eql T16 T18),
    .op D20 (.mv T19),
    .gop .n1 .n4 g20 (fun _ => rfl) true D21 (.fadd (nat_lit 3) T4),
    .gop .n1 .n4 g20 (fun _ => rfl) true D22 (.ld1 T21),
    .gop .n1 .n4 g20 (fun _ => rfl) true D23 (.fadd (nat_lit 1) T5),
    .gop .n1 .n4 g20 (fun _ => rfl) true D24 (.ld1 T23),
    .gop .n1 .n4 g20 (fun _ => rfl) true D25 (.bin .eql T22 T24),
    .op D26 (.pick T20 T25 (.c (.bool false)))])
  (.cond T26 (.seq (.reg [.op D6 (.mv (.c (.bool true)))])
  (.ret))
  (.skip)))
  (.drw [.op D27 (.mv T0),
    .op D28 (.nilck T27),
    .op D29 (.fadd (nat_lit 0) T28),
    .op D30 (.ld1 T29),
    .op D31 (.fadd (nat_lit 2) T4),
    .op D32 (.ld1 T31),
    .op D33 (.fadd (nat_lit 3) T4),
    .op D34 (.ld1 T33),
    .op D35 (.ixaS (nat_lit 32) T30 T32),
    .op D36 (.ixaA (nat_lit 8) (nat_lit 4) T35 T34),
    .op D37 (.ldA (nat_lit 4) T36),
    .op .no (.st (nat_lit 4) T4 T37)] []))))))
  (.seq (.reg [.op D6 (.mv (.c (.bool false)))])
  (.ret))),
  [.t .n0 .n6 g6 (fun _ => rfl)]⟩
/-- errors.is -/
noncomputable def ff79 : FFunc := ⟨.seq (.reg [.op D6 (.mv (.c (.bool false)))])
  (.block (nat_lit 0) (.loop (.block (nat_lit 1) (.seq (.seq (.reg [.op D14 (.mv T2),
    .op D15 (.mv T14),
    .gop .n0 .n15 g15 (fun _ => rfl) true D16 (.mv T0),
    .gop .n0 .n15 g15 (fun _ => rfl) true D17 (.mv T1),
    .gop .n0 .n15 g15 (fun _ => rfl) true D18 (.eq false (.sc .ifcS) T16 T17),
    .op D19 (.pick T15 T18 (.c (.bool false)))])
  (.cond T19 (.seq (.reg [.op D6 (.mv (.c (.bool true)))])
  (.ret))
  (.skip)))
  (.seq (.seq (.reg [.op D21 (.mv T0),
    .op D22 (.asI [(nat_lit 122)] (.nili) true T21),
    .op D20 (.mv T22),
    .op D23 (.ex (nat_lit 0) T20),
    .op D24 (.ex (nat_lit 1) T20),
    .op D7 (.mv T23),
    .op D8 (.mv T24)])
  (.seq (.reg [.op D25 (.mv T8),
    .op D26 (.mv T25),
    .gop .n1 .n10 g26 (fun _ => rfl) true D27 (.mv T7),
    .gop .n1 .n10 g26 (fun _ => rfl) true D28 (.mv T1),
    .gop .n1 .n10 g26 (fun _ => rfl) true D29 (.inv [((nat_lit 122), (nat_lit 162))] T27 [T28]),
    .op D30 (.pick T26 T29 (.c (.bool false)))])
  (.cond T30 (.seq (.reg [.op D6 (.mv (.c (.bool true)))])
  (.ret))
  (.skip))))
  (.seq (.reg [.op D31 (.mv T0)])
  (.block (nat_lit 2) (.seq (.reg [.op D32 (.asI [(nat_lit 122)] (.nili) true T31),
    .op D33 (.ex (nat_lit 1) T32),
    .op D34 (.ex (nat_lit 0) T32)])
  (.cond T33 (.seq (.reg [.op D9 (.mv T34)])
  (.seq (.reg [.op D35 (.mv T9),
    .op D36 (.inv [((nat_lit 122), (nat_lit 163))] T35 []),
    .op D0 (.mv T36)])
  (.seq (.reg [.op D37 (.mv T0),
    .op D38 (.eq false (.sc .ifc) T37 (.c (.nili)))])
  (.cond T38 (.seq (.reg [.op D6 (.mv (.c (.bool false)))])
  (.ret))
  (.skip)))))
  (.seq (.reg [.op D39 (.asI [] (.nili) true T31),
    .op D40 (.ex (nat_lit 1) T39),
    .op D41 (.ex (nat_lit 0) T39)])
  (.cond T40 (.seq (.reg [.op D10 (.mv T41)])
  (.seq (.seq (.reg [.op D42 (.mv T10),
    .op D43 (.inv [((nat_lit 122), (nat_lit 163))] T42 []),
    .op D44 (.lenL T43),
    .op D45 (.mv (.c (.int .i64 (.ofNat (nat_lit 0)))))])
  (.block (nat_lit 3) (.loop (.seq (.reg [.op D46 (.bin .lss T45 T44)])
  (.seq (.cond T46 (.skip)
  (.exit (nat_lit 3)))
  (.seq (.block (nat_lit 4) (.seq (.reg [.op D47 (.ixaS (nat_lit 1) T43 T45),
    .op D48 (.ld1 T47),
    .op D12 (.mv T48)])
  (.seq (.reg [.op D49 (.mv T12),
    .op D50 (.mv T1),
    .op D51 (.mv T2),
    .op D52 (.call (nat_lit 79) [T49, T50, T51])])
  (.cond T52 (.seq (.reg [.op D6 (.mv (.c (.bool true)))])
  (.ret))
  (.skip)))))
  (.reg [.op D53 (.bin .add T45 (.c (.int .i64 (.ofNat (nat_lit 1))))),
    .op D45 (.mv T53)])))))))
  (.seq (.reg [.op D6 (.mv (.c (.bool false)))])
  (.ret))))
  (.seq (.reg [.op D13 (.mv T31)])
  (.seq (.reg [.op D6 (.mv (.c (.bool false)))])
  (.ret)))))))))))))),
  [.t .n0 .n6 g6 (fun _ => rfl)]⟩
/-- messuage/tlb.empty -/
noncomputable def ff80 : FFunc := ⟨.seq (.reg [.op D0 (.new [.int .i64 (.ofNat (nat_lit 0)), .int .i64 (.ofNat (nat_lit 0)), .int .i64 (.ofNat (nat_lit 0)), .int .i64 (.ofNat (nat_lit 0))])])
  (.seq (.reg [.op D1 (.build [.int .i64 (.ofNat (nat_lit 0)), .int .i64 (.ofNat (nat_lit 0)), .int .i64 (.ofNat (nat_lit 0)), .int .i64 (.ofNat (nat_lit 0))] [((nat_lit 0), (nat_lit 1), .c (.int .i64 (.negSucc (nat_lit 0))))]),
    .op .no (.st (nat_lit 4) T0 T1)])
  (.ret)),
  [.cellA .n0 .n0 g0 (fun _ => rfl) (nat_lit 4)]⟩
/-- messuage/word.kinds -/
noncomputable def ff81 : FFunc := ⟨.seq (.reg [.op D2 (.mv (.c (.nils)))])
  (.seq (.seq (.reg [.op D3 (.mv T0)])
  (.block (nat_lit 0) (.seq (.seq (.reg [.op D5 (.bin .eql T3 (.c (.int .i64 (.ofNat (nat_lit 1))))),
    .op D4 (.mv T5)])
  (.cond T4 (.skip)
  (.seq (.reg [.op D6 (.bin .eql T3 (.c (.int .i64 (.ofNat (nat_lit 4))))),
    .op D4 (.mv T6)])
  (.cond T4 (.skip)
  (.reg [.op D7 (.bin .eql T3 (.c (.int .i64 (.ofNat (nat_lit 5))))),
    .op D4 (.mv T7)])))))
  (.cond T4 (.seq (.reg [.op D8 (.bsl (nat_lit 1) [.int .i64 (.ofNat (nat_lit 0))] (nat_lit 1) [((nat_lit 0), (nat_lit 1), .c (.int .i64 (.ofNat (nat_lit 0))))]),
    .op D2 (.mv T8)])
  (.ret))
  (.seq (.reg [.op D10 (.bin .eql T3 (.c (.int .i64 (.ofNat (nat_lit 2))))),
    .op D9 (.mv T10)])
  (.cond T9 (.seq (.reg [.op D11 (.bsl (nat_lit 1) [.int .i64 (.ofNat (nat_lit 0)), .int .i64 (.ofNat (nat_lit 0)), .int .i64 (.ofNat (nat_lit 0))] (nat_lit 3) [((nat_lit 0), (nat_lit 1), .c (.int .i64 (.ofNat (nat_lit 0)))), ((nat_lit 1), (nat_lit 1), .c (.int .i64 (.ofNat (nat_lit 0)))), ((nat_lit 2), (nat_lit 1), .c (.int .i64 (.ofNat (nat_lit 4))))]),
    .op D2 (.mv T11)])
  (.ret))
  (.seq (.reg [.op D13 (.bin .eql T3 (.c (.int .i64 (.ofNat (nat_lit 3))))),
    .op D12 (.mv T13)])
  (.cond T12 (.seq (.reg [.op D14 (.bsl (nat_lit 1) [.int .i64 (.ofNat (nat_lit 0)), .int .i64 (.ofNat (nat_lit 0)), .int .i64 (.ofNat (nat_lit 0)), .int .i64 (.ofNat (nat_lit 0))] (nat_lit 4) [((nat_lit 0), (nat_lit 1), .c (.int .i64 (.ofNat (nat_lit 0)))), ((nat_lit 1), (nat_lit 1), .c (.int .i64 (.ofNat (nat_lit 3)))), ((nat_lit 2), (nat_lit 1), .c (.int .i64 (.ofNat (nat_lit 0)))), ((nat_lit 3), (nat_lit 1), .c (.int .i64 (.ofNat (nat_lit 4))))]),
    .op D2 (.mv T14)])
  (.ret))
  (.seq (.reg [.op D16 (.bin .eql T3 (.c (.int .i64 (.ofNat (nat_lit 6))))),
    .op D15 (.mv T16)])
  (.cond T15 (.seq (.reg [.op D17 (.bsl (nat_lit 1) [.int .i64 (.ofNat (nat_lit 0)), .int .i64 (.ofNat (nat_lit 0)), .int .i64 (.ofNat (nat_lit 0))] (nat_lit 3) [((nat_lit 0), (nat_lit 1), .c (.int .i64 (.ofNat (nat_lit 1)))), ((nat_lit 1), (nat_lit 1), .c (.int .i64 (.ofNat (nat_lit 0)))), ((nat_lit 2), (nat_lit 1), .c (.int .i64 (.ofNat (nat_lit 4))))]),
    .op D2 (.mv T17)])
  (.ret))
  (.seq (.reg [.op D19 (.bin .eql T3 (.c (.int .i64 (.ofNat (nat_lit 7))))),
    .op D18 (.mv T19)])
  (.cond T18 (.seq (.reg [.op D20 (.bsl (nat_lit 1) [.int .i64 (.ofNat (nat_lit 0))] (nat_lit 1) [((nat_lit 0), (nat_lit 1), .c (.int .i64 (.ofNat (nat_lit 1))))]),
    .op D2 (.mv T20)])
  (.ret))
  (.seq (.reg [.op D22 (.bin .eql T3 (.c (.int .i64 (.ofNat (nat_lit 8))))),
    .op D21 (.mv T22)])
  (.cond T21 (.seq (.reg [.op D23 (.bsl (nat_lit 1) [.int .i64 (.ofNat (nat_lit 0)), .int .i64 (.ofNat (nat_lit 0))] (nat_lit 2) [((nat_lit 0), (nat_lit 1), .c (.int .i64 (.ofNat (nat_lit 1)))), ((nat_lit 1), (nat_lit 1), .c (.int .i64 (.ofNat (nat_lit 4))))]),
    .op D2 (.mv T23)])
  (.ret))
  (.seq (.reg [.op D25 (.bin .eql T3 (.c (.int .i64 (.ofNat (nat_lit 9))))),
    .op D24 (.mv T25)])
  (.cond T24 (.seq (.reg [.op D26 (.bsl (nat_lit 1) [.int .i64 (.ofNat (nat_lit 0)), .int .i64 (.ofNat (nat_lit 0)), .int .i64 (.ofNat (nat_lit 0)), .int .i64 (.ofNat (nat_lit 0))] (nat_lit 4) [((nat_lit 0), (nat_lit 1), .c (.int .i64 (.ofNat (nat_lit 0)))), ((nat_lit 1), (nat_lit 1), .c (.int .i64 (.ofNat (nat_lit 2)))), ((nat_lit 2), (nat_lit 1), .c (.int .i64 (.ofNat (nat_lit 5)))), ((nat_lit 3), (nat_lit 1), .c (.int .i64 (.ofNat (nat_lit 6))))]),
    .op D2 (.mv T26)])
  (.ret))
  (.seq (.reg [.op D28 (.bin .eql T3 (.c (.int .i64 (.ofNat (nat_lit 20))))),
    .op D27 (.mv T28)])
  (.cond T27 (.seq (.reg [.op D29 (.bsl (nat_lit 1) [.int .i64 (.ofNat (nat_lit 0)), .int .i64 (.ofNat (nat_lit 0))] (nat_lit 2) [((nat_lit 0), (nat_lit 1), .c (.int .i64 (.ofNat (nat_lit 1)))), ((nat_lit 1), (nat_lit 1), .c (.int .i64 (.ofNat (nat_lit 2))))]),
    .op D2 (.mv T29)])
  (.ret))
  (.seq (.seq (.reg [.op D31 (.bin .eql T3 (.c (.int .i64 (.ofNat (nat_lit 21))))),
    .op D30 (.mv T31)])
  (.cond T30 (.skip)
  (.reg [.op D32 (.bin .eql T3 (.c (.int .i64 (.ofNat (nat_lit 23))))),
    .op D30 (.mv T32)])))
  (.cond T30 (.seq (.reg [.op D33 (.bsl (nat_lit 1) [.int .i64 (.ofNat (nat_lit 0)), .int .i64 (.ofNat (nat_lit 0)), .int .i64 (.ofNat (nat_lit 0))] (nat_lit 3) [((nat_lit 0), (nat_lit 1), .c (.int .i64 (.ofNat (nat_lit 1)))), ((nat_lit 1), (nat_lit 1), .c (.int .i64 (.ofNat (nat_lit 2)))), ((nat_lit 2), (nat_lit 1), .c (.int .i64 (.ofNat (nat_lit 6))))]),
    .op D2 (.mv T33)])
  (.ret))
  (.seq (.reg [.op D35 (.bin .eql T3 (.c (.int .i64 (.ofNat (nat_lit 22))))),
    .op D34 (.mv T35)])
  (.cond T34 (.seq (.reg [.op D36 (.bsl (nat_lit 1) [.int .i64 (.ofNat (nat_lit 0)), .int .i64 (.ofNat (nat_lit 0)), .int .i64 (.ofNat (nat_lit 0)), .int .i64 (.ofNat (nat_lit 0))] (nat_lit 4) [((nat_lit 0), (nat_lit 1), .c (.int .i64 (.ofNat (nat_lit 1)))), ((nat_lit 1), (nat_lit 1), .c (.int .i64 (.ofNat (nat_lit 2)))), ((nat_lit 2), (nat_lit 1), .c (.int .i64 (.ofNat (nat_lit 6)))), ((nat_lit 3), (nat_lit 1), .c (.int .i64 (.ofNat (nat_lit 6))))]),
    .op D2 (.mv T36)])
  (.ret))
  (.skip)))))))))))))))))))))))
  (.seq (.reg [.op D2 (.mv (.c (.nils)))])
  (.ret))),
  [.t .n0 .n2 g2 (fun _ => rfl)]⟩
end Go.Ev.Pg
