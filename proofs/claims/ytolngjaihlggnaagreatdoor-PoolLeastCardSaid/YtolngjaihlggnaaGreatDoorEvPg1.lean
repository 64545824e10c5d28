import Derived.Test.YtolngjaihlggnaaGreatDoorEvFast
namespace Go.Ev.Pg
/-- internal/strconv.formatBase10 -/
noncomputable def ff115 : FFunc := ⟨.seq (.reg [.op D17 (.mv T0),
    .op D18 (.lenL T17),
    .op D4 (.mv T18)])
  (.seq (.block (nat_lit 0) (.loop (.seq (.seq (.reg [.op D19 (.mv T4),
    .op D20 (.bin .geq T19 (.c (.int .i64 (.ofNat (nat_lit 8)))))])
  (.cond T20 (.skip)
  (.exit (nat_lit 0))))
  (.block (nat_lit 1) (.seq (.reg [.op D21 (.mv T1),
    .op D22 (.bin .rem T21 (.c (.int .u64 (.ofNat (nat_lit 100000000))))),
    .op D23 (.cvi .u32 T22),
    .op D5 (.mv T23)])
  (.seq (.reg [.op D24 (.mv T1),
    .op D25 (.bin .quo T24 (.c (.int .u64 (.ofNat (nat_lit 100000000))))),
    .op D1 (.mv T25)])
  (.seq (.reg [.op D26 (.mv T5),
    .op D27 (.bin .quo T26 (.c (.int .u32 (.ofNat (nat_lit 10000))))),
    .op D28 (.mv T5),
    .op D29 (.bin .rem T28 (.c (.int .u32 (.ofNat (nat_lit 10000))))),
    .op D6 (.mv T27),
    .op D7 (.mv T29)])
  (.seq (.reg [.op D30 (.mv T7),
    .op D31 (.bin .quo T30 (.c (.int .u32 (.ofNat (nat_lit 100))))),
    .op D32 (.bin .mul T31 (.c (.int .u32 (.ofNat (nat_lit 2))))),
    .op D33 (.mv T7),
    .op D34 (.bin .rem T33 (.c (.int .u32 (.ofNat (nat_lit 100))))),
    .op D35 (.bin .mul T34 (.c (.int .u32 (.ofNat (nat_lit 2))))),
    .op D8 (.mv T32),
    .op D9 (.mv T35)])
  (.seq (.reg [.op D36 (.mv T6),
    .op D37 (.bin .quo T36 (.c (.int .u32 (.ofNat (nat_lit 100))))),
    .op D38 (.bin .mul T37 (.c (.int .u32 (.ofNat (nat_lit 2))))),
    .op D39 (.mv T6),
    .op D40 (.bin .rem T39 (.c (.int .u32 (.ofNat (nat_lit 100))))),
    .op D41 (.bin .mul T40 (.c (.int .u32 (.ofNat (nat_lit 2))))),
    .op D10 (.mv T38),
    .op D11 (.mv T41)])
  (.seq (.drw [.op D42 (.mv T0),
    .op D43 (.mv T4),
    .op D44 (.bin .sub T43 (.c (.int .i64 (.ofNat (nat_lit 1))))),
    .op D45 (.mv T0),
    .op D46 (.mv T4),
    .op D47 (.bin .sub T46 (.c (.int .i64 (.ofNat (nat_lit 2))))),
    .op D48 (.mv T9),
    .op D49 (.bin .add T48 (.c (.int .u32 (.ofNat (nat_lit 1))))),
    .op D50 (.ixS (.c (.str [(nat_lit 48), (nat_lit 48), (nat_lit 48), (nat_lit 49), (nat_lit 48), (nat_lit 50), (nat_lit 48), (nat_lit 51), (nat_lit 48), (nat_lit 52), (nat_lit 48), (nat_lit 53), (nat_lit 48), (nat_lit 54), (nat_lit 48), (nat_lit 55), (nat_lit 48), (nat_lit 56), (nat_lit 48), (nat_lit 57), (nat_lit 49), (nat_lit 48), (nat_lit 49), (nat_lit 49), (nat_lit 49), (nat_lit 50), (nat_lit 49), (nat_lit 51), (nat_lit 49), (nat_lit 52), (nat_lit 49), (nat_lit 53), (nat_lit 49), (nat_lit 54), (nat_lit 49), (nat_lit 55), (nat_lit 49), (nat_lit 56), (nat_lit 49), (nat_lit 57), (nat_lit 50), (nat_lit 48), (nat_lit 50), (nat_lit 49), (nat_lit 50), (nat_lit 50), (nat_lit 50), (nat_lit 51), (nat_lit 50), (nat_lit 52), (nat_lit 50), (nat_lit 53), (nat_lit 50), (nat_lit 54), (nat_lit 50), (nat_lit 55), (nat_lit 50), (nat_lit 56), (nat_lit 50), (nat_lit 57), (nat_lit 51), (nat_lit 48), (nat_lit 51), (nat_lit 49), (nat_lit 51), (nat_lit 50), (nat_lit 51), (nat_lit 51), (nat_lit 51), (nat_lit 52), (nat_lit 51), (nat_lit 53), (nat_lit 51), (nat_lit 54), (nat_lit 51), (nat_lit 55), (nat_lit 51), (nat_lit 56), (nat_lit 51), (nat_lit 57), (nat_lit 52), (nat_lit 48), (nat_lit 52), (nat_lit 49), (nat_lit 52), (nat_lit 50), (nat_lit 52), (nat_lit 51), (nat_lit 52), (nat_lit 52), (nat_lit 52), (nat_lit 53), (nat_lit 52), (nat_lit 54), (nat_lit 52), (nat_lit 55), (nat_lit 52), (nat_lit 56), (nat_lit 52), (nat_lit 57), (nat_lit 53), (nat_lit 48), (nat_lit 53), (nat_lit 49), (nat_lit 53), (nat_lit 50), (nat_lit 53), (nat_lit 51), (nat_lit 53), (nat_lit 52), (nat_lit 53), (nat_lit 53), (nat_lit 53), (nat_lit 54), (nat_lit 53), (nat_lit 55), (nat_lit 53), (nat_lit 56), (nat_lit 53), (nat_lit 57), (nat_lit 54), (nat_lit 48), (nat_lit 54), (nat_lit 49), (nat_lit 54), (nat_lit 50), (nat_lit 54), (nat_lit 51), (nat_lit 54), (nat_lit 52), (nat_lit 54), (nat_lit 53), (nat_lit 54), (nat_lit 54), (nat_lit 54), (nat_lit 55), (nat_lit 54), (nat_lit 56), (nat_lit 54), (nat_lit 57), (nat_lit 55), (nat_lit 48), (nat_lit 55), (nat_lit 49), (nat_lit 55), (nat_lit 50), (nat_lit 55), (nat_lit 51), (nat_lit 55), (nat_lit 52), (nat_lit 55), (nat_lit 53), (nat_lit 55), (nat_lit 54), (nat_lit 55), (nat_lit 55), (nat_lit 55), (nat_lit 56), (nat_lit 55), (nat_lit 57), (nat_lit 56), (nat_lit 48), (nat_lit 56), (nat_lit 49), (nat_lit 56), (nat_lit 50), (nat_lit 56), (nat_lit 51), (nat_lit 56), (nat_lit 52), (nat_lit 56), (nat_lit 53), (nat_lit 56), (nat_lit 54), (nat_lit 56), (nat_lit 55), (nat_lit 56), (nat_lit 56), (nat_lit 56), (nat_lit 57), (nat_lit 57), (nat_lit 48), (nat_lit 57), (nat_lit 49), (nat_lit 57), (nat_lit 50), (nat_lit 57), (nat_lit 51), (nat_lit 57), (nat_lit 52), (nat_lit 57), (nat_lit 53), (nat_lit 57), (nat_lit 54), (nat_lit 57), (nat_lit 55), (nat_lit 57), (nat_lit 56), (nat_lit 57), (nat_lit 57)])) T49),
    .op D51 (.mv T9),
    .op D52 (.ixS (.c (.str [(nat_lit 48), (nat_lit 48), (nat_lit 48), (nat_lit 49), (nat_lit 48), (nat_lit 50), (nat_lit 48), (nat_lit 51), (nat_lit 48), (nat_lit 52), (nat_lit 48), (nat_lit 53), (nat_lit 48), (nat_lit 54), (nat_lit 48), (nat_lit 55), (nat_lit 48), (nat_lit 56), (nat_lit 48), (nat_lit 57), (nat_lit 49), (nat_lit 48), (nat_lit 49), (nat_lit 49), (nat_lit 49), (nat_lit 50), (nat_lit 49), (nat_lit 51), (nat_lit 49), (nat_lit 52), (nat_lit 49), (nat_lit 53), (nat_lit 49), (nat_lit 54), (nat_lit 49), (nat_lit 55), (nat_lit 49), (nat_lit 56), (nat_lit 49), (nat_lit 57), (nat_lit 50), (nat_lit 48), (nat_lit 50), (nat_lit 49), (nat_lit 50), (nat_lit 50), (nat_lit 50), (nat_lit 51), (nat_lit 50), (nat_lit 52), (nat_lit 50), (nat_lit 53), (nat_lit 50), (nat_lit 54), (nat_lit 50), (nat_lit 55), (nat_lit 50), (nat_lit 56), (nat_lit 50), (nat_lit 57), (nat_lit 51), (nat_lit 48), (nat_lit 51), (nat_lit 49), (nat_lit 51), (nat_lit 50), (nat_lit 51), (nat_lit 51), (nat_lit 51), (nat_lit 52), (nat_lit 51), (nat_lit 53), (nat_lit 51), (nat_lit 54), (nat_lit 51), (nat_lit 55), (nat_lit 51), (nat_lit 56), (nat_lit 51), (nat_lit 57), (nat_lit 52), (nat_lit 48), (nat_lit 52), (nat_lit 49), (nat_lit 52), (nat_lit 50), (nat_lit 52), (nat_lit 51), (nat_lit 52), (nat_lit 52), (nat_lit 52), (nat_lit 53), (nat_lit 52), (nat_lit 54), (nat_lit 52), (nat_lit 55), (nat_lit 52), (nat_lit 56), (nat_lit 52), (nat_lit 57), (nat_lit 53), (nat_lit 48), (nat_lit 53), (nat_lit 49), (nat_lit 53), (nat_lit 50), (nat_lit 53), (nat_lit 51), (nat_lit 53), (nat_lit 52), (nat_lit 53), (nat_lit 53), (nat_lit 53), (nat_lit 54), (nat_lit 53), (nat_lit 55), (nat_lit 53), (nat_lit 56), (nat_lit 53), (nat_lit 57), (nat_lit 54), (nat_lit 48), (nat_lit 54), (nat_lit 49), (nat_lit 54), (nat_lit 50), (nat_lit 54), (nat_lit 51), (nat_lit 54), (nat_lit 52), (nat_lit 54), (nat_lit 53), (nat_lit 54), (nat_lit 54), (nat_lit 54), (nat_lit 55), (nat_lit 54), (nat_lit 56), (nat_lit 54), (nat_lit 57), (nat_lit 55), (nat_lit 48), (nat_lit 55), (nat_lit 49), (nat_lit 55), (nat_lit 50), (nat_lit 55), (nat_lit 51), (nat_lit 55), (nat_lit 52), (nat_lit 55), (nat_lit 53), (nat_lit 55), (nat_lit 54), (nat_lit 55), (nat_lit 55), (nat_lit 55), (nat_lit 56), (nat_lit 55), (nat_lit 57), (nat_lit 56), (nat_lit 48), (nat_lit 56), (nat_lit 49), (nat_lit 56), (nat_lit 50), (nat_lit 56), (nat_lit 51), (nat_lit 56), (nat_lit 52), (nat_lit 56), (nat_lit 53), (nat_lit 56), (nat_lit 54), (nat_lit 56), (nat_lit 55), (nat_lit 56), (nat_lit 56), (nat_lit 56), (nat_lit 57), (nat_lit 57), (nat_lit 48), (nat_lit 57), (nat_lit 49), (nat_lit 57), (nat_lit 50), (nat_lit 57), (nat_lit 51), (nat_lit 57), (nat_lit 52), (nat_lit 57), (nat_lit 53), (nat_lit 57), (nat_lit 54), (nat_lit 57), (nat_lit 55), (nat_lit 57), (nat_lit 56), (nat_lit 57), (nat_lit 57)])) T51),
    .op D53 (.ixaS (nat_lit 1) T42 T44),
    .op .no (.st (nat_lit 1) T53 T50),
    .op D54 (.ixaS (nat_lit 1) T45 T47),
    .op .no (.st (nat_lit 1) T54 T52)] [])
  (.seq (.drw [.op D55 (.mv T0),
    .op D56 (.mv T4),
    .op D57 (.bin .sub T56 (.c (.int .i64 (.ofNat (nat_lit 3))))),
    .op D58 (.mv T0),
    .op D59 (.mv T4),
    .op D60 (.bin .sub T59 (.c (.int .i64 (.ofNat (nat_lit 4))))),
    .op D61 (.mv T8),
    .op D62 (.bin .add T61 (.c (.int .u32 (.ofNat (nat_lit 1))))),
    .op D63 (.ixS (.c (.str [(nat_lit 48), (nat_lit 48), (nat_lit 48), (nat_lit 49), (nat_lit 48), (nat_lit 50), (nat_lit 48), (nat_lit 51), (nat_lit 48), (nat_lit 52), (nat_lit 48), (nat_lit 53), (nat_lit 48), (nat_lit 54), (nat_lit 48), (nat_lit 55), (nat_lit 48), (nat_lit 56), (nat_lit 48), (nat_lit 57), (nat_lit 49), (nat_lit 48), (nat_lit 49), (nat_lit 49), (nat_lit 49), (nat_lit 50), (nat_lit 49), (nat_lit 51), (nat_lit 49), (nat_lit 52), (nat_lit 49), (nat_lit 53), (nat_lit 49), (nat_lit 54), (nat_lit 49), (nat_lit 55), (nat_lit 49), (nat_lit 56), (nat_lit 49), (nat_lit 57), (nat_lit 50), (nat_lit 48), (nat_lit 50), (nat_lit 49), (nat_lit 50), (nat_lit 50), (nat_lit 50), (nat_lit 51), (nat_lit 50), (nat_lit 52), (nat_lit 50), (nat_lit 53), (nat_lit 50), (nat_lit 54), (nat_lit 50), (nat_lit 55), (nat_lit 50), (nat_lit 56), (nat_lit 50), (nat_lit 57), (nat_lit 51), (nat_lit 48), (nat_lit 51), (nat_lit 49), (nat_lit 51), (nat_lit 50), (nat_lit 51), (nat_lit 51), (nat_lit 51), (nat_lit 52), (nat_lit 51), (nat_lit 53), (nat_lit 51), (nat_lit 54), (nat_lit 51), (nat_lit 55), (nat_lit 51), (nat_lit 56), (nat_lit 51), (nat_lit 57), (nat_lit 52), (nat_lit 48), (nat_lit 52), (nat_lit 49), (nat_lit 52), (nat_lit 50), (nat_lit 52), (nat_lit 51), (nat_lit 52), (nat_lit 52), (nat_lit 52), (nat_lit 53), (nat_lit 52), (nat_lit 54), (nat_lit 52), (nat_lit 55), (nat_lit 52), (nat_lit 56), (nat_lit 52), (nat_lit 57), (nat_lit 53), (nat_lit 48), (nat_lit 53), (nat_lit 49), (nat_lit 53), (nat_lit 50), (nat_lit 53), (nat_lit 51), (nat_lit 53), (nat_lit 52), (nat_lit 53), (nat_lit 53), (nat_lit 53), (nat_lit 54), (nat_lit 53), (nat_lit 55), (nat_lit 53), (nat_lit 56), (nat_lit 53), (nat_lit 57), (nat_lit 54), (nat_lit 48), (nat_lit 54), (nat_lit 49), (nat_lit 54), (nat_lit 50), (nat_lit 54), (nat_lit 51), (nat_lit 54), (nat_lit 52), (nat_lit 54), (nat_lit 53), (nat_lit 54), (nat_lit 54), (nat_lit 54), (nat_lit 55), (nat_lit 54), (nat_lit 56), (nat_lit 54), (nat_lit 57), (nat_lit 55), (nat_lit 48), (nat_lit 55), (nat_lit 49), (nat_lit 55), (nat_lit 50), (nat_lit 55), (nat_lit 51), (nat_lit 55), (nat_lit 52), (nat_lit 55), (nat_lit 53), (nat_lit 55), (nat_lit 54), (nat_lit 55), (nat_lit 55), (nat_lit 55), (nat_lit 56), (nat_lit 55), (nat_lit 57), (nat_lit 56), (nat_lit 48), (nat_lit 56), (nat_lit 49), (nat_lit 56), (nat_lit 50), (nat_lit 56), (nat_lit 51), (nat_lit 56), (nat_lit 52), (nat_lit 56), (nat_lit 53), (nat_lit 56), (nat_lit 54), (nat_lit 56), (nat_lit 55), (nat_lit 56), (nat_lit 56), (nat_lit 56), (nat_lit 57), (nat_lit 57), (nat_lit 48), (nat_lit 57), (nat_lit 49), (nat_lit 57), (nat_lit 50), (nat_lit 57), (nat_lit 51), (nat_lit 57), (nat_lit 52), (nat_lit 57), (nat_lit 53), (nat_lit 57), (nat_lit 54), (nat_lit 57), (nat_lit 55), (nat_lit 57), (nat_lit 56), (nat_lit 57), (nat_lit 57)])) T62),
    .op D64 (.mv T8),
    .op D65 (.ixS (.c (.str [(nat_lit 48), (nat_lit 48), (nat_lit 48), (nat_lit 49), (nat_lit 48), (nat_lit 50), (nat_lit 48), (nat_lit 51), (nat_lit 48), (nat_lit 52), (nat_lit 48), (nat_lit 53), (nat_lit 48), (nat_lit 54), (nat_lit 48), (nat_lit 55), (nat_lit 48), (nat_lit 56), (nat_lit 48), (nat_lit 57), (nat_lit 49), (nat_lit 48), (nat_lit 49), (nat_lit 49), (nat_lit 49), (nat_lit 50), (nat_lit 49), (nat_lit 51), (nat_lit 49), (nat_lit 52), (nat_lit 49), (nat_lit 53), (nat_lit 49), (nat_lit 54), (nat_lit 49), (nat_lit 55), (nat_lit 49), (nat_lit 56), (nat_lit 49), (nat_lit 57), (nat_lit 50), (nat_lit 48), (nat_lit 50), (nat_lit 49), (nat_lit 50), (nat_lit 50), (nat_lit 50), (nat_lit 51), (nat_lit 50), (nat_lit 52), (nat_lit 50), (nat_lit 53), (nat_lit 50), (nat_lit 54), (nat_lit 50), (nat_lit 55), (nat_lit 50), (nat_lit 56), (nat_lit 50), (nat_lit 57), (nat_lit 51), (nat_lit 48), (nat_lit 51), (nat_lit 49), (nat_lit 51), (nat_lit 50), (nat_lit 51), (nat_lit 51), (nat_lit 51), (nat_lit 52), (nat_lit 51), (nat_lit 53), (nat_lit 51), (nat_lit 54), (nat_lit 51), (nat_lit 55), (nat_lit 51), (nat_lit 56), (nat_lit 51), (nat_lit 57), (nat_lit 52), (nat_lit 48), (nat_lit 52), (nat_lit 49), (nat_lit 52), (nat_lit 50), (nat_lit 52), (nat_lit 51), (nat_lit 52), (nat_lit 52), (nat_lit 52), (nat_lit 53), (nat_lit 52), (nat_lit 54), (nat_lit 52), (nat_lit 55), (nat_lit 52), (nat_lit 56), (nat_lit 52), (nat_lit 57), (nat_lit 53), (nat_lit 48), (nat_lit 53), (nat_lit 49), (nat_lit 53), (nat_lit 50), (nat_lit 53), (nat_lit 51), (nat_lit 53), (nat_lit 52), (nat_lit 53), (nat_lit 53), (nat_lit 53), (nat_lit 54), (nat_lit 53), (nat_lit 55), (nat_lit 53), (nat_lit 56), (nat_lit 53), (nat_lit 57), (nat_lit 54), (nat_lit 48), (nat_lit 54), (nat_lit 49), (nat_lit 54), (nat_lit 50), (nat_lit 54), (nat_lit 51), (nat_lit 54), (nat_lit 52), (nat_lit 54), (nat_lit 53), (nat_lit 54), (nat_lit 54), (nat_lit 54), (nat_lit 55), (nat_lit 54), (nat_lit 56), (nat_lit 54), (nat_lit 57), (nat_lit 55), (nat_lit 48), (nat_lit 55), (nat_lit 49), (nat_lit 55), (nat_lit 50), (nat_lit 55), (nat_lit 51), (nat_lit 55), (nat_lit 52), (nat_lit 55), (nat_lit 53), (nat_lit 55), (nat_lit 54), (nat_lit 55), (nat_lit 55), (nat_lit 55), (nat_lit 56), (nat_lit 55), (nat_lit 57), (nat_lit 56), (nat_lit 48), (nat_lit 56), (nat_lit 49), (nat_lit 56), (nat_lit 50), (nat_lit 56), (nat_lit 51), (nat_lit 56), (nat_lit 52), (nat_lit 56), (nat_lit 53), (nat_lit 56), (nat_lit 54), (nat_lit 56), (nat_lit 55), (nat_lit 56), (nat_lit 56), (nat_lit 56), (nat_lit 57), (nat_lit 57), (nat_lit 48), (nat_lit 57), (nat_lit 49), (nat_lit 57), (nat_lit 50), (nat_lit 57), (nat_lit 51), (nat_lit 57), (nat_lit 52), (nat_lit 57), (nat_lit 53), (nat_lit 57), (nat_lit 54), (nat_lit 57), (nat_lit 55), (nat_lit 57), (nat_lit 56), (nat_lit 57), (nat_lit 57)])) T64),
    .op D66 (.ixaS (nat_lit 1) T55 T57),
    .op .no (.st (nat_lit 1) T66 T63),
    .op D67 (.ixaS (nat_lit 1) T58 T60),
    .op .no (.st (nat_lit 1) T67 T65)] [])
  (.seq (.drw [.op D68 (.mv T0),
    .op D69 (.mv T4),
    .op D70 (.bin .sub T69 (.c (.int .i64 (.ofNat (nat_lit 5))))),
    .op D71 (.mv T0),
    .op D72 (.mv T4),
    .op D73 (.bin .sub T72 (.c (.int .i64 (.ofNat (nat_lit 6))))),
    .op D74 (.mv T11),
    .op D75 (.bin .add T74 (.c (.int .u32 (.ofNat (nat_lit 1))))),
    .op D76 (.ixS (.c (.str [(nat_lit 48), (nat_lit 48), (nat_lit 48), (nat_lit 49), (nat_lit 48), (nat_lit 50), (nat_lit 48), (nat_lit 51), (nat_lit 48), (nat_lit 52), (nat_lit 48), (nat_lit 53), (nat_lit 48), (nat_lit 54), (nat_lit 48), (nat_lit 55), (nat_lit 48), (nat_lit 56), (nat_lit 48), (nat_lit 57), (nat_lit 49), (nat_lit 48), (nat_lit 49), (nat_lit 49), (nat_lit 49), (nat_lit 50), (nat_lit 49), (nat_lit 51), (nat_lit 49), (nat_lit 52), (nat_lit 49), (nat_lit 53), (nat_lit 49), (nat_lit 54), (nat_lit 49), (nat_lit 55), (nat_lit 49), (nat_lit 56), (nat_lit 49), (nat_lit 57), (nat_lit 50), (nat_lit 48), (nat_lit 50), (nat_lit 49), (nat_lit 50), (nat_lit 50), (nat_lit 50), (nat_lit 51), (nat_lit 50), (nat_lit 52), (nat_lit 50), (nat_lit 53), (nat_lit 50), (nat_lit 54), (nat_lit 50), (nat_lit 55), (nat_lit 50), (nat_lit 56), (nat_lit 50), (nat_lit 57), (nat_lit 51), (nat_lit 48), (nat_lit 51), (nat_lit 49), (nat_lit 51), (nat_lit 50), (nat_lit 51), (nat_lit 51), (nat_lit 51), (nat_lit 52), (nat_lit 51), (nat_lit 53), (nat_lit 51), (nat_lit 54), (nat_lit 51), (nat_lit 55), (nat_lit 51), (nat_lit 56), (nat_lit 51), (nat_lit 57), (nat_lit 52), (nat_lit 48), (nat_lit 52), (nat_lit 49), (nat_lit 52), (nat_lit 50), (nat_lit 52), (nat_lit 51), (nat_lit 52), (nat_lit 52), (nat_lit 52), (nat_lit 53), (nat_lit 52), (nat_lit 54), (nat_lit 52), (nat_lit 55), (nat_lit 52), (nat_lit 56), (nat_lit 52), (nat_lit 57), (nat_lit 53), (nat_lit 48), (nat_lit 53), (nat_lit 49), (nat_lit 53), (nat_lit 50), (nat_lit 53), (nat_lit 51), (nat_lit 53), (nat_lit 52), (nat_lit 53), (nat_lit 53), (nat_lit 53), (nat_lit 54), (nat_lit 53), (nat_lit 55), (nat_lit 53), (nat_lit 56), (nat_lit 53), (nat_lit 57), (nat_lit 54), (nat_lit 48), (nat_lit 54), (nat_lit 49), (nat_lit 54), (nat_lit 50), (nat_lit 54), (nat_lit 51), (nat_lit 54), (nat_lit 52), (nat_lit 54), (nat_lit 53), (nat_lit 54), (nat_lit 54), (nat_lit 54), (nat_lit 55), (nat_lit 54), (nat_lit 56), (nat_lit 54), (nat_lit 57), (nat_lit 55), (nat_lit 48), (nat_lit 55), (nat_lit 49), (nat_lit 55), (nat_lit 50), (nat_lit 55), (nat_lit 51), (nat_lit 55), (nat_lit 52), (nat_lit 55), (nat_lit 53), (nat_lit 55), (nat_lit 54), (nat_lit 55), (nat_lit 55), (nat_lit 55), (nat_lit 56), (nat_lit 55), (nat_lit 57), (nat_lit 56), (nat_lit 48), (nat_lit 56), (nat_lit 49), (nat_lit 56), (nat_lit 50), (nat_lit 56), (nat_lit 51), (nat_lit 56), (nat_lit 52), (nat_lit 56), (nat_lit 53), (nat_lit 56), (nat_lit 54), (nat_lit 56), (nat_lit 55), (nat_lit 56), (nat_lit 56), (nat_lit 56), (nat_lit 57), (nat_lit 57), (nat_lit 48), (nat_lit 57), (nat_lit 49), (nat_lit 57), (nat_lit 50), (nat_lit 57), (nat_lit 51), (nat_lit 57), (nat_lit 52), (nat_lit 57), (nat_lit 53), (nat_lit 57), (nat_lit 54), (nat_lit 57), (nat_lit 55), (nat_lit 57), (nat_lit 56), (nat_lit 57), (nat_lit 57)])) T75),
    .op D77 (.mv T11),
    .op D78 (.ixS (.c (.str [(nat_lit 48), (nat_lit 48), (nat_lit 48), (nat_lit 49), (nat_lit 48), (nat_lit 50), (nat_lit 48), (nat_lit 51), (nat_lit 48), (nat_lit 52), (nat_lit 48), (nat_lit 53), (nat_lit 48), (nat_lit 54), (nat_lit 48), (nat_lit 55), (nat_lit 48), (nat_lit 56), (nat_lit 48), (nat_lit 57), (nat_lit 49), (nat_lit 48), (nat_lit 49), (nat_lit 49), (nat_lit 49), (nat_lit 50), (nat_lit 49), (nat_lit 51), (nat_lit 49), (nat_lit 52), (nat_lit 49), (nat_lit 53), (nat_lit 49), (nat_lit 54), (nat_lit 49), (nat_lit 55), (nat_lit 49), (nat_lit 56), (nat_lit 49), (nat_lit 57), (nat_lit 50), (nat_lit 48), (nat_lit 50), (nat_lit 49), (nat_lit 50), (nat_lit 50), (nat_lit 50), (nat_lit 51), (nat_lit 50), (nat_lit 52), (nat_lit 50), (nat_lit 53), (nat_lit 50), (nat_lit 54), (nat_lit 50), (nat_lit 55), (nat_lit 50), (nat_lit 56), (nat_lit 50), (nat_lit 57), (nat_lit 51), (nat_lit 48), (nat_lit 51), (nat_lit 49), (nat_lit 51), (nat_lit 50), (nat_lit 51), (nat_lit 51), (nat_lit 51), (nat_lit 52), (nat_lit 51), (nat_lit 53), (nat_lit 51), (nat_lit 54), (nat_lit 51), (nat_lit 55), (nat_lit 51), (nat_lit 56), (nat_lit 51), (nat_lit 57), (nat_lit 52), (nat_lit 48), (nat_lit 52), (nat_lit 49), (nat_lit 52), (nat_lit 50), (nat_lit 52), (nat_lit 51), (nat_lit 52), (nat_lit 52), (nat_lit 52), (nat_lit 53), (nat_lit 52), (nat_lit 54), (nat_lit 52), (nat_lit 55), (nat_lit 52), (nat_lit 56), (nat_lit 52), (nat_lit 57), (nat_lit 53), (nat_lit 48), (nat_lit 53), (nat_lit 49), (nat_lit 53), (nat_lit 50), (nat_lit 53), (nat_lit 51), (nat_lit 53), (nat_lit 52), (nat_lit 53), (nat_lit 53), (nat_lit 53), (nat_lit 54), (nat_lit 53), (nat_lit 55), (nat_lit 53), (nat_lit 56), (nat_lit 53), (nat_lit 57), (nat_lit 54), (nat_lit 48), (nat_lit 54), (nat_lit 49), (nat_lit 54), (nat_lit 50), (nat_lit 54), (nat_lit 51), (nat_lit 54), (nat_lit 52), (nat_lit 54), (nat_lit 53), (nat_lit 54), (nat_lit 54), (nat_lit 54), (nat_lit 55), (nat_lit 54), (nat_lit 56), (nat_lit 54), (nat_lit 57), (nat_lit 55), (nat_lit 48), (nat_lit 55), (nat_lit 49), (nat_lit 55), (nat_lit 50), (nat_lit 55), (nat_lit 51), (nat_lit 55), (nat_lit 52), (nat_lit 55), (nat_lit 53), (nat_lit 55), (nat_lit 54), (nat_lit 55), (nat_lit 55), (nat_lit 55), (nat_lit 56), (nat_lit 55), (nat_lit 57), (nat_lit 56), (nat_lit 48), (nat_lit 56), (nat_lit 49), (nat_lit 56), (nat_lit 50), (nat_lit 56), (nat_lit 51), (nat_lit 56), (nat_lit 52), (nat_lit 56), (nat_lit 53), (nat_lit 56), (nat_lit 54), (nat_lit 56), (nat_lit 55), (nat_lit 56), (nat_lit 56), (nat_lit 56), (nat_lit 57), (nat_lit 57), (nat_lit 48), (nat_lit 57), (nat_lit 49), (nat_lit 57), (nat_lit 50), (nat_lit 57), (nat_lit 51), (nat_lit 57), (nat_lit 52), (nat_lit 57), (nat_lit 53), (nat_lit 57), (nat_lit 54), (nat_lit 57), (nat_lit 55), (nat_lit 57), (nat_lit 56), (nat_lit 57), (nat_lit 57)])) T77),
    .op D79 (.ixaS (nat_lit 1) T68 T70),
    .op .no (.st (nat_lit 1) T79 T76),
    .op D80 (.ixaS (nat_lit 1) T71 T73),
    .op .no (.st (nat_lit 1) T80 T78)] [])
  (.seq (.drw [.op D81 (.mv T0),
    .op D82 (.mv T4),
    .op D83 (.bin .sub T82 (.c (.int .i64 (.ofNat (nat_lit 7))))),
    .op D84 (.mv T0),
    .op D85 (.mv T4),
    .op D86 (.bin .sub T85 (.c (.int .i64 (.ofNat (nat_lit 8))))),
    .op D87 (.mv T10),
    .op D88 (.bin .add T87 (.c (.int .u32 (.ofNat (nat_lit 1))))),
    .op D89 (.ixS (.c (.str [(nat_lit 48), (nat_lit 48), (nat_lit 48), (nat_lit 49), (nat_lit 48), (nat_lit 50), (nat_lit 48), (nat_lit 51), (nat_lit 48), (nat_lit 52), (nat_lit 48), (nat_lit 53), (nat_lit 48), (nat_lit 54), (nat_lit 48), (nat_lit 55), (nat_lit 48), (nat_lit 56), (nat_lit 48), (nat_lit 57), (nat_lit 49), (nat_lit 48), (nat_lit 49), (nat_lit 49), (nat_lit 49), (nat_lit 50), (nat_lit 49), (nat_lit 51), (nat_lit 49), (nat_lit 52), (nat_lit 49), (nat_lit 53), (nat_lit 49), (nat_lit 54), (nat_lit 49), (nat_lit 55), (nat_lit 49), (nat_lit 56), (nat_lit 49), (nat_lit 57), (nat_lit 50), (nat_lit 48), (nat_lit 50), (nat_lit 49), (nat_lit 50), (nat_lit 50), (nat_lit 50), (nat_lit 51), (nat_lit 50), (nat_lit 52), (nat_lit 50), (nat_lit 53), (nat_lit 50), (nat_lit 54), (nat_lit 50), (nat_lit 55), (nat_lit 50), (nat_lit 56), (nat_lit 50), (nat_lit 57), (nat_lit 51), (nat_lit 48), (nat_lit 51), (nat_lit 49), (nat_lit 51), (nat_lit 50), (nat_lit 51), (nat_lit 51), (nat_lit 51), (nat_lit 52), (nat_lit 51), (nat_lit 53), (nat_lit 51), (nat_lit 54), (nat_lit 51), (nat_lit 55), (nat_lit 51), (nat_lit 56), (nat_lit 51), (nat_lit 57), (nat_lit 52), (nat_lit 48), (nat_lit 52), (nat_lit 49), (nat_lit 52), (nat_lit 50), (nat_lit 52), (nat_lit 51), (nat_lit 52), (nat_lit 52), (nat_lit 52), (nat_lit 53), (nat_lit 52), (nat_lit 54), (nat_lit 52), (nat_lit 55), (nat_lit 52), (nat_lit 56), (nat_lit 52), (nat_lit 57), (nat_lit 53), (nat_lit 48), (nat_lit 53), (nat_lit 49), (nat_lit 53), (nat_lit 50), (nat_lit 53), (nat_lit 51), (nat_lit 53), (nat_lit 52), (nat_lit 53), (nat_lit 53), (nat_lit 53), (nat_lit 54), (nat_lit 53), (nat_lit 55), (nat_lit 53), (nat_lit 56), (nat_lit 53), (nat_lit 57), (nat_lit 54), (nat_lit 48), (nat_lit 54), (nat_lit 49), (nat_lit 54), (nat_lit 50), (nat_lit 54), (nat_lit 51), (nat_lit 54), (nat_lit 52), (nat_lit 54), (nat_lit 53), (nat_lit 54), (nat_lit 54), (nat_lit 54), (nat_lit 55), (nat_lit 54), (nat_lit 56), (nat_lit 54), (nat_lit 57), (nat_lit 55), (nat_lit 48), (nat_lit 55), (nat_lit 49), (nat_lit 55), (nat_lit 50), (nat_lit 55), (nat_lit 51), (nat_lit 55), (nat_lit 52), (nat_lit 55), (nat_lit 53), (nat_lit 55), (nat_lit 54), (nat_lit 55), (nat_lit 55), (nat_lit 55), (nat_lit 56), (nat_lit 55), (nat_lit 57), (nat_lit 56), (nat_lit 48), (nat_lit 56), (nat_lit 49), (nat_lit 56), (nat_lit 50), (nat_lit 56), (nat_lit 51), (nat_lit 56), (nat_lit 52), (nat_lit 56), (nat_lit 53), (nat_lit 56), (nat_lit 54), (nat_lit 56), (nat_lit 55), (nat_lit 56), (nat_lit 56), (nat_lit 56), (nat_lit 57), (nat_lit 57), (nat_lit 48), (nat_lit 57), (nat_lit 49), (nat_lit 57), (nat_lit 50), (nat_lit 57), (nat_lit 51), (nat_lit 57), (nat_lit 52), (nat_lit 57), (nat_lit 53), (nat_lit 57), (nat_lit 54), (nat_lit 57), (nat_lit 55), (nat_lit 57), (nat_lit 56), (nat_lit 57), (nat_lit 57)])) T88),
    .op D90 (.mv T10),
    .op D91 (.ixS (.c (.str [(nat_lit 48), (nat_lit 48), (nat_lit 48), (nat_lit 49), (nat_lit 48), (nat_lit 50), (nat_lit 48), (nat_lit 51), (nat_lit 48), (nat_lit 52), (nat_lit 48), (nat_lit 53), (nat_lit 48), (nat_lit 54), (nat_lit 48), (nat_lit 55), (nat_lit 48), (nat_lit 56), (nat_lit 48), (nat_lit 57), (nat_lit 49), (nat_lit 48), (nat_lit 49), (nat_lit 49), (nat_lit 49), (nat_lit 50), (nat_lit 49), (nat_lit 51), (nat_lit 49), (nat_lit 52), (nat_lit 49), (nat_lit 53), (nat_lit 49), (nat_lit 54), (nat_lit 49), (nat_lit 55), (nat_lit 49), (nat_lit 56), (nat_lit 49), (nat_lit 57), (nat_lit 50), (nat_lit 48), (nat_lit 50), (nat_lit 49), (nat_lit 50), (nat_lit 50), (nat_lit 50), (nat_lit 51), (nat_lit 50), (nat_lit 52), (nat_lit 50), (nat_lit 53), (nat_lit 50), (nat_lit 54), (nat_lit 50), (nat_lit 55), (nat_lit 50), (nat_lit 56), (nat_lit 50), (nat_lit 57), (nat_lit 51), (nat_lit 48), (nat_lit 51), (nat_lit 49), (nat_lit 51), (nat_lit 50), (nat_lit 51), (nat_lit 51), (nat_lit 51), (nat_lit 52), (nat_lit 51), (nat_lit 53), (nat_lit 51), (nat_lit 54), (nat_lit 51), (nat_lit 55), (nat_lit 51), (nat_lit 56), (nat_lit 51), (nat_lit 57), (nat_lit 52), (nat_lit 48), (nat_lit 52), (nat_lit 49), (nat_lit 52), (nat_lit 50), (nat_lit 52), (nat_lit 51), (nat_lit 52), (nat_lit 52), (nat_lit 52), (nat_lit 53), (nat_lit 52), (nat_lit 54), (nat_lit 52), (nat_lit 55), (nat_lit 52), (nat_lit 56), (nat_lit 52), (nat_lit 57), (nat_lit 53), (nat_lit 48), (nat_lit 53), (nat_lit 49), (nat_lit 53), (nat_lit 50), (nat_lit 53), (nat_lit 51), (nat_lit 53), (nat_lit 52), (nat_lit 53), (nat_lit 53), (nat_lit 53), (nat_lit 54), (nat_lit 53), (nat_lit 55), (nat_lit 53), (nat_lit 56), (nat_lit 53), (nat_lit 57), (nat_lit 54), (nat_lit 48), (nat_lit 54), (nat_lit 49), (nat_lit 54), (nat_lit 50), (nat_lit 54), (nat_lit 51), (nat_lit 54), (nat_lit 52), (nat_lit 54), (nat_lit 53), (nat_lit 54), (nat_lit 54), (nat_lit 54), (nat_lit 55), (nat_lit 54), (nat_lit 56), (nat_lit 54), (nat_lit 57), (nat_lit 55), (nat_lit 48), (nat_lit 55), (nat_lit 49), (nat_lit 55), (nat_lit 50), (nat_lit 55), (nat_lit 51), (nat_lit 55), (nat_lit 52), (nat_lit 55), (nat_lit 53), (nat_lit 55), (nat_lit 54), (nat_lit 55), (nat_lit 55), (nat_lit 55), (nat_lit 56), (nat_lit 55), (nat_lit 57), (nat_lit 56), (nat_lit 48), (nat_lit 56), (nat_lit 49), (nat_lit 56), (nat_lit 50), (nat_lit 56), (nat_lit 51), (nat_lit 56), (nat_lit 52), (nat_lit 56), (nat_lit 53), (nat_lit 56), (nat_lit 54), (nat_lit 56), (nat_lit 55), (nat_lit 56), (nat_lit 56), (nat_lit 56), (nat_lit 57), (nat_lit 57), (nat_lit 48), (nat_lit 57), (nat_lit 49), (nat_lit 57), (nat_lit 50), (nat_lit 57), (nat_lit 51), (nat_lit 57), (nat_lit 52), (nat_lit 57), (nat_lit 53), (nat_lit 57), (nat_lit 54), (nat_lit 57), (nat_lit 55), (nat_lit 57), (nat_lit 56), (nat_lit 57), (nat_lit 57)])) T90),
    .op D92 (.ixaS (nat_lit 1) T81 T83),
    .op .no (.st (nat_lit 1) T92 T89),
    .op D93 (.ixaS (nat_lit 1) T84 T86),
    .op .no (.st (nat_lit 1) T93 T91)] [])
  (.reg [.op D94 (.mv T4),
    .op D95 (.bin .sub T94 (.c (.int .i64 (.ofNat (nat_lit 8))))),
    .op D4 (.mv T95)]))))))))))))))
  (.seq (.reg [.op D96 (.mv T1),
    .op D97 (.cvi .u32 T96),
    .op D12 (.mv T97)])
  (.seq (.seq (.reg [.op D98 (.mv T4),
    .op D99 (.bin .geq T98 (.c (.int .i64 (.ofNat (nat_lit 4)))))])
  (.cond T99 (.seq (.reg [.op D100 (.mv T12),
    .op D101 (.bin .rem T100 (.c (.int .u32 (.ofNat (nat_lit 10000))))),
    .op D13 (.mv T101)])
  (.seq (.reg [.op D102 (.mv T12),
    .op D103 (.bin .quo T102 (.c (.int .u32 (.ofNat (nat_lit 10000))))),
    .op D12 (.mv T103)])
  (.seq (.reg [.op D104 (.mv T13),
    .op D105 (.bin .quo T104 (.c (.int .u32 (.ofNat (nat_lit 100))))),
    .op D106 (.bin .mul T105 (.c (.int .u32 (.ofNat (nat_lit 2))))),
    .op D107 (.mv T13),
    .op D108 (.bin .rem T107 (.c (.int .u32 (.ofNat (nat_lit 100))))),
    .op D109 (.bin .mul T108 (.c (.int .u32 (.ofNat (nat_lit 2))))),
    .op D14 (.mv T106),
    .op D15 (.mv T109)])
  (.seq (.drw [.op D110 (.mv T0),
    .op D111 (.mv T4),
    .op D112 (.bin .sub T111 (.c (.int .i64 (.ofNat (nat_lit 1))))),
    .op D113 (.mv T0),
    .op D114 (.mv T4),
    .op D115 (.bin .sub T114 (.c (.int .i64 (.ofNat (nat_lit 2))))),
    .op D116 (.mv T15),
    .op D117 (.bin .add T116 (.c (.int .u32 (.ofNat (nat_lit 1))))),
    .op D118 (.ixS (.c (.str [(nat_lit 48), (nat_lit 48), (nat_lit 48), (nat_lit 49), (nat_lit 48), (nat_lit 50), (nat_lit 48), (nat_lit 51), (nat_lit 48), (nat_lit 52), (nat_lit 48), (nat_lit 53), (nat_lit 48), (nat_lit 54), (nat_lit 48), (nat_lit 55), (nat_lit 48), (nat_lit 56), (nat_lit 48), (nat_lit 57), (nat_lit 49), (nat_lit 48), (nat_lit 49), (nat_lit 49), (nat_lit 49), (nat_lit 50), (nat_lit 49), (nat_lit 51), (nat_lit 49), (nat_lit 52), (nat_lit 49), (nat_lit 53), (nat_lit 49), (nat_lit 54), (nat_lit 49), (nat_lit 55), (nat_lit 49), (nat_lit 56), (nat_lit 49), (nat_lit 57), (nat_lit 50), (nat_lit 48), (nat_lit 50), (nat_lit 49), (nat_lit 50), (nat_lit 50), (nat_lit 50), (nat_lit 51), (nat_lit 50), (nat_lit 52), (nat_lit 50), (nat_lit 53), (nat_lit 50), (nat_lit 54), (nat_lit 50), (nat_lit 55), (nat_lit 50), (nat_lit 56), (nat_lit 50), (nat_lit 57), (nat_lit 51), (nat_lit 48), (nat_lit 51), (nat_lit 49), (nat_lit 51), (nat_lit 50), (nat_lit 51), (nat_lit 51), (nat_lit 51), (nat_lit 52), (nat_lit 51), (nat_lit 53), (nat_lit 51), (nat_lit 54), (nat_lit 51), (nat_lit 55), (nat_lit 51), (nat_lit 56), (nat_lit 51), (nat_lit 57), (nat_lit 52), (nat_lit 48), (nat_lit 52), (nat_lit 49), (nat_lit 52), (nat_lit 50), (nat_lit 52), (nat_lit 51), (nat_lit 52), (nat_lit 52), (nat_lit 52), (nat_lit 53), (nat_lit 52), (nat_lit 54), (nat_lit 52), (nat_lit 55), (nat_lit 52), (nat_lit 56), (nat_lit 52), (nat_lit 57), (nat_lit 53), (nat_lit 48), (nat_lit 53), (nat_lit 49), (nat_lit 53), (nat_lit 50), (nat_lit 53), (nat_lit 51), (nat_lit 53), (nat_lit 52), (nat_lit 53), (nat_lit 53), (nat_lit 53), (nat_lit 54), (nat_lit 53), (nat_lit 55), (nat_lit 53), (nat_lit 56), (nat_lit 53), (nat_lit 57), (nat_lit 54), (nat_lit 48), (nat_lit 54), (nat_lit 49), (nat_lit 54), (nat_lit 50), (nat_lit 54), (nat_lit 51), (nat_lit 54), (nat_lit 52), (nat_lit 54), (nat_lit 53), (nat_lit 54), (nat_lit 54), (nat_lit 54), (nat_lit 55), (nat_lit 54), (nat_lit 56), (nat_lit 54), (nat_lit 57), (nat_lit 55), (nat_lit 48), (nat_lit 55), (nat_lit 49), (nat_lit 55), (nat_lit 50), (nat_lit 55), (nat_lit 51), (nat_lit 55), (nat_lit 52), (nat_lit 55), (nat_lit 53), (nat_lit 55), (nat_lit 54), (nat_lit 55), (nat_lit 55), (nat_lit 55), (nat_lit 56), (nat_lit 55), (nat_lit 57), (nat_lit 56), (nat_lit 48), (nat_lit 56), (nat_lit 49), (nat_lit 56), (nat_lit 50), (nat_lit 56), (nat_lit 51), (nat_lit 56), (nat_lit 52), (nat_lit 56), (nat_lit 53), (nat_lit 56), (nat_lit 54), (nat_lit 56), (nat_lit 55), (nat_lit 56), (nat_lit 56), (nat_lit 56), (nat_lit 57), (nat_lit 57), (nat_lit 48), (nat_lit 57), (nat_lit 49), (nat_lit 57), (nat_lit 50), (nat_lit 57), (nat_lit 51), (nat_lit 57), (nat_lit 52), (nat_lit 57), (nat_lit 53), (nat_lit 57), (nat_lit 54), (nat_lit 57), (nat_lit 55), (nat_lit 57), (nat_lit 56), (nat_lit 57), (nat_lit 57)])) T117),
    .op D119 (.mv T15),
    .op D120 (.ixS (.c (.str [(nat_lit 48), (nat_lit 48), (nat_lit 48), (nat_lit 49), (nat_lit 48), (nat_lit 50), (nat_lit 48), (nat_lit 51), (nat_lit 48), (nat_lit 52), (nat_lit 48), (nat_lit 53), (nat_lit 48), (nat_lit 54), (nat_lit 48), (nat_lit 55), (nat_lit 48), (nat_lit 56), (nat_lit 48), (nat_lit 57), (nat_lit 49), (nat_lit 48), (nat_lit 49), (nat_lit 49), (nat_lit 49), (nat_lit 50), (nat_lit 49), (nat_lit 51), (nat_lit 49), (nat_lit 52), (nat_lit 49), (nat_lit 53), (nat_lit 49), (nat_lit 54), (nat_lit 49), (nat_lit 55), (nat_lit 49), (nat_lit 56), (nat_lit 49), (nat_lit 57), (nat_lit 50), (nat_lit 48), (nat_lit 50), (nat_lit 49), (nat_lit 50), (nat_lit 50), (nat_lit 50), (nat_lit 51), (nat_lit 50), (nat_lit 52), (nat_lit 50), (nat_lit 53), (nat_lit 50), (nat_lit 54), (nat_lit 50), (nat_lit 55), (nat_lit 50), (nat_lit 56), (nat_lit 50), (nat_lit 57), (nat_lit 51), (nat_lit 48), (nat_lit 51), (nat_lit 49), (nat_lit 51), (nat_lit 50), (nat_lit 51), (nat_lit 51), (nat_lit 51), (nat_lit 52), (nat_lit 51), (nat_lit 53), (nat_lit 51), (nat_lit 54), (nat_lit 51), (nat_lit 55), (nat_lit 51), (nat_lit 56), (nat_lit 51), (nat_lit 57), (nat_lit 52), (nat_lit 48), (nat_lit 52), (nat_lit 49), (nat_lit 52), (nat_lit 50), (nat_lit 52), (nat_lit 51), (nat_lit 52), (nat_lit 52), (nat_lit 52), (nat_lit 53), (nat_lit 52), (nat_lit 54), (nat_lit 52), (nat_lit 55), (nat_lit 52), (nat_lit 56), (nat_lit 52), (nat_lit 57), (nat_lit 53), (nat_lit 48), (nat_lit 53), (nat_lit 49), (nat_lit 53), (nat_lit 50), (nat_lit 53), (nat_lit 51), (nat_lit 53), (nat_lit 52), (nat_lit 53), (nat_lit 53), (nat_lit 53), (nat_lit 54), (nat_lit 53), (nat_lit 55), (nat_lit 53), (nat_lit 56), (nat_lit 53), (nat_lit 57), (nat_lit 54), (nat_lit 48), (nat_lit 54), (nat_lit 49), (nat_lit 54), (nat_lit 50), (nat_lit 54), (nat_lit 51), (nat_lit 54), (nat_lit 52), (nat_lit 54), (nat_lit 53), (nat_lit 54), (nat_lit 54), (nat_lit 54), (nat_lit 55), (nat_lit 54), (nat_lit 56), (nat_lit 54), (nat_lit 57), (nat_lit 55), (nat_lit 48), (nat_lit 55), (nat_lit 49), (nat_lit 55), (nat_lit 50), (nat_lit 55), (nat_lit 51), (nat_lit 55), (nat_lit 52), (nat_lit 55), (nat_lit 53), (nat_lit 55), (nat_lit 54), (nat_lit 55), (nat_lit 55), (nat_lit 55), (nat_lit 56), (nat_lit 55), (nat_lit 57), (nat_lit 56), (nat_lit 48), (nat_lit 56), (nat_lit 49), (nat_lit 56), (nat_lit 50), (nat_lit 56), (nat_lit 51), (nat_lit 56), (nat_lit 52), (nat_lit 56), (nat_lit 53), (nat_lit 56), (nat_lit 54), (nat_lit 56), (nat_lit 55), (nat_lit 56), (nat_lit 56), (nat_lit 56), (nat_lit 57), (nat_lit 57), (nat_lit 48), (nat_lit 57), (nat_lit 49), (nat_lit 57), (nat_lit 50), (nat_lit 57), (nat_lit 51), (nat_lit 57), (nat_lit 52), (nat_lit 57), (nat_lit 53), (nat_lit 57), (nat_lit 54), (nat_lit 57), (nat_lit 55), (nat_lit 57), (nat_lit 56), (nat_lit 57), (nat_lit 57)])) T119),
    .op D121 (.ixaS (nat_lit 1) T110 T112),
    .op .no (.st (nat_lit 1) T121 T118),
    .op D122 (.ixaS (nat_lit 1) T113 T115),
    .op .no (.st (nat_lit 1) T122 T120)] [])
  (.seq (.drw [.op D123 (.mv T0),
    .op D124 (.mv T4),
    .op D125 (.bin .sub T124 (.c (.int .i64 (.ofNat (nat_lit 3))))),
    .op D126 (.mv T0),
    .op D127 (.mv T4),
    .op D128 (.bin .sub T127 (.c (.int .i64 (.ofNat (nat_lit 4))))),
    .op D129 (.mv T14),
    .op D130 (.bin .add T129 (.c (.int .u32 (.ofNat (nat_lit 1))))),
    .op D131 (.ixS (.c (.str [(nat_lit 48), (nat_lit 48), (nat_lit 48), (nat_lit 49), (nat_lit 48), (nat_lit 50), (nat_lit 48), (nat_lit 51), (nat_lit 48), (nat_lit 52), (nat_lit 48), (nat_lit 53), (nat_lit 48), (nat_lit 54), (nat_lit 48), (nat_lit 55), (nat_lit 48), (nat_lit 56), (nat_lit 48), (nat_lit 57), (nat_lit 49), (nat_lit 48), (nat_lit 49), (nat_lit 49), (nat_lit 49), (nat_lit 50), (nat_lit 49), (nat_lit 51), (nat_lit 49), (nat_lit 52), (nat_lit 49), (nat_lit 53), (nat_lit 49), (nat_lit 54), (nat_lit 49), (nat_lit 55), (nat_lit 49), (nat_lit 56), (nat_lit 49), (nat_lit 57), (nat_lit 50), (nat_lit 48), (nat_lit 50), (nat_lit 49), (nat_lit 50), (nat_lit 50), (nat_lit 50), (nat_lit 51), (nat_lit 50), (nat_lit 52), (nat_lit 50), (nat_lit 53), (nat_lit 50), (nat_lit 54), (nat_lit 50), (nat_lit 55), (nat_lit 50), (nat_lit 56), (nat_lit 50), (nat_lit 57), (nat_lit 51), (nat_lit 48), (nat_lit 51), (nat_lit 49), (nat_lit 51), (nat_lit 50), (nat_lit 51), (nat_lit 51), (nat_lit 51), (nat_lit 52), (nat_lit 51), (nat_lit 53), (nat_lit 51), (nat_lit 54), (nat_lit 51), (nat_lit 55), (nat_lit 51), (nat_lit 56), (nat_lit 51), (nat_lit 57), (nat_lit 52), (nat_lit 48), (nat_lit 52), (nat_lit 49), (nat_lit 52), (nat_lit 50), (nat_lit 52), (nat_lit 51), (nat_lit 52), (nat_lit 52), (nat_lit 52), (nat_lit 53), (nat_lit 52), (nat_lit 54), (nat_lit 52), (nat_lit 55), (nat_lit 52), (nat_lit 56), (nat_lit 52), (nat_lit 57), (nat_lit 53), (nat_lit 48), (nat_lit 53), (nat_lit 49), (nat_lit 53), (nat_lit 50), (nat_lit 53), (nat_lit 51), (nat_lit 53), (nat_lit 52), (nat_lit 53), (nat_lit 53), (nat_lit 53), (nat_lit 54), (nat_lit 53), (nat_lit 55), (nat_lit 53), (nat_lit 56), (nat_lit 53), (nat_lit 57), (nat_lit 54), (nat_lit 48), (nat_lit 54), (nat_lit 49), (nat_lit 54), (nat_lit 50), (nat_lit 54), (nat_lit 51), (nat_lit 54), (nat_lit 52), (nat_lit 54), (nat_lit 53), (nat_lit 54), (nat_lit 54), (nat_lit 54), (nat_lit 55), (nat_lit 54), (nat_lit 56), (nat_lit 54), (nat_lit 57), (nat_lit 55), (nat_lit 48), (nat_lit 55), (nat_lit 49), (nat_lit 55), (nat_lit 50), (nat_lit 55), (nat_lit 51), (nat_lit 55), (nat_lit 52), (nat_lit 55), (nat_lit 53), (nat_lit 55), (nat_lit 54), (nat_lit 55), (nat_lit 55), (nat_lit 55), (nat_lit 56), (nat_lit 55), (nat_lit 57), (nat_lit 56), (nat_lit 48), (nat_lit 56), (nat_lit 49), (nat_lit 56), (nat_lit 50), (nat_lit 56), (nat_lit 51), (nat_lit 56), (nat_lit 52), (nat_lit 56), (nat_lit 53), (nat_lit 56), (nat_lit 54), (nat_lit 56), (nat_lit 55), (nat_lit 56), (nat_lit 56), (nat_lit 56), (nat_lit 57), (nat_lit 57), (nat_lit 48), (nat_lit 57), (nat_lit 49), (nat_lit 57), (nat_lit 50), (nat_lit 57), (nat_lit 51), (nat_lit 57), (nat_lit 52), (nat_lit 57), (nat_lit 53), (nat_lit 57), (nat_lit 54), (nat_lit 57), (nat_lit 55), (nat_lit 57), (nat_lit 56), (nat_lit 57), (nat_lit 57)])) T130),
    .op D132 (.mv T14),
    .op D133 (.ixS (.c (.str [(nat_lit 48), (nat_lit 48), (nat_lit 48), (nat_lit 49), (nat_lit 48), (nat_lit 50), (nat_lit 48), (nat_lit 51), (nat_lit 48), (nat_lit 52), (nat_lit 48), (nat_lit 53), (nat_lit 48), (nat_lit 54), (nat_lit 48), (nat_lit 55), (nat_lit 48), (nat_lit 56), (nat_lit 48), (nat_lit 57), (nat_lit 49), (nat_lit 48), (nat_lit 49), (nat_lit 49), (nat_lit 49), (nat_lit 50), (nat_lit 49), (nat_lit 51), (nat_lit 49), (nat_lit 52), (nat_lit 49), (nat_lit 53), (nat_lit 49), (nat_lit 54), (nat_lit 49), (nat_lit 55), (nat_lit 49), (nat_lit 56), (nat_lit 49), (nat_lit 57), (nat_lit 50), (nat_lit 48), (nat_lit 50), (nat_lit 49), (nat_lit 50), (nat_lit 50), (nat_lit 50), (nat_lit 51), (nat_lit 50), (nat_lit 52), (nat_lit 50), (nat_lit 53), (nat_lit 50), (nat_lit 54), (nat_lit 50), (nat_lit 55), (nat_lit 50), (nat_lit 56), (nat_lit 50), (nat_lit 57), (nat_lit 51), (nat_lit 48), (nat_lit 51), (nat_lit 49), (nat_lit 51), (nat_lit 50), (nat_lit 51), (nat_lit 51), (nat_lit 51), (nat_lit 52), (nat_lit 51), (nat_lit 53), (nat_lit 51), (nat_lit 54), (nat_lit 51), (nat_lit 55), (nat_lit 51), (nat_lit 56), (nat_lit 51), (nat_lit 57), (nat_lit 52), (nat_lit 48), (nat_lit 52), (nat_lit 49), (nat_lit 52), (nat_lit 50), (nat_lit 52), (nat_lit 51), (nat_lit 52), (nat_lit 52), (nat_lit 52), (nat_lit 53), (nat_lit 52), (nat_lit 54), (nat_lit 52), (nat_lit 55), (nat_lit 52), (nat_lit 56), (nat_lit 52), (nat_lit 57), (nat_lit 53), (nat_lit 48), (nat_lit 53), (nat_lit 49), (nat_lit 53), (nat_lit 50), (nat_lit 53), (nat_lit 51), (nat_lit 53), (nat_lit 52), (nat_lit 53), (nat_lit 53), (nat_lit 53), (nat_lit 54), (nat_lit 53), (nat_lit 55), (nat_lit 53), (nat_lit 56), (nat_lit 53), (nat_lit 57), (nat_lit 54), (nat_lit 48), (nat_lit 54), (nat_lit 49), (nat_lit 54), (nat_lit 50), (nat_lit 54), (nat_lit 51), (nat_lit 54), (nat_lit 52), (nat_lit 54), (nat_lit 53), (nat_lit 54), (nat_lit 54), (nat_lit 54), (nat_lit 55), (nat_lit 54), (nat_lit 56), (nat_lit 54), (nat_lit 57), (nat_lit 55), (nat_lit 48), (nat_lit 55), (nat_lit 49), (nat_lit 55), (nat_lit 50), (nat_lit 55), (nat_lit 51), (nat_lit 55), (nat_lit 52), (nat_lit 55), (nat_lit 53), (nat_lit 55), (nat_lit 54), (nat_lit 55), (nat_lit 55), (nat_lit 55), (nat_lit 56), (nat_lit 55), (nat_lit 57), (nat_lit 56), (nat_lit 48), (nat_lit 56), (nat_lit 49), (nat_lit 56), (nat_lit 50), (nat_lit 56), (nat_lit 51), (nat_lit 56), (nat_lit 52), (nat_lit 56), (nat_lit 53), (nat_lit 56), (nat_lit 54), (nat_lit 56), (nat_lit 55), (nat_lit 56), (nat_lit 56), (nat_lit 56), (nat_lit 57), (nat_lit 57), (nat_lit 48), (nat_lit 57), (nat_lit 49), (nat_lit 57), (nat_lit 50), (nat_lit 57), (nat_lit 51), (nat_lit 57), (nat_lit 52), (nat_lit 57), (nat_lit 53), (nat_lit 57), (nat_lit 54), (nat_lit 57), (nat_lit 55), (nat_lit 57), (nat_lit 56), (nat_lit 57), (nat_lit 57)])) T132),
    .op D134 (.ixaS (nat_lit 1) T123 T125),
    .op .no (.st (nat_lit 1) T134 T131),
    .op D135 (.ixaS (nat_lit 1) T126 T128),
    .op .no (.st (nat_lit 1) T135 T133)] [])
  (.reg [.op D136 (.mv T4),
    .op D137 (.bin .sub T136 (.c (.int .i64 (.ofNat (nat_lit 4))))),
    .op D4 (.mv T137)]))))))
  (.skip)))
  (.seq (.seq (.reg [.op D138 (.mv T4),
    .op D139 (.bin .geq T138 (.c (.int .i64 (.ofNat (nat_lit 2)))))])
  (.cond T139 (.seq (.reg [.op D140 (.mv T12),
    .op D141 (.bin .rem T140 (.c (.int .u32 (.ofNat (nat_lit 100))))),
    .op D142 (.bin .mul T141 (.c (.int .u32 (.ofNat (nat_lit 2))))),
    .op D16 (.mv T142)])
  (.seq (.reg [.op D143 (.mv T12),
    .op D144 (.bin .quo T143 (.c (.int .u32 (.ofNat (nat_lit 100))))),
    .op D12 (.mv T144)])
  (.seq (.drw [.op D145 (.mv T0),
    .op D146 (.mv T4),
    .op D147 (.bin .sub T146 (.c (.int .i64 (.ofNat (nat_lit 1))))),
    .op D148 (.mv T0),
    .op D149 (.mv T4),
    .op D150 (.bin .sub T149 (.c (.int .i64 (.ofNat (nat_lit 2))))),
    .op D151 (.mv T16),
    .op D152 (.bin .add T151 (.c (.int .u32 (.ofNat (nat_lit 1))))),
    .op D153 (.ixS (.c (.str [(nat_lit 48), (nat_lit 48), (nat_lit 48), (nat_lit 49), (nat_lit 48), (nat_lit 50), (nat_lit 48), (nat_lit 51), (nat_lit 48), (nat_lit 52), (nat_lit 48), (nat_lit 53), (nat_lit 48), (nat_lit 54), (nat_lit 48), (nat_lit 55), (nat_lit 48), (nat_lit 56), (nat_lit 48), (nat_lit 57), (nat_lit 49), (nat_lit 48), (nat_lit 49), (nat_lit 49), (nat_lit 49), (nat_lit 50), (nat_lit 49), (nat_lit 51), (nat_lit 49), (nat_lit 52), (nat_lit 49), (nat_lit 53), (nat_lit 49), (nat_lit 54), (nat_lit 49), (nat_lit 55), (nat_lit 49), (nat_lit 56), (nat_lit 49), (nat_lit 57), (nat_lit 50), (nat_lit 48), (nat_lit 50), (nat_lit 49), (nat_lit 50), (nat_lit 50), (nat_lit 50), (nat_lit 51), (nat_lit 50), (nat_lit 52), (nat_lit 50), (nat_lit 53), (nat_lit 50), (nat_lit 54), (nat_lit 50), (nat_lit 55), (nat_lit 50), (nat_lit 56), (nat_lit 50), (nat_lit 57), (nat_lit 51), (nat_lit 48), (nat_lit 51), (nat_lit 49), (nat_lit 51), (nat_lit 50), (nat_lit 51), (nat_lit 51), (nat_lit 51), (nat_lit 52), (nat_lit 51), (nat_lit 53), (nat_lit 51), (nat_lit 54), (nat_lit 51), (nat_lit 55), (nat_lit 51), (nat_lit 56), (nat_lit 51), (nat_lit 57), (nat_lit 52), (nat_lit 48), (nat_lit 52), (nat_lit 49), (nat_lit 52), (nat_lit 50), (nat_lit 52), (nat_lit 51), (nat_lit 52), (nat_lit 52), (nat_lit 52), (nat_lit 53), (nat_lit 52), (nat_lit 54), (nat_lit 52), (nat_lit 55), (nat_lit 52), (nat_lit 56), (nat_lit 52), (nat_lit 57), (nat_lit 53), (nat_lit 48), (nat_lit 53), (nat_lit 49), (nat_lit 53), (nat_lit 50), (nat_lit 53), (nat_lit 51), (nat_lit 53), (nat_lit 52), (nat_lit 53), (nat_lit 53), (nat_lit 53), (nat_lit 54), (nat_lit 53), (nat_lit 55), (nat_lit 53), (nat_lit 56), (nat_lit 53), (nat_lit 57), (nat_lit 54), (nat_lit 48), (nat_lit 54), (nat_lit 49), (nat_lit 54), (nat_lit 50), (nat_lit 54), (nat_lit 51), (nat_lit 54), (nat_lit 52), (nat_lit 54), (nat_lit 53), (nat_lit 54), (nat_lit 54), (nat_lit 54), (nat_lit 55), (nat_lit 54), (nat_lit 56), (nat_lit 54), (nat_lit 57), (nat_lit 55), (nat_lit 48), (nat_lit 55), (nat_lit 49), (nat_lit 55), (nat_lit 50), (nat_lit 55), (nat_lit 51), (nat_lit 55), (nat_lit 52), (nat_lit 55), (nat_lit 53), (nat_lit 55), (nat_lit 54), (nat_lit 55), (nat_lit 55), (nat_lit 55), (nat_lit 56), (nat_lit 55), (nat_lit 57), (nat_lit 56), (nat_lit 48), (nat_lit 56), (nat_lit 49), (nat_lit 56), (nat_lit 50), (nat_lit 56), (nat_lit 51), (nat_lit 56), (nat_lit 52), (nat_lit 56), (nat_lit 53), (nat_lit 56), (nat_lit 54), (nat_lit 56), (nat_lit 55), (nat_lit 56), (nat_lit 56), (nat_lit 56), (nat_lit 57), (nat_lit 57), (nat_lit 48), (nat_lit 57), (nat_lit 49), (nat_lit 57), (nat_lit 50), (nat_lit 57), (nat_lit 51), (nat_lit 57), (nat_lit 52), (nat_lit 57), (nat_lit 53), (nat_lit 57), (nat_lit 54), (nat_lit 57), (nat_lit 55), (nat_lit 57), (nat_lit 56), (nat_lit 57), (nat_lit 57)])) T152),
    .op D154 (.mv T16),
    .op D155 (.ixS (.c (.str [(nat_lit 48), (nat_lit 48), (nat_lit 48), (nat_lit 49), (nat_lit 48), (nat_lit 50), (nat_lit 48), (nat_lit 51), (nat_lit 48), (nat_lit 52), (nat_lit 48), (nat_lit 53), (nat_lit 48), (nat_lit 54), (nat_lit 48), (nat_lit 55), (nat_lit 48), (nat_lit 56), (nat_lit 48), (nat_lit 57), (nat_lit 49), (nat_lit 48), (nat_lit 49), (nat_lit 49), (nat_lit 49), (nat_lit 50), (nat_lit 49), (nat_lit 51), (nat_lit 49), (nat_lit 52), (nat_lit 49), (nat_lit 53), (nat_lit 49), (nat_lit 54), (nat_lit 49), (nat_lit 55), (nat_lit 49), (nat_lit 56), (nat_lit 49), (nat_lit 57), (nat_lit 50), (nat_lit 48), (nat_lit 50), (nat_lit 49), (nat_lit 50), (nat_lit 50), (nat_lit 50), (nat_lit 51), (nat_lit 50), (nat_lit 52), (nat_lit 50), (nat_lit 53), (nat_lit 50), (nat_lit 54), (nat_lit 50), (nat_lit 55), (nat_lit 50), (nat_lit 56), (nat_lit 50), (nat_lit 57), (nat_lit 51), (nat_lit 48), (nat_lit 51), (nat_lit 49), (nat_lit 51), (nat_lit 50), (nat_lit 51), (nat_lit 51), (nat_lit 51), (nat_lit 52), (nat_lit 51), (nat_lit 53), (nat_lit 51), (nat_lit 54), (nat_lit 51), (nat_lit 55), (nat_lit 51), (nat_lit 56), (nat_lit 51), (nat_lit 57), (nat_lit 52), (nat_lit 48), (nat_lit 52), (nat_lit 49), (nat_lit 52), (nat_lit 50), (nat_lit 52), (nat_lit 51), (nat_lit 52), (nat_lit 52), (nat_lit 52), (nat_lit 53), (nat_lit 52), (nat_lit 54), (nat_lit 52), (nat_lit 55), (nat_lit 52), (nat_lit 56), (nat_lit 52), (nat_lit 57), (nat_lit 53), (nat_lit 48), (nat_lit 53), (nat_lit 49), (nat_lit 53), (nat_lit 50), (nat_lit 53), (nat_lit 51), (nat_lit 53), (nat_lit 52), (nat_lit 53), (nat_lit 53), (nat_lit 53), (nat_lit 54), (nat_lit 53), (nat_lit 55), (nat_lit 53), (nat_lit 56), (nat_lit 53), (nat_lit 57), (nat_lit 54), (nat_lit 48), (nat_lit 54), (nat_lit 49), (nat_lit 54), (nat_lit 50), (nat_lit 54), (nat_lit 51), (nat_lit 54), (nat_lit 52), (nat_lit 54), (nat_lit 53), (nat_lit 54), (nat_lit 54), (nat_lit 54), (nat_lit 55), (nat_lit 54), (nat_lit 56), (nat_lit 54), (nat_lit 57), (nat_lit 55), (nat_lit 48), (nat_lit 55), (nat_lit 49), (nat_lit 55), (nat_lit 50), (nat_lit 55), (nat_lit 51), (nat_lit 55), (nat_lit 52), (nat_lit 55), (nat_lit 53), (nat_lit 55), (nat_lit 54), (nat_lit 55), (nat_lit 55), (nat_lit 55), (nat_lit 56), (nat_lit 55), (nat_lit 57), (nat_lit 56), (nat_lit 48), (nat_lit 56), (nat_lit 49), (nat_lit 56), (nat_lit 50), (nat_lit 56), (nat_lit 51), (nat_lit 56), (nat_lit 52), (nat_lit 56), (nat_lit 53), (nat_lit 56), (nat_lit 54), (nat_lit 56), (nat_lit 55), (nat_lit 56), (nat_lit 56), (nat_lit 56), (nat_lit 57), (nat_lit 57), (nat_lit 48), (nat_lit 57), (nat_lit 49), (nat_lit 57), (nat_lit 50), (nat_lit 57), (nat_lit 51), (nat_lit 57), (nat_lit 52), (nat_lit 57), (nat_lit 53), (nat_lit 57), (nat_lit 54), (nat_lit 57), (nat_lit 55), (nat_lit 57), (nat_lit 56), (nat_lit 57), (nat_lit 57)])) T154),
    .op D156 (.ixaS (nat_lit 1) T145 T147),
    .op .no (.st (nat_lit 1) T156 T153),
    .op D157 (.ixaS (nat_lit 1) T148 T150),
    .op .no (.st (nat_lit 1) T157 T155)] [])
  (.reg [.op D158 (.mv T4),
    .op D159 (.bin .sub T158 (.c (.int .i64 (.ofNat (nat_lit 2))))),
    .op D4 (.mv T159)]))))
  (.skip)))
  (.seq (.reg [.op D160 (.mv T4),
    .op D161 (.bin .gtr T160 (.c (.int .i64 (.ofNat (nat_lit 0)))))])
  (.cond T161 (.reg [.op D162 (.mv T0),
    .op D163 (.mv T12),
    .op D164 (.bin .add (.c (.int .u32 (.ofNat (nat_lit 48)))) T163),
    .op D165 (.cvi .u8 T164),
    .op D166 (.ixaS (nat_lit 1) T162 (.c (.int .i64 (.ofNat (nat_lit 0))))),
    .op .no (.st (nat_lit 1) T166 T165)])
  (.skip))))))),
  []⟩
/-- internal/strconv.formatBits -/
noncomputable def ff116 : FFunc := ⟨.seq (.reg [.op D10 (.mv (.c (.nils))),
    .op D11 (.mv (.c (.str [])))])
  (.seq (.seq (.reg [.op D19 (.mv T2),
    .op D20 (.bin .lss T19 (.c (.int .i64 (.ofNat (nat_lit 2))))),
    .op D21 (.mv T20),
    .gop .n1 .n5 g21 (fun _ => rfl) false D22 (.mv T2),
    .gop .n1 .n5 g21 (fun _ => rfl) false D23 (.bin .eql T22 (.c (.int .i64 (.ofNat (nat_lit 10))))),
    .op D24 (.pick T21 (.c (.bool true)) T23),
    .op D25 (.mv T24),
    .gop .n1 .n9 g25 (fun _ => rfl) false D26 (.mv T2),
    .gop .n1 .n9 g25 (fun _ => rfl) false D27 (.bin .gtr T26 (.c (.int .i64 (.ofNat (nat_lit 36))))),
    .op D28 (.pick T25 (.c (.bool true)) T27)])
  (.cond T28 (.reg [.op D29 (.mkifc (nat_lit 9) (.c (.str [(nat_lit 115), (nat_lit 116), (nat_lit 114), (nat_lit 99), (nat_lit 111), (nat_lit 110), (nat_lit 118), (nat_lit 58), (nat_lit 32), (nat_lit 105), (nat_lit 108), (nat_lit 108), (nat_lit 101), (nat_lit 103), (nat_lit 97), (nat_lit 108), (nat_lit 32), (nat_lit 65), (nat_lit 112), (nat_lit 112), (nat_lit 101), (nat_lit 110), (nat_lit 100), (nat_lit 73), (nat_lit 110), (nat_lit 116), (nat_lit 47), (nat_lit 70), (nat_lit 111), (nat_lit 114), (nat_lit 109), (nat_lit 97), (nat_lit 116), (nat_lit 73), (nat_lit 110), (nat_lit 116), (nat_lit 32), (nat_lit 98), (nat_lit 97), (nat_lit 115), (nat_lit 101)]))),
    .op .no (.bad)])
  (.skip)))
  (.seq (.reg [.op D12 (.new [.int .u8 (.ofNat (nat_lit 0)), .int .u8 (.ofNat (nat_lit 0)), .int .u8 (.ofNat (nat_lit 0)), .int .u8 (.ofNat (nat_lit 0)), .int .u8 (.ofNat (nat_lit 0)), .int .u8 (.ofNat (nat_lit 0)), .int .u8 (.ofNat (nat_lit 0)), .int .u8 (.ofNat (nat_lit 0)), .int .u8 (.ofNat (nat_lit 0)), .int .u8 (.ofNat (nat_lit 0)), .int .u8 (.ofNat (nat_lit 0)), .int .u8 (.ofNat (nat_lit 0)), .int .u8 (.ofNat (nat_lit 0)), .int .u8 (.ofNat (nat_lit 0)), .int .u8 (.ofNat (nat_lit 0)), .int .u8 (.ofNat (nat_lit 0)), .int .u8 (.ofNat (nat_lit 0)), .int .u8 (.ofNat (nat_lit 0)), .int .u8 (.ofNat (nat_lit 0)), .int .u8 (.ofNat (nat_lit 0)), .int .u8 (.ofNat (nat_lit 0)), .int .u8 (.ofNat (nat_lit 0)), .int .u8 (.ofNat (nat_lit 0)), .int .u8 (.ofNat (nat_lit 0)), .int .u8 (.ofNat (nat_lit 0)), .int .u8 (.ofNat (nat_lit 0)), .int .u8 (.ofNat (nat_lit 0)), .int .u8 (.ofNat (nat_lit 0)), .int .u8 (.ofNat (nat_lit 0)), .int .u8 (.ofNat (nat_lit 0)), .int .u8 (.ofNat (nat_lit 0)), .int .u8 (.ofNat (nat_lit 0)), .int .u8 (.ofNat (nat_lit 0)), .int .u8 (.ofNat (nat_lit 0)), .int .u8 (.ofNat (nat_lit 0)), .int .u8 (.ofNat (nat_lit 0)), .int .u8 (.ofNat (nat_lit 0)), .int .u8 (.ofNat (nat_lit 0)), .int .u8 (.ofNat (nat_lit 0)), .int .u8 (.ofNat (nat_lit 0)), .int .u8 (.ofNat (nat_lit 0)), .int .u8 (.ofNat (nat_lit 0)), .int .u8 (.ofNat (nat_lit 0)), .int .u8 (.ofNat (nat_lit 0)), .int .u8 (.ofNat (nat_lit 0)), .int .u8 (.ofNat (nat_lit 0)), .int .u8 (.ofNat (nat_lit 0)), .int .u8 (.ofNat (nat_lit 0)), .int .u8 (.ofNat (nat_lit 0)), .int .u8 (.ofNat (nat_lit 0)), .int .u8 (.ofNat (nat_lit 0)), .int .u8 (.ofNat (nat_lit 0)), .int .u8 (.ofNat (nat_lit 0)), .int .u8 (.ofNat (nat_lit 0)), .int .u8 (.ofNat (nat_lit 0)), .int .u8 (.ofNat (nat_lit 0)), .int .u8 (.ofNat (nat_lit 0)), .int .u8 (.ofNat (nat_lit 0)), .int .u8 (.ofNat (nat_lit 0)), .int .u8 (.ofNat (nat_lit 0)), .int .u8 (.ofNat (nat_lit 0)), .int .u8 (.ofNat (nat_lit 0)), .int .u8 (.ofNat (nat_lit 0)), .int .u8 (.ofNat (nat_lit 0)), .int .u8 (.ofNat (nat_lit 0))])])
  (.seq (.reg [.op D13 (.mv (.c (.int .i64 (.ofNat (nat_lit 65)))))])
  (.seq (.seq (.reg [.op D30 (.mv T3)])
  (.cond T30 (.reg [.op D31 (.mv T1),
    .op D32 (.un .neg T31),
    .op D1 (.mv T32)])
  (.skip)))
  (.seq (.seq (.reg [.op D33 (.mv T2),
    .op D34 (.call (nat_lit 120) [T33])])
  (.cond T34 (.seq (.reg [.op D35 (.mv T2),
    .op D36 (.cvi .u64 T35),
    .op D37 (.call (nat_lit 121) [T36]),
    .op D38 (.cvi .u64 T37),
    .op D14 (.mv T38)])
  (.seq (.reg [.op D39 (.mv T2),
    .op D40 (.cvi .u64 T39),
    .op D15 (.mv T40)])
  (.seq (.reg [.op D41 (.mv T2),
    .op D42 (.cvi .u64 T41),
    .op D43 (.bin .sub T42 (.c (.int .u64 (.ofNat (nat_lit 1))))),
    .op D16 (.mv T43)])
  (.seq (.block (nat_lit 0) (.loop (.seq (.seq (.reg [.op D44 (.mv T1),
    .op D45 (.mv T15),
    .op D46 (.bin .geq T44 T45)])
  (.cond T46 (.skip)
  (.exit (nat_lit 0))))
  (.block (nat_lit 1) (.seq (.reg [.op D47 (.mv T13),
    .op D48 (.bin .sub T47 (.c (.int .i64 (.ofNat (nat_lit 1))))),
    .op D13 (.mv T48)])
  (.seq (.reg [.op D49 (.mv T13),
    .op D50 (.mv T1),
    .op D51 (.mv T16),
    .op D52 (.bin .and T50 T51),
    .op D53 (.ixS (.c (.str [(nat_lit 48), (nat_lit 49), (nat_lit 50), (nat_lit 51), (nat_lit 52), (nat_lit 53), (nat_lit 54), (nat_lit 55), (nat_lit 56), (nat_lit 57), (nat_lit 97), (nat_lit 98), (nat_lit 99), (nat_lit 100), (nat_lit 101), (nat_lit 102), (nat_lit 103), (nat_lit 104), (nat_lit 105), (nat_lit 106), (nat_lit 107), (nat_lit 108), (nat_lit 109), (nat_lit 110), (nat_lit 111), (nat_lit 112), (nat_lit 113), (nat_lit 114), (nat_lit 115), (nat_lit 116), (nat_lit 117), (nat_lit 118), (nat_lit 119), (nat_lit 120), (nat_lit 121), (nat_lit 122)])) T52),
    .op D54 (.ixaA (nat_lit 65) (nat_lit 1) T12 T49),
    .op .no (.st (nat_lit 1) T54 T53)])
  (.reg [.op D55 (.mv T1),
    .op D56 (.mv T14),
    .op D57 (.bin .shr T55 T56),
    .op D1 (.mv T57)])))))))
  (.seq (.reg [.op D58 (.mv T13),
    .op D59 (.bin .sub T58 (.c (.int .i64 (.ofNat (nat_lit 1))))),
    .op D13 (.mv T59)])
  (.reg [.op D60 (.mv T13),
    .op D61 (.mv T1),
    .op D62 (.ixS (.c (.str [(nat_lit 48), (nat_lit 49), (nat_lit 50), (nat_lit 51), (nat_lit 52), (nat_lit 53), (nat_lit 54), (nat_lit 55), (nat_lit 56), (nat_lit 57), (nat_lit 97), (nat_lit 98), (nat_lit 99), (nat_lit 100), (nat_lit 101), (nat_lit 102), (nat_lit 103), (nat_lit 104), (nat_lit 105), (nat_lit 106), (nat_lit 107), (nat_lit 108), (nat_lit 109), (nat_lit 110), (nat_lit 111), (nat_lit 112), (nat_lit 113), (nat_lit 114), (nat_lit 115), (nat_lit 116), (nat_lit 117), (nat_lit 118), (nat_lit 119), (nat_lit 120), (nat_lit 121), (nat_lit 122)])) T61),
    .op D63 (.ixaA (nat_lit 65) (nat_lit 1) T12 T60),
    .op .no (.st (nat_lit 1) T63 T62)]))))))
  (.seq (.reg [.op D64 (.mv T2),
    .op D65 (.cvi .u64 T64),
    .op D17 (.mv T65)])
  (.seq (.block (nat_lit 2) (.loop (.seq (.seq (.reg [.op D66 (.mv T1),
    .op D67 (.mv T17),
    .op D68 (.bin .geq T66 T67)])
  (.cond T68 (.skip)
  (.exit (nat_lit 2))))
  (.block (nat_lit 3) (.seq (.reg [.op D69 (.mv T13),
    .op D70 (.bin .sub T69 (.c (.int .i64 (.ofNat (nat_lit 1))))),
    .op D13 (.mv T70)])
  (.seq (.reg [.op D71 (.mv T1),
    .op D72 (.mv T17),
    .op D73 (.bin .quo T71 T72),
    .op D18 (.mv T73)])
  (.seq (.reg [.op D74 (.mv T13),
    .op D75 (.mv T1),
    .op D76 (.mv T18),
    .op D77 (.mv T17),
    .op D78 (.bin .mul T76 T77),
    .op D79 (.bin .sub T75 T78),
    .op D80 (.ixS (.c (.str [(nat_lit 48), (nat_lit 49), (nat_lit 50), (nat_lit 51), (nat_lit 52), (nat_lit 53), (nat_lit 54), (nat_lit 55), (nat_lit 56), (nat_lit 57), (nat_lit 97), (nat_lit 98), (nat_lit 99), (nat_lit 100), (nat_lit 101), (nat_lit 102), (nat_lit 103), (nat_lit 104), (nat_lit 105), (nat_lit 106), (nat_lit 107), (nat_lit 108), (nat_lit 109), (nat_lit 110), (nat_lit 111), (nat_lit 112), (nat_lit 113), (nat_lit 114), (nat_lit 115), (nat_lit 116), (nat_lit 117), (nat_lit 118), (nat_lit 119), (nat_lit 120), (nat_lit 121), (nat_lit 122)])) T79),
    .op D81 (.ixaA (nat_lit 65) (nat_lit 1) T12 T74),
    .op .no (.st (nat_lit 1) T81 T80)])
  (.reg [.op D82 (.mv T18),
    .op D1 (.mv T82)]))))))))
  (.seq (.reg [.op D83 (.mv T13),
    .op D84 (.bin .sub T83 (.c (.int .i64 (.ofNat (nat_lit 1))))),
    .op D13 (.mv T84)])
  (.reg [.op D85 (.mv T13),
    .op D86 (.mv T1),
    .op D87 (.ixS (.c (.str [(nat_lit 48), (nat_lit 49), (nat_lit 50), (nat_lit 51), (nat_lit 52), (nat_lit 53), (nat_lit 54), (nat_lit 55), (nat_lit 56), (nat_lit 57), (nat_lit 97), (nat_lit 98), (nat_lit 99), (nat_lit 100), (nat_lit 101), (nat_lit 102), (nat_lit 103), (nat_lit 104), (nat_lit 105), (nat_lit 106), (nat_lit 107), (nat_lit 108), (nat_lit 109), (nat_lit 110), (nat_lit 111), (nat_lit 112), (nat_lit 113), (nat_lit 114), (nat_lit 115), (nat_lit 116), (nat_lit 117), (nat_lit 118), (nat_lit 119), (nat_lit 120), (nat_lit 121), (nat_lit 122)])) T86),
    .op D88 (.ixaA (nat_lit 65) (nat_lit 1) T12 T85),
    .op .no (.st (nat_lit 1) T88 T87)]))))))
  (.seq (.seq (.reg [.op D89 (.mv T3)])
  (.cond T89 (.seq (.reg [.op D90 (.mv T13),
    .op D91 (.bin .sub T90 (.c (.int .i64 (.ofNat (nat_lit 1))))),
    .op D13 (.mv T91)])
  (.reg [.op D92 (.mv T13),
    .op D93 (.ixaA (nat_lit 65) (nat_lit 1) T12 T92),
    .op .no (.st (nat_lit 1) T93 (.c (.int .u8 (.ofNat (nat_lit 45)))))]))
  (.skip)))
  (.seq (.seq (.reg [.op D94 (.mv T4)])
  (.cond T94 (.seq (.reg [.op D95 (.mv T0),
    .op D96 (.mv T13),
    .op D97 (.slArr (nat_lit 65) (nat_lit 1) T12 (.is T96) .no .no),
    .op D98 (.app (nat_lit 1) (nat_lit 1) T95 T97),
    .op D10 (.mv T98)])
  (.ret))
  (.skip)))
  (.seq (.reg [.op D99 (.mv T13),
    .op D100 (.slArr (nat_lit 65) (nat_lit 1) T12 (.is T99) .no .no),
    .op D101 (.bad),
    .op D11 (.mv T101)])
  (.ret))))))))),
  [.t .n0 .n10 g10 (fun _ => rfl), .t .n0 .n11 g11 (fun _ => rfl)]⟩
/-- internal/strconv.log10Pow2 -/
noncomputable def ff117 : FFunc := ⟨.seq (.reg [.op D2 (.mv (.c (.int .i64 (.ofNat (nat_lit 0)))))])
  (.seq (.reg [.op D3 (.mv T0),
    .op D4 (.bin .mul T3 (.c (.int .i64 (.ofNat (nat_lit 78913))))),
    .op D5 (.bin .shr T4 (.c (.int .u64 (.ofNat (nat_lit 18))))),
    .op D2 (.mv T5)])
  (.ret)),
  [.t .n0 .n2 g2 (fun _ => rfl)]⟩
/-- math/bits.Len64 -/
noncomputable def ff118 : FFunc := ⟨.seq (.reg [.op D2 (.mv (.c (.int .i64 (.ofNat (nat_lit 0)))))])
  (.seq (.seq (.reg [.op D3 (.mv T0),
    .op D4 (.bin .geq T3 (.c (.int .u64 (.ofNat (nat_lit 4294967296)))))])
  (.cond T4 (.seq (.reg [.op D5 (.mv T0),
    .op D6 (.bin .shr T5 (.c (.int .u64 (.ofNat (nat_lit 32))))),
    .op D0 (.mv T6)])
  (.reg [.op D2 (.mv (.c (.int .i64 (.ofNat (nat_lit 32)))))]))
  (.skip)))
  (.seq (.seq (.reg [.op D7 (.mv T0),
    .op D8 (.bin .geq T7 (.c (.int .u64 (.ofNat (nat_lit 65536)))))])
  (.cond T8 (.seq (.reg [.op D9 (.mv T0),
    .op D10 (.bin .shr T9 (.c (.int .u64 (.ofNat (nat_lit 16))))),
    .op D0 (.mv T10)])
  (.reg [.op D11 (.mv T2),
    .op D12 (.bin .add T11 (.c (.int .i64 (.ofNat (nat_lit 16))))),
    .op D2 (.mv T12)]))
  (.skip)))
  (.seq (.seq (.reg [.op D13 (.mv T0),
    .op D14 (.bin .geq T13 (.c (.int .u64 (.ofNat (nat_lit 256)))))])
  (.cond T14 (.seq (.reg [.op D15 (.mv T0),
    .op D16 (.bin .shr T15 (.c (.int .u64 (.ofNat (nat_lit 8))))),
    .op D0 (.mv T16)])
  (.reg [.op D17 (.mv T2),
    .op D18 (.bin .add T17 (.c (.int .i64 (.ofNat (nat_lit 8))))),
    .op D2 (.mv T18)]))
  (.skip)))
  (.seq (.reg [.op D19 (.mv T2),
    .op D20 (.mv T0),
    .op D21 (.cvi .u8 T20),
    .op D22 (.ixS (.c (.str [(nat_lit 0), (nat_lit 1), (nat_lit 2), (nat_lit 2), (nat_lit 3), (nat_lit 3), (nat_lit 3), (nat_lit 3), (nat_lit 4), (nat_lit 4), (nat_lit 4), (nat_lit 4), (nat_lit 4), (nat_lit 4), (nat_lit 4), (nat_lit 4), (nat_lit 5), (nat_lit 5), (nat_lit 5), (nat_lit 5), (nat_lit 5), (nat_lit 5), (nat_lit 5), (nat_lit 5), (nat_lit 5), (nat_lit 5), (nat_lit 5), (nat_lit 5), (nat_lit 5), (nat_lit 5), (nat_lit 5), (nat_lit 5), (nat_lit 6), (nat_lit 6), (nat_lit 6), (nat_lit 6), (nat_lit 6), (nat_lit 6), (nat_lit 6), (nat_lit 6), (nat_lit 6), (nat_lit 6), (nat_lit 6), (nat_lit 6), (nat_lit 6), (nat_lit 6), (nat_lit 6), (nat_lit 6), (nat_lit 6), (nat_lit 6), (nat_lit 6), (nat_lit 6), (nat_lit 6), (nat_lit 6), (nat_lit 6), (nat_lit 6), (nat_lit 6), (nat_lit 6), (nat_lit 6), (nat_lit 6), (nat_lit 6), (nat_lit 6), (nat_lit 6), (nat_lit 6), (nat_lit 7), (nat_lit 7), (nat_lit 7), (nat_lit 7), (nat_lit 7), (nat_lit 7), (nat_lit 7), (nat_lit 7), (nat_lit 7), (nat_lit 7), (nat_lit 7), (nat_lit 7), (nat_lit 7), (nat_lit 7), (nat_lit 7), (nat_lit 7), (nat_lit 7), (nat_lit 7), (nat_lit 7), (nat_lit 7), (nat_lit 7), (nat_lit 7), (nat_lit 7), (nat_lit 7), (nat_lit 7), (nat_lit 7), (nat_lit 7), (nat_lit 7), (nat_lit 7), (nat_lit 7), (nat_lit 7), (nat_lit 7), (nat_lit 7), (nat_lit 7), (nat_lit 7), (nat_lit 7), (nat_lit 7), (nat_lit 7), (nat_lit 7), (nat_lit 7), (nat_lit 7), (nat_lit 7), (nat_lit 7), (nat_lit 7), (nat_lit 7), (nat_lit 7), (nat_lit 7), (nat_lit 7), (nat_lit 7), (nat_lit 7), (nat_lit 7), (nat_lit 7), (nat_lit 7), (nat_lit 7), (nat_lit 7), (nat_lit 7), (nat_lit 7), (nat_lit 7), (nat_lit 7), (nat_lit 7), (nat_lit 7), (nat_lit 7), (nat_lit 7), (nat_lit 7), (nat_lit 8), (nat_lit 8), (nat_lit 8), (nat_lit 8), (nat_lit 8), (nat_lit 8), (nat_lit 8), (nat_lit 8), (nat_lit 8), (nat_lit 8), (nat_lit 8), (nat_lit 8), (nat_lit 8), (nat_lit 8), (nat_lit 8), (nat_lit 8), (nat_lit 8), (nat_lit 8), (nat_lit 8), (nat_lit 8), (nat_lit 8), (nat_lit 8), (nat_lit 8), (nat_lit 8), (nat_lit 8), (nat_lit 8), (nat_lit 8), (nat_lit 8), (nat_lit 8), (nat_lit 8), (nat_lit 8), (nat_lit 8), (nat_lit 8), (nat_lit 8), (nat_lit 8), (nat_lit 8), (nat_lit 8), (nat_lit 8), (nat_lit 8), (nat_lit 8), (nat_lit 8), (nat_lit 8), (nat_lit 8), (nat_lit 8), (nat_lit 8), (nat_lit 8), (nat_lit 8), (nat_lit 8), (nat_lit 8), (nat_lit 8), (nat_lit 8), (nat_lit 8), (nat_lit 8), (nat_lit 8), (nat_lit 8), (nat_lit 8), (nat_lit 8), (nat_lit 8), (nat_lit 8), (nat_lit 8), (nat_lit 8), (nat_lit 8), (nat_lit 8), (nat_lit 8), (nat_lit 8), (nat_lit 8), (nat_lit 8), (nat_lit 8), (nat_lit 8), (nat_lit 8), (nat_lit 8), (nat_lit 8), (nat_lit 8), (nat_lit 8), (nat_lit 8), (nat_lit 8), (nat_lit 8), (nat_lit 8), (nat_lit 8), (nat_lit 8), (nat_lit 8), (nat_lit 8), (nat_lit 8), (nat_lit 8), (nat_lit 8), (nat_lit 8), (nat_lit 8), (nat_lit 8), (nat_lit 8), (nat_lit 8), (nat_lit 8), (nat_lit 8), (nat_lit 8), (nat_lit 8), (nat_lit 8), (nat_lit 8), (nat_lit 8), (nat_lit 8), (nat_lit 8), (nat_lit 8), (nat_lit 8), (nat_lit 8), (nat_lit 8), (nat_lit 8), (nat_lit 8), (nat_lit 8), (nat_lit 8), (nat_lit 8), (nat_lit 8), (nat_lit 8), (nat_lit 8), (nat_lit 8), (nat_lit 8), (nat_lit 8), (nat_lit 8), (nat_lit 8), (nat_lit 8), (nat_lit 8), (nat_lit 8), (nat_lit 8), (nat_lit 8), (nat_lit 8), (nat_lit 8), (nat_lit 8), (nat_lit 8), (nat_lit 8), (nat_lit 8), (nat_lit 8)])) T21),
    .op D23 (.cvi .i64 T22),
    .op D24 (.bin .add T19 T23),
    .op D2 (.mv T24)])
  (.ret))))),
  [.t .n0 .n2 g2 (fun _ => rfl)]⟩
/-- internal/strconv.bool2[int] -/
noncomputable def ff119 : FFunc := ⟨.seq (.reg [.op D2 (.mv (.c (.int .i64 (.ofNat (nat_lit 0)))))])
  (.seq (.seq (.reg [.op D3 (.mv T0)])
  (.cond T3 (.seq (.reg [.op D2 (.mv (.c (.int .i64 (.ofNat (nat_lit 1)))))])
  (.ret))
  (.skip)))
  (.seq (.reg [.op D2 (.mv (.c (.int .i64 (.ofNat (nat_lit 0)))))])
  (.ret))),
  [.t .n0 .n2 g2 (fun _ => rfl)]⟩
/-- internal/strconv.isPowerOfTwo -/
noncomputable def ff120 : FFunc := ⟨.seq (.reg [.op D2 (.mv (.c (.bool false)))])
  (.seq (.reg [.op D3 (.mv T0),
    .op D4 (.mv T0),
    .op D5 (.bin .sub T4 (.c (.int .i64 (.ofNat (nat_lit 1))))),
    .op D6 (.bin .and T3 T5),
    .op D7 (.bin .eql T6 (.c (.int .i64 (.ofNat (nat_lit 0))))),
    .op D2 (.mv T7)])
  (.ret)),
  [.t .n0 .n2 g2 (fun _ => rfl)]⟩
/-- math/bits.TrailingZeros -/
noncomputable def ff121 : FFunc := ⟨.seq (.reg [.op D2 (.mv (.c (.int .i64 (.ofNat (nat_lit 0)))))])
  (.seq (.cond (.c (.bool false)) (.seq (.reg [.op D3 (.mv T0),
    .op D4 (.cvi .u32 T3),
    .op D5 (.call (nat_lit 122) [T4]),
    .op D2 (.mv T5)])
  (.ret))
  (.skip))
  (.seq (.reg [.op D6 (.mv T0),
    .op D7 (.call (nat_lit 123) [T6]),
    .op D2 (.mv T7)])
  (.ret))),
  [.t .n0 .n2 g2 (fun _ => rfl)]⟩
/-- math/bits.TrailingZeros32 -/
noncomputable def ff122 : FFunc := ⟨.seq (.reg [.op D2 (.mv (.c (.int .i64 (.ofNat (nat_lit 0)))))])
  (.seq (.seq (.reg [.op D3 (.mv T0),
    .op D4 (.bin .eql T3 (.c (.int .u32 (.ofNat (nat_lit 0)))))])
  (.cond T4 (.seq (.reg [.op D2 (.mv (.c (.int .i64 (.ofNat (nat_lit 32)))))])
  (.ret))
  (.skip)))
  (.seq (.reg [.op D5 (.mv T0),
    .op D6 (.mv T0),
    .op D7 (.un .neg T6),
    .op D8 (.bin .and T5 T7),
    .op D9 (.bin .mul T8 (.c (.int .u32 (.ofNat (nat_lit 125613361))))),
    .op D10 (.bin .shr T9 (.c (.int .u64 (.ofNat (nat_lit 27))))),
    .op D11 (.ixaA (nat_lit 32) (nat_lit 1) (.c (.ptr (nat_lit 2) (nat_lit 0))) T10),
    .op D12 (.ld1 T11),
    .op D13 (.cvi .i64 T12),
    .op D2 (.mv T13)])
  (.ret))),
  [.t .n0 .n2 g2 (fun _ => rfl)]⟩
/-- math/bits.TrailingZeros64 -/
noncomputable def ff123 : FFunc := ⟨.seq (.reg [.op D2 (.mv (.c (.int .i64 (.ofNat (nat_lit 0)))))])
  (.seq (.seq (.reg [.op D3 (.mv T0),
    .op D4 (.bin .eql T3 (.c (.int .u64 (.ofNat (nat_lit 0)))))])
  (.cond T4 (.seq (.reg [.op D2 (.mv (.c (.int .i64 (.ofNat (nat_lit 64)))))])
  (.ret))
  (.skip)))
  (.seq (.reg [.op D5 (.mv T0),
    .op D6 (.mv T0),
    .op D7 (.un .neg T6),
    .op D8 (.bin .and T5 T7),
    .op D9 (.bin .mul T8 (.c (.int .u64 (.ofNat (nat_lit 285870213051353865))))),
    .op D10 (.bin .shr T9 (.c (.int .u64 (.ofNat (nat_lit 58))))),
    .op D11 (.ixaA (nat_lit 64) (nat_lit 1) (.c (.ptr (nat_lit 3) (nat_lit 0))) T10),
    .op D12 (.ld1 T11),
    .op D13 (.cvi .i64 T12),
    .op D2 (.mv T13)])
  (.ret))),
  [.t .n0 .n2 g2 (fun _ => rfl)]⟩
end Go.Ev.Pg
