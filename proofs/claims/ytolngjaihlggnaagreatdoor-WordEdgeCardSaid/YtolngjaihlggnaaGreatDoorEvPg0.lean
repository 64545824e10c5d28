import Derived.Test.YtolngjaihlggnaaGreatDoorEvCore
namespace Go.Ev.Pg
/-- messuage/messuagelaw2.WordEdge -/
def rf3 : RFunc := ⟨.seq (.reg [⟨some 6, none, .mv (.c (.bool false))⟩])
  (.seq (.reg [⟨some 10, none, .call 8 []⟩,
    ⟨some 7, none, .mv (.t 10)⟩])
  (.seq (.seq (.reg [⟨some 11, none, .mv (.t 7)⟩,
    ⟨some 12, none, .un .not (.t 11)⟩])
  (.cond (.t 12) (.seq (.reg [⟨some 6, none, .mv (.c (.bool false))⟩])
  (.ret))
  (.skip)))
  (.seq (.reg [⟨some 13, none, .bsl 1 [.int .i64 0, .int .i64 0, .int .i64 0, .int .i64 0, .int .i64 0, .int .i64 0, .int .i64 0, .int .i64 0, .int .i64 0, .int .i64 0, .int .i64 0, .int .i64 0, .int .i64 0] 13 [(0, 1, .c (.int .i64 1)), (1, 1, .c (.int .i64 2)), (2, 1, .c (.int .i64 3)), (3, 1, .c (.int .i64 4)), (4, 1, .c (.int .i64 5)), (5, 1, .c (.int .i64 6)), (6, 1, .c (.int .i64 7)), (7, 1, .c (.int .i64 8)), (8, 1, .c (.int .i64 9)), (9, 1, .c (.int .i64 20)), (10, 1, .c (.int .i64 21)), (11, 1, .c (.int .i64 22)), (12, 1, .c (.int .i64 23))]⟩,
    ⟨some 14, none, .mv (.t 0)⟩,
    ⟨some 15, none, .bin .rem (.t 14) (.c (.int .i64 13))⟩,
    ⟨some 16, none, .bin .add (.t 15) (.c (.int .i64 13))⟩,
    ⟨some 17, none, .bin .rem (.t 16) (.c (.int .i64 13))⟩,
    ⟨some 18, none, .ixaS 1 (.t 13) (.t 17)⟩,
    ⟨some 19, none, .ld1 (.t 18)⟩,
    ⟨some 0, none, .mv (.t 19)⟩])
  (.seq (.reg [⟨some 20, none, .mkmap⟩,
    ⟨some 21, none, .build [.int .u64 0, .int .u64 0, .int .u64 0, .int .u64 0, .int .u64 0] [(0, 1, .c (.int .u64 1)), (1, 1, .c (.int .u64 7))]⟩,
    ⟨none, none, .mput (.sc .int) 0 (.t 20) (.c (.int .i64 1)) (.t 21)⟩,
    ⟨some 22, none, .build [.int .u64 0, .int .u64 0, .int .u64 0, .int .u64 0, .int .u64 0] [(0, 1, .c (.int .u64 2)), (1, 1, .c (.int .u64 7)), (2, 1, .c (.int .u64 7)), (3, 1, .c (.int .u64 3))]⟩,
    ⟨none, none, .mput (.sc .int) 0 (.t 20) (.c (.int .i64 2)) (.t 22)⟩,
    ⟨some 23, none, .build [.int .u64 0, .int .u64 0, .int .u64 0, .int .u64 0, .int .u64 0] [(0, 1, .c (.int .u64 3)), (1, 1, .c (.int .u64 7)), (2, 1, .c (.int .u64 3)), (3, 1, .c (.int .u64 7)), (4, 1, .c (.int .u64 3))]⟩,
    ⟨none, none, .mput (.sc .int) 0 (.t 20) (.c (.int .i64 3)) (.t 23)⟩,
    ⟨some 24, none, .build [.int .u64 0, .int .u64 0, .int .u64 0, .int .u64 0, .int .u64 0] [(0, 1, .c (.int .u64 4)), (1, 1, .c (.int .u64 7))]⟩,
    ⟨none, none, .mput (.sc .int) 0 (.t 20) (.c (.int .i64 4)) (.t 24)⟩,
    ⟨some 25, none, .build [.int .u64 0, .int .u64 0, .int .u64 0, .int .u64 0, .int .u64 0] [(0, 1, .c (.int .u64 5)), (1, 1, .c (.int .u64 7))]⟩,
    ⟨none, none, .mput (.sc .int) 0 (.t 20) (.c (.int .i64 5)) (.t 25)⟩,
    ⟨some 26, none, .build [.int .u64 0, .int .u64 0, .int .u64 0, .int .u64 0, .int .u64 0] [(0, 1, .c (.int .u64 6)), (1, 1, .c (.int .u64 7)), (2, 1, .c (.int .u64 7)), (3, 1, .c (.int .u64 3))]⟩,
    ⟨none, none, .mput (.sc .int) 0 (.t 20) (.c (.int .i64 6)) (.t 26)⟩,
    ⟨some 27, none, .build [.int .u64 0, .int .u64 0, .int .u64 0, .int .u64 0, .int .u64 0] [(0, 1, .c (.int .u64 7)), (1, 1, .c (.int .u64 7))]⟩,
    ⟨none, none, .mput (.sc .int) 0 (.t 20) (.c (.int .i64 7)) (.t 27)⟩,
    ⟨some 28, none, .build [.int .u64 0, .int .u64 0, .int .u64 0, .int .u64 0, .int .u64 0] [(0, 1, .c (.int .u64 8)), (1, 1, .c (.int .u64 7)), (2, 1, .c (.int .u64 3))]⟩,
    ⟨none, none, .mput (.sc .int) 0 (.t 20) (.c (.int .i64 8)) (.t 28)⟩,
    ⟨some 29, none, .build [.int .u64 0, .int .u64 0, .int .u64 0, .int .u64 0, .int .u64 0] [(0, 1, .c (.int .u64 9)), (1, 1, .c (.int .u64 7)), (2, 1, .c (.int .u64 15)), (3, 1, .c (.int .u64 4)), (4, 1, .c (.int .u64 9))]⟩,
    ⟨none, none, .mput (.sc .int) 0 (.t 20) (.c (.int .i64 9)) (.t 29)⟩,
    ⟨some 30, none, .build [.int .u64 0, .int .u64 0, .int .u64 0, .int .u64 0, .int .u64 0] [(0, 1, .c (.int .u64 20)), (1, 1, .c (.int .u64 7)), (2, 1, .c (.int .u64 15))]⟩,
    ⟨none, none, .mput (.sc .int) 0 (.t 20) (.c (.int .i64 20)) (.t 30)⟩,
    ⟨some 31, none, .build [.int .u64 0, .int .u64 0, .int .u64 0, .int .u64 0, .int .u64 0] [(0, 1, .c (.int .u64 21)), (1, 1, .c (.int .u64 7)), (2, 1, .c (.int .u64 15)), (3, 1, .c (.int .u64 9))]⟩,
    ⟨none, none, .mput (.sc .int) 0 (.t 20) (.c (.int .i64 21)) (.t 31)⟩,
    ⟨some 32, none, .build [.int .u64 0, .int .u64 0, .int .u64 0, .int .u64 0, .int .u64 0] [(0, 1, .c (.int .u64 22)), (1, 1, .c (.int .u64 7)), (2, 1, .c (.int .u64 15)), (3, 1, .c (.int .u64 9)), (4, 1, .c (.int .u64 9))]⟩,
    ⟨none, none, .mput (.sc .int) 0 (.t 20) (.c (.int .i64 22)) (.t 32)⟩,
    ⟨some 33, none, .build [.int .u64 0, .int .u64 0, .int .u64 0, .int .u64 0, .int .u64 0] [(0, 1, .c (.int .u64 23)), (1, 1, .c (.int .u64 7)), (2, 1, .c (.int .u64 15)), (3, 1, .c (.int .u64 9))]⟩,
    ⟨none, none, .mput (.sc .int) 0 (.t 20) (.c (.int .i64 23)) (.t 33)⟩,
    ⟨some 34, none, .mv (.t 20)⟩,
    ⟨some 35, none, .mv (.t 0)⟩,
    ⟨some 36, none, .look (.sc .int) 0 (.agg [.int .u64 0, .int .u64 0, .int .u64 0, .int .u64 0, .int .u64 0]) false (.t 34) (.t 35)⟩,
    ⟨some 8, none, .new [.int .u64 0, .int .u64 0, .int .u64 0, .int .u64 0, .int .u64 0]⟩,
    ⟨none, none, .st 5 (.t 8) (.t 36)⟩])
  (.seq (.seq (.reg [⟨some 37, none, .ldA 5 (.t 8)⟩,
    ⟨some 38, none, .call 9 [.t 37, .c (.int .i64 4)]⟩,
    ⟨some 39, none, .bin .neq (.t 38) (.c (.int .i64 0))⟩])
  (.cond (.t 39) (.seq (.reg [⟨some 6, none, .mv (.c (.bool false))⟩])
  (.ret))
  (.skip)))
  (.seq (.reg [⟨some 40, none, .mv (.t 1)⟩,
    ⟨some 41, none, .bin .rem (.t 40) (.c (.int .i64 4))⟩,
    ⟨some 42, none, .bin .add (.t 41) (.c (.int .i64 4))⟩,
    ⟨some 43, none, .bin .rem (.t 42) (.c (.int .i64 4))⟩,
    ⟨some 44, none, .bin .add (.c (.int .i64 1)) (.t 43)⟩,
    ⟨some 1, none, .mv (.t 44)⟩])
  (.seq (.reg [⟨some 45, none, .ldA 5 (.t 8)⟩,
    ⟨some 9, none, .new [.int .u64 0, .int .u64 0, .int .u64 0, .int .u64 0, .int .u64 0]⟩,
    ⟨none, none, .st 5 (.t 9) (.t 45)⟩])
  (.seq (.seq (.reg [⟨some 46, none, .mv (.t 2)⟩])
  (.cond (.t 46) (.reg [⟨some 47, none, .mv (.t 1)⟩,
    ⟨some 48, none, .ixaA 5 1 (.t 9) (.t 47)⟩,
    ⟨some 49, none, .ld1 (.t 48)⟩,
    ⟨some 50, none, .bin .add (.t 49) (.c (.int .u64 1))⟩,
    ⟨some 51, none, .ixaA 5 1 (.t 9) (.t 47)⟩,
    ⟨none, none, .st 1 (.t 51) (.t 50)⟩])
  (.reg [⟨some 52, none, .mv (.t 1)⟩,
    ⟨some 53, none, .ixaA 5 1 (.t 9) (.t 52)⟩,
    ⟨none, none, .st 1 (.t 53) (.c (.int .u64 0))⟩])))
  (.seq (.drw [⟨some 54, none, .ldA 5 (.t 9)⟩,
    ⟨some 55, none, .call 9 [.t 54, .c (.int .i64 4)]⟩,
    ⟨some 56, none, .ldA 5 (.t 9)⟩,
    ⟨some 57, none, .call 10 [.t 56, .c (.int .i64 4)]⟩,
    ⟨some 58, none, .bin .eql (.t 55) (.t 57)⟩,
    ⟨some 6, none, .mv (.t 58)⟩] [(2, 1)])
  (.ret)))))))))),
  [.t 6]⟩
/-- messuage/messuagelaw2.MailOrder -/
def rf4 : RFunc := ⟨.seq (.reg [⟨some 2, none, .mv (.c (.bool false))⟩])
  (.seq (.reg [⟨some 12, none, .call 8 []⟩,
    ⟨some 3, none, .mv (.t 12)⟩])
  (.seq (.seq (.reg [⟨some 13, none, .mv (.t 3)⟩,
    ⟨some 14, none, .un .not (.t 13)⟩])
  (.cond (.t 14) (.seq (.reg [⟨some 2, none, .mv (.c (.bool false))⟩])
  (.ret))
  (.skip)))
  (.seq (.reg [⟨some 15, none, .call 11 [.c (.int .i64 2)]⟩,
    ⟨some 4, none, .mv (.t 15)⟩])
  (.seq (.reg [⟨some 5, none, .mv (.c (.nils))⟩])
  (.seq (.seq (.reg [⟨some 6, none, .mv (.c (.int .i64 0))⟩])
  (.block 0 (.loop (.seq (.seq (.reg [⟨some 16, none, .mv (.t 6)⟩,
    ⟨some 17, none, .mv (.t 0)⟩,
    ⟨some 18, none, .lenL (.t 17)⟩,
    ⟨some 19, none, .bin .lss (.t 16) (.t 18)⟩,
    ⟨some 20, none, .mv (.t 19)⟩,
    ⟨some 21, some (20, true), .mv (.t 6)⟩,
    ⟨some 22, some (20, true), .bin .lss (.t 21) (.c (.int .i64 30))⟩,
    ⟨some 23, none, .pick (.t 20) (.t 22) (.c (.bool false))⟩])
  (.cond (.t 23) (.skip)
  (.exit 0)))
  (.seq (.block 1 (.seq (.seq (.reg [⟨some 26, none, .mv (.t 4)⟩,
    ⟨some 27, none, .mv (.t 0)⟩,
    ⟨some 28, none, .mv (.t 6)⟩,
    ⟨some 29, none, .ixaS 1 (.t 27) (.t 28)⟩,
    ⟨some 30, none, .ld1 (.t 29)⟩,
    ⟨some 31, none, .call 12 [.t 26, .c (.int .i64 0), .c (.int .i64 1), .t 30]⟩,
    ⟨some 32, none, .un .not (.t 31)⟩])
  (.cond (.t 32) (.seq (.reg [⟨some 2, none, .mv (.c (.bool false))⟩])
  (.ret))
  (.skip)))
  (.reg [⟨some 33, none, .mv (.t 5)⟩,
    ⟨some 34, none, .mv (.t 0)⟩,
    ⟨some 35, none, .mv (.t 6)⟩,
    ⟨some 36, none, .ixaS 1 (.t 34) (.t 35)⟩,
    ⟨some 37, none, .ld1 (.t 36)⟩,
    ⟨some 38, none, .call 13 [.t 33, .t 37]⟩,
    ⟨some 5, none, .mv (.t 38)⟩])))
  (.reg [⟨some 24, none, .mv (.t 6)⟩,
    ⟨some 25, none, .bin .add (.t 24) (.c (.int .i64 1))⟩,
    ⟨some 6, none, .mv (.t 25)⟩]))))))
  (.seq (.seq (.reg [⟨some 39, none, .mv (.t 5)⟩,
    ⟨some 40, none, .lenL (.t 39)⟩,
    ⟨some 41, none, .mv (.c (.int .i64 0))⟩])
  (.block 2 (.loop (.seq (.reg [⟨some 42, none, .bin .lss (.t 41) (.t 40)⟩])
  (.seq (.cond (.t 42) (.skip)
  (.exit 2))
  (.seq (.block 3 (.seq (.reg [⟨some 43, none, .mv (.t 41)⟩,
    ⟨some 7, none, .mv (.t 43)⟩])
  (.seq (.reg [⟨some 45, none, .mv (.t 4)⟩,
    ⟨some 46, none, .call 14 [.t 45, .c (.int .i64 1)]⟩,
    ⟨some 44, none, .mv (.t 46)⟩,
    ⟨some 47, none, .ex 0 (.t 44)⟩,
    ⟨some 48, none, .ex 1 (.t 44)⟩,
    ⟨some 8, none, .mv (.t 47)⟩,
    ⟨some 9, none, .mv (.t 48)⟩])
  (.seq (.reg [⟨some 49, none, .mv (.t 9)⟩,
    ⟨some 50, none, .un .not (.t 49)⟩,
    ⟨some 51, none, .mv (.t 50)⟩,
    ⟨some 52, some (51, false), .mv (.t 8)⟩,
    ⟨some 53, some (51, false), .mv (.t 5)⟩,
    ⟨some 54, some (51, false), .mv (.t 7)⟩,
    ⟨some 55, some (51, false), .ixaS 1 (.t 53) (.t 54)⟩,
    ⟨some 56, some (51, false), .ld1 (.t 55)⟩,
    ⟨some 57, some (51, false), .bin .neq (.t 52) (.t 56)⟩,
    ⟨some 58, none, .pick (.t 51) (.c (.bool true)) (.t 57)⟩,
    ⟨some 59, none, .mv (.t 58)⟩,
    ⟨some 60, some (59, false), .mv (.t 4)⟩,
    ⟨some 61, some (59, false), .call 15 [.t 60, .c (.int .i64 1)]⟩,
    ⟨some 62, some (59, false), .mv (.t 5)⟩,
    ⟨some 63, some (59, false), .lenL (.t 62)⟩,
    ⟨some 64, some (59, false), .mv (.t 7)⟩,
    ⟨some 65, some (59, false), .bin .sub (.t 63) (.t 64)⟩,
    ⟨some 66, some (59, false), .bin .sub (.t 65) (.c (.int .i64 1))⟩,
    ⟨some 67, some (59, false), .bin .neq (.t 61) (.t 66)⟩,
    ⟨some 68, none, .pick (.t 59) (.c (.bool true)) (.t 67)⟩])
  (.cond (.t 68) (.seq (.reg [⟨some 2, none, .mv (.c (.bool false))⟩])
  (.ret))
  (.skip))))))
  (.reg [⟨some 69, none, .bin .add (.t 41) (.c (.int .i64 1))⟩,
    ⟨some 41, none, .mv (.t 69)⟩])))))))
  (.seq (.reg [⟨some 71, none, .mv (.t 4)⟩,
    ⟨some 72, none, .call 14 [.t 71, .c (.int .i64 1)]⟩,
    ⟨some 70, none, .mv (.t 72)⟩,
    ⟨some 73, none, .ex 0 (.t 70)⟩,
    ⟨some 74, none, .ex 1 (.t 70)⟩,
    ⟨some 10, none, .mv (.t 73)⟩,
    ⟨some 11, none, .mv (.t 74)⟩])
  (.seq (.reg [⟨some 75, none, .mv (.t 11)⟩,
    ⟨some 76, none, .un .not (.t 75)⟩,
    ⟨some 77, none, .mv (.t 76)⟩,
    ⟨some 78, some (77, true), .mv (.t 4)⟩,
    ⟨some 79, some (77, true), .call 15 [.t 78, .c (.int .i64 0)]⟩,
    ⟨some 80, some (77, true), .bin .eql (.t 79) (.c (.int .i64 0))⟩,
    ⟨some 81, none, .pick (.t 77) (.t 80) (.c (.bool false))⟩,
    ⟨some 82, none, .mv (.t 81)⟩,
    ⟨some 83, some (82, true), .mv (.t 4)⟩,
    ⟨some 84, some (82, true), .call 12 [.t 83, .c (.int .i64 1), .c (.int .i64 1), .c (.int .u64 5)]⟩,
    ⟨some 85, some (82, true), .un .not (.t 84)⟩,
    ⟨some 86, none, .pick (.t 82) (.t 85) (.c (.bool false))⟩,
    ⟨some 2, none, .mv (.t 86)⟩])
  (.ret))))))))),
  [.t 2]⟩
/-- messuage/messuagelaw2.TlbSets -/
def rf5 : RFunc := ⟨.seq (.reg [⟨some 4, none, .mv (.c (.bool false))⟩])
  (.seq (.reg [⟨some 15, none, .call 8 []⟩,
    ⟨some 5, none, .mv (.t 15)⟩])
  (.seq (.seq (.reg [⟨some 16, none, .mv (.t 5)⟩,
    ⟨some 17, none, .un .not (.t 16)⟩])
  (.cond (.t 17) (.seq (.reg [⟨some 4, none, .mv (.c (.bool false))⟩])
  (.ret))
  (.skip)))
  (.seq (.reg [⟨some 18, none, .call 16 []⟩,
    ⟨some 6, none, .mv (.t 18)⟩])
  (.seq (.seq (.reg [⟨some 7, none, .mv (.c (.int .i64 0))⟩])
  (.block 0 (.loop (.seq (.seq (.reg [⟨some 19, none, .mv (.t 7)⟩,
    ⟨some 20, none, .mv (.t 0)⟩,
    ⟨some 21, none, .lenL (.t 20)⟩,
    ⟨some 22, none, .bin .lss (.t 19) (.t 21)⟩,
    ⟨some 23, none, .mv (.t 22)⟩,
    ⟨some 24, some (23, true), .mv (.t 7)⟩,
    ⟨some 25, some (23, true), .mv (.t 1)⟩,
    ⟨some 26, some (23, true), .lenL (.t 25)⟩,
    ⟨some 27, some (23, true), .bin .lss (.t 24) (.t 26)⟩,
    ⟨some 28, none, .pick (.t 23) (.t 27) (.c (.bool false))⟩,
    ⟨some 29, none, .mv (.t 28)⟩,
    ⟨some 30, some (29, true), .mv (.t 7)⟩,
    ⟨some 31, some (29, true), .bin .lss (.t 30) (.c (.int .i64 12))⟩,
    ⟨some 32, none, .pick (.t 29) (.t 31) (.c (.bool false))⟩])
  (.cond (.t 32) (.skip)
  (.exit 0)))
  (.seq (.block 1 (.drw [⟨some 35, none, .mv (.t 6)⟩,
    ⟨some 36, none, .mv (.t 0)⟩,
    ⟨some 37, none, .mv (.t 7)⟩,
    ⟨some 38, none, .ixaS 1 (.t 36) (.t 37)⟩,
    ⟨some 39, none, .ld1 (.t 38)⟩,
    ⟨some 40, none, .bin .rem (.t 39) (.c (.int .i64 4))⟩,
    ⟨some 41, none, .bin .add (.t 40) (.c (.int .i64 4))⟩,
    ⟨some 42, none, .bin .rem (.t 41) (.c (.int .i64 4))⟩,
    ⟨some 43, none, .mv (.t 1)⟩,
    ⟨some 44, none, .mv (.t 7)⟩,
    ⟨some 45, none, .ixaS 1 (.t 43) (.t 44)⟩,
    ⟨some 46, none, .ld1 (.t 45)⟩,
    ⟨some 47, none, .bin .rem (.t 46) (.c (.int .i64 8))⟩,
    ⟨some 48, none, .bin .add (.t 47) (.c (.int .i64 8))⟩,
    ⟨some 49, none, .bin .rem (.t 48) (.c (.int .i64 8))⟩,
    ⟨some 50, none, .build [.int .i64 0, .int .i64 0, .int .i64 0, .int .i64 0] [(0, 1, .t 42), (1, 1, .t 49), (3, 1, .c (.int .i64 1))]⟩,
    ⟨some 51, none, .call 17 [.t 35, .t 50]⟩] []))
  (.reg [⟨some 33, none, .mv (.t 7)⟩,
    ⟨some 34, none, .bin .add (.t 33) (.c (.int .i64 1))⟩,
    ⟨some 7, none, .mv (.t 34)⟩]))))))
  (.seq (.reg [⟨some 52, none, .mkmap⟩,
    ⟨some 8, none, .mv (.t 52)⟩])
  (.seq (.seq (.reg [⟨some 53, none, .mv (.t 6)⟩,
    ⟨some 54, none, .call 18 [.t 53]⟩,
    ⟨some 55, none, .lenL (.t 54)⟩,
    ⟨some 56, none, .mv (.c (.int .i64 0))⟩])
  (.block 2 (.loop (.seq (.reg [⟨some 57, none, .bin .lss (.t 56) (.t 55)⟩])
  (.seq (.cond (.t 57) (.skip)
  (.exit 2))
  (.seq (.block 3 (.seq (.reg [⟨some 58, none, .mv (.t 56)⟩,
    ⟨some 59, none, .ixaS 4 (.t 54) (.t 56)⟩,
    ⟨some 60, none, .ldA 4 (.t 59)⟩,
    ⟨some 10, none, .new [.int .i64 0, .int .i64 0, .int .i64 0, .int .i64 0]⟩,
    ⟨some 9, none, .mv (.t 58)⟩,
    ⟨none, none, .st 4 (.t 10) (.t 60)⟩])
  (.seq (.seq (.reg [⟨some 61, none, .fadd 0 (.t 10)⟩,
    ⟨some 62, none, .ld1 (.t 61)⟩,
    ⟨some 63, none, .bin .lss (.t 62) (.c (.int .i64 0))⟩])
  (.cond (.t 63) (.seq (.seq (.reg [⟨some 64, none, .ldA 4 (.t 10)⟩,
    ⟨some 65, none, .build [.int .i64 0, .int .i64 0, .int .i64 0, .int .i64 0] [(0, 1, .c (.int .i64 (-1)))]⟩,
    ⟨some 66, none, .eq true (.flat [(0, .int), (1, .int), (2, .int), (3, .int)]) (.t 64) (.t 65)⟩])
  (.cond (.t 66) (.seq (.reg [⟨some 4, none, .mv (.c (.bool false))⟩])
  (.ret))
  (.skip)))
  (.exit 3))
  (.skip)))
  (.seq (.reg [⟨some 67, none, .mv (.t 8)⟩,
    ⟨some 68, none, .fadd 1 (.t 10)⟩,
    ⟨some 69, none, .ld1 (.t 68)⟩,
    ⟨some 70, none, .bin .rem (.t 69) (.c (.int .i64 4))⟩,
    ⟨some 71, none, .look (.sc .int) 0 (.int .i64 0) false (.t 67) (.t 70)⟩,
    ⟨some 72, none, .bin .add (.t 71) (.c (.int .i64 1))⟩,
    ⟨none, none, .mput (.sc .int) 0 (.t 67) (.t 70) (.t 72)⟩])
  (.seq (.reg [⟨some 73, none, .mv (.t 9)⟩,
    ⟨some 74, none, .bin .quo (.t 73) (.c (.int .i64 2))⟩,
    ⟨some 75, none, .fadd 1 (.t 10)⟩,
    ⟨some 76, none, .ld1 (.t 75)⟩,
    ⟨some 77, none, .bin .rem (.t 76) (.c (.int .i64 4))⟩,
    ⟨some 78, none, .bin .neq (.t 74) (.t 77)⟩])
  (.cond (.t 78) (.seq (.reg [⟨some 4, none, .mv (.c (.bool false))⟩])
  (.ret))
  (.skip)))))))
  (.reg [⟨some 79, none, .bin .add (.t 56) (.c (.int .i64 1))⟩,
    ⟨some 56, none, .mv (.t 79)⟩])))))))
  (.seq (.seq (.reg [⟨some 11, none, .mv (.c (.int .i64 0))⟩])
  (.block 4 (.loop (.seq (.seq (.reg [⟨some 80, none, .mv (.t 11)⟩,
    ⟨some 81, none, .bin .lss (.t 80) (.c (.int .i64 4))⟩])
  (.cond (.t 81) (.skip)
  (.exit 4)))
  (.seq (.block 5 (.seq (.reg [⟨some 84, none, .mkmap⟩,
    ⟨some 12, none, .mv (.t 84)⟩])
  (.seq (.seq (.reg [⟨some 13, none, .mv (.c (.int .i64 0))⟩])
  (.block 6 (.loop (.seq (.seq (.reg [⟨some 85, none, .mv (.t 13)⟩,
    ⟨some 86, none, .mv (.t 0)⟩,
    ⟨some 87, none, .lenL (.t 86)⟩,
    ⟨some 88, none, .bin .lss (.t 85) (.t 87)⟩,
    ⟨some 89, none, .mv (.t 88)⟩,
    ⟨some 90, some (89, true), .mv (.t 13)⟩,
    ⟨some 91, some (89, true), .mv (.t 1)⟩,
    ⟨some 92, some (89, true), .lenL (.t 91)⟩,
    ⟨some 93, some (89, true), .bin .lss (.t 90) (.t 92)⟩,
    ⟨some 94, none, .pick (.t 89) (.t 93) (.c (.bool false))⟩,
    ⟨some 95, none, .mv (.t 94)⟩,
    ⟨some 96, some (95, true), .mv (.t 13)⟩,
    ⟨some 97, some (95, true), .bin .lss (.t 96) (.c (.int .i64 12))⟩,
    ⟨some 98, none, .pick (.t 95) (.t 97) (.c (.bool false))⟩])
  (.cond (.t 98) (.skip)
  (.exit 6)))
  (.seq (.block 7 (.seq (.reg [⟨some 101, none, .mv (.t 1)⟩,
    ⟨some 102, none, .mv (.t 13)⟩,
    ⟨some 103, none, .ixaS 1 (.t 101) (.t 102)⟩,
    ⟨some 104, none, .ld1 (.t 103)⟩,
    ⟨some 105, none, .bin .rem (.t 104) (.c (.int .i64 8))⟩,
    ⟨some 106, none, .bin .add (.t 105) (.c (.int .i64 8))⟩,
    ⟨some 107, none, .bin .rem (.t 106) (.c (.int .i64 8))⟩,
    ⟨some 14, none, .mv (.t 107)⟩])
  (.seq (.reg [⟨some 108, none, .mv (.t 14)⟩,
    ⟨some 109, none, .bin .rem (.t 108) (.c (.int .i64 4))⟩,
    ⟨some 110, none, .mv (.t 11)⟩,
    ⟨some 111, none, .bin .eql (.t 109) (.t 110)⟩])
  (.cond (.t 111) (.reg [⟨some 112, none, .mv (.t 12)⟩,
    ⟨some 113, none, .mv (.t 0)⟩,
    ⟨some 114, none, .mv (.t 13)⟩,
    ⟨some 115, none, .ixaS 1 (.t 113) (.t 114)⟩,
    ⟨some 116, none, .ld1 (.t 115)⟩,
    ⟨some 117, none, .bin .rem (.t 116) (.c (.int .i64 4))⟩,
    ⟨some 118, none, .bin .add (.t 117) (.c (.int .i64 4))⟩,
    ⟨some 119, none, .bin .rem (.t 118) (.c (.int .i64 4))⟩,
    ⟨some 120, none, .mv (.t 14)⟩,
    ⟨some 121, none, .build [.int .i64 0, .int .i64 0] [(0, 1, .t 119), (1, 1, .t 120)]⟩,
    ⟨none, none, .mput (.flat [(0, .int), (1, .int)]) 2 (.t 112) (.t 121) (.c (.bool true))⟩])
  (.skip)))))
  (.reg [⟨some 99, none, .mv (.t 13)⟩,
    ⟨some 100, none, .bin .add (.t 99) (.c (.int .i64 1))⟩,
    ⟨some 13, none, .mv (.t 100)⟩]))))))
  (.seq (.reg [⟨some 122, none, .mv (.t 8)⟩,
    ⟨some 123, none, .mv (.t 11)⟩,
    ⟨some 124, none, .look (.sc .int) 0 (.int .i64 0) false (.t 122) (.t 123)⟩,
    ⟨some 125, none, .mv (.t 12)⟩,
    ⟨some 126, none, .lenM (.t 125)⟩,
    ⟨some 127, none, .mnn [.t 126, .c (.int .i64 2)]⟩,
    ⟨some 128, none, .bin .neq (.t 124) (.t 127)⟩])
  (.cond (.t 128) (.seq (.reg [⟨some 4, none, .mv (.c (.bool false))⟩])
  (.ret))
  (.skip))))))
  (.reg [⟨some 82, none, .mv (.t 11)⟩,
    ⟨some 83, none, .bin .add (.t 82) (.c (.int .i64 1))⟩,
    ⟨some 11, none, .mv (.t 83)⟩]))))))
  (.seq (.reg [⟨some 4, none, .mv (.c (.bool true))⟩])
  (.ret))))))))),
  [.t 4]⟩
/-- messuage/messuagelaw2.PoolLeast -/
def rf6 : RFunc := ⟨.seq (.reg [⟨some 4, none, .mv (.c (.bool false))⟩])
  (.seq (.reg [⟨some 20, none, .call 8 []⟩,
    ⟨some 5, none, .mv (.t 20)⟩])
  (.seq (.seq (.reg [⟨some 21, none, .mv (.t 5)⟩,
    ⟨some 22, none, .un .not (.t 21)⟩])
  (.cond (.t 22) (.seq (.reg [⟨some 4, none, .mv (.c (.bool false))⟩])
  (.ret))
  (.skip)))
  (.seq (.reg [⟨some 23, none, .mv (.t 0)⟩,
    ⟨some 24, none, .bin .rem (.t 23) (.c (.int .i64 16))⟩,
    ⟨some 25, none, .bin .add (.t 24) (.c (.int .i64 16))⟩,
    ⟨some 26, none, .bin .rem (.t 25) (.c (.int .i64 16))⟩,
    ⟨some 27, none, .bin .add (.c (.int .i64 1)) (.t 26)⟩,
    ⟨some 0, none, .mv (.t 27)⟩])
  (.seq (.reg [⟨some 28, none, .mv (.t 0)⟩,
    ⟨some 29, none, .call 19 [.t 28]⟩,
    ⟨some 6, none, .mv (.t 29)⟩])
  (.seq (.seq (.reg [⟨some 7, none, .mv (.c (.int .i64 0))⟩])
  (.block 0 (.loop (.seq (.seq (.reg [⟨some 30, none, .mv (.t 7)⟩,
    ⟨some 31, none, .mv (.t 0)⟩,
    ⟨some 32, none, .bin .lss (.t 30) (.t 31)⟩])
  (.cond (.t 32) (.skip)
  (.exit 0)))
  (.seq (.block 1 (.seq (.reg [⟨some 36, none, .mv (.t 6)⟩,
    ⟨some 37, none, .call 20 [.t 36]⟩,
    ⟨some 35, none, .mv (.t 37)⟩,
    ⟨some 38, none, .ex 0 (.t 35)⟩,
    ⟨some 39, none, .ex 1 (.t 35)⟩,
    ⟨some 8, none, .mv (.t 38)⟩,
    ⟨some 9, none, .mv (.t 39)⟩])
  (.seq (.reg [⟨some 40, none, .mv (.t 9)⟩,
    ⟨some 41, none, .un .not (.t 40)⟩,
    ⟨some 42, none, .mv (.t 41)⟩,
    ⟨some 43, some (42, false), .mv (.t 8)⟩,
    ⟨some 44, some (42, false), .mv (.t 7)⟩,
    ⟨some 45, some (42, false), .bin .neq (.t 43) (.t 44)⟩,
    ⟨some 46, none, .pick (.t 42) (.c (.bool true)) (.t 45)⟩])
  (.cond (.t 46) (.seq (.reg [⟨some 4, none, .mv (.c (.bool false))⟩])
  (.ret))
  (.skip)))))
  (.reg [⟨some 33, none, .mv (.t 7)⟩,
    ⟨some 34, none, .bin .add (.t 33) (.c (.int .i64 1))⟩,
    ⟨some 7, none, .mv (.t 34)⟩]))))))
  (.seq (.seq (.reg [⟨some 48, none, .mv (.t 6)⟩,
    ⟨some 49, none, .call 20 [.t 48]⟩,
    ⟨some 47, none, .mv (.t 49)⟩,
    ⟨some 50, none, .ex 0 (.t 47)⟩,
    ⟨some 51, none, .ex 1 (.t 47)⟩,
    ⟨some 10, none, .mv (.t 50)⟩,
    ⟨some 11, none, .mv (.t 51)⟩])
  (.seq (.reg [⟨some 52, none, .mv (.t 11)⟩])
  (.cond (.t 52) (.seq (.reg [⟨some 4, none, .mv (.c (.bool false))⟩])
  (.ret))
  (.skip))))
  (.seq (.reg [⟨some 53, none, .mkmap⟩,
    ⟨some 12, none, .mv (.t 53)⟩])
  (.seq (.seq (.reg [⟨some 13, none, .mv (.c (.int .i64 0))⟩])
  (.block 2 (.loop (.seq (.seq (.reg [⟨some 54, none, .mv (.t 13)⟩,
    ⟨some 55, none, .mv (.t 1)⟩,
    ⟨some 56, none, .lenL (.t 55)⟩,
    ⟨some 57, none, .bin .lss (.t 54) (.t 56)⟩,
    ⟨some 58, none, .mv (.t 57)⟩,
    ⟨some 59, some (58, true), .mv (.t 13)⟩,
    ⟨some 60, some (58, true), .bin .lss (.t 59) (.c (.int .i64 20))⟩,
    ⟨some 61, none, .pick (.t 58) (.t 60) (.c (.bool false))⟩])
  (.cond (.t 61) (.skip)
  (.exit 2)))
  (.seq (.block 3 (.seq (.reg [⟨some 64, none, .mv (.t 1)⟩,
    ⟨some 65, none, .mv (.t 13)⟩,
    ⟨some 66, none, .ixaS 1 (.t 64) (.t 65)⟩,
    ⟨some 67, none, .ld1 (.t 66)⟩,
    ⟨some 68, none, .mv (.t 0)⟩,
    ⟨some 69, none, .bin .rem (.t 67) (.t 68)⟩,
    ⟨some 70, none, .mv (.t 0)⟩,
    ⟨some 71, none, .bin .add (.t 69) (.t 70)⟩,
    ⟨some 72, none, .mv (.t 0)⟩,
    ⟨some 73, none, .bin .rem (.t 71) (.t 72)⟩,
    ⟨some 14, none, .mv (.t 73)⟩])
  (.seq (.reg [⟨some 75, none, .mv (.t 6)⟩,
    ⟨some 76, none, .mv (.t 14)⟩,
    ⟨some 77, none, .call 21 [.t 75, .t 76]⟩,
    ⟨some 74, none, .mv (.t 77)⟩,
    ⟨some 78, none, .ex 0 (.t 74)⟩,
    ⟨some 79, none, .ex 1 (.t 74)⟩,
    ⟨some 15, none, .mv (.t 78)⟩,
    ⟨some 16, none, .mv (.t 79)⟩])
  (.seq (.seq (.reg [⟨some 80, none, .mv (.t 16)⟩,
    ⟨some 81, none, .mv (.t 12)⟩,
    ⟨some 82, none, .mv (.t 14)⟩,
    ⟨some 83, none, .look (.sc .int) 0 (.bool false) false (.t 81) (.t 82)⟩,
    ⟨some 84, none, .eq false (.sc .bool) (.t 80) (.t 83)⟩,
    ⟨some 85, none, .mv (.t 84)⟩,
    ⟨some 86, some (85, false), .mv (.t 15)⟩,
    ⟨some 87, some (85, false), .bin .neq (.t 86) (.c (.int .i64 0))⟩,
    ⟨some 88, none, .pick (.t 85) (.c (.bool true)) (.t 87)⟩])
  (.cond (.t 88) (.seq (.reg [⟨some 4, none, .mv (.c (.bool false))⟩])
  (.ret))
  (.skip)))
  (.reg [⟨some 89, none, .mv (.t 12)⟩,
    ⟨some 90, none, .mv (.t 14)⟩,
    ⟨none, none, .mput (.sc .int) 0 (.t 89) (.t 90) (.c (.bool true))⟩])))))
  (.reg [⟨some 62, none, .mv (.t 13)⟩,
    ⟨some 63, none, .bin .add (.t 62) (.c (.int .i64 1))⟩,
    ⟨some 13, none, .mv (.t 63)⟩]))))))
  (.seq (.seq (.reg [⟨some 17, none, .mv (.c (.int .i64 0))⟩])
  (.block 4 (.loop (.seq (.seq (.reg [⟨some 91, none, .mv (.t 17)⟩,
    ⟨some 92, none, .mv (.t 0)⟩,
    ⟨some 93, none, .bin .lss (.t 91) (.t 92)⟩])
  (.cond (.t 93) (.skip)
  (.exit 4)))
  (.seq (.block 5 (.seq (.reg [⟨some 96, none, .mv (.t 12)⟩,
    ⟨some 97, none, .mv (.t 17)⟩,
    ⟨some 98, none, .look (.sc .int) 0 (.bool false) false (.t 96) (.t 97)⟩])
  (.cond (.t 98) (.seq (.reg [⟨some 100, none, .mv (.t 6)⟩,
    ⟨some 101, none, .call 20 [.t 100]⟩,
    ⟨some 99, none, .mv (.t 101)⟩,
    ⟨some 102, none, .ex 0 (.t 99)⟩,
    ⟨some 103, none, .ex 1 (.t 99)⟩,
    ⟨some 18, none, .mv (.t 102)⟩,
    ⟨some 19, none, .mv (.t 103)⟩])
  (.seq (.reg [⟨some 104, none, .mv (.t 19)⟩,
    ⟨some 105, none, .un .not (.t 104)⟩,
    ⟨some 106, none, .mv (.t 105)⟩,
    ⟨some 107, some (106, false), .mv (.t 18)⟩,
    ⟨some 108, some (106, false), .mv (.t 17)⟩,
    ⟨some 109, some (106, false), .bin .neq (.t 107) (.t 108)⟩,
    ⟨some 110, none, .pick (.t 106) (.c (.bool true)) (.t 109)⟩])
  (.cond (.t 110) (.seq (.reg [⟨some 4, none, .mv (.c (.bool false))⟩])
  (.ret))
  (.skip))))
  (.skip))))
  (.reg [⟨some 94, none, .mv (.t 17)⟩,
    ⟨some 95, none, .bin .add (.t 94) (.c (.int .i64 1))⟩,
    ⟨some 17, none, .mv (.t 95)⟩]))))))
  (.seq (.reg [⟨some 111, none, .mv (.t 6)⟩,
    ⟨some 112, none, .call 22 [.t 111]⟩,
    ⟨some 113, none, .lenL (.t 112)⟩,
    ⟨some 114, none, .bin .eql (.t 113) (.c (.int .i64 0))⟩,
    ⟨some 115, none, .mv (.t 114)⟩,
    ⟨some 116, some (115, true), .mv (.t 6)⟩,
    ⟨some 117, some (115, true), .call 23 [.t 116]⟩,
    ⟨some 118, some (115, true), .bin .eql (.t 117) (.c (.int .u64 0))⟩,
    ⟨some 119, none, .pick (.t 115) (.t 118) (.c (.bool false))⟩,
    ⟨some 4, none, .mv (.t 119)⟩])
  (.ret))))))))))),
  [.t 4]⟩
/-- messuage/messuagelaw2.MemOwn -/
def rf7 : RFunc := ⟨.seq (.reg [⟨some 6, none, .mv (.c (.bool false))⟩])
  (.seq (.reg [⟨some 13, none, .call 8 []⟩,
    ⟨some 7, none, .mv (.t 13)⟩])
  (.seq (.seq (.reg [⟨some 14, none, .mv (.t 7)⟩,
    ⟨some 15, none, .un .not (.t 14)⟩])
  (.cond (.t 15) (.seq (.reg [⟨some 6, none, .mv (.c (.bool false))⟩])
  (.ret))
  (.skip)))
  (.seq (.reg [⟨some 16, none, .mv (.t 0)⟩,
    ⟨some 17, none, .bin .rem (.t 16) (.c (.int .i64 16))⟩,
    ⟨some 18, none, .bin .add (.t 17) (.c (.int .i64 16))⟩,
    ⟨some 19, none, .bin .rem (.t 18) (.c (.int .i64 16))⟩,
    ⟨some 20, none, .mv (.t 1)⟩,
    ⟨some 21, none, .bin .rem (.t 20) (.c (.int .i64 16))⟩,
    ⟨some 22, none, .bin .add (.t 21) (.c (.int .i64 16))⟩,
    ⟨some 23, none, .bin .rem (.t 22) (.c (.int .i64 16))⟩,
    ⟨some 0, none, .mv (.t 19)⟩,
    ⟨some 1, none, .mv (.t 23)⟩])
  (.seq (.reg [⟨some 24, none, .call 24 [.c (.int .i64 16)]⟩,
    ⟨some 8, none, .mv (.t 24)⟩])
  (.seq (.seq (.reg [⟨some 25, none, .mv (.t 8)⟩,
    ⟨some 26, none, .mv (.t 0)⟩,
    ⟨some 27, none, .mv (.t 1)⟩,
    ⟨some 28, none, .mv (.t 2)⟩,
    ⟨some 29, none, .call 25 [.t 25, .t 26, .t 27, .t 28]⟩,
    ⟨some 30, none, .un .not (.t 29)⟩])
  (.cond (.t 30) (.seq (.reg [⟨some 6, none, .mv (.c (.bool false))⟩])
  (.ret))
  (.skip)))
  (.seq (.seq (.reg [⟨some 9, none, .mv (.c (.int .i64 0))⟩])
  (.block 0 (.loop (.seq (.seq (.reg [⟨some 31, none, .mv (.t 9)⟩,
    ⟨some 32, none, .bin .lss (.t 31) (.c (.int .i64 16))⟩])
  (.cond (.t 32) (.skip)
  (.exit 0)))
  (.seq (.block 1 (.seq (.reg [⟨some 35, none, .mv (.t 8)⟩,
    ⟨some 36, none, .mv (.t 9)⟩,
    ⟨some 37, none, .call 26 [.t 35, .t 36]⟩,
    ⟨some 10, none, .mv (.t 37)⟩])
  (.seq (.reg [⟨some 38, none, .mv (.t 10)⟩,
    ⟨some 39, none, .lenL (.t 38)⟩,
    ⟨some 40, none, .mv (.c (.int .i64 0))⟩])
  (.block 2 (.loop (.seq (.reg [⟨some 41, none, .bin .lss (.t 40) (.t 39)⟩])
  (.seq (.cond (.t 41) (.skip)
  (.exit 2))
  (.seq (.block 3 (.seq (.reg [⟨some 42, none, .mv (.t 40)⟩,
    ⟨some 11, none, .mv (.t 42)⟩])
  (.seq (.reg [⟨some 12, none, .mv (.c (.int .u64 0))⟩])
  (.seq (.seq (.reg [⟨some 43, none, .mv (.t 9)⟩,
    ⟨some 44, none, .mv (.t 0)⟩,
    ⟨some 45, none, .bin .eql (.t 43) (.t 44)⟩,
    ⟨some 46, none, .mv (.t 45)⟩,
    ⟨some 47, some (46, true), .mv (.t 11)⟩,
    ⟨some 48, some (46, true), .mv (.t 1)⟩,
    ⟨some 49, some (46, true), .bin .eql (.t 47) (.t 48)⟩,
    ⟨some 50, none, .pick (.t 46) (.t 49) (.c (.bool false))⟩])
  (.cond (.t 50) (.reg [⟨some 51, none, .mv (.t 2)⟩,
    ⟨some 12, none, .mv (.t 51)⟩])
  (.skip)))
  (.seq (.reg [⟨some 52, none, .mv (.t 10)⟩,
    ⟨some 53, none, .mv (.t 11)⟩,
    ⟨some 54, none, .ixaS 1 (.t 52) (.t 53)⟩,
    ⟨some 55, none, .ld1 (.t 54)⟩,
    ⟨some 56, none, .mv (.t 12)⟩,
    ⟨some 57, none, .bin .neq (.t 55) (.t 56)⟩])
  (.cond (.t 57) (.seq (.reg [⟨some 6, none, .mv (.c (.bool false))⟩])
  (.ret))
  (.skip)))))))
  (.reg [⟨some 58, none, .bin .add (.t 40) (.c (.int .i64 1))⟩,
    ⟨some 40, none, .mv (.t 58)⟩])))))))))
  (.reg [⟨some 33, none, .mv (.t 9)⟩,
    ⟨some 34, none, .bin .add (.t 33) (.c (.int .i64 1))⟩,
    ⟨some 9, none, .mv (.t 34)⟩]))))))
  (.seq (.reg [⟨some 59, none, .mv (.t 8)⟩,
    ⟨some 60, none, .mv (.t 0)⟩,
    ⟨some 61, none, .call 27 [.t 59, .t 60]⟩,
    ⟨some 62, none, .mv (.t 61)⟩,
    ⟨some 63, some (62, true), .mv (.t 8)⟩,
    ⟨some 64, some (62, true), .mv (.t 0)⟩,
    ⟨some 65, some (62, true), .call 26 [.t 63, .t 64]⟩,
    ⟨some 66, some (62, true), .mv (.t 1)⟩,
    ⟨some 67, some (62, true), .ixaS 1 (.t 65) (.t 66)⟩,
    ⟨some 68, some (62, true), .ld1 (.t 67)⟩,
    ⟨some 69, some (62, true), .bin .eql (.t 68) (.c (.int .u64 0))⟩,
    ⟨some 70, none, .pick (.t 62) (.t 69) (.c (.bool false))⟩,
    ⟨some 6, none, .mv (.t 70)⟩])
  (.ret)))))))),
  [.t 6]⟩
/-- messuage/messuagelaw2.begun -/
def rf8 : RFunc := ⟨.seq (.reg [⟨some 0, none, .mv (.c (.bool false))⟩])
  (.seq (.reg [⟨some 24, none, .call 24 [.c (.int .i64 2)]⟩,
    ⟨some 25, none, .call 28 []⟩,
    ⟨some 26, none, .call 16 []⟩,
    ⟨some 27, none, .call 11 [.c (.int .i64 3)]⟩,
    ⟨some 1, none, .mv (.t 24)⟩,
    ⟨some 2, none, .mv (.t 25)⟩,
    ⟨some 3, none, .mv (.t 26)⟩,
    ⟨some 4, none, .mv (.t 27)⟩])
  (.seq (.reg [⟨some 28, none, .call 29 [.c (.int .u64 5)]⟩,
    ⟨some 29, none, .call 30 []⟩,
    ⟨some 30, none, .call 19 [.c (.int .i64 2)]⟩,
    ⟨some 5, none, .mv (.t 28)⟩,
    ⟨some 6, none, .mv (.t 29)⟩,
    ⟨some 7, none, .mv (.t 30)⟩])
  (.seq (.seq (.reg [⟨some 31, none, .mv (.t 1)⟩,
    ⟨some 32, none, .eq false (.sc .ptr) (.t 31) (.c (.nilp))⟩,
    ⟨some 33, none, .mv (.t 32)⟩,
    ⟨some 34, some (33, false), .mv (.t 2)⟩,
    ⟨some 35, some (33, false), .eq false (.sc .ptr) (.t 34) (.c (.nilp))⟩,
    ⟨some 36, none, .pick (.t 33) (.c (.bool true)) (.t 35)⟩,
    ⟨some 37, none, .mv (.t 36)⟩,
    ⟨some 38, some (37, false), .mv (.t 3)⟩,
    ⟨some 39, some (37, false), .eq false (.sc .ptr) (.t 38) (.c (.nilp))⟩,
    ⟨some 40, none, .pick (.t 37) (.c (.bool true)) (.t 39)⟩,
    ⟨some 41, none, .mv (.t 40)⟩,
    ⟨some 42, some (41, false), .mv (.t 4)⟩,
    ⟨some 43, some (41, false), .eq false (.sc .ptr) (.t 42) (.c (.nilp))⟩,
    ⟨some 44, none, .pick (.t 41) (.c (.bool true)) (.t 43)⟩,
    ⟨some 45, none, .mv (.t 44)⟩,
    ⟨some 46, some (45, false), .mv (.t 5)⟩,
    ⟨some 47, some (45, false), .eq false (.sc .ptr) (.t 46) (.c (.nilp))⟩,
    ⟨some 48, none, .pick (.t 45) (.c (.bool true)) (.t 47)⟩,
    ⟨some 49, none, .mv (.t 48)⟩,
    ⟨some 50, some (49, false), .mv (.t 6)⟩,
    ⟨some 51, some (49, false), .eq false (.sc .ptr) (.t 50) (.c (.nilp))⟩,
    ⟨some 52, none, .pick (.t 49) (.c (.bool true)) (.t 51)⟩,
    ⟨some 53, none, .mv (.t 52)⟩,
    ⟨some 54, some (53, false), .mv (.t 7)⟩,
    ⟨some 55, some (53, false), .eq false (.sc .ptr) (.t 54) (.c (.nilp))⟩,
    ⟨some 56, none, .pick (.t 53) (.c (.bool true)) (.t 55)⟩])
  (.cond (.t 56) (.seq (.reg [⟨some 0, none, .mv (.c (.bool false))⟩])
  (.ret))
  (.skip)))
  (.seq (.reg [⟨some 57, none, .mv (.t 2)⟩,
    ⟨some 58, none, .build [.int .i64 0, .int .i64 0, .int .i64 0] [(0, 1, .c (.int .i64 1)), (1, 1, .c (.int .i64 2)), (2, 1, .c (.int .i64 3))]⟩,
    ⟨some 59, none, .call 31 [.t 57, .c (.int .i64 1), .t 58]⟩,
    ⟨some 8, none, .mv (.t 59)⟩])
  (.seq (.reg [⟨some 61, none, .build [.int .i64 0, .int .i64 0, .int .i64 0] [(0, 1, .c (.int .i64 1)), (1, 1, .c (.int .i64 2)), (2, 1, .c (.int .i64 3))]⟩,
    ⟨some 62, none, .call 32 [.t 61]⟩,
    ⟨some 60, none, .mv (.t 62)⟩,
    ⟨some 63, none, .ex 0 (.t 60)⟩,
    ⟨some 64, none, .ex 1 (.t 60)⟩,
    ⟨some 9, none, .mv (.t 63)⟩,
    ⟨some 10, none, .mv (.t 64)⟩])
  (.seq (.reg [⟨some 65, none, .mv (.t 3)⟩,
    ⟨some 66, none, .build [.int .i64 0, .int .i64 0, .int .i64 0, .int .i64 0] [(0, 1, .c (.int .i64 1)), (1, 1, .c (.int .i64 5)), (2, 1, .c (.int .i64 1)), (3, 1, .c (.int .i64 1))]⟩,
    ⟨some 67, none, .call 17 [.t 65, .t 66]⟩,
    ⟨some 11, none, .mv (.t 67)⟩])
  (.seq (.reg [⟨some 69, none, .mv (.t 3)⟩,
    ⟨some 70, none, .call 33 [.t 69, .c (.int .i64 1), .c (.int .i64 5)]⟩,
    ⟨some 68, none, .mv (.t 70)⟩,
    ⟨some 71, none, .ex 0 (.t 68)⟩,
    ⟨some 72, none, .ex 1 (.t 68)⟩,
    ⟨some 12, none, .new [.int .i64 0, .int .i64 0, .int .i64 0, .int .i64 0]⟩,
    ⟨none, none, .st 4 (.t 12) (.t 71)⟩,
    ⟨some 13, none, .mv (.t 72)⟩])
  (.seq (.reg [⟨some 73, none, .mv (.t 4)⟩,
    ⟨some 74, none, .call 34 [.t 73, .c (.int .i64 0), .c (.int .u64 4)]⟩,
    ⟨some 14, none, .mv (.t 74)⟩])
  (.seq (.reg [⟨some 76, none, .mv (.t 4)⟩,
    ⟨some 77, none, .call 14 [.t 76, .c (.int .i64 2)]⟩,
    ⟨some 75, none, .mv (.t 77)⟩,
    ⟨some 78, none, .ex 0 (.t 75)⟩,
    ⟨some 79, none, .ex 1 (.t 75)⟩,
    ⟨some 15, none, .mv (.t 78)⟩,
    ⟨some 16, none, .mv (.t 79)⟩])
  (.seq (.reg [⟨some 81, none, .mv (.t 5)⟩,
    ⟨some 82, none, .call 35 [.t 81, .c (.int .u64 9)]⟩,
    ⟨some 80, none, .mv (.t 82)⟩,
    ⟨some 83, none, .ex 0 (.t 80)⟩,
    ⟨some 84, none, .ex 1 (.t 80)⟩,
    ⟨some 17, none, .mv (.t 83)⟩,
    ⟨some 18, none, .mv (.t 84)⟩])
  (.seq (.reg [⟨some 85, none, .mv (.t 6)⟩,
    ⟨some 86, none, .call 36 [.t 85]⟩,
    ⟨some 19, none, .mv (.t 86)⟩])
  (.seq (.reg [⟨some 88, none, .mv (.t 7)⟩,
    ⟨some 89, none, .call 20 [.t 88]⟩,
    ⟨some 87, none, .mv (.t 89)⟩,
    ⟨some 90, none, .ex 0 (.t 87)⟩,
    ⟨some 91, none, .ex 1 (.t 87)⟩,
    ⟨some 20, none, .mv (.t 90)⟩,
    ⟨some 21, none, .mv (.t 91)⟩])
  (.seq (.reg [⟨some 93, none, .build [.int .u64 0, .int .u64 0, .int .u64 0, .int .u64 0, .int .u64 0] [(0, 1, .c (.int .u64 6))]⟩,
    ⟨some 94, none, .call 37 [.t 93]⟩,
    ⟨some 92, none, .mv (.t 94)⟩,
    ⟨some 95, none, .ex 0 (.t 92)⟩,
    ⟨some 96, none, .ex 1 (.t 92)⟩,
    ⟨some 22, none, .mv (.t 95)⟩,
    ⟨some 23, none, .mv (.t 96)⟩])
  (.seq (.reg [⟨some 97, none, .call 38 []⟩,
    ⟨some 98, none, .mv (.t 97)⟩,
    ⟨some 99, some (98, true), .mv (.t 8)⟩,
    ⟨some 100, some (98, true), .bin .eql (.t 99) (.c (.int .i64 0))⟩,
    ⟨some 101, none, .pick (.t 98) (.t 100) (.c (.bool false))⟩,
    ⟨some 102, none, .mv (.t 101)⟩,
    ⟨some 103, some (102, true), .mv (.t 10)⟩,
    ⟨some 104, none, .pick (.t 102) (.t 103) (.c (.bool false))⟩,
    ⟨some 105, none, .mv (.t 104)⟩,
    ⟨some 106, some (105, true), .mv (.t 9)⟩,
    ⟨some 107, some (105, true), .bin .eql (.t 106) (.c (.int .u64 33059))⟩,
    ⟨some 108, none, .pick (.t 105) (.t 107) (.c (.bool false))⟩,
    ⟨some 109, none, .mv (.t 108)⟩,
    ⟨some 110, some (109, true), .mv (.t 11)⟩,
    ⟨some 111, none, .pick (.t 109) (.t 110) (.c (.bool false))⟩,
    ⟨some 112, none, .mv (.t 111)⟩,
    ⟨some 113, some (112, true), .mv (.t 13)⟩,
    ⟨some 114, none, .pick (.t 112) (.t 113) (.c (.bool false))⟩,
    ⟨some 115, none, .mv (.t 114)⟩,
    ⟨some 116, some (115, true), .fadd 2 (.t 12)⟩,
    ⟨some 117, some (115, true), .ld1 (.t 116)⟩,
    ⟨some 118, some (115, true), .bin .eql (.t 117) (.c (.int .i64 1))⟩,
    ⟨some 119, none, .pick (.t 115) (.t 118) (.c (.bool false))⟩,
    ⟨some 120, none, .mv (.t 119)⟩,
    ⟨some 121, some (120, true), .mv (.t 14)⟩,
    ⟨some 122, some (120, true), .bin .eql (.t 121) (.c (.int .i64 2))⟩,
    ⟨some 123, none, .pick (.t 120) (.t 122) (.c (.bool false))⟩,
    ⟨some 124, none, .mv (.t 123)⟩,
    ⟨some 125, some (124, true), .mv (.t 15)⟩,
    ⟨some 126, some (124, true), .bin .eql (.t 125) (.c (.int .u64 4))⟩,
    ⟨some 127, none, .pick (.t 124) (.t 126) (.c (.bool false))⟩,
    ⟨some 128, none, .mv (.t 127)⟩,
    ⟨some 129, some (128, true), .mv (.t 16)⟩,
    ⟨some 130, none, .pick (.t 128) (.t 129) (.c (.bool false))⟩,
    ⟨some 131, none, .mv (.t 130)⟩,
    ⟨some 132, some (131, true), .mv (.t 17)⟩,
    ⟨some 133, some (131, true), .bin .eql (.t 132) (.c (.int .u64 6))⟩,
    ⟨some 134, none, .pick (.t 131) (.t 133) (.c (.bool false))⟩,
    ⟨some 135, none, .mv (.t 134)⟩,
    ⟨some 136, some (135, true), .mv (.t 19)⟩,
    ⟨some 137, some (135, true), .bin .eql (.t 136) (.c (.int .u64 0))⟩,
    ⟨some 138, none, .pick (.t 135) (.t 137) (.c (.bool false))⟩,
    ⟨some 139, none, .mv (.t 138)⟩,
    ⟨some 140, some (139, true), .mv (.t 6)⟩,
    ⟨some 141, some (139, true), .call 39 [.t 140, .c (.int .u64 0)]⟩,
    ⟨some 142, none, .pick (.t 139) (.t 141) (.c (.bool false))⟩,
    ⟨some 143, none, .mv (.t 142)⟩,
    ⟨some 144, some (143, true), .mv (.t 6)⟩,
    ⟨some 145, some (143, true), .call 40 [.t 144, .c (.int .u64 0)]⟩,
    ⟨some 146, none, .pick (.t 143) (.t 145) (.c (.bool false))⟩,
    ⟨some 147, none, .mv (.t 146)⟩,
    ⟨some 148, some (147, true), .mv (.t 20)⟩,
    ⟨some 149, some (147, true), .bin .eql (.t 148) (.c (.int .i64 0))⟩,
    ⟨some 150, none, .pick (.t 147) (.t 149) (.c (.bool false))⟩,
    ⟨some 151, none, .mv (.t 150)⟩,
    ⟨some 152, some (151, true), .mv (.t 21)⟩,
    ⟨some 153, none, .pick (.t 151) (.t 152) (.c (.bool false))⟩,
    ⟨some 154, none, .mv (.t 153)⟩,
    ⟨some 155, some (154, true), .mv (.t 1)⟩,
    ⟨some 156, some (154, true), .call 25 [.t 155, .c (.int .i64 1), .c (.int .i64 3), .c (.int .u64 9)]⟩,
    ⟨some 157, none, .pick (.t 154) (.t 156) (.c (.bool false))⟩,
    ⟨some 158, none, .mv (.t 157)⟩,
    ⟨some 159, some (158, true), .mv (.t 23)⟩,
    ⟨some 160, none, .pick (.t 158) (.t 159) (.c (.bool false))⟩,
    ⟨some 161, none, .mv (.t 160)⟩,
    ⟨some 162, some (161, true), .mv (.t 22)⟩,
    ⟨some 163, some (161, true), .bin .eql (.t 162) (.c (.int .i64 6))⟩,
    ⟨some 164, none, .pick (.t 161) (.t 163) (.c (.bool false))⟩,
    ⟨some 165, none, .mv (.t 164)⟩,
    ⟨some 166, some (165, true), .build [.int .u64 0, .int .u64 0, .int .u64 0, .int .u64 0, .int .u64 0] [(0, 1, .c (.int .u64 6)), (1, 1, .c (.int .u64 8)), (2, 1, .c (.int .u64 0)), (3, 1, .c (.int .u64 1))]⟩,
    ⟨some 167, some (165, true), .call 9 [.t 166, .c (.int .i64 2)]⟩,
    ⟨some 168, some (165, true), .bin .eql (.t 167) (.c (.int .i64 2))⟩,
    ⟨some 169, none, .pick (.t 165) (.t 168) (.c (.bool false))⟩,
    ⟨some 170, none, .mv (.t 169)⟩,
    ⟨some 171, some (170, true), .call 41 [.c (.int .i64 3)]⟩,
    ⟨some 172, some (170, true), .bin .eql (.t 171) (.c (.int .i64 4))⟩,
    ⟨some 173, none, .pick (.t 170) (.t 172) (.c (.bool false))⟩,
    ⟨some 174, none, .mv (.t 173)⟩,
    ⟨some 175, some (174, true), .call 42 [.c (.int .i64 1), .c (.int .i64 3)]⟩,
    ⟨some 176, none, .pick (.t 174) (.t 175) (.c (.bool false))⟩,
    ⟨some 177, none, .mv (.t 176)⟩,
    ⟨some 178, some (177, true), .mv (.t 2)⟩,
    ⟨some 179, some (177, true), .call 43 [.t 178, .c (.int .i64 2)]⟩,
    ⟨some 180, some (177, true), .lenL (.t 179)⟩,
    ⟨some 181, some (177, true), .bin .eql (.t 180) (.c (.int .i64 1))⟩,
    ⟨some 182, none, .pick (.t 177) (.t 181) (.c (.bool false))⟩,
    ⟨some 183, none, .mv (.t 182)⟩,
    ⟨some 184, some (183, true), .mv (.t 7)⟩,
    ⟨some 185, some (183, true), .call 23 [.t 184]⟩,
    ⟨some 186, some (183, true), .bin .eql (.t 185) (.c (.int .u64 2))⟩,
    ⟨some 187, none, .pick (.t 183) (.t 186) (.c (.bool false))⟩,
    ⟨some 0, none, .mv (.t 187)⟩])
  (.ret))))))))))))))),
  [.t 0]⟩
/-- messuage/word.Check -/
def rf9 : RFunc := ⟨.seq (.reg [⟨some 2, none, .box 5 (.t 0)⟩,
    ⟨some 4, none, .mv (.c (.int .i64 0))⟩])
  (.seq (.reg [⟨some 10, none, .ldA 5 (.t 2)⟩,
    ⟨some 11, none, .call 37 [.t 10]⟩,
    ⟨some 9, none, .mv (.t 11)⟩,
    ⟨some 12, none, .ex 0 (.t 9)⟩,
    ⟨some 13, none, .ex 1 (.t 9)⟩,
    ⟨some 5, none, .mv (.t 12)⟩,
    ⟨some 6, none, .mv (.t 13)⟩])
  (.seq (.seq (.reg [⟨some 14, none, .mv (.t 6)⟩,
    ⟨some 15, none, .un .not (.t 14)⟩])
  (.cond (.t 15) (.seq (.reg [⟨some 4, none, .mv (.c (.int .i64 1))⟩])
  (.ret))
  (.skip)))
  (.seq (.seq (.reg [⟨some 16, none, .mv (.t 5)⟩,
    ⟨some 17, none, .call 44 [.t 16]⟩,
    ⟨some 18, none, .lenL (.t 17)⟩,
    ⟨some 19, none, .mv (.c (.int .i64 0))⟩])
  (.block 0 (.loop (.seq (.reg [⟨some 20, none, .bin .lss (.t 19) (.t 18)⟩])
  (.seq (.cond (.t 20) (.skip)
  (.exit 0))
  (.seq (.block 1 (.seq (.reg [⟨some 21, none, .mv (.t 19)⟩,
    ⟨some 22, none, .ixaS 1 (.t 17) (.t 19)⟩,
    ⟨some 23, none, .ld1 (.t 22)⟩,
    ⟨some 7, none, .mv (.t 21)⟩,
    ⟨some 8, none, .mv (.t 23)⟩])
  (.seq (.reg [⟨some 24, none, .ldA 5 (.t 2)⟩,
    ⟨some 25, none, .mv (.t 7)⟩,
    ⟨some 26, none, .bin .add (.t 25) (.c (.int .i64 1))⟩,
    ⟨some 27, none, .mv (.t 8)⟩,
    ⟨some 28, none, .mv (.t 1)⟩,
    ⟨some 29, none, .call 45 [.t 24, .t 26, .t 27, .t 28]⟩,
    ⟨some 30, none, .un .not (.t 29)⟩])
  (.cond (.t 30) (.seq (.reg [⟨some 4, none, .mv (.c (.int .i64 2))⟩])
  (.ret))
  (.skip)))))
  (.reg [⟨some 31, none, .bin .add (.t 19) (.c (.int .i64 1))⟩,
    ⟨some 19, none, .mv (.t 31)⟩])))))))
  (.seq (.reg [⟨some 4, none, .mv (.c (.int .i64 0))⟩])
  (.ret))))),
  [.t 4]⟩
/-- messuage/messuageref2.Check -/
def rf10 : RFunc := ⟨.seq (.reg [⟨some 2, none, .box 5 (.t 0)⟩,
    ⟨some 4, none, .mv (.c (.int .i64 0))⟩])
  (.seq (.reg [⟨some 12, none, .ldA 5 (.t 2)⟩,
    ⟨some 13, none, .call 46 [.t 12]⟩,
    ⟨some 11, none, .mv (.t 13)⟩,
    ⟨some 14, none, .ex 0 (.t 11)⟩,
    ⟨some 15, none, .ex 1 (.t 11)⟩,
    ⟨some 5, none, .mv (.t 14)⟩,
    ⟨some 6, none, .mv (.t 15)⟩])
  (.seq (.seq (.reg [⟨some 16, none, .mv (.t 6)⟩,
    ⟨some 17, none, .un .not (.t 16)⟩])
  (.cond (.t 17) (.seq (.reg [⟨some 4, none, .mv (.c (.int .i64 1))⟩])
  (.ret))
  (.skip)))
  (.seq (.reg [⟨some 18, none, .mv (.t 5)⟩,
    ⟨some 19, none, .call 47 [.t 18]⟩,
    ⟨some 7, none, .mv (.t 19)⟩])
  (.seq (.seq (.reg [⟨some 8, none, .mv (.c (.int .i64 0))⟩])
  (.block 0 (.loop (.seq (.seq (.reg [⟨some 20, none, .mv (.t 8)⟩,
    ⟨some 21, none, .mv (.t 7)⟩,
    ⟨some 22, none, .lenS (.t 21)⟩,
    ⟨some 23, none, .bin .lss (.t 20) (.t 22)⟩])
  (.cond (.t 23) (.skip)
  (.exit 0)))
  (.seq (.block 1 (.seq (.reg [⟨some 26, none, .mv (.t 8)⟩,
    ⟨some 27, none, .bin .add (.t 26) (.c (.int .i64 1))⟩,
    ⟨some 28, none, .ixaA 5 1 (.t 2) (.t 27)⟩,
    ⟨some 29, none, .ld1 (.t 28)⟩,
    ⟨some 9, none, .mv (.t 29)⟩])
  (.seq (.reg [⟨some 10, none, .mv (.c (.bool false))⟩])
  (.seq (.seq (.reg [⟨some 30, none, .mv (.t 7)⟩,
    ⟨some 31, none, .mv (.t 8)⟩,
    ⟨some 32, none, .ixS (.t 30) (.t 31)⟩])
  (.block 2 (.seq (.reg [⟨some 34, none, .bin .eql (.t 32) (.c (.int .u8 115))⟩,
    ⟨some 33, none, .mv (.t 34)⟩])
  (.cond (.t 33) (.reg [⟨some 35, none, .mv (.t 9)⟩,
    ⟨some 36, none, .bin .geq (.t 35) (.c (.int .u64 8))⟩,
    ⟨some 10, none, .mv (.t 36)⟩])
  (.seq (.reg [⟨some 38, none, .bin .eql (.t 32) (.c (.int .u8 112))⟩,
    ⟨some 37, none, .mv (.t 38)⟩])
  (.cond (.t 37) (.reg [⟨some 39, none, .mv (.t 9)⟩,
    ⟨some 40, none, .bin .geq (.t 39) (.c (.int .u64 8))⟩,
    ⟨some 10, none, .mv (.t 40)⟩])
  (.seq (.reg [⟨some 42, none, .bin .eql (.t 32) (.c (.int .u8 119))⟩,
    ⟨some 41, none, .mv (.t 42)⟩])
  (.cond (.t 41) (.reg [⟨some 43, none, .mv (.t 9)⟩,
    ⟨some 44, none, .bin .geq (.t 43) (.c (.int .u64 16))⟩,
    ⟨some 10, none, .mv (.t 44)⟩])
  (.seq (.reg [⟨some 46, none, .bin .eql (.t 32) (.c (.int .u8 101))⟩,
    ⟨some 45, none, .mv (.t 46)⟩])
  (.cond (.t 45) (.reg [⟨some 47, none, .mv (.t 1)⟩,
    ⟨some 48, none, .bin .lss (.t 47) (.c (.int .i64 1))⟩,
    ⟨some 49, none, .mv (.t 48)⟩,
    ⟨some 50, some (49, false), .mv (.t 9)⟩,
    ⟨some 51, some (49, false), .mv (.t 1)⟩,
    ⟨some 52, some (49, false), .cvi .u64 (.t 51)⟩,
    ⟨some 53, some (49, false), .bin .geq (.t 50) (.t 52)⟩,
    ⟨some 54, none, .pick (.t 49) (.c (.bool true)) (.t 53)⟩,
    ⟨some 10, none, .mv (.t 54)⟩])
  (.seq (.reg [⟨some 56, none, .bin .eql (.t 32) (.c (.int .u8 114))⟩,
    ⟨some 55, none, .mv (.t 56)⟩])
  (.cond (.t 55) (.reg [⟨some 57, none, .mv (.t 9)⟩,
    ⟨some 58, none, .bin .lss (.t 57) (.c (.int .u64 1))⟩,
    ⟨some 59, none, .mv (.t 58)⟩,
    ⟨some 60, some (59, false), .mv (.t 9)⟩,
    ⟨some 61, some (59, false), .bin .gtr (.t 60) (.c (.int .u64 3))⟩,
    ⟨some 62, none, .pick (.t 59) (.c (.bool true)) (.t 61)⟩,
    ⟨some 10, none, .mv (.t 62)⟩])
  (.seq (.reg [⟨some 64, none, .bin .eql (.t 32) (.c (.int .u8 111))⟩,
    ⟨some 63, none, .mv (.t 64)⟩])
  (.cond (.t 63) (.reg [⟨some 65, none, .mv (.t 9)⟩,
    ⟨some 66, none, .bin .lss (.t 65) (.c (.int .u64 1))⟩,
    ⟨some 67, none, .mv (.t 66)⟩,
    ⟨some 68, some (67, false), .mv (.t 9)⟩,
    ⟨some 69, some (67, false), .bin .gtr (.t 68) (.c (.int .u64 4))⟩,
    ⟨some 70, none, .pick (.t 67) (.c (.bool true)) (.t 69)⟩,
    ⟨some 10, none, .mv (.t 70)⟩])
  (.skip)))))))))))))))
  (.seq (.reg [⟨some 71, none, .mv (.t 10)⟩])
  (.cond (.t 71) (.seq (.reg [⟨some 4, none, .mv (.c (.int .i64 2))⟩])
  (.ret))
  (.skip)))))))
  (.reg [⟨some 24, none, .mv (.t 8)⟩,
    ⟨some 25, none, .bin .add (.t 24) (.c (.int .i64 1))⟩,
    ⟨some 8, none, .mv (.t 25)⟩]))))))
  (.seq (.reg [⟨some 4, none, .mv (.c (.int .i64 0))⟩])
  (.ret)))))),
  [.t 4]⟩
/-- messuage/mail.New -/
def rf11 : RFunc := ⟨.seq (.reg [⟨some 2, none, .mv (.c (.nilp))⟩])
  (.seq (.seq (.reg [⟨some 3, none, .mv (.t 0)⟩,
    ⟨some 4, none, .bin .lss (.t 3) (.c (.int .i64 1))⟩,
    ⟨some 5, none, .mv (.t 4)⟩,
    ⟨some 6, some (5, false), .mv (.t 0)⟩,
    ⟨some 7, some (5, false), .bin .gtr (.t 6) (.c (.int .i64 8))⟩,
    ⟨some 8, none, .pick (.t 5) (.c (.bool true)) (.t 7)⟩])
  (.cond (.t 8) (.seq (.reg [⟨some 2, none, .mv (.c (.nilp))⟩])
  (.ret))
  (.skip)))
  (.seq (.reg [⟨some 9, none, .mv (.t 0)⟩,
    ⟨some 10, none, .mksl 1 24 [.nils] (.t 9) (.t 9)⟩,
    ⟨some 11, none, .build [.nils] [(0, 1, .t 10)]⟩,
    ⟨some 12, none, .box 1 (.t 11)⟩,
    ⟨some 2, none, .mv (.t 12)⟩])
  (.ret))),
  [.t 2]⟩
/-- (*messuage/mail.Mail).Send -/
def rf12 : RFunc := ⟨.seq (.reg [⟨some 8, none, .mv (.c (.bool false))⟩])
  (.seq (.seq (.reg [⟨some 11, none, .mv (.t 0)⟩,
    ⟨some 12, none, .mv (.t 1)⟩,
    ⟨some 13, none, .call 48 [.t 11, .t 12]⟩,
    ⟨some 14, none, .un .not (.t 13)⟩,
    ⟨some 15, none, .mv (.t 14)⟩,
    ⟨some 16, some (15, false), .mv (.t 0)⟩,
    ⟨some 17, some (15, false), .mv (.t 2)⟩,
    ⟨some 18, some (15, false), .call 48 [.t 16, .t 17]⟩,
    ⟨some 19, some (15, false), .un .not (.t 18)⟩,
    ⟨some 20, none, .pick (.t 15) (.c (.bool true)) (.t 19)⟩,
    ⟨some 21, none, .mv (.t 20)⟩,
    ⟨some 22, some (21, false), .mv (.t 1)⟩,
    ⟨some 23, some (21, false), .mv (.t 2)⟩,
    ⟨some 24, some (21, false), .bin .eql (.t 22) (.t 23)⟩,
    ⟨some 25, none, .pick (.t 21) (.c (.bool true)) (.t 24)⟩])
  (.cond (.t 25) (.seq (.reg [⟨some 8, none, .mv (.c (.bool false))⟩])
  (.ret))
  (.skip)))
  (.seq (.seq (.reg [⟨some 27, none, .mv (.t 0)⟩,
    ⟨some 28, none, .nilck (.t 27)⟩,
    ⟨some 29, none, .fadd 0 (.t 28)⟩,
    ⟨some 30, none, .ld1 (.t 29)⟩,
    ⟨some 31, none, .mv (.t 2)⟩,
    ⟨some 32, none, .ixaS 1 (.t 30) (.t 31)⟩,
    ⟨some 33, none, .ld1 (.t 32)⟩,
    ⟨some 34, none, .mv (.t 3)⟩,
    ⟨some 35, none, .call 49 [.t 33, .t 34]⟩,
    ⟨some 26, none, .mv (.t 35)⟩,
    ⟨some 36, none, .ex 0 (.t 26)⟩,
    ⟨some 37, none, .ex 1 (.t 26)⟩,
    ⟨some 9, none, .mv (.t 36)⟩,
    ⟨some 10, none, .mv (.t 37)⟩])
  (.seq (.reg [⟨some 38, none, .mv (.t 10)⟩,
    ⟨some 39, none, .un .not (.t 38)⟩])
  (.cond (.t 39) (.drw [⟨some 40, none, .mv (.t 0)⟩,
    ⟨some 41, none, .nilck (.t 40)⟩,
    ⟨some 42, none, .fadd 0 (.t 41)⟩,
    ⟨some 43, none, .ld1 (.t 42)⟩,
    ⟨some 44, none, .mv (.t 2)⟩,
    ⟨some 45, none, .mv (.t 0)⟩,
    ⟨some 46, none, .nilck (.t 45)⟩,
    ⟨some 47, none, .fadd 0 (.t 46)⟩,
    ⟨some 48, none, .ld1 (.t 47)⟩,
    ⟨some 49, none, .mv (.t 2)⟩,
    ⟨some 50, none, .ixaS 1 (.t 48) (.t 49)⟩,
    ⟨some 51, none, .ld1 (.t 50)⟩,
    ⟨some 52, none, .mv (.t 9)⟩,
    ⟨some 53, none, .mv (.t 3)⟩,
    ⟨some 54, none, .bsl 1 [.int .u64 0] 1 [(0, 1, .t 53)]⟩,
    ⟨some 55, none, .call 50 [.t 51, .t 52, .t 54]⟩,
    ⟨some 56, none, .ixaS 1 (.t 43) (.t 44)⟩,
    ⟨none, none, .st 1 (.t 56) (.t 55)⟩] [(3, 15)])
  (.skip))))
  (.seq (.reg [⟨some 8, none, .mv (.c (.bool true))⟩])
  (.ret)))),
  [.t 8]⟩
/-- messuage/messuagelaw2.put -/
def rf13 : RFunc := ⟨.seq (.reg [⟨some 4, none, .mv (.c (.nils))⟩])
  (.seq (.reg [⟨some 5, none, .mv (.c (.int .i64 0))⟩])
  (.seq (.block 0 (.loop (.seq (.seq (.reg [⟨some 6, none, .mv (.t 5)⟩,
    ⟨some 7, none, .mv (.t 0)⟩,
    ⟨some 8, none, .lenL (.t 7)⟩,
    ⟨some 9, none, .bin .lss (.t 6) (.t 8)⟩,
    ⟨some 10, none, .mv (.t 9)⟩,
    ⟨some 11, some (10, true), .mv (.t 0)⟩,
    ⟨some 12, some (10, true), .mv (.t 5)⟩,
    ⟨some 13, some (10, true), .ixaS 1 (.t 11) (.t 12)⟩,
    ⟨some 14, some (10, true), .ld1 (.t 13)⟩,
    ⟨some 15, some (10, true), .mv (.t 1)⟩,
    ⟨some 16, some (10, true), .bin .lss (.t 14) (.t 15)⟩,
    ⟨some 17, none, .pick (.t 10) (.t 16) (.c (.bool false))⟩])
  (.cond (.t 17) (.skip)
  (.exit 0)))
  (.block 1 (.reg [⟨some 18, none, .mv (.t 5)⟩,
    ⟨some 19, none, .bin .add (.t 18) (.c (.int .i64 1))⟩,
    ⟨some 5, none, .mv (.t 19)⟩])))))
  (.seq (.seq (.reg [⟨some 20, none, .mv (.t 5)⟩,
    ⟨some 21, none, .mv (.t 0)⟩,
    ⟨some 22, none, .lenL (.t 21)⟩,
    ⟨some 23, none, .bin .lss (.t 20) (.t 22)⟩,
    ⟨some 24, none, .mv (.t 23)⟩,
    ⟨some 25, some (24, true), .mv (.t 0)⟩,
    ⟨some 26, some (24, true), .mv (.t 5)⟩,
    ⟨some 27, some (24, true), .ixaS 1 (.t 25) (.t 26)⟩,
    ⟨some 28, some (24, true), .ld1 (.t 27)⟩,
    ⟨some 29, some (24, true), .mv (.t 1)⟩,
    ⟨some 30, some (24, true), .bin .eql (.t 28) (.t 29)⟩,
    ⟨some 31, none, .pick (.t 24) (.t 30) (.c (.bool false))⟩])
  (.cond (.t 31) (.seq (.reg [⟨some 32, none, .mv (.t 0)⟩,
    ⟨some 4, none, .mv (.t 32)⟩])
  (.ret))
  (.skip)))
  (.seq (.drw [⟨some 33, none, .mv (.t 0)⟩,
    ⟨some 34, none, .mv (.t 5)⟩,
    ⟨some 35, none, .slSlc 1 (.t 33) none (some (.t 34)) none⟩,
    ⟨some 36, none, .app 1 8 (.c (.nils)) (.t 35)⟩,
    ⟨some 37, none, .mv (.t 1)⟩,
    ⟨some 38, none, .bsl 1 [.int .u64 0] 1 [(0, 1, .t 37)]⟩,
    ⟨some 39, none, .app 1 8 (.t 36) (.t 38)⟩,
    ⟨some 40, none, .mv (.t 0)⟩,
    ⟨some 41, none, .mv (.t 5)⟩,
    ⟨some 42, none, .slSlc 1 (.t 40) (some (.t 41)) none none⟩,
    ⟨some 43, none, .app 1 8 (.t 39) (.t 42)⟩,
    ⟨some 4, none, .mv (.t 43)⟩] [(5, 3)])
  (.ret))))),
  [.t 4]⟩
/-- (*messuage/mail.Mail).Take -/
def rf14 : RFunc := ⟨.seq (.reg [⟨some 4, none, .mv (.c (.int .u64 0))⟩,
    ⟨some 5, none, .mv (.c (.bool false))⟩])
  (.seq (.seq (.reg [⟨some 7, none, .mv (.t 0)⟩,
    ⟨some 8, none, .mv (.t 1)⟩,
    ⟨some 9, none, .call 15 [.t 7, .t 8]⟩,
    ⟨some 10, none, .bin .eql (.t 9) (.c (.int .i64 0))⟩])
  (.cond (.t 10) (.seq (.reg [⟨some 4, none, .mv (.c (.int .u64 0))⟩,
    ⟨some 5, none, .mv (.c (.bool false))⟩])
  (.ret))
  (.skip)))
  (.seq (.reg [⟨some 11, none, .mv (.t 0)⟩,
    ⟨some 12, none, .nilck (.t 11)⟩,
    ⟨some 13, none, .fadd 0 (.t 12)⟩,
    ⟨some 14, none, .ld1 (.t 13)⟩,
    ⟨some 15, none, .mv (.t 1)⟩,
    ⟨some 16, none, .ixaS 1 (.t 14) (.t 15)⟩,
    ⟨some 17, none, .ld1 (.t 16)⟩,
    ⟨some 18, none, .ixaS 1 (.t 17) (.c (.int .i64 0))⟩,
    ⟨some 19, none, .ld1 (.t 18)⟩,
    ⟨some 6, none, .mv (.t 19)⟩])
  (.seq (.drw [⟨some 20, none, .mv (.t 0)⟩,
    ⟨some 21, none, .nilck (.t 20)⟩,
    ⟨some 22, none, .fadd 0 (.t 21)⟩,
    ⟨some 23, none, .ld1 (.t 22)⟩,
    ⟨some 24, none, .mv (.t 1)⟩,
    ⟨some 25, none, .mv (.t 0)⟩,
    ⟨some 26, none, .nilck (.t 25)⟩,
    ⟨some 27, none, .fadd 0 (.t 26)⟩,
    ⟨some 28, none, .ld1 (.t 27)⟩,
    ⟨some 29, none, .mv (.t 1)⟩,
    ⟨some 30, none, .ixaS 1 (.t 28) (.t 29)⟩,
    ⟨some 31, none, .ld1 (.t 30)⟩,
    ⟨some 32, none, .slSlc 1 (.t 31) (some (.c (.int .i64 1))) none none⟩,
    ⟨some 33, none, .ixaS 1 (.t 23) (.t 24)⟩,
    ⟨none, none, .st 1 (.t 33) (.t 32)⟩] [])
  (.seq (.reg [⟨some 34, none, .mv (.t 6)⟩,
    ⟨some 4, none, .mv (.t 34)⟩,
    ⟨some 5, none, .mv (.c (.bool true))⟩])
  (.ret))))),
  [.t 4, .t 5]⟩
/-- (*messuage/mail.Mail).Waits -/
def rf15 : RFunc := ⟨.seq (.reg [⟨some 4, none, .mv (.c (.int .i64 0))⟩])
  (.seq (.seq (.reg [⟨some 5, none, .mv (.t 0)⟩,
    ⟨some 6, none, .mv (.t 1)⟩,
    ⟨some 7, none, .call 48 [.t 5, .t 6]⟩,
    ⟨some 8, none, .un .not (.t 7)⟩])
  (.cond (.t 8) (.seq (.reg [⟨some 4, none, .mv (.c (.int .i64 0))⟩])
  (.ret))
  (.skip)))
  (.seq (.reg [⟨some 9, none, .mv (.t 0)⟩,
    ⟨some 10, none, .nilck (.t 9)⟩,
    ⟨some 11, none, .fadd 0 (.t 10)⟩,
    ⟨some 12, none, .ld1 (.t 11)⟩,
    ⟨some 13, none, .mv (.t 1)⟩,
    ⟨some 14, none, .ixaS 1 (.t 12) (.t 13)⟩,
    ⟨some 15, none, .ld1 (.t 14)⟩,
    ⟨some 16, none, .lenL (.t 15)⟩,
    ⟨some 4, none, .mv (.t 16)⟩])
  (.ret))),
  [.t 4]⟩
/-- messuage/tlb.New -/
def rf16 : RFunc := ⟨.seq (.reg [⟨some 0, none, .mv (.c (.nilp))⟩])
  (.seq (.reg [⟨some 2, none, .build [.int .i64 0, .int .i64 0, .int .i64 0, .int .i64 0, .int .i64 0, .int .i64 0, .int .i64 0, .int .i64 0, .int .i64 0, .int .i64 0, .int .i64 0, .int .i64 0, .int .i64 0, .int .i64 0, .int .i64 0, .int .i64 0, .int .i64 0, .int .i64 0, .int .i64 0, .int .i64 0, .int .i64 0, .int .i64 0, .int .i64 0, .int .i64 0, .int .i64 0, .int .i64 0, .int .i64 0, .int .i64 0, .int .i64 0, .int .i64 0, .int .i64 0, .int .i64 0, .int .i64 0, .int .i64 0, .int .i64 0, .int .i64 0, .int .i64 0, .int .i64 0, .int .i64 0, .int .i64 0, .int .i64 0] []⟩,
    ⟨some 3, none, .box 41 (.t 2)⟩,
    ⟨some 1, none, .mv (.t 3)⟩])
  (.seq (.reg [⟨some 4, none, .mv (.t 1)⟩,
    ⟨some 5, none, .call 51 [.t 4]⟩])
  (.seq (.reg [⟨some 6, none, .mv (.t 1)⟩,
    ⟨some 0, none, .mv (.t 6)⟩])
  (.ret)))),
  [.t 0]⟩
/-- (*messuage/tlb.Tlb).Fill -/
def rf17 : RFunc := ⟨.seq (.reg [⟨some 3, none, .box 4 (.t 1)⟩,
    ⟨some 4, none, .mv (.c (.bool false))⟩])
  (.seq (.reg [⟨some 7, none, .fadd 0 (.t 3)⟩,
    ⟨some 8, none, .ld1 (.t 7)⟩,
    ⟨some 9, none, .bin .lss (.t 8) (.c (.int .i64 0))⟩,
    ⟨some 10, none, .mv (.t 9)⟩,
    ⟨some 11, some (10, false), .fadd 0 (.t 3)⟩,
    ⟨some 12, some (10, false), .ld1 (.t 11)⟩,
    ⟨some 13, some (10, false), .bin .geq (.t 12) (.c (.int .i64 4))⟩,
    ⟨some 14, none, .pick (.t 10) (.c (.bool true)) (.t 13)⟩,
    ⟨some 15, none, .mv (.t 14)⟩,
    ⟨some 16, some (15, false), .fadd 1 (.t 3)⟩,
    ⟨some 17, some (15, false), .ld1 (.t 16)⟩,
    ⟨some 18, some (15, false), .bin .lss (.t 17) (.c (.int .i64 0))⟩,
    ⟨some 19, none, .pick (.t 15) (.c (.bool true)) (.t 18)⟩,
    ⟨some 20, none, .mv (.t 19)⟩,
    ⟨some 21, some (20, false), .fadd 1 (.t 3)⟩,
    ⟨some 22, some (20, false), .ld1 (.t 21)⟩,
    ⟨some 23, some (20, false), .bin .geq (.t 22) (.c (.int .i64 8))⟩,
    ⟨some 24, none, .pick (.t 20) (.c (.bool true)) (.t 23)⟩,
    ⟨some 25, none, .mv (.t 24)⟩,
    ⟨some 26, some (25, false), .fadd 2 (.t 3)⟩,
    ⟨some 27, some (25, false), .ld1 (.t 26)⟩,
    ⟨some 28, some (25, false), .bin .lss (.t 27) (.c (.int .i64 0))⟩,
    ⟨some 29, none, .pick (.t 25) (.c (.bool true)) (.t 28)⟩,
    ⟨some 30, none, .mv (.t 29)⟩,
    ⟨some 31, some (30, false), .fadd 2 (.t 3)⟩,
    ⟨some 32, some (30, false), .ld1 (.t 31)⟩,
    ⟨some 33, some (30, false), .bin .geq (.t 32) (.c (.int .i64 16))⟩,
    ⟨some 34, none, .pick (.t 30) (.c (.bool true)) (.t 33)⟩,
    ⟨some 5, none, .mv (.t 34)⟩])
  (.seq (.seq (.reg [⟨some 35, none, .mv (.t 0)⟩,
    ⟨some 36, none, .eq false (.sc .ptr) (.t 35) (.c (.nilp))⟩,
    ⟨some 37, none, .mv (.t 36)⟩,
    ⟨some 38, some (37, false), .mv (.t 5)⟩,
    ⟨some 39, none, .pick (.t 37) (.c (.bool true)) (.t 38)⟩,
    ⟨some 40, none, .mv (.t 39)⟩,
    ⟨some 41, some (40, false), .fadd 3 (.t 3)⟩,
    ⟨some 42, some (40, false), .ld1 (.t 41)⟩,
    ⟨some 43, some (40, false), .call 52 [.t 42]⟩,
    ⟨some 44, some (40, false), .un .not (.t 43)⟩,
    ⟨some 45, none, .pick (.t 40) (.c (.bool true)) (.t 44)⟩])
  (.cond (.t 45) (.seq (.reg [⟨some 4, none, .mv (.c (.bool false))⟩])
  (.ret))
  (.skip)))
  (.seq (.reg [⟨some 46, none, .mv (.t 0)⟩,
    ⟨some 47, none, .fadd 0 (.t 3)⟩,
    ⟨some 48, none, .ld1 (.t 47)⟩,
    ⟨some 49, none, .fadd 1 (.t 3)⟩,
    ⟨some 50, none, .ld1 (.t 49)⟩,
    ⟨some 51, none, .call 53 [.t 46, .t 48, .t 50]⟩,
    ⟨some 6, none, .mv (.t 51)⟩])
  (.seq (.seq (.reg [⟨some 52, none, .mv (.t 6)⟩,
    ⟨some 53, none, .eq false (.sc .ptr) (.t 52) (.c (.nilp))⟩])
  (.cond (.t 53) (.reg [⟨some 54, none, .mv (.t 0)⟩,
    ⟨some 55, none, .fadd 1 (.t 3)⟩,
    ⟨some 56, none, .ld1 (.t 55)⟩,
    ⟨some 57, none, .bin .rem (.t 56) (.c (.int .i64 4))⟩,
    ⟨some 58, none, .call 54 [.t 54, .t 57]⟩,
    ⟨some 6, none, .mv (.t 58)⟩])
  (.skip)))
  (.seq (.reg [⟨some 59, none, .mv (.t 0)⟩,
    ⟨some 60, none, .nilck (.t 59)⟩,
    ⟨some 61, none, .fadd 40 (.t 60)⟩,
    ⟨some 62, none, .ld1 (.t 61)⟩,
    ⟨some 63, none, .bin .add (.t 62) (.c (.int .i64 1))⟩,
    ⟨some 64, none, .nilck (.t 59)⟩,
    ⟨some 65, none, .fadd 40 (.t 64)⟩,
    ⟨none, none, .st 1 (.t 65) (.t 63)⟩])
  (.seq (.drw [⟨some 66, none, .mv (.t 6)⟩,
    ⟨some 67, none, .ldA 4 (.t 3)⟩,
    ⟨some 68, none, .mv (.t 0)⟩,
    ⟨some 69, none, .nilck (.t 68)⟩,
    ⟨some 70, none, .fadd 40 (.t 69)⟩,
    ⟨some 71, none, .ld1 (.t 70)⟩,
    ⟨some 72, none, .build [.int .i64 0, .int .i64 0, .int .i64 0, .int .i64 0, .int .i64 0] [(0, 4, .t 67), (4, 1, .t 71)]⟩,
    ⟨some 73, none, .nilck (.t 66)⟩,
    ⟨none, none, .st 5 (.t 73) (.t 72)⟩] [])
  (.seq (.reg [⟨some 4, none, .mv (.c (.bool true))⟩])
  (.ret)))))))),
  [.t 4]⟩
/-- (*messuage/tlb.Tlb).Lines -/
def rf18 : RFunc := ⟨.seq (.reg [⟨some 2, none, .mv (.c (.nils))⟩])
  (.seq (.seq (.reg [⟨some 7, none, .mv (.t 0)⟩,
    ⟨some 8, none, .eq false (.sc .ptr) (.t 7) (.c (.nilp))⟩])
  (.cond (.t 8) (.seq (.reg [⟨some 2, none, .mv (.c (.nils))⟩])
  (.ret))
  (.skip)))
  (.seq (.reg [⟨some 3, none, .mv (.c (.nils))⟩])
  (.seq (.seq (.reg [⟨some 9, none, .mv (.c (.int .i64 0))⟩])
  (.block 0 (.loop (.seq (.reg [⟨some 10, none, .bin .lss (.t 9) (.c (.int .i64 4))⟩])
  (.seq (.cond (.t 10) (.skip)
  (.exit 0))
  (.seq (.block 1 (.seq (.reg [⟨some 11, none, .mv (.t 9)⟩,
    ⟨some 4, none, .mv (.t 11)⟩])
  (.seq (.reg [⟨some 12, none, .mv (.t 0)⟩,
    ⟨some 13, none, .mv (.t 4)⟩,
    ⟨some 14, none, .nilck (.t 12)⟩,
    ⟨some 15, none, .fadd 0 (.t 14)⟩,
    ⟨some 16, none, .ixaA 4 10 (.t 15) (.t 13)⟩,
    ⟨some 17, none, .ldA 10 (.t 16)⟩,
    ⟨some 18, none, .mv (.c (.int .i64 0))⟩])
  (.block 2 (.loop (.seq (.reg [⟨some 19, none, .bin .lss (.t 18) (.c (.int .i64 2))⟩])
  (.seq (.cond (.t 19) (.skip)
  (.exit 2))
  (.seq (.block 3 (.seq (.reg [⟨some 20, none, .ixAA 2 5 (.t 17) (.t 18)⟩,
    ⟨some 6, none, .new [.int .i64 0, .int .i64 0, .int .i64 0, .int .i64 0, .int .i64 0]⟩,
    ⟨none, none, .st 5 (.t 6) (.t 20)⟩])
  (.reg [⟨some 21, none, .mv (.t 3)⟩,
    ⟨some 22, none, .fadd 0 (.t 6)⟩,
    ⟨some 23, none, .ldA 4 (.t 22)⟩,
    ⟨some 24, none, .bsl 4 [.int .i64 0, .int .i64 0, .int .i64 0, .int .i64 0] 1 [(0, 4, .t 23)]⟩,
    ⟨some 25, none, .app 4 32 (.t 21) (.t 24)⟩,
    ⟨some 3, none, .mv (.t 25)⟩])))
  (.reg [⟨some 26, none, .bin .add (.t 18) (.c (.int .i64 1))⟩,
    ⟨some 18, none, .mv (.t 26)⟩])))))))))
  (.reg [⟨some 27, none, .bin .add (.t 9) (.c (.int .i64 1))⟩,
    ⟨some 9, none, .mv (.t 27)⟩])))))))
  (.seq (.reg [⟨some 28, none, .mv (.t 3)⟩,
    ⟨some 2, none, .mv (.t 28)⟩])
  (.ret))))),
  [.t 2]⟩
/-- messuage/pool.New -/
def rf19 : RFunc := ⟨.seq (.reg [⟨some 2, none, .mv (.c (.nilp))⟩])
  (.seq (.seq (.reg [⟨some 3, none, .mv (.t 0)⟩,
    ⟨some 4, none, .bin .lss (.t 3) (.c (.int .i64 1))⟩,
    ⟨some 5, none, .mv (.t 4)⟩,
    ⟨some 6, some (5, false), .mv (.t 0)⟩,
    ⟨some 7, some (5, false), .bin .gtr (.t 6) (.c (.int .i64 16))⟩,
    ⟨some 8, none, .pick (.t 5) (.c (.bool true)) (.t 7)⟩])
  (.cond (.t 8) (.seq (.reg [⟨some 2, none, .mv (.c (.nilp))⟩])
  (.ret))
  (.skip)))
  (.seq (.reg [⟨some 9, none, .mv (.t 0)⟩,
    ⟨some 10, none, .mksl 1 8 [.int .i64 0] (.t 9) (.t 9)⟩,
    ⟨some 11, none, .build [.nils] [(0, 1, .t 10)]⟩,
    ⟨some 12, none, .box 1 (.t 11)⟩,
    ⟨some 2, none, .mv (.t 12)⟩])
  (.ret))),
  [.t 2]⟩
/-- (*messuage/pool.Pool).Take -/
def rf20 : RFunc := ⟨.seq (.reg [⟨some 2, none, .mv (.c (.int .i64 0))⟩,
    ⟨some 3, none, .mv (.c (.bool false))⟩])
  (.seq (.seq (.reg [⟨some 5, none, .mv (.t 0)⟩,
    ⟨some 6, none, .eq false (.sc .ptr) (.t 5) (.c (.nilp))⟩])
  (.cond (.t 6) (.seq (.reg [⟨some 2, none, .mv (.c (.int .i64 0))⟩,
    ⟨some 3, none, .mv (.c (.bool false))⟩])
  (.ret))
  (.skip)))
  (.seq (.reg [⟨some 7, none, .mv (.t 0)⟩,
    ⟨some 8, none, .nilck (.t 7)⟩,
    ⟨some 9, none, .fadd 0 (.t 8)⟩,
    ⟨some 10, none, .ld1 (.t 9)⟩,
    ⟨some 11, none, .call 55 [.t 10, .c (.int .i64 0)]⟩,
    ⟨some 4, none, .mv (.t 11)⟩])
  (.seq (.seq (.reg [⟨some 12, none, .mv (.t 4)⟩,
    ⟨some 13, none, .bin .lss (.t 12) (.c (.int .i64 0))⟩])
  (.cond (.t 13) (.seq (.reg [⟨some 2, none, .mv (.c (.int .i64 0))⟩,
    ⟨some 3, none, .mv (.c (.bool false))⟩])
  (.ret))
  (.skip)))
  (.seq (.reg [⟨some 14, none, .mv (.t 0)⟩,
    ⟨some 15, none, .nilck (.t 14)⟩,
    ⟨some 16, none, .fadd 0 (.t 15)⟩,
    ⟨some 17, none, .ld1 (.t 16)⟩,
    ⟨some 18, none, .mv (.t 4)⟩,
    ⟨some 19, none, .ixaS 1 (.t 17) (.t 18)⟩,
    ⟨none, none, .st 1 (.t 19) (.c (.int .i64 1))⟩])
  (.seq (.reg [⟨some 20, none, .mv (.t 4)⟩,
    ⟨some 2, none, .mv (.t 20)⟩,
    ⟨some 3, none, .mv (.c (.bool true))⟩])
  (.ret)))))),
  [.t 2, .t 3]⟩
/-- (*messuage/pool.Pool).Let -/
def rf21 : RFunc := ⟨.seq (.reg [⟨some 4, none, .mv (.c (.int .i64 0))⟩,
    ⟨some 5, none, .mv (.c (.bool false))⟩])
  (.seq (.seq (.reg [⟨some 6, none, .mv (.t 0)⟩,
    ⟨some 7, none, .mv (.t 1)⟩,
    ⟨some 8, none, .call 56 [.t 6, .t 7]⟩,
    ⟨some 9, none, .bin .eql (.t 8) (.c (.int .i64 0))⟩])
  (.cond (.t 9) (.seq (.reg [⟨some 4, none, .mv (.c (.int .i64 0))⟩,
    ⟨some 5, none, .mv (.c (.bool false))⟩])
  (.ret))
  (.skip)))
  (.seq (.reg [⟨some 10, none, .mv (.t 0)⟩,
    ⟨some 11, none, .nilck (.t 10)⟩,
    ⟨some 12, none, .fadd 0 (.t 11)⟩,
    ⟨some 13, none, .ld1 (.t 12)⟩,
    ⟨some 14, none, .mv (.t 1)⟩,
    ⟨some 15, none, .ixaS 1 (.t 13) (.t 14)⟩,
    ⟨some 16, none, .ld1 (.t 15)⟩,
    ⟨some 17, none, .bin .sub (.t 16) (.c (.int .i64 1))⟩,
    ⟨some 18, none, .ixaS 1 (.t 13) (.t 14)⟩,
    ⟨none, none, .st 1 (.t 18) (.t 17)⟩])
  (.seq (.reg [⟨some 19, none, .mv (.t 0)⟩,
    ⟨some 20, none, .nilck (.t 19)⟩,
    ⟨some 21, none, .fadd 0 (.t 20)⟩,
    ⟨some 22, none, .ld1 (.t 21)⟩,
    ⟨some 23, none, .mv (.t 1)⟩,
    ⟨some 24, none, .ixaS 1 (.t 22) (.t 23)⟩,
    ⟨some 25, none, .ld1 (.t 24)⟩,
    ⟨some 4, none, .mv (.t 25)⟩,
    ⟨some 5, none, .mv (.c (.bool true))⟩])
  (.ret)))),
  [.t 4, .t 5]⟩
/-- (*messuage/pool.Pool).Free -/
def rf22 : RFunc := ⟨.seq (.reg [⟨some 2, none, .mv (.c (.nils))⟩])
  (.seq (.seq (.reg [⟨some 6, none, .mv (.t 0)⟩,
    ⟨some 7, none, .eq false (.sc .ptr) (.t 6) (.c (.nilp))⟩])
  (.cond (.t 7) (.seq (.reg [⟨some 2, none, .mv (.c (.nils))⟩])
  (.ret))
  (.skip)))
  (.seq (.reg [⟨some 3, none, .mv (.c (.nils))⟩])
  (.seq (.seq (.reg [⟨some 8, none, .mv (.t 0)⟩,
    ⟨some 9, none, .nilck (.t 8)⟩,
    ⟨some 10, none, .fadd 0 (.t 9)⟩,
    ⟨some 11, none, .ld1 (.t 10)⟩,
    ⟨some 12, none, .lenL (.t 11)⟩,
    ⟨some 13, none, .mv (.c (.int .i64 0))⟩])
  (.block 0 (.loop (.seq (.reg [⟨some 14, none, .bin .lss (.t 13) (.t 12)⟩])
  (.seq (.cond (.t 14) (.skip)
  (.exit 0))
  (.seq (.block 1 (.seq (.reg [⟨some 15, none, .mv (.t 13)⟩,
    ⟨some 16, none, .ixaS 1 (.t 11) (.t 13)⟩,
    ⟨some 17, none, .ld1 (.t 16)⟩,
    ⟨some 4, none, .mv (.t 15)⟩,
    ⟨some 5, none, .mv (.t 17)⟩])
  (.seq (.reg [⟨some 18, none, .mv (.t 5)⟩,
    ⟨some 19, none, .bin .eql (.t 18) (.c (.int .i64 0))⟩])
  (.cond (.t 19) (.reg [⟨some 20, none, .mv (.t 3)⟩,
    ⟨some 21, none, .mv (.t 4)⟩,
    ⟨some 22, none, .bsl 1 [.int .i64 0] 1 [(0, 1, .t 21)]⟩,
    ⟨some 23, none, .app 1 8 (.t 20) (.t 22)⟩,
    ⟨some 3, none, .mv (.t 23)⟩])
  (.skip)))))
  (.reg [⟨some 24, none, .bin .add (.t 13) (.c (.int .i64 1))⟩,
    ⟨some 13, none, .mv (.t 24)⟩])))))))
  (.seq (.reg [⟨some 25, none, .mv (.t 3)⟩,
    ⟨some 2, none, .mv (.t 25)⟩])
  (.ret))))),
  [.t 2]⟩
/-- (*messuage/pool.Pool).Bits -/
def rf23 : RFunc := ⟨.seq (.reg [⟨some 2, none, .mv (.c (.int .u64 0))⟩])
  (.seq (.reg [⟨some 3, none, .mv (.c (.int .u64 0))⟩])
  (.seq (.seq (.reg [⟨some 6, none, .mv (.t 0)⟩,
    ⟨some 7, none, .call 22 [.t 6]⟩,
    ⟨some 8, none, .lenL (.t 7)⟩,
    ⟨some 9, none, .mv (.c (.int .i64 0))⟩])
  (.block 0 (.loop (.seq (.reg [⟨some 10, none, .bin .lss (.t 9) (.t 8)⟩])
  (.seq (.cond (.t 10) (.skip)
  (.exit 0))
  (.seq (.block 1 (.seq (.reg [⟨some 11, none, .ixaS 1 (.t 7) (.t 9)⟩,
    ⟨some 12, none, .ld1 (.t 11)⟩,
    ⟨some 5, none, .mv (.t 12)⟩])
  (.reg [⟨some 13, none, .mv (.t 3)⟩,
    ⟨some 14, none, .mv (.t 5)⟩,
    ⟨some 15, none, .bin .shl (.c (.int .u64 1)) (.t 14)⟩,
    ⟨some 16, none, .bin .or (.t 13) (.t 15)⟩,
    ⟨some 3, none, .mv (.t 16)⟩])))
  (.reg [⟨some 17, none, .bin .add (.t 9) (.c (.int .i64 1))⟩,
    ⟨some 9, none, .mv (.t 17)⟩])))))))
  (.seq (.reg [⟨some 18, none, .mv (.t 3)⟩,
    ⟨some 2, none, .mv (.t 18)⟩])
  (.ret)))),
  [.t 2]⟩
/-- messuage/mem.New -/
def rf24 : RFunc := ⟨.seq (.reg [⟨some 2, none, .mv (.c (.nilp))⟩])
  (.seq (.seq (.reg [⟨some 4, none, .mv (.t 0)⟩,
    ⟨some 5, none, .bin .lss (.t 4) (.c (.int .i64 1))⟩,
    ⟨some 6, none, .mv (.t 5)⟩,
    ⟨some 7, some (6, false), .mv (.t 0)⟩,
    ⟨some 8, some (6, false), .bin .gtr (.t 7) (.c (.int .i64 16))⟩,
    ⟨some 9, none, .pick (.t 6) (.c (.bool true)) (.t 8)⟩])
  (.cond (.t 9) (.seq (.reg [⟨some 2, none, .mv (.c (.nilp))⟩])
  (.ret))
  (.skip)))
  (.seq (.reg [⟨some 10, none, .build [.nils] []⟩,
    ⟨some 11, none, .box 1 (.t 10)⟩,
    ⟨some 3, none, .mv (.t 11)⟩])
  (.seq (.seq (.reg [⟨some 12, none, .mv (.t 0)⟩,
    ⟨some 13, none, .mv (.c (.int .i64 0))⟩])
  (.block 0 (.loop (.seq (.reg [⟨some 14, none, .bin .lss (.t 13) (.t 12)⟩])
  (.seq (.cond (.t 14) (.skip)
  (.exit 0))
  (.seq (.block 1 (.drw [⟨some 15, none, .mv (.t 3)⟩,
    ⟨some 16, none, .mv (.t 3)⟩,
    ⟨some 17, none, .nilck (.t 16)⟩,
    ⟨some 18, none, .fadd 0 (.t 17)⟩,
    ⟨some 19, none, .ld1 (.t 18)⟩,
    ⟨some 20, none, .mksl 1 8 [.int .u64 0] (.c (.int .i64 16)) (.c (.int .i64 16))⟩,
    ⟨some 21, none, .bsl 1 [.nils] 1 [(0, 1, .t 20)]⟩,
    ⟨some 22, none, .app 1 24 (.t 19) (.t 21)⟩,
    ⟨some 23, none, .nilck (.t 15)⟩,
    ⟨some 24, none, .fadd 0 (.t 23)⟩,
    ⟨none, none, .st 1 (.t 24) (.t 22)⟩] []))
  (.reg [⟨some 25, none, .bin .add (.t 13) (.c (.int .i64 1))⟩,
    ⟨some 13, none, .mv (.t 25)⟩])))))))
  (.seq (.reg [⟨some 26, none, .mv (.t 3)⟩,
    ⟨some 2, none, .mv (.t 26)⟩])
  (.ret))))),
  [.t 2]⟩
/-- (*messuage/mem.Mem).Store -/
def rf25 : RFunc := ⟨.seq (.reg [⟨some 8, none, .mv (.c (.bool false))⟩])
  (.seq (.reg [⟨some 10, none, .mv (.t 0)⟩,
    ⟨some 11, none, .mv (.t 1)⟩,
    ⟨some 12, none, .mv (.t 2)⟩,
    ⟨some 13, none, .call 57 [.t 10, .t 11, .t 12]⟩,
    ⟨some 9, none, .mv (.t 13)⟩])
  (.seq (.seq (.reg [⟨some 14, none, .mv (.t 9)⟩,
    ⟨some 15, none, .eq false (.sc .ptr) (.t 14) (.c (.nilp))⟩])
  (.cond (.t 15) (.seq (.reg [⟨some 8, none, .mv (.c (.bool false))⟩])
  (.ret))
  (.skip)))
  (.seq (.reg [⟨some 16, none, .mv (.t 9)⟩,
    ⟨some 17, none, .mv (.t 3)⟩,
    ⟨some 18, none, .nilck (.t 16)⟩,
    ⟨none, none, .st 1 (.t 18) (.t 17)⟩])
  (.seq (.reg [⟨some 8, none, .mv (.c (.bool true))⟩])
  (.ret))))),
  [.t 8]⟩
/-- (*messuage/mem.Mem).Frame -/
def rf26 : RFunc := ⟨.seq (.reg [⟨some 4, none, .mv (.c (.nils))⟩])
  (.seq (.seq (.reg [⟨some 5, none, .mv (.t 0)⟩,
    ⟨some 6, none, .mv (.t 1)⟩,
    ⟨some 7, none, .call 57 [.t 5, .t 6, .c (.int .i64 0)]⟩,
    ⟨some 8, none, .eq false (.sc .ptr) (.t 7) (.c (.nilp))⟩])
  (.cond (.t 8) (.seq (.reg [⟨some 4, none, .mv (.c (.nils))⟩])
  (.ret))
  (.skip)))
  (.seq (.reg [⟨some 9, none, .mv (.t 0)⟩,
    ⟨some 10, none, .nilck (.t 9)⟩,
    ⟨some 11, none, .fadd 0 (.t 10)⟩,
    ⟨some 12, none, .ld1 (.t 11)⟩,
    ⟨some 13, none, .mv (.t 1)⟩,
    ⟨some 14, none, .ixaS 1 (.t 12) (.t 13)⟩,
    ⟨some 15, none, .ld1 (.t 14)⟩,
    ⟨some 16, none, .call 58 [.t 15]⟩,
    ⟨some 4, none, .mv (.t 16)⟩])
  (.ret))),
  [.t 4]⟩
/-- (*messuage/mem.Mem).Zero -/
def rf27 : RFunc := ⟨.seq (.reg [⟨some 4, none, .mv (.c (.bool false))⟩])
  (.seq (.seq (.reg [⟨some 5, none, .mv (.t 0)⟩,
    ⟨some 6, none, .mv (.t 1)⟩,
    ⟨some 7, none, .call 57 [.t 5, .t 6, .c (.int .i64 0)]⟩,
    ⟨some 8, none, .eq false (.sc .ptr) (.t 7) (.c (.nilp))⟩])
  (.cond (.t 8) (.seq (.reg [⟨some 4, none, .mv (.c (.bool false))⟩])
  (.ret))
  (.skip)))
  (.seq (.reg [⟨some 9, none, .mv (.t 0)⟩,
    ⟨some 10, none, .nilck (.t 9)⟩,
    ⟨some 11, none, .fadd 0 (.t 10)⟩,
    ⟨some 12, none, .ld1 (.t 11)⟩,
    ⟨some 13, none, .mv (.t 1)⟩,
    ⟨some 14, none, .ixaS 1 (.t 12) (.t 13)⟩,
    ⟨some 15, none, .ld1 (.t 14)⟩,
    ⟨none, none, .clr [.int .u64 0] (.t 15)⟩])
  (.seq (.reg [⟨some 4, none, .mv (.c (.bool true))⟩])
  (.ret)))),
  [.t 4]⟩
/-- messuage/table.New -/
def rf28 : RFunc := ⟨.seq (.reg [⟨some 0, none, .mv (.c (.nilp))⟩])
  (.seq (.reg [⟨some 1, none, .build [.int .i64 0, .int .i64 0, .int .i64 0, .int .i64 0, .int .i64 0, .int .i64 0, .int .i64 0, .int .i64 0, .int .i64 0, .int .i64 0, .int .i64 0, .int .i64 0, .int .i64 0, .int .i64 0, .int .i64 0, .int .i64 0, .int .i64 0, .int .i64 0, .int .i64 0, .int .i64 0, .int .i64 0, .int .i64 0, .int .i64 0, .int .i64 0] []⟩,
    ⟨some 2, none, .box 24 (.t 1)⟩,
    ⟨some 0, none, .mv (.t 2)⟩])
  (.ret)),
  [.t 0]⟩
/-- messuage/cell.New -/
def rf29 : RFunc := ⟨.seq (.reg [⟨some 2, none, .mv (.c (.nilp))⟩])
  (.seq (.reg [⟨some 3, none, .mv (.t 0)⟩,
    ⟨some 4, none, .build [.int .u64 0, .int .i64 0] [(0, 1, .t 3)]⟩,
    ⟨some 5, none, .box 2 (.t 4)⟩,
    ⟨some 2, none, .mv (.t 5)⟩])
  (.ret)),
  [.t 2]⟩
/-- messuage/ticket.New -/
def rf30 : RFunc := ⟨.seq (.reg [⟨some 0, none, .mv (.c (.nilp))⟩])
  (.seq (.reg [⟨some 1, none, .call 29 [.c (.int .u64 0)]⟩,
    ⟨some 2, none, .call 29 [.c (.int .u64 0)]⟩,
    ⟨some 3, none, .build [.nilp, .nilp] [(0, 1, .t 1), (1, 1, .t 2)]⟩,
    ⟨some 4, none, .box 2 (.t 3)⟩,
    ⟨some 0, none, .mv (.t 4)⟩])
  (.ret)),
  [.t 0]⟩
/-- (*messuage/table.Table).Insert -/
def rf31 : RFunc := ⟨.seq (.reg [⟨some 5, none, .box 3 (.t 2)⟩,
    ⟨some 6, none, .mv (.c (.int .i64 0))⟩])
  (.seq (.seq (.reg [⟨some 9, none, .mv (.t 0)⟩,
    ⟨some 10, none, .eq false (.sc .ptr) (.t 9) (.c (.nilp))⟩])
  (.cond (.t 10) (.seq (.reg [⟨some 6, none, .mv (.c (.int .i64 10))⟩])
  (.ret))
  (.skip)))
  (.seq (.seq (.reg [⟨some 12, none, .ldA 3 (.t 5)⟩,
    ⟨some 13, none, .call 32 [.t 12]⟩,
    ⟨some 11, none, .mv (.t 13)⟩,
    ⟨some 14, none, .ex 0 (.t 11)⟩,
    ⟨some 15, none, .ex 1 (.t 11)⟩,
    ⟨some 7, none, .mv (.t 14)⟩,
    ⟨some 8, none, .mv (.t 15)⟩])
  (.seq (.reg [⟨some 16, none, .mv (.t 8)⟩,
    ⟨some 17, none, .un .not (.t 16)⟩,
    ⟨some 18, none, .mv (.t 17)⟩,
    ⟨some 19, some (18, false), .fadd 2 (.t 5)⟩,
    ⟨some 20, some (18, false), .ld1 (.t 19)⟩,
    ⟨some 21, some (18, false), .bin .eql (.t 20) (.c (.int .i64 0))⟩,
    ⟨some 22, none, .pick (.t 18) (.c (.bool true)) (.t 21)⟩,
    ⟨some 23, none, .mv (.t 22)⟩,
    ⟨some 24, some (23, false), .mv (.t 1)⟩,
    ⟨some 25, some (23, false), .call 59 [.t 24]⟩,
    ⟨some 26, some (23, false), .un .not (.t 25)⟩,
    ⟨some 27, none, .pick (.t 23) (.c (.bool true)) (.t 26)⟩])
  (.cond (.t 27) (.seq (.reg [⟨some 6, none, .mv (.c (.int .i64 2))⟩])
  (.ret))
  (.skip))))
  (.seq (.seq (.reg [⟨some 28, none, .mv (.t 0)⟩,
    ⟨some 29, none, .mv (.t 1)⟩,
    ⟨some 30, none, .nilck (.t 28)⟩,
    ⟨some 31, none, .fadd 0 (.t 30)⟩,
    ⟨some 32, none, .ixaA 8 3 (.t 31) (.t 29)⟩,
    ⟨some 33, none, .fadd 2 (.t 32)⟩,
    ⟨some 34, none, .ld1 (.t 33)⟩,
    ⟨some 35, none, .bin .neq (.t 34) (.c (.int .i64 0))⟩])
  (.cond (.t 35) (.seq (.reg [⟨some 6, none, .mv (.c (.int .i64 4))⟩])
  (.ret))
  (.skip)))
  (.seq (.drw [⟨some 36, none, .mv (.t 0)⟩,
    ⟨some 37, none, .mv (.t 1)⟩,
    ⟨some 38, none, .ldA 3 (.t 5)⟩,
    ⟨some 39, none, .nilck (.t 36)⟩,
    ⟨some 40, none, .fadd 0 (.t 39)⟩,
    ⟨some 41, none, .ixaA 8 3 (.t 40) (.t 37)⟩,
    ⟨none, none, .st 3 (.t 41) (.t 38)⟩] [])
  (.seq (.reg [⟨some 6, none, .mv (.c (.int .i64 0))⟩])
  (.ret)))))),
  [.t 6]⟩
/-- messuage/pte.Put -/
def rf32 : RFunc := ⟨.seq (.reg [⟨some 1, none, .box 3 (.t 0)⟩,
    ⟨some 2, none, .mv (.c (.int .u64 0))⟩,
    ⟨some 3, none, .mv (.c (.bool false))⟩])
  (.seq (.seq (.reg [⟨some 4, none, .ldA 3 (.t 1)⟩,
    ⟨some 5, none, .build [.int .i64 0, .int .i64 0, .int .i64 0] []⟩,
    ⟨some 6, none, .eq false (.flat [(0, .int), (1, .int), (2, .int)]) (.t 4) (.t 5)⟩])
  (.cond (.t 6) (.seq (.reg [⟨some 2, none, .mv (.c (.int .u64 0))⟩,
    ⟨some 3, none, .mv (.c (.bool true))⟩])
  (.ret))
  (.skip)))
  (.seq (.seq (.reg [⟨some 7, none, .fadd 0 (.t 1)⟩,
    ⟨some 8, none, .ld1 (.t 7)⟩,
    ⟨some 9, none, .bin .lss (.t 8) (.c (.int .i64 0))⟩,
    ⟨some 10, none, .mv (.t 9)⟩,
    ⟨some 11, some (10, false), .fadd 0 (.t 1)⟩,
    ⟨some 12, some (10, false), .ld1 (.t 11)⟩,
    ⟨some 13, some (10, false), .bin .geq (.t 12) (.c (.int .i64 16))⟩,
    ⟨some 14, none, .pick (.t 10) (.c (.bool true)) (.t 13)⟩,
    ⟨some 15, none, .mv (.t 14)⟩,
    ⟨some 16, some (15, false), .fadd 1 (.t 1)⟩,
    ⟨some 17, some (15, false), .ld1 (.t 16)⟩,
    ⟨some 18, some (15, false), .bin .lss (.t 17) (.c (.int .i64 0))⟩,
    ⟨some 19, none, .pick (.t 15) (.c (.bool true)) (.t 18)⟩,
    ⟨some 20, none, .mv (.t 19)⟩,
    ⟨some 21, some (20, false), .fadd 1 (.t 1)⟩,
    ⟨some 22, some (20, false), .ld1 (.t 21)⟩,
    ⟨some 23, some (20, false), .bin .geq (.t 22) (.c (.int .i64 8))⟩,
    ⟨some 24, none, .pick (.t 20) (.c (.bool true)) (.t 23)⟩,
    ⟨some 25, none, .mv (.t 24)⟩,
    ⟨some 26, some (25, false), .fadd 2 (.t 1)⟩,
    ⟨some 27, some (25, false), .ld1 (.t 26)⟩,
    ⟨some 28, some (25, false), .call 52 [.t 27]⟩,
    ⟨some 29, some (25, false), .un .not (.t 28)⟩,
    ⟨some 30, none, .pick (.t 25) (.c (.bool true)) (.t 29)⟩])
  (.cond (.t 30) (.seq (.reg [⟨some 2, none, .mv (.c (.int .u64 0))⟩,
    ⟨some 3, none, .mv (.c (.bool false))⟩])
  (.ret))
  (.skip)))
  (.seq (.reg [⟨some 31, none, .fadd 0 (.t 1)⟩,
    ⟨some 32, none, .ld1 (.t 31)⟩,
    ⟨some 33, none, .bin .mul (.c (.int .i64 256)) (.t 32)⟩,
    ⟨some 34, none, .bin .add (.c (.int .i64 32768)) (.t 33)⟩,
    ⟨some 35, none, .fadd 1 (.t 1)⟩,
    ⟨some 36, none, .ld1 (.t 35)⟩,
    ⟨some 37, none, .bin .mul (.c (.int .i64 16)) (.t 36)⟩,
    ⟨some 38, none, .bin .add (.t 34) (.t 37)⟩,
    ⟨some 39, none, .fadd 2 (.t 1)⟩,
    ⟨some 40, none, .ld1 (.t 39)⟩,
    ⟨some 41, none, .bin .add (.t 38) (.t 40)⟩,
    ⟨some 42, none, .cvi .u64 (.t 41)⟩,
    ⟨some 2, none, .mv (.t 42)⟩,
    ⟨some 3, none, .mv (.c (.bool true))⟩])
  (.ret)))),
  [.t 2, .t 3]⟩
/-- (*messuage/tlb.Tlb).Find -/
def rf33 : RFunc := ⟨.seq (.reg [⟨some 6, none, .new [.int .i64 0, .int .i64 0, .int .i64 0, .int .i64 0]⟩,
    ⟨some 7, none, .mv (.c (.bool false))⟩])
  (.seq (.reg [⟨some 9, none, .mv (.t 0)⟩,
    ⟨some 10, none, .mv (.t 1)⟩,
    ⟨some 11, none, .mv (.t 2)⟩,
    ⟨some 12, none, .call 53 [.t 9, .t 10, .t 11]⟩,
    ⟨some 8, none, .mv (.t 12)⟩])
  (.seq (.seq (.reg [⟨some 13, none, .mv (.t 8)⟩,
    ⟨some 14, none, .eq false (.sc .ptr) (.t 13) (.c (.nilp))⟩])
  (.cond (.t 14) (.seq (.reg [⟨some 15, none, .build [.int .i64 0, .int .i64 0, .int .i64 0, .int .i64 0] []⟩,
    ⟨none, none, .st 4 (.t 6) (.t 15)⟩,
    ⟨some 7, none, .mv (.c (.bool false))⟩])
  (.ret))
  (.skip)))
  (.seq (.reg [⟨some 16, none, .mv (.t 8)⟩,
    ⟨some 17, none, .nilck (.t 16)⟩,
    ⟨some 18, none, .fadd 0 (.t 17)⟩,
    ⟨some 19, none, .ldA 4 (.t 18)⟩,
    ⟨none, none, .st 4 (.t 6) (.t 19)⟩,
    ⟨some 7, none, .mv (.c (.bool true))⟩])
  (.ret)))),
  [.cellA 6 4, .t 7]⟩
/-- (*messuage/mail.Mail).All -/
def rf34 : RFunc := ⟨.seq (.reg [⟨some 6, none, .mv (.c (.int .i64 0))⟩])
  (.seq (.seq (.reg [⟨some 9, none, .mv (.t 0)⟩,
    ⟨some 10, none, .eq false (.sc .ptr) (.t 9) (.c (.nilp))⟩])
  (.cond (.t 10) (.seq (.reg [⟨some 6, none, .mv (.c (.int .i64 0))⟩])
  (.ret))
  (.skip)))
  (.seq (.reg [⟨some 7, none, .mv (.c (.int .i64 0))⟩])
  (.seq (.seq (.reg [⟨some 11, none, .mv (.t 0)⟩,
    ⟨some 12, none, .nilck (.t 11)⟩,
    ⟨some 13, none, .fadd 0 (.t 12)⟩,
    ⟨some 14, none, .ld1 (.t 13)⟩,
    ⟨some 15, none, .lenL (.t 14)⟩,
    ⟨some 16, none, .mv (.c (.int .i64 0))⟩])
  (.block 0 (.loop (.seq (.reg [⟨some 17, none, .bin .lss (.t 16) (.t 15)⟩])
  (.seq (.cond (.t 17) (.skip)
  (.exit 0))
  (.seq (.block 1 (.seq (.reg [⟨some 18, none, .mv (.t 16)⟩,
    ⟨some 8, none, .mv (.t 18)⟩])
  (.seq (.reg [⟨some 19, none, .mv (.t 0)⟩,
    ⟨some 20, none, .mv (.t 1)⟩,
    ⟨some 21, none, .mv (.t 8)⟩,
    ⟨some 22, none, .mv (.t 2)⟩,
    ⟨some 23, none, .call 12 [.t 19, .t 20, .t 21, .t 22]⟩])
  (.cond (.t 23) (.reg [⟨some 24, none, .mv (.t 7)⟩,
    ⟨some 25, none, .bin .add (.t 24) (.c (.int .i64 1))⟩,
    ⟨some 7, none, .mv (.t 25)⟩])
  (.skip)))))
  (.reg [⟨some 26, none, .bin .add (.t 16) (.c (.int .i64 1))⟩,
    ⟨some 16, none, .mv (.t 26)⟩])))))))
  (.seq (.reg [⟨some 27, none, .mv (.t 7)⟩,
    ⟨some 6, none, .mv (.t 27)⟩])
  (.ret))))),
  [.t 6]⟩
/-- (*messuage/cell.Cell).Up -/
def rf35 : RFunc := ⟨.seq (.reg [⟨some 4, none, .mv (.c (.int .u64 0))⟩,
    ⟨some 5, none, .mv (.c (.bool false))⟩])
  (.seq (.seq (.reg [⟨some 6, none, .mv (.t 0)⟩,
    ⟨some 7, none, .eq false (.sc .ptr) (.t 6) (.c (.nilp))⟩])
  (.cond (.t 7) (.seq (.reg [⟨some 4, none, .mv (.c (.int .u64 0))⟩,
    ⟨some 5, none, .mv (.c (.bool false))⟩])
  (.ret))
  (.skip)))
  (.seq (.reg [⟨some 8, none, .mv (.t 0)⟩,
    ⟨some 9, none, .nilck (.t 8)⟩,
    ⟨some 10, none, .fadd 1 (.t 9)⟩,
    ⟨some 11, none, .ld1 (.t 10)⟩,
    ⟨some 12, none, .bin .add (.t 11) (.c (.int .i64 1))⟩,
    ⟨some 13, none, .nilck (.t 8)⟩,
    ⟨some 14, none, .fadd 1 (.t 13)⟩,
    ⟨none, none, .st 1 (.t 14) (.t 12)⟩])
  (.seq (.seq (.reg [⟨some 15, none, .mv (.t 0)⟩,
    ⟨some 16, none, .nilck (.t 15)⟩,
    ⟨some 17, none, .fadd 0 (.t 16)⟩,
    ⟨some 18, none, .ld1 (.t 17)⟩,
    ⟨some 19, none, .mv (.t 1)⟩,
    ⟨some 20, none, .bin .geq (.t 18) (.t 19)⟩])
  (.cond (.t 20) (.seq (.reg [⟨some 21, none, .mv (.t 0)⟩,
    ⟨some 22, none, .nilck (.t 21)⟩,
    ⟨some 23, none, .fadd 0 (.t 22)⟩,
    ⟨some 24, none, .ld1 (.t 23)⟩,
    ⟨some 4, none, .mv (.t 24)⟩,
    ⟨some 5, none, .mv (.c (.bool false))⟩])
  (.ret))
  (.skip)))
  (.seq (.reg [⟨some 25, none, .mv (.t 0)⟩,
    ⟨some 26, none, .nilck (.t 25)⟩,
    ⟨some 27, none, .fadd 0 (.t 26)⟩,
    ⟨some 28, none, .ld1 (.t 27)⟩,
    ⟨some 29, none, .bin .add (.t 28) (.c (.int .u64 1))⟩,
    ⟨some 30, none, .nilck (.t 25)⟩,
    ⟨some 31, none, .fadd 0 (.t 30)⟩,
    ⟨none, none, .st 1 (.t 31) (.t 29)⟩])
  (.seq (.reg [⟨some 32, none, .mv (.t 0)⟩,
    ⟨some 33, none, .nilck (.t 32)⟩,
    ⟨some 34, none, .fadd 0 (.t 33)⟩,
    ⟨some 35, none, .ld1 (.t 34)⟩,
    ⟨some 4, none, .mv (.t 35)⟩,
    ⟨some 5, none, .mv (.c (.bool true))⟩])
  (.ret)))))),
  [.t 4, .t 5]⟩
/-- (*messuage/ticket.Lock).Draw -/
def rf36 : RFunc := ⟨.seq (.reg [⟨some 2, none, .mv (.c (.int .u64 0))⟩])
  (.seq (.seq (.reg [⟨some 5, none, .mv (.t 0)⟩,
    ⟨some 6, none, .eq false (.sc .ptr) (.t 5) (.c (.nilp))⟩])
  (.cond (.t 6) (.seq (.reg [⟨some 2, none, .mv (.c (.int .u64 0))⟩])
  (.ret))
  (.skip)))
  (.seq (.reg [⟨some 8, none, .mv (.t 0)⟩,
    ⟨some 9, none, .nilck (.t 8)⟩,
    ⟨some 10, none, .fadd 0 (.t 9)⟩,
    ⟨some 11, none, .ld1 (.t 10)⟩,
    ⟨some 12, none, .call 35 [.t 11, .c (.int .u64 18446744073709551615)]⟩,
    ⟨some 7, none, .mv (.t 12)⟩,
    ⟨some 13, none, .ex 0 (.t 7)⟩,
    ⟨some 14, none, .ex 1 (.t 7)⟩,
    ⟨some 3, none, .mv (.t 13)⟩,
    ⟨some 4, none, .mv (.t 14)⟩])
  (.seq (.reg [⟨some 15, none, .mv (.t 3)⟩,
    ⟨some 16, none, .bin .sub (.t 15) (.c (.int .u64 1))⟩,
    ⟨some 2, none, .mv (.t 16)⟩])
  (.ret)))),
  [.t 2]⟩
/-- messuage/word.Kind -/
def rf37 : RFunc := ⟨.seq (.reg [⟨some 1, none, .box 5 (.t 0)⟩,
    ⟨some 2, none, .mv (.c (.int .i64 0))⟩,
    ⟨some 3, none, .mv (.c (.bool false))⟩])
  (.seq (.seq (.reg [⟨some 5, none, .ixaA 5 1 (.t 1) (.c (.int .i64 0))⟩,
    ⟨some 6, none, .ld1 (.t 5)⟩,
    ⟨some 4, none, .mv (.t 6)⟩])
  (.seq (.reg [⟨some 7, none, .mv (.t 4)⟩,
    ⟨some 8, none, .bin .geq (.t 7) (.c (.int .u64 1))⟩,
    ⟨some 9, none, .mv (.t 8)⟩,
    ⟨some 10, some (9, true), .mv (.t 4)⟩,
    ⟨some 11, some (9, true), .bin .leq (.t 10) (.c (.int .u64 10))⟩,
    ⟨some 12, none, .pick (.t 9) (.t 11) (.c (.bool false))⟩,
    ⟨some 13, none, .mv (.t 12)⟩,
    ⟨some 14, some (13, false), .mv (.t 4)⟩,
    ⟨some 15, some (13, false), .bin .geq (.t 14) (.c (.int .u64 20))⟩,
    ⟨some 16, some (13, false), .mv (.t 15)⟩,
    ⟨some 17, some (16, true), .mv (.t 4)⟩,
    ⟨some 18, some (16, true), .bin .leq (.t 17) (.c (.int .u64 23))⟩,
    ⟨some 19, some (13, false), .pick (.t 16) (.t 18) (.c (.bool false))⟩,
    ⟨some 20, none, .pick (.t 13) (.c (.bool true)) (.t 19)⟩])
  (.cond (.t 20) (.seq (.reg [⟨some 21, none, .mv (.t 4)⟩,
    ⟨some 22, none, .cvi .i64 (.t 21)⟩,
    ⟨some 2, none, .mv (.t 22)⟩,
    ⟨some 3, none, .mv (.c (.bool true))⟩])
  (.ret))
  (.skip))))
  (.seq (.reg [⟨some 2, none, .mv (.c (.int .i64 0))⟩,
    ⟨some 3, none, .mv (.c (.bool false))⟩])
  (.ret))),
  [.t 2, .t 3]⟩
/-- messuage/messuagelaw1.Begun -/
def rf38 : RFunc := ⟨.seq (.reg [⟨some 0, none, .mv (.c (.bool false))⟩])
  (.seq (.reg [⟨some 1, none, .call 60 []⟩,
    ⟨some 0, none, .mv (.t 1)⟩])
  (.ret)),
  [.t 0]⟩
/-- (*messuage/ticket.Lock).Turn -/
def rf39 : RFunc := ⟨.seq (.reg [⟨some 4, none, .mv (.c (.bool false))⟩])
  (.seq (.reg [⟨some 5, none, .mv (.t 0)⟩,
    ⟨some 6, none, .eq true (.sc .ptr) (.t 5) (.c (.nilp))⟩,
    ⟨some 7, none, .mv (.t 6)⟩,
    ⟨some 8, some (7, true), .mv (.t 0)⟩,
    ⟨some 9, some (7, true), .nilck (.t 8)⟩,
    ⟨some 10, some (7, true), .fadd 1 (.t 9)⟩,
    ⟨some 11, some (7, true), .ld1 (.t 10)⟩,
    ⟨some 12, some (7, true), .call 61 [.t 11]⟩,
    ⟨some 13, some (7, true), .mv (.t 1)⟩,
    ⟨some 14, some (7, true), .bin .eql (.t 12) (.t 13)⟩,
    ⟨some 15, none, .pick (.t 7) (.t 14) (.c (.bool false))⟩,
    ⟨some 16, none, .mv (.t 15)⟩,
    ⟨some 17, some (16, true), .mv (.t 1)⟩,
    ⟨some 18, some (16, true), .mv (.t 0)⟩,
    ⟨some 19, some (16, true), .nilck (.t 18)⟩,
    ⟨some 20, some (16, true), .fadd 0 (.t 19)⟩,
    ⟨some 21, some (16, true), .ld1 (.t 20)⟩,
    ⟨some 22, some (16, true), .call 61 [.t 21]⟩,
    ⟨some 23, some (16, true), .bin .lss (.t 17) (.t 22)⟩,
    ⟨some 24, none, .pick (.t 16) (.t 23) (.c (.bool false))⟩,
    ⟨some 4, none, .mv (.t 24)⟩])
  (.ret)),
  [.t 4]⟩
/-- (*messuage/ticket.Lock).Pass -/
def rf40 : RFunc := ⟨.seq (.reg [⟨some 4, none, .mv (.c (.bool false))⟩])
  (.seq (.reg [⟨some 5, none, .mv (.t 0)⟩,
    ⟨some 6, none, .mv (.t 1)⟩,
    ⟨some 7, none, .call 39 [.t 5, .t 6]⟩,
    ⟨some 8, none, .mv (.t 7)⟩,
    ⟨some 9, some (8, true), .mv (.t 0)⟩,
    ⟨some 10, some (8, true), .nilck (.t 9)⟩,
    ⟨some 11, some (8, true), .fadd 1 (.t 10)⟩,
    ⟨some 12, some (8, true), .ld1 (.t 11)⟩,
    ⟨some 13, some (8, true), .mv (.t 1)⟩,
    ⟨some 14, some (8, true), .mv (.t 1)⟩,
    ⟨some 15, some (8, true), .bin .add (.t 14) (.c (.int .u64 1))⟩,
    ⟨some 16, some (8, true), .call 62 [.t 12, .t 13, .t 15]⟩,
    ⟨some 17, none, .pick (.t 8) (.t 16) (.c (.bool false))⟩,
    ⟨some 4, none, .mv (.t 17)⟩])
  (.ret)),
  [.t 4]⟩
/-- messuage/word.Args -/
def rf41 : RFunc := ⟨.seq (.reg [⟨some 2, none, .mv (.c (.int .i64 0))⟩])
  (.seq (.reg [⟨some 3, none, .mv (.t 0)⟩,
    ⟨some 4, none, .call 44 [.t 3]⟩,
    ⟨some 5, none, .lenL (.t 4)⟩,
    ⟨some 2, none, .mv (.t 5)⟩])
  (.ret)),
  [.t 2]⟩
/-- messuage/pte.Within -/
def rf42 : RFunc := ⟨.seq (.reg [⟨some 4, none, .mv (.c (.bool false))⟩])
  (.seq (.reg [⟨some 5, none, .mv (.t 0)⟩,
    ⟨some 6, none, .call 52 [.t 5]⟩,
    ⟨some 7, none, .mv (.t 6)⟩,
    ⟨some 8, some (7, true), .mv (.t 1)⟩,
    ⟨some 9, some (7, true), .call 52 [.t 8]⟩,
    ⟨some 10, none, .pick (.t 7) (.t 9) (.c (.bool false))⟩,
    ⟨some 11, none, .mv (.t 10)⟩,
    ⟨some 12, some (11, true), .mv (.t 0)⟩,
    ⟨some 13, some (11, true), .mv (.t 1)⟩,
    ⟨some 14, some (11, true), .bin .andNot (.t 12) (.t 13)⟩,
    ⟨some 15, some (11, true), .bin .eql (.t 14) (.c (.int .i64 0))⟩,
    ⟨some 16, none, .pick (.t 11) (.t 15) (.c (.bool false))⟩,
    ⟨some 4, none, .mv (.t 16)⟩])
  (.ret)),
  [.t 4]⟩
/-- (*messuage/table.Table).By -/
def rf43 : RFunc := ⟨.seq (.reg [⟨some 4, none, .mv (.c (.nils))⟩])
  (.seq (.seq (.reg [⟨some 8, none, .mv (.t 0)⟩,
    ⟨some 9, none, .eq false (.sc .ptr) (.t 8) (.c (.nilp))⟩])
  (.cond (.t 9) (.seq (.reg [⟨some 4, none, .mv (.c (.nils))⟩])
  (.ret))
  (.skip)))
  (.seq (.reg [⟨some 5, none, .mv (.c (.nils))⟩])
  (.seq (.seq (.reg [⟨some 10, none, .mv (.t 0)⟩,
    ⟨some 11, none, .nilck (.t 10)⟩,
    ⟨some 12, none, .fadd 0 (.t 11)⟩,
    ⟨some 13, none, .ldA 24 (.t 12)⟩,
    ⟨some 14, none, .mv (.c (.int .i64 0))⟩])
  (.block 0 (.loop (.seq (.reg [⟨some 15, none, .bin .lss (.t 14) (.c (.int .i64 8))⟩])
  (.seq (.cond (.t 15) (.skip)
  (.exit 0))
  (.seq (.block 1 (.seq (.reg [⟨some 16, none, .mv (.t 14)⟩,
    ⟨some 17, none, .ixAA 8 3 (.t 13) (.t 14)⟩,
    ⟨some 7, none, .new [.int .i64 0, .int .i64 0, .int .i64 0]⟩,
    ⟨some 6, none, .mv (.t 16)⟩,
    ⟨none, none, .st 3 (.t 7) (.t 17)⟩])
  (.seq (.reg [⟨some 18, none, .fadd 2 (.t 7)⟩,
    ⟨some 19, none, .ld1 (.t 18)⟩,
    ⟨some 20, none, .bin .neq (.t 19) (.c (.int .i64 0))⟩,
    ⟨some 21, none, .mv (.t 20)⟩,
    ⟨some 22, some (21, true), .fadd 1 (.t 7)⟩,
    ⟨some 23, some (21, true), .ld1 (.t 22)⟩,
    ⟨some 24, some (21, true), .mv (.t 1)⟩,
    ⟨some 25, some (21, true), .bin .eql (.t 23) (.t 24)⟩,
    ⟨some 26, none, .pick (.t 21) (.t 25) (.c (.bool false))⟩])
  (.cond (.t 26) (.reg [⟨some 27, none, .mv (.t 5)⟩,
    ⟨some 28, none, .mv (.t 6)⟩,
    ⟨some 29, none, .bsl 1 [.int .i64 0] 1 [(0, 1, .t 28)]⟩,
    ⟨some 30, none, .app 1 8 (.t 27) (.t 29)⟩,
    ⟨some 5, none, .mv (.t 30)⟩])
  (.skip)))))
  (.reg [⟨some 31, none, .bin .add (.t 14) (.c (.int .i64 1))⟩,
    ⟨some 14, none, .mv (.t 31)⟩])))))))
  (.seq (.reg [⟨some 32, none, .mv (.t 5)⟩,
    ⟨some 4, none, .mv (.t 32)⟩])
  (.ret))))),
  [.t 4]⟩
/-- messuage/word.kinds -/
def rf44 : RFunc := ⟨.seq (.reg [⟨some 2, none, .mv (.c (.nils))⟩])
  (.seq (.seq (.reg [⟨some 3, none, .mv (.t 0)⟩])
  (.block 0 (.seq (.seq (.reg [⟨some 5, none, .bin .eql (.t 3) (.c (.int .i64 1))⟩,
    ⟨some 4, none, .mv (.t 5)⟩])
  (.cond (.t 4) (.skip)
  (.seq (.reg [⟨some 6, none, .bin .eql (.t 3) (.c (.int .i64 4))⟩,
    ⟨some 4, none, .mv (.t 6)⟩])
  (.cond (.t 4) (.skip)
  (.reg [⟨some 7, none, .bin .eql (.t 3) (.c (.int .i64 5))⟩,
    ⟨some 4, none, .mv (.t 7)⟩])))))
  (.cond (.t 4) (.seq (.reg [⟨some 8, none, .bsl 1 [.int .i64 0] 1 [(0, 1, .c (.int .i64 0))]⟩,
    ⟨some 2, none, .mv (.t 8)⟩])
  (.ret))
  (.seq (.reg [⟨some 10, none, .bin .eql (.t 3) (.c (.int .i64 2))⟩,
    ⟨some 9, none, .mv (.t 10)⟩])
  (.cond (.t 9) (.seq (.reg [⟨some 11, none, .bsl 1 [.int .i64 0, .int .i64 0, .int .i64 0] 3 [(0, 1, .c (.int .i64 0)), (1, 1, .c (.int .i64 0)), (2, 1, .c (.int .i64 4))]⟩,
    ⟨some 2, none, .mv (.t 11)⟩])
  (.ret))
  (.seq (.reg [⟨some 13, none, .bin .eql (.t 3) (.c (.int .i64 3))⟩,
    ⟨some 12, none, .mv (.t 13)⟩])
  (.cond (.t 12) (.seq (.reg [⟨some 14, none, .bsl 1 [.int .i64 0, .int .i64 0, .int .i64 0, .int .i64 0] 4 [(0, 1, .c (.int .i64 0)), (1, 1, .c (.int .i64 3)), (2, 1, .c (.int .i64 0)), (3, 1, .c (.int .i64 4))]⟩,
    ⟨some 2, none, .mv (.t 14)⟩])
  (.ret))
  (.seq (.reg [⟨some 16, none, .bin .eql (.t 3) (.c (.int .i64 6))⟩,
    ⟨some 15, none, .mv (.t 16)⟩])
  (.cond (.t 15) (.seq (.reg [⟨some 17, none, .bsl 1 [.int .i64 0, .int .i64 0, .int .i64 0] 3 [(0, 1, .c (.int .i64 1)), (1, 1, .c (.int .i64 0)), (2, 1, .c (.int .i64 4))]⟩,
    ⟨some 2, none, .mv (.t 17)⟩])
  (.ret))
  (.seq (.reg [⟨some 19, none, .bin .eql (.t 3) (.c (.int .i64 7))⟩,
    ⟨some 18, none, .mv (.t 19)⟩])
  (.cond (.t 18) (.seq (.reg [⟨some 20, none, .bsl 1 [.int .i64 0] 1 [(0, 1, .c (.int .i64 1))]⟩,
    ⟨some 2, none, .mv (.t 20)⟩])
  (.ret))
  (.seq (.reg [⟨some 22, none, .bin .eql (.t 3) (.c (.int .i64 8))⟩,
    ⟨some 21, none, .mv (.t 22)⟩])
  (.cond (.t 21) (.seq (.reg [⟨some 23, none, .bsl 1 [.int .i64 0, .int .i64 0] 2 [(0, 1, .c (.int .i64 1)), (1, 1, .c (.int .i64 4))]⟩,
    ⟨some 2, none, .mv (.t 23)⟩])
  (.ret))
  (.seq (.reg [⟨some 25, none, .bin .eql (.t 3) (.c (.int .i64 9))⟩,
    ⟨some 24, none, .mv (.t 25)⟩])
  (.cond (.t 24) (.seq (.reg [⟨some 26, none, .bsl 1 [.int .i64 0, .int .i64 0, .int .i64 0, .int .i64 0] 4 [(0, 1, .c (.int .i64 0)), (1, 1, .c (.int .i64 2)), (2, 1, .c (.int .i64 5)), (3, 1, .c (.int .i64 6))]⟩,
    ⟨some 2, none, .mv (.t 26)⟩])
  (.ret))
  (.seq (.reg [⟨some 28, none, .bin .eql (.t 3) (.c (.int .i64 20))⟩,
    ⟨some 27, none, .mv (.t 28)⟩])
  (.cond (.t 27) (.seq (.reg [⟨some 29, none, .bsl 1 [.int .i64 0, .int .i64 0] 2 [(0, 1, .c (.int .i64 1)), (1, 1, .c (.int .i64 2))]⟩,
    ⟨some 2, none, .mv (.t 29)⟩])
  (.ret))
  (.seq (.seq (.reg [⟨some 31, none, .bin .eql (.t 3) (.c (.int .i64 21))⟩,
    ⟨some 30, none, .mv (.t 31)⟩])
  (.cond (.t 30) (.skip)
  (.reg [⟨some 32, none, .bin .eql (.t 3) (.c (.int .i64 23))⟩,
    ⟨some 30, none, .mv (.t 32)⟩])))
  (.cond (.t 30) (.seq (.reg [⟨some 33, none, .bsl 1 [.int .i64 0, .int .i64 0, .int .i64 0] 3 [(0, 1, .c (.int .i64 1)), (1, 1, .c (.int .i64 2)), (2, 1, .c (.int .i64 6))]⟩,
    ⟨some 2, none, .mv (.t 33)⟩])
  (.ret))
  (.seq (.reg [⟨some 35, none, .bin .eql (.t 3) (.c (.int .i64 22))⟩,
    ⟨some 34, none, .mv (.t 35)⟩])
  (.cond (.t 34) (.seq (.reg [⟨some 36, none, .bsl 1 [.int .i64 0, .int .i64 0, .int .i64 0, .int .i64 0] 4 [(0, 1, .c (.int .i64 1)), (1, 1, .c (.int .i64 2)), (2, 1, .c (.int .i64 6)), (3, 1, .c (.int .i64 6))]⟩,
    ⟨some 2, none, .mv (.t 36)⟩])
  (.ret))
  (.skip)))))))))))))))))))))))
  (.seq (.reg [⟨some 2, none, .mv (.c (.nils))⟩])
  (.ret))),
  [.t 2]⟩
/-- messuage/word.fits -/
def rf45 : RFunc := ⟨.seq (.reg [⟨some 4, none, .box 5 (.t 0)⟩,
    ⟨some 8, none, .mv (.c (.bool false))⟩])
  (.seq (.reg [⟨some 9, none, .mv (.c (.bool true))⟩])
  (.seq (.seq (.reg [⟨some 10, none, .mv (.t 2)⟩])
  (.block 0 (.seq (.reg [⟨some 12, none, .bin .eql (.t 10) (.c (.int .i64 0))⟩,
    ⟨some 11, none, .mv (.t 12)⟩])
  (.cond (.t 11) (.reg [⟨some 14, none, .ldA 5 (.t 4)⟩,
    ⟨some 15, none, .mv (.t 1)⟩,
    ⟨some 16, none, .call 63 [.t 14, .t 15, .c (.int .i64 8)]⟩,
    ⟨some 13, none, .mv (.t 16)⟩,
    ⟨some 17, none, .ex 0 (.t 13)⟩,
    ⟨some 18, none, .ex 1 (.t 13)⟩,
    ⟨some 9, none, .mv (.t 18)⟩])
  (.seq (.reg [⟨some 20, none, .bin .eql (.t 10) (.c (.int .i64 1))⟩,
    ⟨some 19, none, .mv (.t 20)⟩])
  (.cond (.t 19) (.reg [⟨some 22, none, .ldA 5 (.t 4)⟩,
    ⟨some 23, none, .mv (.t 1)⟩,
    ⟨some 24, none, .call 63 [.t 22, .t 23, .c (.int .i64 8)]⟩,
    ⟨some 21, none, .mv (.t 24)⟩,
    ⟨some 25, none, .ex 0 (.t 21)⟩,
    ⟨some 26, none, .ex 1 (.t 21)⟩,
    ⟨some 9, none, .mv (.t 26)⟩])
  (.seq (.reg [⟨some 28, none, .bin .eql (.t 10) (.c (.int .i64 2))⟩,
    ⟨some 27, none, .mv (.t 28)⟩])
  (.cond (.t 27) (.reg [⟨some 30, none, .ldA 5 (.t 4)⟩,
    ⟨some 31, none, .mv (.t 1)⟩,
    ⟨some 32, none, .call 63 [.t 30, .t 31, .c (.int .i64 16)]⟩,
    ⟨some 29, none, .mv (.t 32)⟩,
    ⟨some 33, none, .ex 0 (.t 29)⟩,
    ⟨some 34, none, .ex 1 (.t 29)⟩,
    ⟨some 9, none, .mv (.t 34)⟩])
  (.seq (.reg [⟨some 36, none, .bin .eql (.t 10) (.c (.int .i64 3))⟩,
    ⟨some 35, none, .mv (.t 36)⟩])
  (.cond (.t 35) (.reg [⟨some 38, none, .ldA 5 (.t 4)⟩,
    ⟨some 39, none, .mv (.t 1)⟩,
    ⟨some 40, none, .mv (.t 3)⟩,
    ⟨some 41, none, .call 63 [.t 38, .t 39, .t 40]⟩,
    ⟨some 37, none, .mv (.t 41)⟩,
    ⟨some 42, none, .ex 0 (.t 37)⟩,
    ⟨some 43, none, .ex 1 (.t 37)⟩,
    ⟨some 9, none, .mv (.t 43)⟩])
  (.seq (.reg [⟨some 45, none, .bin .eql (.t 10) (.c (.int .i64 4))⟩,
    ⟨some 44, none, .mv (.t 45)⟩])
  (.cond (.t 44) (.reg [⟨some 47, none, .mv (.t 1)⟩,
    ⟨some 48, none, .ixaA 5 1 (.t 4) (.t 47)⟩,
    ⟨some 49, none, .ld1 (.t 48)⟩,
    ⟨some 50, none, .call 64 [.t 49]⟩,
    ⟨some 46, none, .mv (.t 50)⟩,
    ⟨some 51, none, .ex 0 (.t 46)⟩,
    ⟨some 52, none, .ex 1 (.t 46)⟩,
    ⟨some 9, none, .mv (.t 52)⟩])
  (.seq (.reg [⟨some 54, none, .bin .eql (.t 10) (.c (.int .i64 5))⟩,
    ⟨some 53, none, .mv (.t 54)⟩])
  (.cond (.t 53) (.reg [⟨some 55, none, .mv (.t 1)⟩,
    ⟨some 56, none, .ixaA 5 1 (.t 4) (.t 55)⟩,
    ⟨some 57, none, .ld1 (.t 56)⟩,
    ⟨some 58, none, .bin .geq (.t 57) (.c (.int .u64 1))⟩,
    ⟨some 59, none, .mv (.t 58)⟩,
    ⟨some 60, some (59, true), .mv (.t 1)⟩,
    ⟨some 61, some (59, true), .ixaA 5 1 (.t 4) (.t 60)⟩,
    ⟨some 62, some (59, true), .ld1 (.t 61)⟩,
    ⟨some 63, some (59, true), .bin .leq (.t 62) (.c (.int .u64 4))⟩,
    ⟨some 64, none, .pick (.t 59) (.t 63) (.c (.bool false))⟩,
    ⟨some 9, none, .mv (.t 64)⟩])
  (.skip)))))))))))))))
  (.seq (.reg [⟨some 65, none, .mv (.t 9)⟩,
    ⟨some 8, none, .mv (.t 65)⟩])
  (.ret)))),
  [.t 8]⟩
/-- messuage/messuageref2.Kind -/
def rf46 : RFunc := ⟨.seq (.reg [⟨some 1, none, .box 5 (.t 0)⟩,
    ⟨some 2, none, .mv (.c (.int .i64 0))⟩,
    ⟨some 3, none, .mv (.c (.bool false))⟩])
  (.seq (.reg [⟨some 5, none, .ixaA 5 1 (.t 1) (.c (.int .i64 0))⟩,
    ⟨some 6, none, .ld1 (.t 5)⟩,
    ⟨some 4, none, .mv (.t 6)⟩])
  (.seq (.seq (.reg [⟨some 7, none, .mv (.t 4)⟩,
    ⟨some 8, none, .bin .geq (.t 7) (.c (.int .u64 1))⟩,
    ⟨some 9, none, .mv (.t 8)⟩,
    ⟨some 10, some (9, true), .mv (.t 4)⟩,
    ⟨some 11, some (9, true), .bin .leq (.t 10) (.c (.int .u64 10))⟩,
    ⟨some 12, none, .pick (.t 9) (.t 11) (.c (.bool false))⟩,
    ⟨some 13, none, .mv (.t 12)⟩,
    ⟨some 14, some (13, false), .mv (.t 4)⟩,
    ⟨some 15, some (13, false), .bin .geq (.t 14) (.c (.int .u64 20))⟩,
    ⟨some 16, some (13, false), .mv (.t 15)⟩,
    ⟨some 17, some (16, true), .mv (.t 4)⟩,
    ⟨some 18, some (16, true), .bin .leq (.t 17) (.c (.int .u64 23))⟩,
    ⟨some 19, some (13, false), .pick (.t 16) (.t 18) (.c (.bool false))⟩,
    ⟨some 20, none, .pick (.t 13) (.c (.bool true)) (.t 19)⟩])
  (.cond (.t 20) (.seq (.reg [⟨some 21, none, .mv (.t 4)⟩,
    ⟨some 22, none, .cvi .i64 (.t 21)⟩,
    ⟨some 2, none, .mv (.t 22)⟩,
    ⟨some 3, none, .mv (.c (.bool true))⟩])
  (.ret))
  (.skip)))
  (.seq (.reg [⟨some 2, none, .mv (.c (.int .i64 0))⟩,
    ⟨some 3, none, .mv (.c (.bool false))⟩])
  (.ret)))),
  [.t 2, .t 3]⟩
/-- messuage/messuageref2.what -/
def rf47 : RFunc := ⟨.seq (.reg [⟨some 2, none, .mv (.c (.str []))⟩])
  (.seq (.reg [⟨some 5, none, .bsl 1 [.str [], .str [], .str [], .str [], .str [], .str [], .str [], .str [], .str [], .str [], .str []] 11 [(0, 1, .c (.str [])), (1, 1, .c (.str [115])), (2, 1, .c (.str [115, 115, 114])), (3, 1, .c (.str [115, 101, 115, 114])), (4, 1, .c (.str [115])), (5, 1, .c (.str [115])), (6, 1, .c (.str [112, 115, 114])), (7, 1, .c (.str [112])), (8, 1, .c (.str [112, 114])), (9, 1, .c (.str [115, 119, 111, 46])), (10, 1, .c (.str []))]⟩,
    ⟨some 3, none, .mv (.t 5)⟩])
  (.seq (.seq (.reg [⟨some 6, none, .mv (.t 0)⟩,
    ⟨some 7, none, .bin .geq (.t 6) (.c (.int .i64 0))⟩,
    ⟨some 8, none, .mv (.t 7)⟩,
    ⟨some 9, some (8, true), .mv (.t 0)⟩,
    ⟨some 10, some (8, true), .mv (.t 3)⟩,
    ⟨some 11, some (8, true), .lenL (.t 10)⟩,
    ⟨some 12, some (8, true), .bin .lss (.t 9) (.t 11)⟩,
    ⟨some 13, none, .pick (.t 8) (.t 12) (.c (.bool false))⟩])
  (.cond (.t 13) (.seq (.reg [⟨some 14, none, .mv (.t 3)⟩,
    ⟨some 15, none, .mv (.t 0)⟩,
    ⟨some 16, none, .ixaS 1 (.t 14) (.t 15)⟩,
    ⟨some 17, none, .ld1 (.t 16)⟩,
    ⟨some 2, none, .mv (.t 17)⟩])
  (.ret))
  (.skip)))
  (.seq (.reg [⟨some 18, none, .bsl 1 [.str [], .str [], .str [], .str []] 4 [(0, 1, .c (.str [112, 119])), (1, 1, .c (.str [112, 119, 46])), (2, 1, .c (.str [112, 119, 46, 46])), (3, 1, .c (.str [112, 119, 46]))]⟩,
    ⟨some 4, none, .mv (.t 18)⟩])
  (.seq (.seq (.reg [⟨some 19, none, .mv (.t 0)⟩,
    ⟨some 20, none, .bin .geq (.t 19) (.c (.int .i64 20))⟩,
    ⟨some 21, none, .mv (.t 20)⟩,
    ⟨some 22, some (21, true), .mv (.t 0)⟩,
    ⟨some 23, some (21, true), .bin .leq (.t 22) (.c (.int .i64 23))⟩,
    ⟨some 24, none, .pick (.t 21) (.t 23) (.c (.bool false))⟩])
  (.cond (.t 24) (.seq (.reg [⟨some 25, none, .mv (.t 4)⟩,
    ⟨some 26, none, .mv (.t 0)⟩,
    ⟨some 27, none, .bin .sub (.t 26) (.c (.int .i64 20))⟩,
    ⟨some 28, none, .ixaS 1 (.t 25) (.t 27)⟩,
    ⟨some 29, none, .ld1 (.t 28)⟩,
    ⟨some 2, none, .mv (.t 29)⟩])
  (.ret))
  (.skip)))
  (.seq (.reg [⟨some 2, none, .mv (.c (.str []))⟩])
  (.ret)))))),
  [.t 2]⟩
/-- (*messuage/mail.Mail).is -/
def rf48 : RFunc := ⟨.seq (.reg [⟨some 4, none, .mv (.c (.bool false))⟩])
  (.seq (.reg [⟨some 5, none, .mv (.t 0)⟩,
    ⟨some 6, none, .eq true (.sc .ptr) (.t 5) (.c (.nilp))⟩,
    ⟨some 7, none, .mv (.t 6)⟩,
    ⟨some 8, some (7, true), .mv (.t 1)⟩,
    ⟨some 9, some (7, true), .bin .geq (.t 8) (.c (.int .i64 0))⟩,
    ⟨some 10, none, .pick (.t 7) (.t 9) (.c (.bool false))⟩,
    ⟨some 11, none, .mv (.t 10)⟩,
    ⟨some 12, some (11, true), .mv (.t 1)⟩,
    ⟨some 13, some (11, true), .mv (.t 0)⟩,
    ⟨some 14, some (11, true), .nilck (.t 13)⟩,
    ⟨some 15, some (11, true), .fadd 0 (.t 14)⟩,
    ⟨some 16, some (11, true), .ld1 (.t 15)⟩,
    ⟨some 17, some (11, true), .lenL (.t 16)⟩,
    ⟨some 18, some (11, true), .bin .lss (.t 12) (.t 17)⟩,
    ⟨some 19, none, .pick (.t 11) (.t 18) (.c (.bool false))⟩,
    ⟨some 4, none, .mv (.t 19)⟩])
  (.ret)),
  [.t 4]⟩
/-- slices.BinarySearch[[]uint64,uint64] -/
def rf49 : RFunc := ⟨.seq (.reg [⟨some 4, none, .mv (.c (.int .i64 0))⟩,
    ⟨some 5, none, .mv (.c (.bool false))⟩])
  (.seq (.reg [⟨some 10, none, .mv (.t 0)⟩,
    ⟨some 11, none, .lenL (.t 10)⟩,
    ⟨some 6, none, .mv (.t 11)⟩])
  (.seq (.reg [⟨some 12, none, .mv (.t 6)⟩,
    ⟨some 7, none, .mv (.c (.int .i64 0))⟩,
    ⟨some 8, none, .mv (.t 12)⟩])
  (.seq (.block 0 (.loop (.seq (.seq (.reg [⟨some 13, none, .mv (.t 7)⟩,
    ⟨some 14, none, .mv (.t 8)⟩,
    ⟨some 15, none, .bin .lss (.t 13) (.t 14)⟩])
  (.cond (.t 15) (.skip)
  (.exit 0)))
  (.block 1 (.seq (.reg [⟨some 16, none, .mv (.t 7)⟩,
    ⟨some 17, none, .mv (.t 8)⟩,
    ⟨some 18, none, .bin .add (.t 16) (.t 17)⟩,
    ⟨some 19, none, .cvi .u64 (.t 18)⟩,
    ⟨some 20, none, .bin .shr (.t 19) (.c (.int .u64 1))⟩,
    ⟨some 21, none, .cvi .i64 (.t 20)⟩,
    ⟨some 9, none, .mv (.t 21)⟩])
  (.seq (.reg [⟨some 22, none, .mv (.t 0)⟩,
    ⟨some 23, none, .mv (.t 9)⟩,
    ⟨some 24, none, .ixaS 1 (.t 22) (.t 23)⟩,
    ⟨some 25, none, .ld1 (.t 24)⟩,
    ⟨some 26, none, .mv (.t 1)⟩,
    ⟨some 27, none, .call 65 [.t 25, .t 26]⟩])
  (.cond (.t 27) (.reg [⟨some 28, none, .mv (.t 9)⟩,
    ⟨some 29, none, .bin .add (.t 28) (.c (.int .i64 1))⟩,
    ⟨some 7, none, .mv (.t 29)⟩])
  (.reg [⟨some 30, none, .mv (.t 9)⟩,
    ⟨some 8, none, .mv (.t 30)⟩]))))))))
  (.seq (.reg [⟨some 31, none, .mv (.t 7)⟩,
    ⟨some 32, none, .mv (.t 7)⟩,
    ⟨some 33, none, .mv (.t 6)⟩,
    ⟨some 34, none, .bin .lss (.t 32) (.t 33)⟩,
    ⟨some 35, none, .mv (.t 34)⟩,
    ⟨some 36, some (35, true), .mv (.t 0)⟩,
    ⟨some 37, some (35, true), .mv (.t 7)⟩,
    ⟨some 38, some (35, true), .ixaS 1 (.t 36) (.t 37)⟩,
    ⟨some 39, some (35, true), .ld1 (.t 38)⟩,
    ⟨some 40, some (35, true), .mv (.t 1)⟩,
    ⟨some 41, some (35, true), .bin .eql (.t 39) (.t 40)⟩,
    ⟨some 42, some (35, true), .mv (.t 41)⟩,
    ⟨some 43, some (42, false), .mv (.t 0)⟩,
    ⟨some 44, some (42, false), .mv (.t 7)⟩,
    ⟨some 45, some (42, false), .ixaS 1 (.t 43) (.t 44)⟩,
    ⟨some 46, some (42, false), .ld1 (.t 45)⟩,
    ⟨some 47, some (42, false), .call 66 [.t 46]⟩,
    ⟨some 48, some (42, false), .mv (.t 47)⟩,
    ⟨some 49, some (48, true), .mv (.t 1)⟩,
    ⟨some 50, some (48, true), .call 66 [.t 49]⟩,
    ⟨some 51, some (42, false), .pick (.t 48) (.t 50) (.c (.bool false))⟩,
    ⟨some 52, some (35, true), .pick (.t 42) (.c (.bool true)) (.t 51)⟩,
    ⟨some 53, none, .pick (.t 35) (.t 52) (.c (.bool false))⟩,
    ⟨some 4, none, .mv (.t 31)⟩,
    ⟨some 5, none, .mv (.t 53)⟩])
  (.ret))))),
  [.t 4, .t 5]⟩
/-- slices.Insert[[]uint64,uint64] -/
def rf50 : RFunc := ⟨.seq (.reg [⟨some 6, none, .mv (.c (.nils))⟩])
  (.seq (.reg [⟨some 10, none, .mv (.t 0)⟩,
    ⟨some 11, none, .mv (.t 1)⟩,
    ⟨some 12, none, .slSlc 1 (.t 10) (some (.t 11)) none none⟩])
  (.seq (.reg [⟨some 13, none, .mv (.t 2)⟩,
    ⟨some 14, none, .lenL (.t 13)⟩,
    ⟨some 7, none, .mv (.t 14)⟩])
  (.seq (.seq (.reg [⟨some 15, none, .mv (.t 7)⟩,
    ⟨some 16, none, .bin .eql (.t 15) (.c (.int .i64 0))⟩])
  (.cond (.t 16) (.seq (.reg [⟨some 17, none, .mv (.t 0)⟩,
    ⟨some 6, none, .mv (.t 17)⟩])
  (.ret))
  (.skip)))
  (.seq (.reg [⟨some 18, none, .mv (.t 0)⟩,
    ⟨some 19, none, .lenL (.t 18)⟩,
    ⟨some 8, none, .mv (.t 19)⟩])
  (.seq (.seq (.reg [⟨some 20, none, .mv (.t 1)⟩,
    ⟨some 21, none, .mv (.t 8)⟩,
    ⟨some 22, none, .bin .eql (.t 20) (.t 21)⟩])
  (.cond (.t 22) (.seq (.reg [⟨some 23, none, .mv (.t 0)⟩,
    ⟨some 24, none, .mv (.t 2)⟩,
    ⟨some 25, none, .app 1 8 (.t 23) (.t 24)⟩,
    ⟨some 6, none, .mv (.t 25)⟩])
  (.ret))
  (.skip)))
  (.seq (.seq (.reg [⟨some 26, none, .mv (.t 8)⟩,
    ⟨some 27, none, .mv (.t 7)⟩,
    ⟨some 28, none, .bin .add (.t 26) (.t 27)⟩,
    ⟨some 29, none, .mv (.t 0)⟩,
    ⟨some 30, none, .cap (.t 29)⟩,
    ⟨some 31, none, .bin .gtr (.t 28) (.t 30)⟩])
  (.cond (.t 31) (.seq (.reg [⟨some 32, none, .mv (.t 0)⟩,
    ⟨some 33, none, .mv (.t 1)⟩,
    ⟨some 34, none, .slSlc 1 (.t 32) none (some (.t 33)) none⟩,
    ⟨some 35, none, .mv (.t 8)⟩,
    ⟨some 36, none, .mv (.t 7)⟩,
    ⟨some 37, none, .bin .add (.t 35) (.t 36)⟩,
    ⟨some 38, none, .mv (.t 1)⟩,
    ⟨some 39, none, .bin .sub (.t 37) (.t 38)⟩,
    ⟨some 40, none, .appZ 1 8 [.int .u64 0] (.t 34) (.t 39)⟩,
    ⟨some 9, none, .mv (.t 40)⟩])
  (.seq (.reg [⟨some 41, none, .mv (.t 9)⟩,
    ⟨some 42, none, .mv (.t 1)⟩,
    ⟨some 43, none, .slSlc 1 (.t 41) (some (.t 42)) none none⟩,
    ⟨some 44, none, .mv (.t 2)⟩,
    ⟨some 45, none, .copy 1 (.t 43) (.t 44)⟩])
  (.seq (.drw [⟨some 46, none, .mv (.t 9)⟩,
    ⟨some 47, none, .mv (.t 1)⟩,
    ⟨some 48, none, .mv (.t 7)⟩,
    ⟨some 49, none, .bin .add (.t 47) (.t 48)⟩,
    ⟨some 50, none, .slSlc 1 (.t 46) (some (.t 49)) none none⟩,
    ⟨some 51, none, .mv (.t 0)⟩,
    ⟨some 52, none, .mv (.t 1)⟩,
    ⟨some 53, none, .slSlc 1 (.t 51) (some (.t 52)) none none⟩,
    ⟨some 54, none, .copy 1 (.t 50) (.t 53)⟩] [])
  (.seq (.reg [⟨some 55, none, .mv (.t 9)⟩,
    ⟨some 6, none, .mv (.t 55)⟩])
  (.ret)))))
  (.skip)))
  (.seq (.reg [⟨some 56, none, .mv (.t 0)⟩,
    ⟨some 57, none, .mv (.t 8)⟩,
    ⟨some 58, none, .mv (.t 7)⟩,
    ⟨some 59, none, .bin .add (.t 57) (.t 58)⟩,
    ⟨some 60, none, .slSlc 1 (.t 56) none (some (.t 59)) none⟩,
    ⟨some 0, none, .mv (.t 60)⟩])
  (.seq (.seq (.reg [⟨some 61, none, .mv (.t 2)⟩,
    ⟨some 62, none, .mv (.t 0)⟩,
    ⟨some 63, none, .mv (.t 1)⟩,
    ⟨some 64, none, .mv (.t 7)⟩,
    ⟨some 65, none, .bin .add (.t 63) (.t 64)⟩,
    ⟨some 66, none, .slSlc 1 (.t 62) (some (.t 65)) none none⟩,
    ⟨some 67, none, .call 67 [.t 61, .t 66]⟩,
    ⟨some 68, none, .un .not (.t 67)⟩])
  (.cond (.t 68) (.seq (.drw [⟨some 69, none, .mv (.t 0)⟩,
    ⟨some 70, none, .mv (.t 1)⟩,
    ⟨some 71, none, .mv (.t 7)⟩,
    ⟨some 72, none, .bin .add (.t 70) (.t 71)⟩,
    ⟨some 73, none, .slSlc 1 (.t 69) (some (.t 72)) none none⟩,
    ⟨some 74, none, .mv (.t 0)⟩,
    ⟨some 75, none, .mv (.t 1)⟩,
    ⟨some 76, none, .slSlc 1 (.t 74) (some (.t 75)) none none⟩,
    ⟨some 77, none, .copy 1 (.t 73) (.t 76)⟩] [])
  (.seq (.reg [⟨some 78, none, .mv (.t 0)⟩,
    ⟨some 79, none, .mv (.t 1)⟩,
    ⟨some 80, none, .slSlc 1 (.t 78) (some (.t 79)) none none⟩,
    ⟨some 81, none, .mv (.t 2)⟩,
    ⟨some 82, none, .copy 1 (.t 80) (.t 81)⟩])
  (.seq (.reg [⟨some 83, none, .mv (.t 0)⟩,
    ⟨some 6, none, .mv (.t 83)⟩])
  (.ret))))
  (.skip)))
  (.seq (.reg [⟨some 84, none, .mv (.t 0)⟩,
    ⟨some 85, none, .mv (.t 8)⟩,
    ⟨some 86, none, .slSlc 1 (.t 84) (some (.t 85)) none none⟩,
    ⟨some 87, none, .mv (.t 2)⟩,
    ⟨some 88, none, .copy 1 (.t 86) (.t 87)⟩])
  (.seq (.reg [⟨some 89, none, .mv (.t 0)⟩,
    ⟨some 90, none, .mv (.t 1)⟩,
    ⟨some 91, none, .slSlc 1 (.t 89) (some (.t 90)) none none⟩,
    ⟨some 92, none, .mv (.t 7)⟩,
    ⟨some 93, none, .call 68 [.t 91, .t 92]⟩])
  (.seq (.reg [⟨some 94, none, .mv (.t 0)⟩,
    ⟨some 6, none, .mv (.t 94)⟩])
  (.ret)))))))))))),
  [.t 6]⟩
/-- (*messuage/tlb.Tlb).Clear -/
def rf51 : RFunc := ⟨.seq (.seq (.reg [⟨some 4, none, .mv (.t 0)⟩,
    ⟨some 5, none, .eq false (.sc .ptr) (.t 4) (.c (.nilp))⟩])
  (.cond (.t 5) (.ret)
  (.skip)))
  (.seq (.reg [⟨some 6, none, .mv (.c (.int .i64 0))⟩])
  (.block 0 (.loop (.seq (.reg [⟨some 7, none, .bin .lss (.t 6) (.c (.int .i64 4))⟩])
  (.seq (.cond (.t 7) (.skip)
  (.exit 0))
  (.seq (.block 1 (.seq (.reg [⟨some 8, none, .mv (.t 6)⟩,
    ⟨some 2, none, .mv (.t 8)⟩])
  (.seq (.reg [⟨some 9, none, .mv (.c (.int .i64 0))⟩])
  (.block 2 (.loop (.seq (.reg [⟨some 10, none, .bin .lss (.t 9) (.c (.int .i64 2))⟩])
  (.seq (.cond (.t 10) (.skip)
  (.exit 2))
  (.seq (.block 3 (.seq (.reg [⟨some 11, none, .mv (.t 9)⟩,
    ⟨some 3, none, .mv (.t 11)⟩])
  (.drw [⟨some 12, none, .mv (.t 0)⟩,
    ⟨some 13, none, .mv (.t 2)⟩,
    ⟨some 14, none, .mv (.t 3)⟩,
    ⟨some 15, none, .call 69 []⟩,
    ⟨some 16, none, .nilck (.t 12)⟩,
    ⟨some 17, none, .fadd 0 (.t 16)⟩,
    ⟨some 18, none, .ixaA 4 10 (.t 17) (.t 13)⟩,
    ⟨some 19, none, .ixaA 2 5 (.t 18) (.t 14)⟩,
    ⟨some 20, none, .fadd 0 (.t 19)⟩,
    ⟨none, none, .st 4 (.t 20) (.t 15)⟩] [])))
  (.reg [⟨some 21, none, .bin .add (.t 9) (.c (.int .i64 1))⟩,
    ⟨some 9, none, .mv (.t 21)⟩])))))))))
  (.reg [⟨some 22, none, .bin .add (.t 6) (.c (.int .i64 1))⟩,
    ⟨some 6, none, .mv (.t 22)⟩]))))))),
  []⟩
/-- messuage/pte.May -/
def rf52 : RFunc := ⟨.seq (.reg [⟨some 2, none, .mv (.c (.bool false))⟩])
  (.seq (.reg [⟨some 3, none, .mv (.t 0)⟩,
    ⟨some 4, none, .bin .geq (.t 3) (.c (.int .i64 1))⟩,
    ⟨some 5, none, .mv (.t 4)⟩,
    ⟨some 6, some (5, true), .mv (.t 0)⟩,
    ⟨some 7, some (5, true), .bin .leq (.t 6) (.c (.int .i64 3))⟩,
    ⟨some 8, none, .pick (.t 5) (.t 7) (.c (.bool false))⟩,
    ⟨some 2, none, .mv (.t 8)⟩])
  (.ret)),
  [.t 2]⟩
/-- (*messuage/tlb.Tlb).at -/
def rf53 : RFunc := ⟨.seq (.reg [⟨some 6, none, .mv (.c (.nilp))⟩])
  (.seq (.seq (.reg [⟨some 9, none, .mv (.t 0)⟩,
    ⟨some 10, none, .eq false (.sc .ptr) (.t 9) (.c (.nilp))⟩,
    ⟨some 11, none, .mv (.t 10)⟩,
    ⟨some 12, some (11, false), .mv (.t 1)⟩,
    ⟨some 13, some (11, false), .bin .lss (.t 12) (.c (.int .i64 0))⟩,
    ⟨some 14, none, .pick (.t 11) (.c (.bool true)) (.t 13)⟩,
    ⟨some 15, none, .mv (.t 14)⟩,
    ⟨some 16, some (15, false), .mv (.t 2)⟩,
    ⟨some 17, some (15, false), .bin .lss (.t 16) (.c (.int .i64 0))⟩,
    ⟨some 18, none, .pick (.t 15) (.c (.bool true)) (.t 17)⟩,
    ⟨some 19, none, .mv (.t 18)⟩,
    ⟨some 20, some (19, false), .mv (.t 2)⟩,
    ⟨some 21, some (19, false), .bin .geq (.t 20) (.c (.int .i64 8))⟩,
    ⟨some 22, none, .pick (.t 19) (.c (.bool true)) (.t 21)⟩])
  (.cond (.t 22) (.seq (.reg [⟨some 6, none, .mv (.c (.nilp))⟩])
  (.ret))
  (.skip)))
  (.seq (.seq (.reg [⟨some 23, none, .mv (.c (.int .i64 0))⟩])
  (.block 0 (.loop (.seq (.reg [⟨some 24, none, .bin .lss (.t 23) (.c (.int .i64 2))⟩])
  (.seq (.cond (.t 24) (.skip)
  (.exit 0))
  (.seq (.block 1 (.seq (.reg [⟨some 25, none, .mv (.t 23)⟩,
    ⟨some 7, none, .mv (.t 25)⟩])
  (.seq (.reg [⟨some 26, none, .mv (.t 0)⟩,
    ⟨some 27, none, .mv (.t 2)⟩,
    ⟨some 28, none, .bin .rem (.t 27) (.c (.int .i64 4))⟩,
    ⟨some 29, none, .mv (.t 7)⟩,
    ⟨some 30, none, .nilck (.t 26)⟩,
    ⟨some 31, none, .fadd 0 (.t 30)⟩,
    ⟨some 32, none, .ixaA 4 10 (.t 31) (.t 28)⟩,
    ⟨some 33, none, .ixaA 2 5 (.t 32) (.t 29)⟩,
    ⟨some 8, none, .mv (.t 33)⟩])
  (.seq (.reg [⟨some 34, none, .mv (.t 8)⟩,
    ⟨some 35, none, .nilck (.t 34)⟩,
    ⟨some 36, none, .fadd 0 (.t 35)⟩,
    ⟨some 37, none, .fadd 0 (.t 36)⟩,
    ⟨some 38, none, .ld1 (.t 37)⟩,
    ⟨some 39, none, .mv (.t 1)⟩,
    ⟨some 40, none, .bin .eql (.t 38) (.t 39)⟩,
    ⟨some 41, none, .mv (.t 40)⟩,
    ⟨some 42, some (41, true), .mv (.t 8)⟩,
    ⟨some 43, some (41, true), .nilck (.t 42)⟩,
    ⟨some 44, some (41, true), .fadd 0 (.t 43)⟩,
    ⟨some 45, some (41, true), .fadd 1 (.t 44)⟩,
    ⟨some 46, some (41, true), .ld1 (.t 45)⟩,
    ⟨some 47, some (41, true), .mv (.t 2)⟩,
    ⟨some 48, some (41, true), .bin .eql (.t 46) (.t 47)⟩,
    ⟨some 49, none, .pick (.t 41) (.t 48) (.c (.bool false))⟩])
  (.cond (.t 49) (.seq (.reg [⟨some 50, none, .mv (.t 8)⟩,
    ⟨some 6, none, .mv (.t 50)⟩])
  (.ret))
  (.skip))))))
  (.reg [⟨some 51, none, .bin .add (.t 23) (.c (.int .i64 1))⟩,
    ⟨some 23, none, .mv (.t 51)⟩])))))))
  (.seq (.reg [⟨some 6, none, .mv (.c (.nilp))⟩])
  (.ret)))),
  [.t 6]⟩
/-- (*messuage/tlb.Tlb).room -/
def rf54 : RFunc := ⟨.seq (.reg [⟨some 4, none, .mv (.c (.nilp))⟩])
  (.seq (.reg [⟨some 5, none, .mv (.c (.nilp))⟩])
  (.seq (.seq (.reg [⟨some 8, none, .mv (.c (.int .i64 0))⟩])
  (.block 0 (.loop (.seq (.reg [⟨some 9, none, .bin .lss (.t 8) (.c (.int .i64 2))⟩])
  (.seq (.cond (.t 9) (.skip)
  (.exit 0))
  (.seq (.block 1 (.seq (.reg [⟨some 10, none, .mv (.t 8)⟩,
    ⟨some 6, none, .mv (.t 10)⟩])
  (.seq (.reg [⟨some 11, none, .mv (.t 0)⟩,
    ⟨some 12, none, .mv (.t 1)⟩,
    ⟨some 13, none, .mv (.t 6)⟩,
    ⟨some 14, none, .nilck (.t 11)⟩,
    ⟨some 15, none, .fadd 0 (.t 14)⟩,
    ⟨some 16, none, .ixaA 4 10 (.t 15) (.t 12)⟩,
    ⟨some 17, none, .ixaA 2 5 (.t 16) (.t 13)⟩,
    ⟨some 7, none, .mv (.t 17)⟩])
  (.seq (.seq (.reg [⟨some 18, none, .mv (.t 7)⟩,
    ⟨some 19, none, .nilck (.t 18)⟩,
    ⟨some 20, none, .fadd 0 (.t 19)⟩,
    ⟨some 21, none, .fadd 0 (.t 20)⟩,
    ⟨some 22, none, .ld1 (.t 21)⟩,
    ⟨some 23, none, .bin .lss (.t 22) (.c (.int .i64 0))⟩])
  (.cond (.t 23) (.seq (.reg [⟨some 24, none, .mv (.t 7)⟩,
    ⟨some 4, none, .mv (.t 24)⟩])
  (.ret))
  (.skip)))
  (.seq (.drw [⟨some 25, none, .mv (.t 5)⟩,
    ⟨some 26, none, .eq false (.sc .ptr) (.t 25) (.c (.nilp))⟩,
    ⟨some 27, none, .mv (.t 26)⟩,
    ⟨some 28, some (27, false), .mv (.t 7)⟩,
    ⟨some 29, some (27, false), .nilck (.t 28)⟩,
    ⟨some 30, some (27, false), .fadd 4 (.t 29)⟩,
    ⟨some 31, some (27, false), .ld1 (.t 30)⟩,
    ⟨some 32, some (27, false), .mv (.t 5)⟩,
    ⟨some 33, some (27, false), .nilck (.t 32)⟩,
    ⟨some 34, some (27, false), .fadd 4 (.t 33)⟩,
    ⟨some 35, some (27, false), .ld1 (.t 34)⟩,
    ⟨some 36, some (27, false), .bin .lss (.t 31) (.t 35)⟩,
    ⟨some 37, none, .pick (.t 27) (.c (.bool true)) (.t 36)⟩] [])
  (.cond (.t 37) (.reg [⟨some 38, none, .mv (.t 7)⟩,
    ⟨some 5, none, .mv (.t 38)⟩])
  (.skip)))))))
  (.reg [⟨some 39, none, .bin .add (.t 8) (.c (.int .i64 1))⟩,
    ⟨some 8, none, .mv (.t 39)⟩])))))))
  (.seq (.reg [⟨some 40, none, .mv (.t 5)⟩,
    ⟨some 4, none, .mv (.t 40)⟩])
  (.ret)))),
  [.t 4]⟩
/-- slices.Index[[]int,int] -/
def rf55 : RFunc := ⟨.seq (.reg [⟨some 4, none, .mv (.c (.int .i64 0))⟩])
  (.seq (.seq (.reg [⟨some 6, none, .mv (.t 0)⟩,
    ⟨some 7, none, .lenL (.t 6)⟩,
    ⟨some 8, none, .mv (.c (.int .i64 0))⟩])
  (.block 0 (.loop (.seq (.reg [⟨some 9, none, .bin .lss (.t 8) (.t 7)⟩])
  (.seq (.cond (.t 9) (.skip)
  (.exit 0))
  (.seq (.block 1 (.seq (.reg [⟨some 10, none, .mv (.t 8)⟩,
    ⟨some 5, none, .mv (.t 10)⟩])
  (.seq (.reg [⟨some 11, none, .mv (.t 1)⟩,
    ⟨some 12, none, .mv (.t 0)⟩,
    ⟨some 13, none, .mv (.t 5)⟩,
    ⟨some 14, none, .ixaS 1 (.t 12) (.t 13)⟩,
    ⟨some 15, none, .ld1 (.t 14)⟩,
    ⟨some 16, none, .bin .eql (.t 11) (.t 15)⟩])
  (.cond (.t 16) (.seq (.reg [⟨some 17, none, .mv (.t 5)⟩,
    ⟨some 4, none, .mv (.t 17)⟩])
  (.ret))
  (.skip)))))
  (.reg [⟨some 18, none, .bin .add (.t 8) (.c (.int .i64 1))⟩,
    ⟨some 8, none, .mv (.t 18)⟩])))))))
  (.seq (.reg [⟨some 4, none, .mv (.c (.int .i64 (-1)))⟩])
  (.ret))),
  [.t 4]⟩
/-- (*messuage/pool.Pool).Refs -/
def rf56 : RFunc := ⟨.seq (.reg [⟨some 4, none, .mv (.c (.int .i64 0))⟩])
  (.seq (.seq (.reg [⟨some 5, none, .mv (.t 0)⟩,
    ⟨some 6, none, .eq false (.sc .ptr) (.t 5) (.c (.nilp))⟩,
    ⟨some 7, none, .mv (.t 6)⟩,
    ⟨some 8, some (7, false), .mv (.t 1)⟩,
    ⟨some 9, some (7, false), .bin .lss (.t 8) (.c (.int .i64 0))⟩,
    ⟨some 10, none, .pick (.t 7) (.c (.bool true)) (.t 9)⟩,
    ⟨some 11, none, .mv (.t 10)⟩,
    ⟨some 12, some (11, false), .mv (.t 1)⟩,
    ⟨some 13, some (11, false), .mv (.t 0)⟩,
    ⟨some 14, some (11, false), .nilck (.t 13)⟩,
    ⟨some 15, some (11, false), .fadd 0 (.t 14)⟩,
    ⟨some 16, some (11, false), .ld1 (.t 15)⟩,
    ⟨some 17, some (11, false), .lenL (.t 16)⟩,
    ⟨some 18, some (11, false), .bin .geq (.t 12) (.t 17)⟩,
    ⟨some 19, none, .pick (.t 11) (.c (.bool true)) (.t 18)⟩])
  (.cond (.t 19) (.seq (.reg [⟨some 4, none, .mv (.c (.int .i64 0))⟩])
  (.ret))
  (.skip)))
  (.seq (.reg [⟨some 20, none, .mv (.t 0)⟩,
    ⟨some 21, none, .nilck (.t 20)⟩,
    ⟨some 22, none, .fadd 0 (.t 21)⟩,
    ⟨some 23, none, .ld1 (.t 22)⟩,
    ⟨some 24, none, .mv (.t 1)⟩,
    ⟨some 25, none, .ixaS 1 (.t 23) (.t 24)⟩,
    ⟨some 26, none, .ld1 (.t 25)⟩,
    ⟨some 4, none, .mv (.t 26)⟩])
  (.ret))),
  [.t 4]⟩
/-- (*messuage/mem.Mem).at -/
def rf57 : RFunc := ⟨.seq (.reg [⟨some 6, none, .mv (.c (.nilp))⟩])
  (.seq (.seq (.reg [⟨some 7, none, .mv (.t 1)⟩,
    ⟨some 8, none, .bin .lss (.t 7) (.c (.int .i64 0))⟩,
    ⟨some 9, none, .mv (.t 8)⟩,
    ⟨some 10, some (9, false), .mv (.t 1)⟩,
    ⟨some 11, some (9, false), .mv (.t 0)⟩,
    ⟨some 12, some (9, false), .call 70 [.t 11]⟩,
    ⟨some 13, some (9, false), .bin .geq (.t 10) (.t 12)⟩,
    ⟨some 14, none, .pick (.t 9) (.c (.bool true)) (.t 13)⟩,
    ⟨some 15, none, .mv (.t 14)⟩,
    ⟨some 16, some (15, false), .mv (.t 2)⟩,
    ⟨some 17, some (15, false), .bin .lss (.t 16) (.c (.int .i64 0))⟩,
    ⟨some 18, none, .pick (.t 15) (.c (.bool true)) (.t 17)⟩,
    ⟨some 19, none, .mv (.t 18)⟩,
    ⟨some 20, some (19, false), .mv (.t 2)⟩,
    ⟨some 21, some (19, false), .bin .geq (.t 20) (.c (.int .i64 16))⟩,
    ⟨some 22, none, .pick (.t 19) (.c (.bool true)) (.t 21)⟩])
  (.cond (.t 22) (.seq (.reg [⟨some 6, none, .mv (.c (.nilp))⟩])
  (.ret))
  (.skip)))
  (.seq (.reg [⟨some 23, none, .mv (.t 0)⟩,
    ⟨some 24, none, .nilck (.t 23)⟩,
    ⟨some 25, none, .fadd 0 (.t 24)⟩,
    ⟨some 26, none, .ld1 (.t 25)⟩,
    ⟨some 27, none, .mv (.t 1)⟩,
    ⟨some 28, none, .ixaS 1 (.t 26) (.t 27)⟩,
    ⟨some 29, none, .ld1 (.t 28)⟩,
    ⟨some 30, none, .mv (.t 2)⟩,
    ⟨some 31, none, .ixaS 1 (.t 29) (.t 30)⟩,
    ⟨some 6, none, .mv (.t 31)⟩])
  (.ret))),
  [.t 6]⟩
/-- slices.Clone[[]uint64,uint64] -/
def rf58 : RFunc := ⟨.seq (.reg [⟨some 2, none, .mv (.c (.nils))⟩])
  (.seq (.seq (.reg [⟨some 3, none, .mv (.t 0)⟩,
    ⟨some 4, none, .eq false (.sc .slcN) (.t 3) (.c (.nils))⟩])
  (.cond (.t 4) (.seq (.reg [⟨some 2, none, .mv (.c (.nils))⟩])
  (.ret))
  (.skip)))
  (.seq (.reg [⟨some 5, none, .bsl 1 [] 0 []⟩,
    ⟨some 6, none, .mv (.t 0)⟩,
    ⟨some 7, none, .app 1 8 (.t 5) (.t 6)⟩,
    ⟨some 2, none, .mv (.t 7)⟩])
  (.ret))),
  [.t 2]⟩
/-- messuage/table.is -/
def rf59 : RFunc := ⟨.seq (.reg [⟨some 2, none, .mv (.c (.bool false))⟩])
  (.seq (.reg [⟨some 3, none, .mv (.t 0)⟩,
    ⟨some 4, none, .bin .geq (.t 3) (.c (.int .i64 0))⟩,
    ⟨some 5, none, .mv (.t 4)⟩,
    ⟨some 6, some (5, true), .mv (.t 0)⟩,
    ⟨some 7, some (5, true), .bin .lss (.t 6) (.c (.int .i64 8))⟩,
    ⟨some 8, none, .pick (.t 5) (.t 7) (.c (.bool false))⟩,
    ⟨some 2, none, .mv (.t 8)⟩])
  (.ret)),
  [.t 2]⟩
/-- messuage/messuagelaw1.begun -/
def rf60 : RFunc := ⟨.seq (.reg [⟨some 0, none, .mv (.c (.bool false))⟩])
  (.seq (.reg [⟨some 4, none, .build [.int .u64 0, .int .u64 0, .int .u64 0, .int .u64 0, .int .u64 0] [(0, 1, .c (.int .u64 1)), (1, 1, .c (.int .u64 2))]⟩,
    ⟨some 5, none, .call 72 [.c (.int .i64 3)]⟩,
    ⟨some 6, none, .call 71 [.c (.int .i64 2), .t 4, .t 5]⟩,
    ⟨some 1, none, .mv (.t 6)⟩])
  (.seq (.reg [⟨some 8, none, .mv (.t 1)⟩,
    ⟨some 9, none, .call 73 [.t 8]⟩,
    ⟨some 7, none, .mv (.t 9)⟩,
    ⟨some 10, none, .ex 0 (.t 7)⟩,
    ⟨some 11, none, .ex 1 (.t 7)⟩,
    ⟨some 2, none, .mv (.t 10)⟩,
    ⟨some 3, none, .mv (.t 11)⟩])
  (.seq (.seq (.reg [⟨some 12, none, .mv (.t 1)⟩,
    ⟨some 13, none, .eq false (.sc .ifc) (.t 12) (.c (.nili))⟩,
    ⟨some 14, none, .mv (.t 13)⟩,
    ⟨some 15, some (14, false), .mv (.t 2)⟩,
    ⟨some 16, some (14, false), .eq false (.sc .ptr) (.t 15) (.c (.nilp))⟩,
    ⟨some 17, none, .pick (.t 14) (.c (.bool true)) (.t 16)⟩])
  (.cond (.t 17) (.seq (.reg [⟨some 0, none, .mv (.c (.bool false))⟩])
  (.ret))
  (.skip)))
  (.seq (.reg [⟨some 18, none, .mv (.t 3)⟩,
    ⟨some 19, none, .mv (.t 18)⟩,
    ⟨some 20, some (19, true), .mv (.t 2)⟩,
    ⟨some 21, some (19, true), .nilck (.t 20)⟩,
    ⟨some 22, some (19, true), .fadd 1 (.t 21)⟩,
    ⟨some 23, some (19, true), .ld1 (.t 22)⟩,
    ⟨some 24, some (19, true), .bin .eql (.t 23) (.c (.int .i64 2))⟩,
    ⟨some 25, none, .pick (.t 19) (.t 24) (.c (.bool false))⟩,
    ⟨some 26, none, .mv (.t 25)⟩,
    ⟨some 27, some (26, true), .mv (.t 2)⟩,
    ⟨some 28, some (26, true), .nilck (.t 27)⟩,
    ⟨some 29, some (26, true), .fadd 2 (.t 28)⟩,
    ⟨some 30, some (26, true), .ldA 5 (.t 29)⟩,
    ⟨some 31, some (26, true), .build [.int .u64 0, .int .u64 0, .int .u64 0, .int .u64 0, .int .u64 0] [(0, 1, .c (.int .u64 1)), (1, 1, .c (.int .u64 2))]⟩,
    ⟨some 32, some (26, true), .eq false (.flat [(0, .int), (1, .int), (2, .int), (3, .int), (4, .int)]) (.t 30) (.t 31)⟩,
    ⟨some 33, none, .pick (.t 26) (.t 32) (.c (.bool false))⟩,
    ⟨some 34, none, .mv (.t 33)⟩,
    ⟨some 35, some (34, true), .mv (.t 2)⟩,
    ⟨some 36, some (34, true), .nilck (.t 35)⟩,
    ⟨some 37, some (34, true), .fadd 0 (.t 36)⟩,
    ⟨some 38, some (34, true), .ld1 (.t 37)⟩,
    ⟨some 39, some (34, true), .bin .eql (.t 38) (.c (.int .i64 3))⟩,
    ⟨some 40, none, .pick (.t 34) (.t 39) (.c (.bool false))⟩,
    ⟨some 41, none, .mv (.t 40)⟩,
    ⟨some 42, some (41, true), .mv (.t 1)⟩,
    ⟨some 43, some (41, true), .call 74 [.t 42]⟩,
    ⟨some 44, some (41, true), .bin .eql (.t 43) (.c (.int .i64 3))⟩,
    ⟨some 45, none, .pick (.t 41) (.t 44) (.c (.bool false))⟩,
    ⟨some 46, none, .mv (.t 45)⟩,
    ⟨some 47, some (46, true), .mv (.t 1)⟩,
    ⟨some 48, some (46, true), .call 75 [.t 47]⟩,
    ⟨some 49, some (46, true), .bin .eql (.t 48) (.c (.int .i64 2))⟩,
    ⟨some 50, none, .pick (.t 46) (.t 49) (.c (.bool false))⟩,
    ⟨some 51, none, .mv (.t 50)⟩,
    ⟨some 52, some (51, true), .mv (.t 1)⟩,
    ⟨some 53, some (51, true), .call 72 [.c (.int .i64 3)]⟩,
    ⟨some 54, some (51, true), .call 76 [.t 52, .t 53]⟩,
    ⟨some 55, none, .pick (.t 51) (.t 54) (.c (.bool false))⟩,
    ⟨some 56, none, .mv (.t 55)⟩,
    ⟨some 57, some (56, true), .mv (.t 1)⟩,
    ⟨some 58, some (56, true), .call 72 [.c (.int .i64 4)]⟩,
    ⟨some 59, some (56, true), .call 76 [.t 57, .t 58]⟩,
    ⟨some 60, some (56, true), .un .not (.t 59)⟩,
    ⟨some 61, none, .pick (.t 56) (.t 60) (.c (.bool false))⟩,
    ⟨some 62, none, .mv (.t 61)⟩,
    ⟨some 63, some (62, true), .mv (.t 1)⟩,
    ⟨some 64, some (62, true), .inv [(8, 89), (14, 95), (15, 97), (16, 99), (19, 104), (126, 107), (154, 137)] (.t 63) []⟩,
    ⟨some 65, some (62, true), .bin .eql (.t 64) (.c (.str [116, 114, 97, 112, 32, 51, 58, 32, 116, 114, 97, 112, 32, 51]))⟩,
    ⟨some 66, none, .pick (.t 62) (.t 65) (.c (.bool false))⟩,
    ⟨some 67, none, .mv (.t 66)⟩,
    ⟨some 68, some (67, true), .call 72 [.c (.int .i64 0)]⟩,
    ⟨some 69, some (67, true), .eq false (.sc .ifc) (.t 68) (.c (.nili))⟩,
    ⟨some 70, none, .pick (.t 67) (.t 69) (.c (.bool false))⟩,
    ⟨some 0, none, .mv (.t 70)⟩])
  (.ret))))),
  [.t 0]⟩
/-- (*messuage/cell.Cell).Load -/
def rf61 : RFunc := ⟨.seq (.reg [⟨some 2, none, .mv (.c (.int .u64 0))⟩])
  (.seq (.seq (.reg [⟨some 3, none, .mv (.t 0)⟩,
    ⟨some 4, none, .eq false (.sc .ptr) (.t 3) (.c (.nilp))⟩])
  (.cond (.t 4) (.seq (.reg [⟨some 2, none, .mv (.c (.int .u64 0))⟩])
  (.ret))
  (.skip)))
  (.seq (.reg [⟨some 5, none, .mv (.t 0)⟩,
    ⟨some 6, none, .nilck (.t 5)⟩,
    ⟨some 7, none, .fadd 1 (.t 6)⟩,
    ⟨some 8, none, .ld1 (.t 7)⟩,
    ⟨some 9, none, .bin .add (.t 8) (.c (.int .i64 1))⟩,
    ⟨some 10, none, .nilck (.t 5)⟩,
    ⟨some 11, none, .fadd 1 (.t 10)⟩,
    ⟨none, none, .st 1 (.t 11) (.t 9)⟩])
  (.seq (.reg [⟨some 12, none, .mv (.t 0)⟩,
    ⟨some 13, none, .nilck (.t 12)⟩,
    ⟨some 14, none, .fadd 0 (.t 13)⟩,
    ⟨some 15, none, .ld1 (.t 14)⟩,
    ⟨some 2, none, .mv (.t 15)⟩])
  (.ret)))),
  [.t 2]⟩
/-- (*messuage/cell.Cell).Cas -/
def rf62 : RFunc := ⟨.seq (.reg [⟨some 6, none, .mv (.c (.bool false))⟩])
  (.seq (.seq (.reg [⟨some 7, none, .mv (.t 0)⟩,
    ⟨some 8, none, .eq false (.sc .ptr) (.t 7) (.c (.nilp))⟩])
  (.cond (.t 8) (.seq (.reg [⟨some 6, none, .mv (.c (.bool false))⟩])
  (.ret))
  (.skip)))
  (.seq (.reg [⟨some 9, none, .mv (.t 0)⟩,
    ⟨some 10, none, .nilck (.t 9)⟩,
    ⟨some 11, none, .fadd 1 (.t 10)⟩,
    ⟨some 12, none, .ld1 (.t 11)⟩,
    ⟨some 13, none, .bin .add (.t 12) (.c (.int .i64 1))⟩,
    ⟨some 14, none, .nilck (.t 9)⟩,
    ⟨some 15, none, .fadd 1 (.t 14)⟩,
    ⟨none, none, .st 1 (.t 15) (.t 13)⟩])
  (.seq (.seq (.reg [⟨some 16, none, .mv (.t 0)⟩,
    ⟨some 17, none, .nilck (.t 16)⟩,
    ⟨some 18, none, .fadd 0 (.t 17)⟩,
    ⟨some 19, none, .ld1 (.t 18)⟩,
    ⟨some 20, none, .mv (.t 1)⟩,
    ⟨some 21, none, .bin .neq (.t 19) (.t 20)⟩])
  (.cond (.t 21) (.seq (.reg [⟨some 6, none, .mv (.c (.bool false))⟩])
  (.ret))
  (.skip)))
  (.seq (.reg [⟨some 22, none, .mv (.t 0)⟩,
    ⟨some 23, none, .mv (.t 2)⟩,
    ⟨some 24, none, .nilck (.t 22)⟩,
    ⟨some 25, none, .fadd 0 (.t 24)⟩,
    ⟨none, none, .st 1 (.t 25) (.t 23)⟩])
  (.seq (.reg [⟨some 6, none, .mv (.c (.bool true))⟩])
  (.ret)))))),
  [.t 6]⟩
/-- messuage/word.Arg -/
def rf63 : RFunc := ⟨.seq (.reg [⟨some 3, none, .box 5 (.t 0)⟩,
    ⟨some 6, none, .mv (.c (.int .i64 0))⟩,
    ⟨some 7, none, .mv (.c (.bool false))⟩])
  (.seq (.seq (.reg [⟨some 8, none, .mv (.t 1)⟩,
    ⟨some 9, none, .bin .lss (.t 8) (.c (.int .i64 1))⟩,
    ⟨some 10, none, .mv (.t 9)⟩,
    ⟨some 11, some (10, false), .mv (.t 1)⟩,
    ⟨some 12, some (10, false), .bin .geq (.t 11) (.c (.int .i64 5))⟩,
    ⟨some 13, none, .pick (.t 10) (.c (.bool true)) (.t 12)⟩,
    ⟨some 14, none, .mv (.t 13)⟩,
    ⟨some 15, some (14, false), .mv (.t 2)⟩,
    ⟨some 16, some (14, false), .bin .leq (.t 15) (.c (.int .i64 0))⟩,
    ⟨some 17, none, .pick (.t 14) (.c (.bool true)) (.t 16)⟩,
    ⟨some 18, none, .mv (.t 17)⟩,
    ⟨some 19, some (18, false), .mv (.t 1)⟩,
    ⟨some 20, some (18, false), .ixaA 5 1 (.t 3) (.t 19)⟩,
    ⟨some 21, some (18, false), .ld1 (.t 20)⟩,
    ⟨some 22, some (18, false), .mv (.t 2)⟩,
    ⟨some 23, some (18, false), .cvi .u64 (.t 22)⟩,
    ⟨some 24, some (18, false), .bin .geq (.t 21) (.t 23)⟩,
    ⟨some 25, none, .pick (.t 18) (.c (.bool true)) (.t 24)⟩])
  (.cond (.t 25) (.seq (.reg [⟨some 6, none, .mv (.c (.int .i64 0))⟩,
    ⟨some 7, none, .mv (.c (.bool false))⟩])
  (.ret))
  (.skip)))
  (.seq (.reg [⟨some 26, none, .mv (.t 1)⟩,
    ⟨some 27, none, .ixaA 5 1 (.t 3) (.t 26)⟩,
    ⟨some 28, none, .ld1 (.t 27)⟩,
    ⟨some 29, none, .cvi .i64 (.t 28)⟩,
    ⟨some 6, none, .mv (.t 29)⟩,
    ⟨some 7, none, .mv (.c (.bool true))⟩])
  (.ret))),
  [.t 6, .t 7]⟩
/-- messuage/word.Rights -/
def rf64 : RFunc := ⟨.seq (.reg [⟨some 2, none, .mv (.c (.int .i64 0))⟩,
    ⟨some 3, none, .mv (.c (.bool false))⟩])
  (.seq (.seq (.reg [⟨some 4, none, .mv (.t 0)⟩,
    ⟨some 5, none, .bin .lss (.t 4) (.c (.int .u64 1))⟩,
    ⟨some 6, none, .mv (.t 5)⟩,
    ⟨some 7, some (6, false), .mv (.t 0)⟩,
    ⟨some 8, some (6, false), .bin .gtr (.t 7) (.c (.int .u64 3))⟩,
    ⟨some 9, none, .pick (.t 6) (.c (.bool true)) (.t 8)⟩])
  (.cond (.t 9) (.seq (.reg [⟨some 2, none, .mv (.c (.int .i64 0))⟩,
    ⟨some 3, none, .mv (.c (.bool false))⟩])
  (.ret))
  (.skip)))
  (.seq (.reg [⟨some 10, none, .mv (.t 0)⟩,
    ⟨some 11, none, .cvi .i64 (.t 10)⟩,
    ⟨some 2, none, .mv (.t 11)⟩,
    ⟨some 3, none, .mv (.c (.bool true))⟩])
  (.ret))),
  [.t 2, .t 3]⟩
/-- cmp.Less[uint64] -/
def rf65 : RFunc := ⟨.seq (.reg [⟨some 4, none, .mv (.c (.bool false))⟩])
  (.seq (.reg [⟨some 5, none, .mv (.t 0)⟩,
    ⟨some 6, none, .call 77 [.t 5]⟩,
    ⟨some 7, none, .mv (.t 6)⟩,
    ⟨some 8, some (7, true), .mv (.t 1)⟩,
    ⟨some 9, some (7, true), .call 77 [.t 8]⟩,
    ⟨some 10, some (7, true), .un .not (.t 9)⟩,
    ⟨some 11, none, .pick (.t 7) (.t 10) (.c (.bool false))⟩,
    ⟨some 12, none, .mv (.t 11)⟩,
    ⟨some 13, some (12, false), .mv (.t 0)⟩,
    ⟨some 14, some (12, false), .mv (.t 1)⟩,
    ⟨some 15, some (12, false), .bin .lss (.t 13) (.t 14)⟩,
    ⟨some 16, none, .pick (.t 12) (.c (.bool true)) (.t 15)⟩,
    ⟨some 4, none, .mv (.t 16)⟩])
  (.ret)),
  [.t 4]⟩
/-- slices.isNaN[uint64] -/
def rf66 : RFunc := ⟨.seq (.reg [⟨some 2, none, .mv (.c (.bool false))⟩])
  (.seq (.reg [⟨some 3, none, .mv (.t 0)⟩,
    ⟨some 4, none, .mv (.t 0)⟩,
    ⟨some 5, none, .bin .neq (.t 3) (.t 4)⟩,
    ⟨some 2, none, .mv (.t 5)⟩])
  (.ret)),
  [.t 2]⟩
/-- slices.rotateRight[uint64] -/
def rf68 : RFunc := ⟨.reg [⟨some 4, none, .mv (.t 0)⟩,
    ⟨some 5, none, .mv (.t 0)⟩,
    ⟨some 6, none, .lenL (.t 5)⟩,
    ⟨some 7, none, .mv (.t 1)⟩,
    ⟨some 8, none, .bin .sub (.t 6) (.t 7)⟩,
    ⟨some 9, none, .call 78 [.t 4, .t 8]⟩],
  []⟩
/-- messuage/tlb.empty -/
def rf69 : RFunc := ⟨.seq (.reg [⟨some 0, none, .new [.int .i64 0, .int .i64 0, .int .i64 0, .int .i64 0]⟩])
  (.seq (.reg [⟨some 1, none, .build [.int .i64 0, .int .i64 0, .int .i64 0, .int .i64 0] [(0, 1, .c (.int .i64 (-1)))]⟩,
    ⟨none, none, .st 4 (.t 0) (.t 1)⟩])
  (.ret)),
  [.cellA 0 4]⟩
/-- (*messuage/mem.Mem).Frames -/
def rf70 : RFunc := ⟨.seq (.reg [⟨some 2, none, .mv (.c (.int .i64 0))⟩])
  (.seq (.seq (.reg [⟨some 3, none, .mv (.t 0)⟩,
    ⟨some 4, none, .eq false (.sc .ptr) (.t 3) (.c (.nilp))⟩])
  (.cond (.t 4) (.seq (.reg [⟨some 2, none, .mv (.c (.int .i64 0))⟩])
  (.ret))
  (.skip)))
  (.seq (.reg [⟨some 5, none, .mv (.t 0)⟩,
    ⟨some 6, none, .nilck (.t 5)⟩,
    ⟨some 7, none, .fadd 0 (.t 6)⟩,
    ⟨some 8, none, .ld1 (.t 7)⟩,
    ⟨some 9, none, .lenL (.t 8)⟩,
    ⟨some 2, none, .mv (.t 9)⟩])
  (.ret))),
  [.t 2]⟩
/-- messuage/trap.In -/
def rf71 : RFunc := ⟨.seq (.reg [⟨some 4, none, .box 5 (.t 1)⟩,
    ⟨some 6, none, .mv (.c (.nili))⟩])
  (.seq (.seq (.reg [⟨some 7, none, .mv (.t 2)⟩,
    ⟨some 8, none, .eq false (.sc .ifc) (.t 7) (.c (.nili))⟩])
  (.cond (.t 8) (.seq (.reg [⟨some 6, none, .mv (.c (.nili))⟩])
  (.ret))
  (.skip)))
  (.seq (.drw [⟨some 9, none, .mv (.t 2)⟩,
    ⟨some 10, none, .call 74 [.t 9]⟩,
    ⟨some 11, none, .mv (.t 0)⟩,
    ⟨some 12, none, .ldA 5 (.t 4)⟩,
    ⟨some 13, none, .mv (.t 2)⟩,
    ⟨some 14, none, .build [.int .i64 0, .int .i64 0, .int .u64 0, .int .u64 0, .int .u64 0, .int .u64 0, .int .u64 0, .nili] [(0, 1, .t 10), (1, 1, .t 11), (2, 5, .t 12), (7, 1, .t 13)]⟩,
    ⟨some 15, none, .box 8 (.t 14)⟩,
    ⟨some 16, none, .mkifc 126 (.t 15)⟩,
    ⟨some 6, none, .mv (.t 16)⟩] [(3, 1)])
  (.ret))),
  [.t 6]⟩
/-- messuage/trap.Of -/
def rf72 : RFunc := ⟨.seq (.reg [⟨some 2, none, .mv (.c (.nili))⟩])
  (.seq (.seq (.reg [⟨some 3, none, .mv (.t 0)⟩,
    ⟨some 4, none, .bin .eql (.t 3) (.c (.int .i64 0))⟩])
  (.cond (.t 4) (.seq (.reg [⟨some 2, none, .mv (.c (.nili))⟩])
  (.ret))
  (.skip)))
  (.seq (.reg [⟨some 5, none, .mv (.t 0)⟩,
    ⟨some 6, none, .build [.int .i64 0, .int .i64 0, .int .u64 0, .int .u64 0, .int .u64 0, .int .u64 0, .int .u64 0, .nili] [(0, 1, .t 5), (1, 1, .c (.int .i64 (-1)))]⟩,
    ⟨some 7, none, .box 8 (.t 6)⟩,
    ⟨some 8, none, .mkifc 126 (.t 7)⟩,
    ⟨some 2, none, .mv (.t 8)⟩])
  (.ret))),
  [.t 2]⟩
/-- messuage/trap.First -/
def rf73 : RFunc := ⟨.seq (.reg [⟨some 2, none, .mv (.c (.nilp))⟩,
    ⟨some 3, none, .mv (.c (.bool false))⟩])
  (.seq (.reg [⟨some 4, none, .new [.nilp]⟩])
  (.seq (.seq (.reg [⟨some 5, none, .mv (.t 0)⟩,
    ⟨some 6, none, .mkifc 136 (.t 4)⟩,
    ⟨some 7, none, .call 79 [.t 5, .t 6]⟩,
    ⟨some 8, none, .un .not (.t 7)⟩,
    ⟨some 9, none, .mv (.t 8)⟩,
    ⟨some 10, some (9, false), .ld1 (.t 4)⟩,
    ⟨some 11, some (9, false), .eq false (.sc .ptr) (.t 10) (.c (.nilp))⟩,
    ⟨some 12, none, .pick (.t 9) (.c (.bool true)) (.t 11)⟩])
  (.cond (.t 12) (.seq (.reg [⟨some 2, none, .mv (.c (.nilp))⟩,
    ⟨some 3, none, .mv (.c (.bool false))⟩])
  (.ret))
  (.skip)))
  (.seq (.reg [⟨some 13, none, .ld1 (.t 4)⟩,
    ⟨some 2, none, .mv (.t 13)⟩,
    ⟨some 3, none, .mv (.c (.bool true))⟩])
  (.ret)))),
  [.t 2, .t 3]⟩
/-- messuage/trap.Code -/
def rf74 : RFunc := ⟨.seq (.reg [⟨some 2, none, .mv (.c (.int .i64 0))⟩])
  (.seq (.seq (.reg [⟨some 5, none, .mv (.t 0)⟩,
    ⟨some 6, none, .eq false (.sc .ifc) (.t 5) (.c (.nili))⟩])
  (.cond (.t 6) (.seq (.reg [⟨some 2, none, .mv (.c (.int .i64 0))⟩])
  (.ret))
  (.skip)))
  (.seq (.seq (.reg [⟨some 8, none, .mv (.t 0)⟩,
    ⟨some 9, none, .call 73 [.t 8]⟩,
    ⟨some 7, none, .mv (.t 9)⟩,
    ⟨some 10, none, .ex 0 (.t 7)⟩,
    ⟨some 11, none, .ex 1 (.t 7)⟩,
    ⟨some 3, none, .mv (.t 10)⟩,
    ⟨some 4, none, .mv (.t 11)⟩])
  (.seq (.reg [⟨some 12, none, .mv (.t 4)⟩])
  (.cond (.t 12) (.seq (.reg [⟨some 13, none, .mv (.t 3)⟩,
    ⟨some 14, none, .nilck (.t 13)⟩,
    ⟨some 15, none, .fadd 0 (.t 14)⟩,
    ⟨some 16, none, .ld1 (.t 15)⟩,
    ⟨some 2, none, .mv (.t 16)⟩])
  (.ret))
  (.skip))))
  (.seq (.reg [⟨some 2, none, .mv (.c (.int .i64 9))⟩])
  (.ret)))),
  [.t 2]⟩
/-- messuage/trap.Depth -/
def rf75 : RFunc := ⟨.seq (.reg [⟨some 2, none, .mv (.c (.int .i64 0))⟩])
  (.seq (.reg [⟨some 3, none, .mv (.c (.int .i64 0))⟩])
  (.seq (.seq (.reg [⟨some 7, none, .mv (.t 0)⟩,
    ⟨some 8, none, .call 73 [.t 7]⟩,
    ⟨some 6, none, .mv (.t 8)⟩,
    ⟨some 9, none, .ex 0 (.t 6)⟩,
    ⟨some 10, none, .ex 1 (.t 6)⟩,
    ⟨some 4, none, .mv (.t 9)⟩,
    ⟨some 5, none, .mv (.t 10)⟩])
  (.block 0 (.loop (.seq (.seq (.reg [⟨some 11, none, .mv (.t 5)⟩])
  (.cond (.t 11) (.skip)
  (.exit 0)))
  (.seq (.block 1 (.reg [⟨some 20, none, .mv (.t 3)⟩,
    ⟨some 21, none, .bin .add (.t 20) (.c (.int .i64 1))⟩,
    ⟨some 3, none, .mv (.t 21)⟩]))
  (.reg [⟨some 13, none, .mv (.t 4)⟩,
    ⟨some 14, none, .nilck (.t 13)⟩,
    ⟨some 15, none, .fadd 7 (.t 14)⟩,
    ⟨some 16, none, .ld1 (.t 15)⟩,
    ⟨some 17, none, .call 73 [.t 16]⟩,
    ⟨some 12, none, .mv (.t 17)⟩,
    ⟨some 18, none, .ex 0 (.t 12)⟩,
    ⟨some 19, none, .ex 1 (.t 12)⟩,
    ⟨some 4, none, .mv (.t 18)⟩,
    ⟨some 5, none, .mv (.t 19)⟩]))))))
  (.seq (.reg [⟨some 22, none, .mv (.t 3)⟩,
    ⟨some 2, none, .mv (.t 22)⟩])
  (.ret)))),
  [.t 2]⟩
/-- errors.Is -/
def rf76 : RFunc := ⟨.seq (.reg [⟨some 4, none, .mv (.c (.bool false))⟩])
  (.seq (.seq (.reg [⟨some 6, none, .mv (.t 0)⟩,
    ⟨some 7, none, .eq false (.sc .ifc) (.t 6) (.c (.nili))⟩,
    ⟨some 8, none, .mv (.t 7)⟩,
    ⟨some 9, some (8, false), .mv (.t 1)⟩,
    ⟨some 10, some (8, false), .eq false (.sc .ifc) (.t 9) (.c (.nili))⟩,
    ⟨some 11, none, .pick (.t 8) (.c (.bool true)) (.t 10)⟩])
  (.cond (.t 11) (.seq (.reg [⟨some 12, none, .mv (.t 0)⟩,
    ⟨some 13, none, .mv (.t 1)⟩,
    ⟨some 14, none, .eq false (.sc .ifcS) (.t 12) (.t 13)⟩,
    ⟨some 4, none, .mv (.t 14)⟩])
  (.ret))
  (.skip)))
  (.seq (.reg [⟨some 15, none, .mv (.t 1)⟩,
    ⟨some 16, none, .call 80 [.t 15]⟩,
    ⟨some 17, none, .inv [(153, 129)] (.t 16) []⟩,
    ⟨some 5, none, .mv (.t 17)⟩])
  (.seq (.reg [⟨some 18, none, .mv (.t 0)⟩,
    ⟨some 19, none, .mv (.t 1)⟩,
    ⟨some 20, none, .mv (.t 5)⟩,
    ⟨some 21, none, .call 81 [.t 18, .t 19, .t 20]⟩,
    ⟨some 4, none, .mv (.t 21)⟩])
  (.ret)))),
  [.t 4]⟩
/-- cmp.isNaN[uint64] -/
def rf77 : RFunc := ⟨.seq (.reg [⟨some 2, none, .mv (.c (.bool false))⟩])
  (.seq (.reg [⟨some 3, none, .mv (.t 0)⟩,
    ⟨some 4, none, .mv (.t 0)⟩,
    ⟨some 5, none, .bin .neq (.t 3) (.t 4)⟩,
    ⟨some 2, none, .mv (.t 5)⟩])
  (.ret)),
  [.t 2]⟩
/-- slices.rotateLeft[uint64] -/
def rf78 : RFunc := ⟨.seq (.reg [⟨some 4, none, .mv (.t 0)⟩,
    ⟨some 5, none, .mv (.t 1)⟩,
    ⟨some 6, none, .slSlc 1 (.t 4) none (some (.t 5)) none⟩,
    ⟨some 7, none, .call 82 [.t 6]⟩])
  (.seq (.reg [⟨some 8, none, .mv (.t 0)⟩,
    ⟨some 9, none, .mv (.t 1)⟩,
    ⟨some 10, none, .slSlc 1 (.t 8) (some (.t 9)) none none⟩,
    ⟨some 11, none, .call 82 [.t 10]⟩])
  (.reg [⟨some 12, none, .mv (.t 0)⟩,
    ⟨some 13, none, .call 82 [.t 12]⟩])),
  []⟩
/-- errors.is -/
def rf81 : RFunc := ⟨.seq (.reg [⟨some 6, none, .mv (.c (.bool false))⟩])
  (.block 0 (.loop (.block 1 (.seq (.seq (.reg [⟨some 14, none, .mv (.t 2)⟩,
    ⟨some 15, none, .mv (.t 14)⟩,
    ⟨some 16, some (15, true), .mv (.t 0)⟩,
    ⟨some 17, some (15, true), .mv (.t 1)⟩,
    ⟨some 18, some (15, true), .eq false (.sc .ifcS) (.t 16) (.t 17)⟩,
    ⟨some 19, none, .pick (.t 15) (.t 18) (.c (.bool false))⟩])
  (.cond (.t 19) (.seq (.reg [⟨some 6, none, .mv (.c (.bool true))⟩])
  (.ret))
  (.skip)))
  (.seq (.seq (.reg [⟨some 21, none, .mv (.t 0)⟩,
    ⟨some 22, none, .asI [126] (.nili) true (.t 21)⟩,
    ⟨some 20, none, .mv (.t 22)⟩,
    ⟨some 23, none, .ex 0 (.t 20)⟩,
    ⟨some 24, none, .ex 1 (.t 20)⟩,
    ⟨some 7, none, .mv (.t 23)⟩,
    ⟨some 8, none, .mv (.t 24)⟩])
  (.seq (.reg [⟨some 25, none, .mv (.t 8)⟩,
    ⟨some 26, none, .mv (.t 25)⟩,
    ⟨some 27, some (26, true), .mv (.t 7)⟩,
    ⟨some 28, some (26, true), .mv (.t 1)⟩,
    ⟨some 29, some (26, true), .inv [(126, 108)] (.t 27) [.t 28]⟩,
    ⟨some 30, none, .pick (.t 26) (.t 29) (.c (.bool false))⟩])
  (.cond (.t 30) (.seq (.reg [⟨some 6, none, .mv (.c (.bool true))⟩])
  (.ret))
  (.skip))))
  (.seq (.reg [⟨some 31, none, .mv (.t 0)⟩])
  (.block 2 (.seq (.reg [⟨some 32, none, .asI [126] (.nili) true (.t 31)⟩,
    ⟨some 33, none, .ex 1 (.t 32)⟩,
    ⟨some 34, none, .ex 0 (.t 32)⟩])
  (.cond (.t 33) (.seq (.reg [⟨some 9, none, .mv (.t 34)⟩])
  (.seq (.reg [⟨some 35, none, .mv (.t 9)⟩,
    ⟨some 36, none, .inv [(126, 109)] (.t 35) []⟩,
    ⟨some 0, none, .mv (.t 36)⟩])
  (.seq (.reg [⟨some 37, none, .mv (.t 0)⟩,
    ⟨some 38, none, .eq false (.sc .ifc) (.t 37) (.c (.nili))⟩])
  (.cond (.t 38) (.seq (.reg [⟨some 6, none, .mv (.c (.bool false))⟩])
  (.ret))
  (.skip)))))
  (.seq (.reg [⟨some 39, none, .asI [] (.nili) true (.t 31)⟩,
    ⟨some 40, none, .ex 1 (.t 39)⟩,
    ⟨some 41, none, .ex 0 (.t 39)⟩])
  (.cond (.t 40) (.seq (.reg [⟨some 10, none, .mv (.t 41)⟩])
  (.seq (.seq (.reg [⟨some 42, none, .mv (.t 10)⟩,
    ⟨some 43, none, .inv [(126, 109)] (.t 42) []⟩,
    ⟨some 44, none, .lenL (.t 43)⟩,
    ⟨some 45, none, .mv (.c (.int .i64 0))⟩])
  (.block 3 (.loop (.seq (.reg [⟨some 46, none, .bin .lss (.t 45) (.t 44)⟩])
  (.seq (.cond (.t 46) (.skip)
  (.exit 3))
  (.seq (.block 4 (.seq (.reg [⟨some 47, none, .ixaS 1 (.t 43) (.t 45)⟩,
    ⟨some 48, none, .ld1 (.t 47)⟩,
    ⟨some 12, none, .mv (.t 48)⟩])
  (.seq (.reg [⟨some 49, none, .mv (.t 12)⟩,
    ⟨some 50, none, .mv (.t 1)⟩,
    ⟨some 51, none, .mv (.t 2)⟩,
    ⟨some 52, none, .call 81 [.t 49, .t 50, .t 51]⟩])
  (.cond (.t 52) (.seq (.reg [⟨some 6, none, .mv (.c (.bool true))⟩])
  (.ret))
  (.skip)))))
  (.reg [⟨some 53, none, .bin .add (.t 45) (.c (.int .i64 1))⟩,
    ⟨some 45, none, .mv (.t 53)⟩])))))))
  (.seq (.reg [⟨some 6, none, .mv (.c (.bool false))⟩])
  (.ret))))
  (.seq (.reg [⟨some 13, none, .mv (.t 31)⟩])
  (.seq (.reg [⟨some 6, none, .mv (.c (.bool false))⟩])
  (.ret)))))))))))))),
  [.t 6]⟩
/-- slices.Reverse[[]uint64,uint64] -/
def rf82 : RFunc := ⟨.seq (.reg [⟨some 4, none, .mv (.t 0)⟩,
    ⟨some 5, none, .lenL (.t 4)⟩,
    ⟨some 6, none, .bin .sub (.t 5) (.c (.int .i64 1))⟩,
    ⟨some 2, none, .mv (.c (.int .i64 0))⟩,
    ⟨some 3, none, .mv (.t 6)⟩])
  (.block 0 (.loop (.seq (.seq (.reg [⟨some 7, none, .mv (.t 2)⟩,
    ⟨some 8, none, .mv (.t 3)⟩,
    ⟨some 9, none, .bin .lss (.t 7) (.t 8)⟩])
  (.cond (.t 9) (.skip)
  (.exit 0)))
  (.seq (.block 1 (.drw [⟨some 14, none, .mv (.t 0)⟩,
    ⟨some 15, none, .mv (.t 2)⟩,
    ⟨some 16, none, .mv (.t 0)⟩,
    ⟨some 17, none, .mv (.t 3)⟩,
    ⟨some 18, none, .mv (.t 0)⟩,
    ⟨some 19, none, .mv (.t 3)⟩,
    ⟨some 20, none, .ixaS 1 (.t 18) (.t 19)⟩,
    ⟨some 21, none, .ld1 (.t 20)⟩,
    ⟨some 22, none, .mv (.t 0)⟩,
    ⟨some 23, none, .mv (.t 2)⟩,
    ⟨some 24, none, .ixaS 1 (.t 22) (.t 23)⟩,
    ⟨some 25, none, .ld1 (.t 24)⟩,
    ⟨some 26, none, .ixaS 1 (.t 14) (.t 15)⟩,
    ⟨none, none, .st 1 (.t 26) (.t 21)⟩,
    ⟨some 27, none, .ixaS 1 (.t 16) (.t 17)⟩,
    ⟨none, none, .st 1 (.t 27) (.t 25)⟩] []))
  (.reg [⟨some 10, none, .mv (.t 2)⟩,
    ⟨some 11, none, .bin .add (.t 10) (.c (.int .i64 1))⟩,
    ⟨some 12, none, .mv (.t 3)⟩,
    ⟨some 13, none, .bin .sub (.t 12) (.c (.int .i64 1))⟩,
    ⟨some 2, none, .mv (.t 11)⟩,
    ⟨some 3, none, .mv (.t 13)⟩]))))),
  []⟩
/-- (*messuage/trap.Trap).Error -/
def rf107 : RFunc := ⟨.seq (.reg [⟨some 2, none, .mv (.c (.str []))⟩])
  (.seq (.seq (.reg [⟨some 4, none, .mv (.t 0)⟩,
    ⟨some 5, none, .eq false (.sc .ptr) (.t 4) (.c (.nilp))⟩])
  (.cond (.t 5) (.seq (.reg [⟨some 2, none, .mv (.c (.str []))⟩])
  (.ret))
  (.skip)))
  (.seq (.reg [⟨some 6, none, .mv (.t 0)⟩,
    ⟨some 7, none, .nilck (.t 6)⟩,
    ⟨some 8, none, .fadd 0 (.t 7)⟩,
    ⟨some 9, none, .ld1 (.t 8)⟩,
    ⟨some 10, none, .call 110 [.t 9]⟩,
    ⟨some 11, none, .bin .add (.c (.str [116, 114, 97, 112, 32])) (.t 10)⟩,
    ⟨some 3, none, .mv (.t 11)⟩])
  (.seq (.seq (.reg [⟨some 12, none, .mv (.t 0)⟩,
    ⟨some 13, none, .nilck (.t 12)⟩,
    ⟨some 14, none, .fadd 7 (.t 13)⟩,
    ⟨some 15, none, .ld1 (.t 14)⟩,
    ⟨some 16, none, .eq true (.sc .ifc) (.t 15) (.c (.nili))⟩])
  (.cond (.t 16) (.reg [⟨some 17, none, .mv (.t 3)⟩,
    ⟨some 18, none, .mv (.t 0)⟩,
    ⟨some 19, none, .nilck (.t 18)⟩,
    ⟨some 20, none, .fadd 7 (.t 19)⟩,
    ⟨some 21, none, .ld1 (.t 20)⟩,
    ⟨some 22, none, .inv [(8, 89), (14, 95), (15, 97), (16, 99), (19, 104), (126, 107), (154, 137)] (.t 21) []⟩,
    ⟨some 23, none, .bin .add (.c (.str [58, 32])) (.t 22)⟩,
    ⟨some 24, none, .bin .add (.t 17) (.t 23)⟩,
    ⟨some 3, none, .mv (.t 24)⟩])
  (.skip)))
  (.seq (.reg [⟨some 25, none, .mv (.t 3)⟩,
    ⟨some 2, none, .mv (.t 25)⟩])
  (.ret))))),
  [.t 2]⟩
/-- (*messuage/trap.Trap).Is -/
def rf108 : RFunc := ⟨.seq (.reg [⟨some 4, none, .mv (.c (.bool false))⟩])
  (.seq (.reg [⟨some 8, none, .mv (.t 1)⟩,
    ⟨some 9, none, .asC 126 (.nilp) true (.t 8)⟩,
    ⟨some 7, none, .mv (.t 9)⟩,
    ⟨some 10, none, .ex 0 (.t 7)⟩,
    ⟨some 11, none, .ex 1 (.t 7)⟩,
    ⟨some 5, none, .mv (.t 10)⟩,
    ⟨some 6, none, .mv (.t 11)⟩])
  (.seq (.drw [⟨some 12, none, .mv (.t 6)⟩,
    ⟨some 13, none, .mv (.t 12)⟩,
    ⟨some 14, some (13, true), .mv (.t 0)⟩,
    ⟨some 15, some (13, true), .eq true (.sc .ptr) (.t 14) (.c (.nilp))⟩,
    ⟨some 16, none, .pick (.t 13) (.t 15) (.c (.bool false))⟩,
    ⟨some 17, none, .mv (.t 16)⟩,
    ⟨some 18, some (17, true), .mv (.t 5)⟩,
    ⟨some 19, some (17, true), .eq true (.sc .ptr) (.t 18) (.c (.nilp))⟩,
    ⟨some 20, none, .pick (.t 17) (.t 19) (.c (.bool false))⟩,
    ⟨some 21, none, .mv (.t 20)⟩,
    ⟨some 22, some (21, true), .mv (.t 0)⟩,
    ⟨some 23, some (21, true), .nilck (.t 22)⟩,
    ⟨some 24, some (21, true), .fadd 0 (.t 23)⟩,
    ⟨some 25, some (21, true), .ld1 (.t 24)⟩,
    ⟨some 26, some (21, true), .mv (.t 5)⟩,
    ⟨some 27, some (21, true), .nilck (.t 26)⟩,
    ⟨some 28, some (21, true), .fadd 0 (.t 27)⟩,
    ⟨some 29, some (21, true), .ld1 (.t 28)⟩,
    ⟨some 30, some (21, true), .bin .eql (.t 25) (.t 29)⟩,
    ⟨some 31, none, .pick (.t 21) (.t 30) (.c (.bool false))⟩,
    ⟨some 4, none, .mv (.t 31)⟩] [])
  (.ret))),
  [.t 4]⟩
/-- (*messuage/trap.Trap).Unwrap -/
def rf109 : RFunc := ⟨.seq (.reg [⟨some 2, none, .mv (.c (.nili))⟩])
  (.seq (.seq (.reg [⟨some 3, none, .mv (.t 0)⟩,
    ⟨some 4, none, .eq false (.sc .ptr) (.t 3) (.c (.nilp))⟩])
  (.cond (.t 4) (.seq (.reg [⟨some 2, none, .mv (.c (.nili))⟩])
  (.ret))
  (.skip)))
  (.seq (.reg [⟨some 5, none, .mv (.t 0)⟩,
    ⟨some 6, none, .nilck (.t 5)⟩,
    ⟨some 7, none, .fadd 7 (.t 6)⟩,
    ⟨some 8, none, .ld1 (.t 7)⟩,
    ⟨some 2, none, .mv (.t 8)⟩])
  (.ret))),
  [.t 2]⟩
/-- strconv.Itoa -/
def rf110 : RFunc := ⟨.seq (.reg [⟨some 2, none, .mv (.c (.str []))⟩])
  (.seq (.reg [⟨some 3, none, .mv (.t 0)⟩,
    ⟨some 4, none, .call 111 [.t 3]⟩,
    ⟨some 2, none, .mv (.t 4)⟩])
  (.ret)),
  [.t 2]⟩
/-- internal/strconv.Itoa -/
def rf111 : RFunc := ⟨.seq (.reg [⟨some 2, none, .mv (.c (.str []))⟩])
  (.seq (.reg [⟨some 3, none, .mv (.t 0)⟩,
    ⟨some 4, none, .call 112 [.t 3, .c (.int .i64 10)]⟩,
    ⟨some 2, none, .mv (.t 4)⟩])
  (.ret)),
  [.t 2]⟩
/-- internal/strconv.FormatInt -/
def rf112 : RFunc := ⟨.seq (.reg [⟨some 4, none, .mv (.c (.str []))⟩])
  (.seq (.seq (.reg [⟨some 10, none, .mv (.t 1)⟩,
    ⟨some 11, none, .bin .eql (.t 10) (.c (.int .i64 10))⟩])
  (.cond (.t 11) (.seq (.seq (.reg [⟨some 12, none, .mv (.t 0)⟩,
    ⟨some 13, none, .bin .leq (.c (.int .i64 0)) (.t 12)⟩,
    ⟨some 14, none, .mv (.t 13)⟩,
    ⟨some 15, some (14, true), .mv (.t 0)⟩,
    ⟨some 16, some (14, true), .bin .lss (.t 15) (.c (.int .i64 100))⟩,
    ⟨some 17, none, .pick (.t 14) (.t 16) (.c (.bool false))⟩])
  (.cond (.t 17) (.seq (.reg [⟨some 18, none, .mv (.t 0)⟩,
    ⟨some 19, none, .call 113 [.t 18]⟩,
    ⟨some 4, none, .mv (.t 19)⟩])
  (.ret))
  (.skip)))
  (.seq (.reg [⟨some 5, none, .new [.int .u8 0, .int .u8 0, .int .u8 0, .int .u8 0, .int .u8 0, .int .u8 0, .int .u8 0, .int .u8 0, .int .u8 0, .int .u8 0, .int .u8 0, .int .u8 0, .int .u8 0, .int .u8 0, .int .u8 0, .int .u8 0, .int .u8 0, .int .u8 0, .int .u8 0, .int .u8 0, .int .u8 0, .int .u8 0, .int .u8 0, .int .u8 0]⟩])
  (.seq (.reg [⟨some 20, none, .mv (.t 0)⟩,
    ⟨some 21, none, .cvi .u64 (.t 20)⟩,
    ⟨some 6, none, .mv (.t 21)⟩])
  (.seq (.seq (.reg [⟨some 22, none, .mv (.t 0)⟩,
    ⟨some 23, none, .bin .lss (.t 22) (.c (.int .i64 0))⟩])
  (.cond (.t 23) (.reg [⟨some 24, none, .mv (.t 6)⟩,
    ⟨some 25, none, .un .neg (.t 24)⟩,
    ⟨some 6, none, .mv (.t 25)⟩])
  (.skip)))
  (.seq (.reg [⟨some 26, none, .mv (.t 6)⟩,
    ⟨some 27, none, .call 114 [.t 26]⟩,
    ⟨some 7, none, .mv (.t 27)⟩])
  (.seq (.reg [⟨some 28, none, .mv (.t 7)⟩,
    ⟨some 29, none, .bin .add (.c (.int .i64 1)) (.t 28)⟩,
    ⟨some 30, none, .slArr 24 1 (.t 5) (some (.c (.int .i64 1))) (some (.t 29)) none⟩,
    ⟨some 31, none, .mv (.t 6)⟩,
    ⟨some 32, none, .call 115 [.t 30, .t 31]⟩])
  (.seq (.seq (.reg [⟨some 33, none, .mv (.t 0)⟩,
    ⟨some 34, none, .bin .lss (.t 33) (.c (.int .i64 0))⟩])
  (.cond (.t 34) (.seq (.reg [⟨some 35, none, .ixaA 24 1 (.t 5) (.c (.int .i64 0))⟩,
    ⟨none, none, .st 1 (.t 35) (.c (.int .u8 45))⟩])
  (.seq (.reg [⟨some 36, none, .mv (.t 7)⟩,
    ⟨some 37, none, .bin .add (.c (.int .i64 1)) (.t 36)⟩,
    ⟨some 38, none, .slArr 24 1 (.t 5) none (some (.t 37)) none⟩,
    ⟨some 39, none, .bad⟩,
    ⟨some 4, none, .mv (.t 39)⟩])
  (.ret)))
  (.skip)))
  (.seq (.reg [⟨some 40, none, .mv (.t 7)⟩,
    ⟨some 41, none, .bin .add (.c (.int .i64 1)) (.t 40)⟩,
    ⟨some 42, none, .slArr 24 1 (.t 5) (some (.c (.int .i64 1))) (some (.t 41)) none⟩,
    ⟨some 43, none, .bad⟩,
    ⟨some 4, none, .mv (.t 43)⟩])
  (.ret)))))))))
  (.skip)))
  (.seq (.reg [⟨some 45, none, .mv (.t 0)⟩,
    ⟨some 46, none, .cvi .u64 (.t 45)⟩,
    ⟨some 47, none, .mv (.t 1)⟩,
    ⟨some 48, none, .mv (.t 0)⟩,
    ⟨some 49, none, .bin .lss (.t 48) (.c (.int .i64 0))⟩,
    ⟨some 50, none, .call 116 [.c (.nils), .t 46, .t 47, .t 49, .c (.bool false)]⟩,
    ⟨some 44, none, .mv (.t 50)⟩,
    ⟨some 51, none, .ex 0 (.t 44)⟩,
    ⟨some 52, none, .ex 1 (.t 44)⟩,
    ⟨some 8, none, .mv (.t 51)⟩,
    ⟨some 9, none, .mv (.t 52)⟩])
  (.seq (.reg [⟨some 53, none, .mv (.t 9)⟩,
    ⟨some 4, none, .mv (.t 53)⟩])
  (.ret)))),
  [.t 4]⟩
/-- internal/strconv.small -/
def rf113 : RFunc := ⟨.seq (.reg [⟨some 2, none, .mv (.c (.str []))⟩])
  (.seq (.seq (.reg [⟨some 3, none, .mv (.t 0)⟩,
    ⟨some 4, none, .bin .lss (.t 3) (.c (.int .i64 10))⟩])
  (.cond (.t 4) (.seq (.reg [⟨some 5, none, .mv (.t 0)⟩,
    ⟨some 6, none, .mv (.t 0)⟩,
    ⟨some 7, none, .bin .add (.t 6) (.c (.int .i64 1))⟩,
    ⟨some 8, none, .slStr (.c (.str [48, 49, 50, 51, 52, 53, 54, 55, 56, 57, 97, 98, 99, 100, 101, 102, 103, 104, 105, 106, 107, 108, 109, 110, 111, 112, 113, 114, 115, 116, 117, 118, 119, 120, 121, 122])) (some (.t 5)) (some (.t 7))⟩,
    ⟨some 2, none, .mv (.t 8)⟩])
  (.ret))
  (.skip)))
  (.seq (.reg [⟨some 9, none, .mv (.t 0)⟩,
    ⟨some 10, none, .bin .mul (.t 9) (.c (.int .i64 2))⟩,
    ⟨some 11, none, .mv (.t 0)⟩,
    ⟨some 12, none, .bin .mul (.t 11) (.c (.int .i64 2))⟩,
    ⟨some 13, none, .bin .add (.t 12) (.c (.int .i64 2))⟩,
    ⟨some 14, none, .slStr (.c (.str [48, 48, 48, 49, 48, 50, 48, 51, 48, 52, 48, 53, 48, 54, 48, 55, 48, 56, 48, 57, 49, 48, 49, 49, 49, 50, 49, 51, 49, 52, 49, 53, 49, 54, 49, 55, 49, 56, 49, 57, 50, 48, 50, 49, 50, 50, 50, 51, 50, 52, 50, 53, 50, 54, 50, 55, 50, 56, 50, 57, 51, 48, 51, 49, 51, 50, 51, 51, 51, 52, 51, 53, 51, 54, 51, 55, 51, 56, 51, 57, 52, 48, 52, 49, 52, 50, 52, 51, 52, 52, 52, 53, 52, 54, 52, 55, 52, 56, 52, 57, 53, 48, 53, 49, 53, 50, 53, 51, 53, 52, 53, 53, 53, 54, 53, 55, 53, 56, 53, 57, 54, 48, 54, 49, 54, 50, 54, 51, 54, 52, 54, 53, 54, 54, 54, 55, 54, 56, 54, 57, 55, 48, 55, 49, 55, 50, 55, 51, 55, 52, 55, 53, 55, 54, 55, 55, 55, 56, 55, 57, 56, 48, 56, 49, 56, 50, 56, 51, 56, 52, 56, 53, 56, 54, 56, 55, 56, 56, 56, 57, 57, 48, 57, 49, 57, 50, 57, 51, 57, 52, 57, 53, 57, 54, 57, 55, 57, 56, 57, 57])) (some (.t 10)) (some (.t 13))⟩,
    ⟨some 2, none, .mv (.t 14)⟩])
  (.ret))),
  [.t 2]⟩
/-- internal/strconv.numDigits -/
def rf114 : RFunc := ⟨.seq (.reg [⟨some 2, none, .mv (.c (.int .i64 0))⟩])
  (.seq (.reg [⟨some 4, none, .mv (.t 0)⟩,
    ⟨some 5, none, .call 118 [.t 4]⟩,
    ⟨some 6, none, .call 117 [.t 5]⟩,
    ⟨some 3, none, .mv (.t 6)⟩])
  (.seq (.reg [⟨some 7, none, .mv (.t 3)⟩,
    ⟨some 8, none, .mv (.t 0)⟩,
    ⟨some 9, none, .mv (.t 3)⟩,
    ⟨some 10, none, .ixaA 20 1 (.c (.ptr 1 0)) (.t 9)⟩,
    ⟨some 11, none, .ld1 (.t 10)⟩,
    ⟨some 12, none, .bin .geq (.t 8) (.t 11)⟩,
    ⟨some 13, none, .call 119 [.t 12]⟩,
    ⟨some 14, none, .bin .add (.t 7) (.t 13)⟩,
    ⟨some 2, none, .mv (.t 14)⟩])
  (.ret))),
  [.t 2]⟩
/-- internal/strconv.formatBase10 -/
def rf115 : RFunc := ⟨.seq (.reg [⟨some 17, none, .mv (.t 0)⟩,
    ⟨some 18, none, .lenL (.t 17)⟩,
    ⟨some 4, none, .mv (.t 18)⟩])
  (.seq (.block 0 (.loop (.seq (.seq (.reg [⟨some 19, none, .mv (.t 4)⟩,
    ⟨some 20, none, .bin .geq (.t 19) (.c (.int .i64 8))⟩])
  (.cond (.t 20) (.skip)
  (.exit 0)))
  (.block 1 (.seq (.reg [⟨some 21, none, .mv (.t 1)⟩,
    ⟨some 22, none, .bin .rem (.t 21) (.c (.int .u64 100000000))⟩,
    ⟨some 23, none, .cvi .u32 (.t 22)⟩,
    ⟨some 5, none, .mv (.t 23)⟩])
  (.seq (.reg [⟨some 24, none, .mv (.t 1)⟩,
    ⟨some 25, none, .bin .quo (.t 24) (.c (.int .u64 100000000))⟩,
    ⟨some 1, none, .mv (.t 25)⟩])
  (.seq (.reg [⟨some 26, none, .mv (.t 5)⟩,
    ⟨some 27, none, .bin .quo (.t 26) (.c (.int .u32 10000))⟩,
    ⟨some 28, none, .mv (.t 5)⟩,
    ⟨some 29, none, .bin .rem (.t 28) (.c (.int .u32 10000))⟩,
    ⟨some 6, none, .mv (.t 27)⟩,
    ⟨some 7, none, .mv (.t 29)⟩])
  (.seq (.reg [⟨some 30, none, .mv (.t 7)⟩,
    ⟨some 31, none, .bin .quo (.t 30) (.c (.int .u32 100))⟩,
    ⟨some 32, none, .bin .mul (.t 31) (.c (.int .u32 2))⟩,
    ⟨some 33, none, .mv (.t 7)⟩,
    ⟨some 34, none, .bin .rem (.t 33) (.c (.int .u32 100))⟩,
    ⟨some 35, none, .bin .mul (.t 34) (.c (.int .u32 2))⟩,
    ⟨some 8, none, .mv (.t 32)⟩,
    ⟨some 9, none, .mv (.t 35)⟩])
  (.seq (.reg [⟨some 36, none, .mv (.t 6)⟩,
    ⟨some 37, none, .bin .quo (.t 36) (.c (.int .u32 100))⟩,
    ⟨some 38, none, .bin .mul (.t 37) (.c (.int .u32 2))⟩,
    ⟨some 39, none, .mv (.t 6)⟩,
    ⟨some 40, none, .bin .rem (.t 39) (.c (.int .u32 100))⟩,
    ⟨some 41, none, .bin .mul (.t 40) (.c (.int .u32 2))⟩,
    ⟨some 10, none, .mv (.t 38)⟩,
    ⟨some 11, none, .mv (.t 41)⟩])
  (.seq (.drw [⟨some 42, none, .mv (.t 0)⟩,
    ⟨some 43, none, .mv (.t 4)⟩,
    ⟨some 44, none, .bin .sub (.t 43) (.c (.int .i64 1))⟩,
    ⟨some 45, none, .mv (.t 0)⟩,
    ⟨some 46, none, .mv (.t 4)⟩,
    ⟨some 47, none, .bin .sub (.t 46) (.c (.int .i64 2))⟩,
    ⟨some 48, none, .mv (.t 9)⟩,
    ⟨some 49, none, .bin .add (.t 48) (.c (.int .u32 1))⟩,
    ⟨some 50, none, .ixS (.c (.str [48, 48, 48, 49, 48, 50, 48, 51, 48, 52, 48, 53, 48, 54, 48, 55, 48, 56, 48, 57, 49, 48, 49, 49, 49, 50, 49, 51, 49, 52, 49, 53, 49, 54, 49, 55, 49, 56, 49, 57, 50, 48, 50, 49, 50, 50, 50, 51, 50, 52, 50, 53, 50, 54, 50, 55, 50, 56, 50, 57, 51, 48, 51, 49, 51, 50, 51, 51, 51, 52, 51, 53, 51, 54, 51, 55, 51, 56, 51, 57, 52, 48, 52, 49, 52, 50, 52, 51, 52, 52, 52, 53, 52, 54, 52, 55, 52, 56, 52, 57, 53, 48, 53, 49, 53, 50, 53, 51, 53, 52, 53, 53, 53, 54, 53, 55, 53, 56, 53, 57, 54, 48, 54, 49, 54, 50, 54, 51, 54, 52, 54, 53, 54, 54, 54, 55, 54, 56, 54, 57, 55, 48, 55, 49, 55, 50, 55, 51, 55, 52, 55, 53, 55, 54, 55, 55, 55, 56, 55, 57, 56, 48, 56, 49, 56, 50, 56, 51, 56, 52, 56, 53, 56, 54, 56, 55, 56, 56, 56, 57, 57, 48, 57, 49, 57, 50, 57, 51, 57, 52, 57, 53, 57, 54, 57, 55, 57, 56, 57, 57])) (.t 49)⟩,
    ⟨some 51, none, .mv (.t 9)⟩,
    ⟨some 52, none, .ixS (.c (.str [48, 48, 48, 49, 48, 50, 48, 51, 48, 52, 48, 53, 48, 54, 48, 55, 48, 56, 48, 57, 49, 48, 49, 49, 49, 50, 49, 51, 49, 52, 49, 53, 49, 54, 49, 55, 49, 56, 49, 57, 50, 48, 50, 49, 50, 50, 50, 51, 50, 52, 50, 53, 50, 54, 50, 55, 50, 56, 50, 57, 51, 48, 51, 49, 51, 50, 51, 51, 51, 52, 51, 53, 51, 54, 51, 55, 51, 56, 51, 57, 52, 48, 52, 49, 52, 50, 52, 51, 52, 52, 52, 53, 52, 54, 52, 55, 52, 56, 52, 57, 53, 48, 53, 49, 53, 50, 53, 51, 53, 52, 53, 53, 53, 54, 53, 55, 53, 56, 53, 57, 54, 48, 54, 49, 54, 50, 54, 51, 54, 52, 54, 53, 54, 54, 54, 55, 54, 56, 54, 57, 55, 48, 55, 49, 55, 50, 55, 51, 55, 52, 55, 53, 55, 54, 55, 55, 55, 56, 55, 57, 56, 48, 56, 49, 56, 50, 56, 51, 56, 52, 56, 53, 56, 54, 56, 55, 56, 56, 56, 57, 57, 48, 57, 49, 57, 50, 57, 51, 57, 52, 57, 53, 57, 54, 57, 55, 57, 56, 57, 57])) (.t 51)⟩,
    ⟨some 53, none, .ixaS 1 (.t 42) (.t 44)⟩,
    ⟨none, none, .st 1 (.t 53) (.t 50)⟩,
    ⟨some 54, none, .ixaS 1 (.t 45) (.t 47)⟩,
    ⟨none, none, .st 1 (.t 54) (.t 52)⟩] [])
  (.seq (.drw [⟨some 55, none, .mv (.t 0)⟩,
    ⟨some 56, none, .mv (.t 4)⟩,
    ⟨some 57, none, .bin .sub (.t 56) (.c (.int .i64 3))⟩,
    ⟨some 58, none, .mv (.t 0)⟩,
    ⟨some 59, none, .mv (.t 4)⟩,
    ⟨some 60, none, .bin .sub (.t 59) (.c (.int .i64 4))⟩,
    ⟨some 61, none, .mv (.t 8)⟩,
    ⟨some 62, none, .bin .add (.t 61) (.c (.int .u32 1))⟩,
    ⟨some 63, none, .ixS (.c (.str [48, 48, 48, 49, 48, 50, 48, 51, 48, 52, 48, 53, 48, 54, 48, 55, 48, 56, 48, 57, 49, 48, 49, 49, 49, 50, 49, 51, 49, 52, 49, 53, 49, 54, 49, 55, 49, 56, 49, 57, 50, 48, 50, 49, 50, 50, 50, 51, 50, 52, 50, 53, 50, 54, 50, 55, 50, 56, 50, 57, 51, 48, 51, 49, 51, 50, 51, 51, 51, 52, 51, 53, 51, 54, 51, 55, 51, 56, 51, 57, 52, 48, 52, 49, 52, 50, 52, 51, 52, 52, 52, 53, 52, 54, 52, 55, 52, 56, 52, 57, 53, 48, 53, 49, 53, 50, 53, 51, 53, 52, 53, 53, 53, 54, 53, 55, 53, 56, 53, 57, 54, 48, 54, 49, 54, 50, 54, 51, 54, 52, 54, 53, 54, 54, 54, 55, 54, 56, 54, 57, 55, 48, 55, 49, 55, 50, 55, 51, 55, 52, 55, 53, 55, 54, 55, 55, 55, 56, 55, 57, 56, 48, 56, 49, 56, 50, 56, 51, 56, 52, 56, 53, 56, 54, 56, 55, 56, 56, 56, 57, 57, 48, 57, 49, 57, 50, 57, 51, 57, 52, 57, 53, 57, 54, 57, 55, 57, 56, 57, 57])) (.t 62)⟩,
    ⟨some 64, none, .mv (.t 8)⟩,
    ⟨some 65, none, .ixS (.c (.str [48, 48, 48, 49, 48, 50, 48, 51, 48, 52, 48, 53, 48, 54, 48, 55, 48, 56, 48, 57, 49, 48, 49, 49, 49, 50, 49, 51, 49, 52, 49, 53, 49, 54, 49, 55, 49, 56, 49, 57, 50, 48, 50, 49, 50, 50, 50, 51, 50, 52, 50, 53, 50, 54, 50, 55, 50, 56, 50, 57, 51, 48, 51, 49, 51, 50, 51, 51, 51, 52, 51, 53, 51, 54, 51, 55, 51, 56, 51, 57, 52, 48, 52, 49, 52, 50, 52, 51, 52, 52, 52, 53, 52, 54, 52, 55, 52, 56, 52, 57, 53, 48, 53, 49, 53, 50, 53, 51, 53, 52, 53, 53, 53, 54, 53, 55, 53, 56, 53, 57, 54, 48, 54, 49, 54, 50, 54, 51, 54, 52, 54, 53, 54, 54, 54, 55, 54, 56, 54, 57, 55, 48, 55, 49, 55, 50, 55, 51, 55, 52, 55, 53, 55, 54, 55, 55, 55, 56, 55, 57, 56, 48, 56, 49, 56, 50, 56, 51, 56, 52, 56, 53, 56, 54, 56, 55, 56, 56, 56, 57, 57, 48, 57, 49, 57, 50, 57, 51, 57, 52, 57, 53, 57, 54, 57, 55, 57, 56, 57, 57])) (.t 64)⟩,
    ⟨some 66, none, .ixaS 1 (.t 55) (.t 57)⟩,
    ⟨none, none, .st 1 (.t 66) (.t 63)⟩,
    ⟨some 67, none, .ixaS 1 (.t 58) (.t 60)⟩,
    ⟨none, none, .st 1 (.t 67) (.t 65)⟩] [])
  (.seq (.drw [⟨some 68, none, .mv (.t 0)⟩,
    ⟨some 69, none, .mv (.t 4)⟩,
    ⟨some 70, none, .bin .sub (.t 69) (.c (.int .i64 5))⟩,
    ⟨some 71, none, .mv (.t 0)⟩,
    ⟨some 72, none, .mv (.t 4)⟩,
    ⟨some 73, none, .bin .sub (.t 72) (.c (.int .i64 6))⟩,
    ⟨some 74, none, .mv (.t 11)⟩,
    ⟨some 75, none, .bin .add (.t 74) (.c (.int .u32 1))⟩,
    ⟨some 76, none, .ixS (.c (.str [48, 48, 48, 49, 48, 50, 48, 51, 48, 52, 48, 53, 48, 54, 48, 55, 48, 56, 48, 57, 49, 48, 49, 49, 49, 50, 49, 51, 49, 52, 49, 53, 49, 54, 49, 55, 49, 56, 49, 57, 50, 48, 50, 49, 50, 50, 50, 51, 50, 52, 50, 53, 50, 54, 50, 55, 50, 56, 50, 57, 51, 48, 51, 49, 51, 50, 51, 51, 51, 52, 51, 53, 51, 54, 51, 55, 51, 56, 51, 57, 52, 48, 52, 49, 52, 50, 52, 51, 52, 52, 52, 53, 52, 54, 52, 55, 52, 56, 52, 57, 53, 48, 53, 49, 53, 50, 53, 51, 53, 52, 53, 53, 53, 54, 53, 55, 53, 56, 53, 57, 54, 48, 54, 49, 54, 50, 54, 51, 54, 52, 54, 53, 54, 54, 54, 55, 54, 56, 54, 57, 55, 48, 55, 49, 55, 50, 55, 51, 55, 52, 55, 53, 55, 54, 55, 55, 55, 56, 55, 57, 56, 48, 56, 49, 56, 50, 56, 51, 56, 52, 56, 53, 56, 54, 56, 55, 56, 56, 56, 57, 57, 48, 57, 49, 57, 50, 57, 51, 57, 52, 57, 53, 57, 54, 57, 55, 57, 56, 57, 57])) (.t 75)⟩,
    ⟨some 77, none, .mv (.t 11)⟩,
    ⟨some 78, none, .ixS (.c (.str [48, 48, 48, 49, 48, 50, 48, 51, 48, 52, 48, 53, 48, 54, 48, 55, 48, 56, 48, 57, 49, 48, 49, 49, 49, 50, 49, 51, 49, 52, 49, 53, 49, 54, 49, 55, 49, 56, 49, 57, 50, 48, 50, 49, 50, 50, 50, 51, 50, 52, 50, 53, 50, 54, 50, 55, 50, 56, 50, 57, 51, 48, 51, 49, 51, 50, 51, 51, 51, 52, 51, 53, 51, 54, 51, 55, 51, 56, 51, 57, 52, 48, 52, 49, 52, 50, 52, 51, 52, 52, 52, 53, 52, 54, 52, 55, 52, 56, 52, 57, 53, 48, 53, 49, 53, 50, 53, 51, 53, 52, 53, 53, 53, 54, 53, 55, 53, 56, 53, 57, 54, 48, 54, 49, 54, 50, 54, 51, 54, 52, 54, 53, 54, 54, 54, 55, 54, 56, 54, 57, 55, 48, 55, 49, 55, 50, 55, 51, 55, 52, 55, 53, 55, 54, 55, 55, 55, 56, 55, 57, 56, 48, 56, 49, 56, 50, 56, 51, 56, 52, 56, 53, 56, 54, 56, 55, 56, 56, 56, 57, 57, 48, 57, 49, 57, 50, 57, 51, 57, 52, 57, 53, 57, 54, 57, 55, 57, 56, 57, 57])) (.t 77)⟩,
    ⟨some 79, none, .ixaS 1 (.t 68) (.t 70)⟩,
    ⟨none, none, .st 1 (.t 79) (.t 76)⟩,
    ⟨some 80, none, .ixaS 1 (.t 71) (.t 73)⟩,
    ⟨none, none, .st 1 (.t 80) (.t 78)⟩] [])
  (.seq (.drw [⟨some 81, none, .mv (.t 0)⟩,
    ⟨some 82, none, .mv (.t 4)⟩,
    ⟨some 83, none, .bin .sub (.t 82) (.c (.int .i64 7))⟩,
    ⟨some 84, none, .mv (.t 0)⟩,
    ⟨some 85, none, .mv (.t 4)⟩,
    ⟨some 86, none, .bin .sub (.t 85) (.c (.int .i64 8))⟩,
    ⟨some 87, none, .mv (.t 10)⟩,
    ⟨some 88, none, .bin .add (.t 87) (.c (.int .u32 1))⟩,
    ⟨some 89, none, .ixS (.c (.str [48, 48, 48, 49, 48, 50, 48, 51, 48, 52, 48, 53, 48, 54, 48, 55, 48, 56, 48, 57, 49, 48, 49, 49, 49, 50, 49, 51, 49, 52, 49, 53, 49, 54, 49, 55, 49, 56, 49, 57, 50, 48, 50, 49, 50, 50, 50, 51, 50, 52, 50, 53, 50, 54, 50, 55, 50, 56, 50, 57, 51, 48, 51, 49, 51, 50, 51, 51, 51, 52, 51, 53, 51, 54, 51, 55, 51, 56, 51, 57, 52, 48, 52, 49, 52, 50, 52, 51, 52, 52, 52, 53, 52, 54, 52, 55, 52, 56, 52, 57, 53, 48, 53, 49, 53, 50, 53, 51, 53, 52, 53, 53, 53, 54, 53, 55, 53, 56, 53, 57, 54, 48, 54, 49, 54, 50, 54, 51, 54, 52, 54, 53, 54, 54, 54, 55, 54, 56, 54, 57, 55, 48, 55, 49, 55, 50, 55, 51, 55, 52, 55, 53, 55, 54, 55, 55, 55, 56, 55, 57, 56, 48, 56, 49, 56, 50, 56, 51, 56, 52, 56, 53, 56, 54, 56, 55, 56, 56, 56, 57, 57, 48, 57, 49, 57, 50, 57, 51, 57, 52, 57, 53, 57, 54, 57, 55, 57, 56, 57, 57])) (.t 88)⟩,
    ⟨some 90, none, .mv (.t 10)⟩,
    ⟨some 91, none, .ixS (.c (.str [48, 48, 48, 49, 48, 50, 48, 51, 48, 52, 48, 53, 48, 54, 48, 55, 48, 56, 48, 57, 49, 48, 49, 49, 49, 50, 49, 51, 49, 52, 49, 53, 49, 54, 49, 55, 49, 56, 49, 57, 50, 48, 50, 49, 50, 50, 50, 51, 50, 52, 50, 53, 50, 54, 50, 55, 50, 56, 50, 57, 51, 48, 51, 49, 51, 50, 51, 51, 51, 52, 51, 53, 51, 54, 51, 55, 51, 56, 51, 57, 52, 48, 52, 49, 52, 50, 52, 51, 52, 52, 52, 53, 52, 54, 52, 55, 52, 56, 52, 57, 53, 48, 53, 49, 53, 50, 53, 51, 53, 52, 53, 53, 53, 54, 53, 55, 53, 56, 53, 57, 54, 48, 54, 49, 54, 50, 54, 51, 54, 52, 54, 53, 54, 54, 54, 55, 54, 56, 54, 57, 55, 48, 55, 49, 55, 50, 55, 51, 55, 52, 55, 53, 55, 54, 55, 55, 55, 56, 55, 57, 56, 48, 56, 49, 56, 50, 56, 51, 56, 52, 56, 53, 56, 54, 56, 55, 56, 56, 56, 57, 57, 48, 57, 49, 57, 50, 57, 51, 57, 52, 57, 53, 57, 54, 57, 55, 57, 56, 57, 57])) (.t 90)⟩,
    ⟨some 92, none, .ixaS 1 (.t 81) (.t 83)⟩,
    ⟨none, none, .st 1 (.t 92) (.t 89)⟩,
    ⟨some 93, none, .ixaS 1 (.t 84) (.t 86)⟩,
    ⟨none, none, .st 1 (.t 93) (.t 91)⟩] [])
  (.reg [⟨some 94, none, .mv (.t 4)⟩,
    ⟨some 95, none, .bin .sub (.t 94) (.c (.int .i64 8))⟩,
    ⟨some 4, none, .mv (.t 95)⟩]))))))))))))))
  (.seq (.reg [⟨some 96, none, .mv (.t 1)⟩,
    ⟨some 97, none, .cvi .u32 (.t 96)⟩,
    ⟨some 12, none, .mv (.t 97)⟩])
  (.seq (.seq (.reg [⟨some 98, none, .mv (.t 4)⟩,
    ⟨some 99, none, .bin .geq (.t 98) (.c (.int .i64 4))⟩])
  (.cond (.t 99) (.seq (.reg [⟨some 100, none, .mv (.t 12)⟩,
    ⟨some 101, none, .bin .rem (.t 100) (.c (.int .u32 10000))⟩,
    ⟨some 13, none, .mv (.t 101)⟩])
  (.seq (.reg [⟨some 102, none, .mv (.t 12)⟩,
    ⟨some 103, none, .bin .quo (.t 102) (.c (.int .u32 10000))⟩,
    ⟨some 12, none, .mv (.t 103)⟩])
  (.seq (.reg [⟨some 104, none, .mv (.t 13)⟩,
    ⟨some 105, none, .bin .quo (.t 104) (.c (.int .u32 100))⟩,
    ⟨some 106, none, .bin .mul (.t 105) (.c (.int .u32 2))⟩,
    ⟨some 107, none, .mv (.t 13)⟩,
    ⟨some 108, none, .bin .rem (.t 107) (.c (.int .u32 100))⟩,
    ⟨some 109, none, .bin .mul (.t 108) (.c (.int .u32 2))⟩,
    ⟨some 14, none, .mv (.t 106)⟩,
    ⟨some 15, none, .mv (.t 109)⟩])
  (.seq (.drw [⟨some 110, none, .mv (.t 0)⟩,
    ⟨some 111, none, .mv (.t 4)⟩,
    ⟨some 112, none, .bin .sub (.t 111) (.c (.int .i64 1))⟩,
    ⟨some 113, none, .mv (.t 0)⟩,
    ⟨some 114, none, .mv (.t 4)⟩,
    ⟨some 115, none, .bin .sub (.t 114) (.c (.int .i64 2))⟩,
    ⟨some 116, none, .mv (.t 15)⟩,
    ⟨some 117, none, .bin .add (.t 116) (.c (.int .u32 1))⟩,
    ⟨some 118, none, .ixS (.c (.str [48, 48, 48, 49, 48, 50, 48, 51, 48, 52, 48, 53, 48, 54, 48, 55, 48, 56, 48, 57, 49, 48, 49, 49, 49, 50, 49, 51, 49, 52, 49, 53, 49, 54, 49, 55, 49, 56, 49, 57, 50, 48, 50, 49, 50, 50, 50, 51, 50, 52, 50, 53, 50, 54, 50, 55, 50, 56, 50, 57, 51, 48, 51, 49, 51, 50, 51, 51, 51, 52, 51, 53, 51, 54, 51, 55, 51, 56, 51, 57, 52, 48, 52, 49, 52, 50, 52, 51, 52, 52, 52, 53, 52, 54, 52, 55, 52, 56, 52, 57, 53, 48, 53, 49, 53, 50, 53, 51, 53, 52, 53, 53, 53, 54, 53, 55, 53, 56, 53, 57, 54, 48, 54, 49, 54, 50, 54, 51, 54, 52, 54, 53, 54, 54, 54, 55, 54, 56, 54, 57, 55, 48, 55, 49, 55, 50, 55, 51, 55, 52, 55, 53, 55, 54, 55, 55, 55, 56, 55, 57, 56, 48, 56, 49, 56, 50, 56, 51, 56, 52, 56, 53, 56, 54, 56, 55, 56, 56, 56, 57, 57, 48, 57, 49, 57, 50, 57, 51, 57, 52, 57, 53, 57, 54, 57, 55, 57, 56, 57, 57])) (.t 117)⟩,
    ⟨some 119, none, .mv (.t 15)⟩,
    ⟨some 120, none, .ixS (.c (.str [48, 48, 48, 49, 48, 50, 48, 51, 48, 52, 48, 53, 48, 54, 48, 55, 48, 56, 48, 57, 49, 48, 49, 49, 49, 50, 49, 51, 49, 52, 49, 53, 49, 54, 49, 55, 49, 56, 49, 57, 50, 48, 50, 49, 50, 50, 50, 51, 50, 52, 50, 53, 50, 54, 50, 55, 50, 56, 50, 57, 51, 48, 51, 49, 51, 50, 51, 51, 51, 52, 51, 53, 51, 54, 51, 55, 51, 56, 51, 57, 52, 48, 52, 49, 52, 50, 52, 51, 52, 52, 52, 53, 52, 54, 52, 55, 52, 56, 52, 57, 53, 48, 53, 49, 53, 50, 53, 51, 53, 52, 53, 53, 53, 54, 53, 55, 53, 56, 53, 57, 54, 48, 54, 49, 54, 50, 54, 51, 54, 52, 54, 53, 54, 54, 54, 55, 54, 56, 54, 57, 55, 48, 55, 49, 55, 50, 55, 51, 55, 52, 55, 53, 55, 54, 55, 55, 55, 56, 55, 57, 56, 48, 56, 49, 56, 50, 56, 51, 56, 52, 56, 53, 56, 54, 56, 55, 56, 56, 56, 57, 57, 48, 57, 49, 57, 50, 57, 51, 57, 52, 57, 53, 57, 54, 57, 55, 57, 56, 57, 57])) (.t 119)⟩,
    ⟨some 121, none, .ixaS 1 (.t 110) (.t 112)⟩,
    ⟨none, none, .st 1 (.t 121) (.t 118)⟩,
    ⟨some 122, none, .ixaS 1 (.t 113) (.t 115)⟩,
    ⟨none, none, .st 1 (.t 122) (.t 120)⟩] [])
  (.seq (.drw [⟨some 123, none, .mv (.t 0)⟩,
    ⟨some 124, none, .mv (.t 4)⟩,
    ⟨some 125, none, .bin .sub (.t 124) (.c (.int .i64 3))⟩,
    ⟨some 126, none, .mv (.t 0)⟩,
    ⟨some 127, none, .mv (.t 4)⟩,
    ⟨some 128, none, .bin .sub (.t 127) (.c (.int .i64 4))⟩,
    ⟨some 129, none, .mv (.t 14)⟩,
    ⟨some 130, none, .bin .add (.t 129) (.c (.int .u32 1))⟩,
    ⟨some 131, none, .ixS (.c (.str [48, 48, 48, 49, 48, 50, 48, 51, 48, 52, 48, 53, 48, 54, 48, 55, 48, 56, 48, 57, 49, 48, 49, 49, 49, 50, 49, 51, 49, 52, 49, 53, 49, 54, 49, 55, 49, 56, 49, 57, 50, 48, 50, 49, 50, 50, 50, 51, 50, 52, 50, 53, 50, 54, 50, 55, 50, 56, 50, 57, 51, 48, 51, 49, 51, 50, 51, 51, 51, 52, 51, 53, 51, 54, 51, 55, 51, 56, 51, 57, 52, 48, 52, 49, 52, 50, 52, 51, 52, 52, 52, 53, 52, 54, 52, 55, 52, 56, 52, 57, 53, 48, 53, 49, 53, 50, 53, 51, 53, 52, 53, 53, 53, 54, 53, 55, 53, 56, 53, 57, 54, 48, 54, 49, 54, 50, 54, 51, 54, 52, 54, 53, 54, 54, 54, 55, 54, 56, 54, 57, 55, 48, 55, 49, 55, 50, 55, 51, 55, 52, 55, 53, 55, 54, 55, 55, 55, 56, 55, 57, 56, 48, 56, 49, 56, 50, 56, 51, 56, 52, 56, 53, 56, 54, 56, 55, 56, 56, 56, 57, 57, 48, 57, 49, 57, 50, 57, 51, 57, 52, 57, 53, 57, 54, 57, 55, 57, 56, 57, 57])) (.t 130)⟩,
    ⟨some 132, none, .mv (.t 14)⟩,
    ⟨some 133, none, .ixS (.c (.str [48, 48, 48, 49, 48, 50, 48, 51, 48, 52, 48, 53, 48, 54, 48, 55, 48, 56, 48, 57, 49, 48, 49, 49, 49, 50, 49, 51, 49, 52, 49, 53, 49, 54, 49, 55, 49, 56, 49, 57, 50, 48, 50, 49, 50, 50, 50, 51, 50, 52, 50, 53, 50, 54, 50, 55, 50, 56, 50, 57, 51, 48, 51, 49, 51, 50, 51, 51, 51, 52, 51, 53, 51, 54, 51, 55, 51, 56, 51, 57, 52, 48, 52, 49, 52, 50, 52, 51, 52, 52, 52, 53, 52, 54, 52, 55, 52, 56, 52, 57, 53, 48, 53, 49, 53, 50, 53, 51, 53, 52, 53, 53, 53, 54, 53, 55, 53, 56, 53, 57, 54, 48, 54, 49, 54, 50, 54, 51, 54, 52, 54, 53, 54, 54, 54, 55, 54, 56, 54, 57, 55, 48, 55, 49, 55, 50, 55, 51, 55, 52, 55, 53, 55, 54, 55, 55, 55, 56, 55, 57, 56, 48, 56, 49, 56, 50, 56, 51, 56, 52, 56, 53, 56, 54, 56, 55, 56, 56, 56, 57, 57, 48, 57, 49, 57, 50, 57, 51, 57, 52, 57, 53, 57, 54, 57, 55, 57, 56, 57, 57])) (.t 132)⟩,
    ⟨some 134, none, .ixaS 1 (.t 123) (.t 125)⟩,
    ⟨none, none, .st 1 (.t 134) (.t 131)⟩,
    ⟨some 135, none, .ixaS 1 (.t 126) (.t 128)⟩,
    ⟨none, none, .st 1 (.t 135) (.t 133)⟩] [])
  (.reg [⟨some 136, none, .mv (.t 4)⟩,
    ⟨some 137, none, .bin .sub (.t 136) (.c (.int .i64 4))⟩,
    ⟨some 4, none, .mv (.t 137)⟩]))))))
  (.skip)))
  (.seq (.seq (.reg [⟨some 138, none, .mv (.t 4)⟩,
    ⟨some 139, none, .bin .geq (.t 138) (.c (.int .i64 2))⟩])
  (.cond (.t 139) (.seq (.reg [⟨some 140, none, .mv (.t 12)⟩,
    ⟨some 141, none, .bin .rem (.t 140) (.c (.int .u32 100))⟩,
    ⟨some 142, none, .bin .mul (.t 141) (.c (.int .u32 2))⟩,
    ⟨some 16, none, .mv (.t 142)⟩])
  (.seq (.reg [⟨some 143, none, .mv (.t 12)⟩,
    ⟨some 144, none, .bin .quo (.t 143) (.c (.int .u32 100))⟩,
    ⟨some 12, none, .mv (.t 144)⟩])
  (.seq (.drw [⟨some 145, none, .mv (.t 0)⟩,
    ⟨some 146, none, .mv (.t 4)⟩,
    ⟨some 147, none, .bin .sub (.t 146) (.c (.int .i64 1))⟩,
    ⟨some 148, none, .mv (.t 0)⟩,
    ⟨some 149, none, .mv (.t 4)⟩,
    ⟨some 150, none, .bin .sub (.t 149) (.c (.int .i64 2))⟩,
    ⟨some 151, none, .mv (.t 16)⟩,
    ⟨some 152, none, .bin .add (.t 151) (.c (.int .u32 1))⟩,
    ⟨some 153, none, .ixS (.c (.str [48, 48, 48, 49, 48, 50, 48, 51, 48, 52, 48, 53, 48, 54, 48, 55, 48, 56, 48, 57, 49, 48, 49, 49, 49, 50, 49, 51, 49, 52, 49, 53, 49, 54, 49, 55, 49, 56, 49, 57, 50, 48, 50, 49, 50, 50, 50, 51, 50, 52, 50, 53, 50, 54, 50, 55, 50, 56, 50, 57, 51, 48, 51, 49, 51, 50, 51, 51, 51, 52, 51, 53, 51, 54, 51, 55, 51, 56, 51, 57, 52, 48, 52, 49, 52, 50, 52, 51, 52, 52, 52, 53, 52, 54, 52, 55, 52, 56, 52, 57, 53, 48, 53, 49, 53, 50, 53, 51, 53, 52, 53, 53, 53, 54, 53, 55, 53, 56, 53, 57, 54, 48, 54, 49, 54, 50, 54, 51, 54, 52, 54, 53, 54, 54, 54, 55, 54, 56, 54, 57, 55, 48, 55, 49, 55, 50, 55, 51, 55, 52, 55, 53, 55, 54, 55, 55, 55, 56, 55, 57, 56, 48, 56, 49, 56, 50, 56, 51, 56, 52, 56, 53, 56, 54, 56, 55, 56, 56, 56, 57, 57, 48, 57, 49, 57, 50, 57, 51, 57, 52, 57, 53, 57, 54, 57, 55, 57, 56, 57, 57])) (.t 152)⟩,
    ⟨some 154, none, .mv (.t 16)⟩,
    ⟨some 155, none, .ixS (.c (.str [48, 48, 48, 49, 48, 50, 48, 51, 48, 52, 48, 53, 48, 54, 48, 55, 48, 56, 48, 57, 49, 48, 49, 49, 49, 50, 49, 51, 49, 52, 49, 53, 49, 54, 49, 55, 49, 56, 49, 57, 50, 48, 50, 49, 50, 50, 50, 51, 50, 52, 50, 53, 50, 54, 50, 55, 50, 56, 50, 57, 51, 48, 51, 49, 51, 50, 51, 51, 51, 52, 51, 53, 51, 54, 51, 55, 51, 56, 51, 57, 52, 48, 52, 49, 52, 50, 52, 51, 52, 52, 52, 53, 52, 54, 52, 55, 52, 56, 52, 57, 53, 48, 53, 49, 53, 50, 53, 51, 53, 52, 53, 53, 53, 54, 53, 55, 53, 56, 53, 57, 54, 48, 54, 49, 54, 50, 54, 51, 54, 52, 54, 53, 54, 54, 54, 55, 54, 56, 54, 57, 55, 48, 55, 49, 55, 50, 55, 51, 55, 52, 55, 53, 55, 54, 55, 55, 55, 56, 55, 57, 56, 48, 56, 49, 56, 50, 56, 51, 56, 52, 56, 53, 56, 54, 56, 55, 56, 56, 56, 57, 57, 48, 57, 49, 57, 50, 57, 51, 57, 52, 57, 53, 57, 54, 57, 55, 57, 56, 57, 57])) (.t 154)⟩,
    ⟨some 156, none, .ixaS 1 (.t 145) (.t 147)⟩,
    ⟨none, none, .st 1 (.t 156) (.t 153)⟩,
    ⟨some 157, none, .ixaS 1 (.t 148) (.t 150)⟩,
    ⟨none, none, .st 1 (.t 157) (.t 155)⟩] [])
  (.reg [⟨some 158, none, .mv (.t 4)⟩,
    ⟨some 159, none, .bin .sub (.t 158) (.c (.int .i64 2))⟩,
    ⟨some 4, none, .mv (.t 159)⟩]))))
  (.skip)))
  (.seq (.reg [⟨some 160, none, .mv (.t 4)⟩,
    ⟨some 161, none, .bin .gtr (.t 160) (.c (.int .i64 0))⟩])
  (.cond (.t 161) (.reg [⟨some 162, none, .mv (.t 0)⟩,
    ⟨some 163, none, .mv (.t 12)⟩,
    ⟨some 164, none, .bin .add (.c (.int .u32 48)) (.t 163)⟩,
    ⟨some 165, none, .cvi .u8 (.t 164)⟩,
    ⟨some 166, none, .ixaS 1 (.t 162) (.c (.int .i64 0))⟩,
    ⟨none, none, .st 1 (.t 166) (.t 165)⟩])
  (.skip))))))),
  []⟩
/-- internal/strconv.formatBits -/
def rf116 : RFunc := ⟨.seq (.reg [⟨some 10, none, .mv (.c (.nils))⟩,
    ⟨some 11, none, .mv (.c (.str []))⟩])
  (.seq (.seq (.reg [⟨some 19, none, .mv (.t 2)⟩,
    ⟨some 20, none, .bin .lss (.t 19) (.c (.int .i64 2))⟩,
    ⟨some 21, none, .mv (.t 20)⟩,
    ⟨some 22, some (21, false), .mv (.t 2)⟩,
    ⟨some 23, some (21, false), .bin .eql (.t 22) (.c (.int .i64 10))⟩,
    ⟨some 24, none, .pick (.t 21) (.c (.bool true)) (.t 23)⟩,
    ⟨some 25, none, .mv (.t 24)⟩,
    ⟨some 26, some (25, false), .mv (.t 2)⟩,
    ⟨some 27, some (25, false), .bin .gtr (.t 26) (.c (.int .i64 36))⟩,
    ⟨some 28, none, .pick (.t 25) (.c (.bool true)) (.t 27)⟩])
  (.cond (.t 28) (.reg [⟨some 29, none, .mkifc 9 (.c (.str [115, 116, 114, 99, 111, 110, 118, 58, 32, 105, 108, 108, 101, 103, 97, 108, 32, 65, 112, 112, 101, 110, 100, 73, 110, 116, 47, 70, 111, 114, 109, 97, 116, 73, 110, 116, 32, 98, 97, 115, 101]))⟩,
    ⟨none, none, .bad⟩])
  (.skip)))
  (.seq (.reg [⟨some 12, none, .new [.int .u8 0, .int .u8 0, .int .u8 0, .int .u8 0, .int .u8 0, .int .u8 0, .int .u8 0, .int .u8 0, .int .u8 0, .int .u8 0, .int .u8 0, .int .u8 0, .int .u8 0, .int .u8 0, .int .u8 0, .int .u8 0, .int .u8 0, .int .u8 0, .int .u8 0, .int .u8 0, .int .u8 0, .int .u8 0, .int .u8 0, .int .u8 0, .int .u8 0, .int .u8 0, .int .u8 0, .int .u8 0, .int .u8 0, .int .u8 0, .int .u8 0, .int .u8 0, .int .u8 0, .int .u8 0, .int .u8 0, .int .u8 0, .int .u8 0, .int .u8 0, .int .u8 0, .int .u8 0, .int .u8 0, .int .u8 0, .int .u8 0, .int .u8 0, .int .u8 0, .int .u8 0, .int .u8 0, .int .u8 0, .int .u8 0, .int .u8 0, .int .u8 0, .int .u8 0, .int .u8 0, .int .u8 0, .int .u8 0, .int .u8 0, .int .u8 0, .int .u8 0, .int .u8 0, .int .u8 0, .int .u8 0, .int .u8 0, .int .u8 0, .int .u8 0, .int .u8 0]⟩])
  (.seq (.reg [⟨some 13, none, .mv (.c (.int .i64 65))⟩])
  (.seq (.seq (.reg [⟨some 30, none, .mv (.t 3)⟩])
  (.cond (.t 30) (.reg [⟨some 31, none, .mv (.t 1)⟩,
    ⟨some 32, none, .un .neg (.t 31)⟩,
    ⟨some 1, none, .mv (.t 32)⟩])
  (.skip)))
  (.seq (.seq (.reg [⟨some 33, none, .mv (.t 2)⟩,
    ⟨some 34, none, .call 120 [.t 33]⟩])
  (.cond (.t 34) (.seq (.reg [⟨some 35, none, .mv (.t 2)⟩,
    ⟨some 36, none, .cvi .u64 (.t 35)⟩,
    ⟨some 37, none, .call 121 [.t 36]⟩,
    ⟨some 38, none, .cvi .u64 (.t 37)⟩,
    ⟨some 14, none, .mv (.t 38)⟩])
  (.seq (.reg [⟨some 39, none, .mv (.t 2)⟩,
    ⟨some 40, none, .cvi .u64 (.t 39)⟩,
    ⟨some 15, none, .mv (.t 40)⟩])
  (.seq (.reg [⟨some 41, none, .mv (.t 2)⟩,
    ⟨some 42, none, .cvi .u64 (.t 41)⟩,
    ⟨some 43, none, .bin .sub (.t 42) (.c (.int .u64 1))⟩,
    ⟨some 16, none, .mv (.t 43)⟩])
  (.seq (.block 0 (.loop (.seq (.seq (.reg [⟨some 44, none, .mv (.t 1)⟩,
    ⟨some 45, none, .mv (.t 15)⟩,
    ⟨some 46, none, .bin .geq (.t 44) (.t 45)⟩])
  (.cond (.t 46) (.skip)
  (.exit 0)))
  (.block 1 (.seq (.reg [⟨some 47, none, .mv (.t 13)⟩,
    ⟨some 48, none, .bin .sub (.t 47) (.c (.int .i64 1))⟩,
    ⟨some 13, none, .mv (.t 48)⟩])
  (.seq (.reg [⟨some 49, none, .mv (.t 13)⟩,
    ⟨some 50, none, .mv (.t 1)⟩,
    ⟨some 51, none, .mv (.t 16)⟩,
    ⟨some 52, none, .bin .and (.t 50) (.t 51)⟩,
    ⟨some 53, none, .ixS (.c (.str [48, 49, 50, 51, 52, 53, 54, 55, 56, 57, 97, 98, 99, 100, 101, 102, 103, 104, 105, 106, 107, 108, 109, 110, 111, 112, 113, 114, 115, 116, 117, 118, 119, 120, 121, 122])) (.t 52)⟩,
    ⟨some 54, none, .ixaA 65 1 (.t 12) (.t 49)⟩,
    ⟨none, none, .st 1 (.t 54) (.t 53)⟩])
  (.reg [⟨some 55, none, .mv (.t 1)⟩,
    ⟨some 56, none, .mv (.t 14)⟩,
    ⟨some 57, none, .bin .shr (.t 55) (.t 56)⟩,
    ⟨some 1, none, .mv (.t 57)⟩])))))))
  (.seq (.reg [⟨some 58, none, .mv (.t 13)⟩,
    ⟨some 59, none, .bin .sub (.t 58) (.c (.int .i64 1))⟩,
    ⟨some 13, none, .mv (.t 59)⟩])
  (.reg [⟨some 60, none, .mv (.t 13)⟩,
    ⟨some 61, none, .mv (.t 1)⟩,
    ⟨some 62, none, .ixS (.c (.str [48, 49, 50, 51, 52, 53, 54, 55, 56, 57, 97, 98, 99, 100, 101, 102, 103, 104, 105, 106, 107, 108, 109, 110, 111, 112, 113, 114, 115, 116, 117, 118, 119, 120, 121, 122])) (.t 61)⟩,
    ⟨some 63, none, .ixaA 65 1 (.t 12) (.t 60)⟩,
    ⟨none, none, .st 1 (.t 63) (.t 62)⟩]))))))
  (.seq (.reg [⟨some 64, none, .mv (.t 2)⟩,
    ⟨some 65, none, .cvi .u64 (.t 64)⟩,
    ⟨some 17, none, .mv (.t 65)⟩])
  (.seq (.block 2 (.loop (.seq (.seq (.reg [⟨some 66, none, .mv (.t 1)⟩,
    ⟨some 67, none, .mv (.t 17)⟩,
    ⟨some 68, none, .bin .geq (.t 66) (.t 67)⟩])
  (.cond (.t 68) (.skip)
  (.exit 2)))
  (.block 3 (.seq (.reg [⟨some 69, none, .mv (.t 13)⟩,
    ⟨some 70, none, .bin .sub (.t 69) (.c (.int .i64 1))⟩,
    ⟨some 13, none, .mv (.t 70)⟩])
  (.seq (.reg [⟨some 71, none, .mv (.t 1)⟩,
    ⟨some 72, none, .mv (.t 17)⟩,
    ⟨some 73, none, .bin .quo (.t 71) (.t 72)⟩,
    ⟨some 18, none, .mv (.t 73)⟩])
  (.seq (.reg [⟨some 74, none, .mv (.t 13)⟩,
    ⟨some 75, none, .mv (.t 1)⟩,
    ⟨some 76, none, .mv (.t 18)⟩,
    ⟨some 77, none, .mv (.t 17)⟩,
    ⟨some 78, none, .bin .mul (.t 76) (.t 77)⟩,
    ⟨some 79, none, .bin .sub (.t 75) (.t 78)⟩,
    ⟨some 80, none, .ixS (.c (.str [48, 49, 50, 51, 52, 53, 54, 55, 56, 57, 97, 98, 99, 100, 101, 102, 103, 104, 105, 106, 107, 108, 109, 110, 111, 112, 113, 114, 115, 116, 117, 118, 119, 120, 121, 122])) (.t 79)⟩,
    ⟨some 81, none, .ixaA 65 1 (.t 12) (.t 74)⟩,
    ⟨none, none, .st 1 (.t 81) (.t 80)⟩])
  (.reg [⟨some 82, none, .mv (.t 18)⟩,
    ⟨some 1, none, .mv (.t 82)⟩]))))))))
  (.seq (.reg [⟨some 83, none, .mv (.t 13)⟩,
    ⟨some 84, none, .bin .sub (.t 83) (.c (.int .i64 1))⟩,
    ⟨some 13, none, .mv (.t 84)⟩])
  (.reg [⟨some 85, none, .mv (.t 13)⟩,
    ⟨some 86, none, .mv (.t 1)⟩,
    ⟨some 87, none, .ixS (.c (.str [48, 49, 50, 51, 52, 53, 54, 55, 56, 57, 97, 98, 99, 100, 101, 102, 103, 104, 105, 106, 107, 108, 109, 110, 111, 112, 113, 114, 115, 116, 117, 118, 119, 120, 121, 122])) (.t 86)⟩,
    ⟨some 88, none, .ixaA 65 1 (.t 12) (.t 85)⟩,
    ⟨none, none, .st 1 (.t 88) (.t 87)⟩]))))))
  (.seq (.seq (.reg [⟨some 89, none, .mv (.t 3)⟩])
  (.cond (.t 89) (.seq (.reg [⟨some 90, none, .mv (.t 13)⟩,
    ⟨some 91, none, .bin .sub (.t 90) (.c (.int .i64 1))⟩,
    ⟨some 13, none, .mv (.t 91)⟩])
  (.reg [⟨some 92, none, .mv (.t 13)⟩,
    ⟨some 93, none, .ixaA 65 1 (.t 12) (.t 92)⟩,
    ⟨none, none, .st 1 (.t 93) (.c (.int .u8 45))⟩]))
  (.skip)))
  (.seq (.seq (.reg [⟨some 94, none, .mv (.t 4)⟩])
  (.cond (.t 94) (.seq (.reg [⟨some 95, none, .mv (.t 0)⟩,
    ⟨some 96, none, .mv (.t 13)⟩,
    ⟨some 97, none, .slArr 65 1 (.t 12) (some (.t 96)) none none⟩,
    ⟨some 98, none, .app 1 1 (.t 95) (.t 97)⟩,
    ⟨some 10, none, .mv (.t 98)⟩])
  (.ret))
  (.skip)))
  (.seq (.reg [⟨some 99, none, .mv (.t 13)⟩,
    ⟨some 100, none, .slArr 65 1 (.t 12) (some (.t 99)) none none⟩,
    ⟨some 101, none, .bad⟩,
    ⟨some 11, none, .mv (.t 101)⟩])
  (.ret))))))))),
  [.t 10, .t 11]⟩
/-- internal/strconv.log10Pow2 -/
def rf117 : RFunc := ⟨.seq (.reg [⟨some 2, none, .mv (.c (.int .i64 0))⟩])
  (.seq (.reg [⟨some 3, none, .mv (.t 0)⟩,
    ⟨some 4, none, .bin .mul (.t 3) (.c (.int .i64 78913))⟩,
    ⟨some 5, none, .bin .shr (.t 4) (.c (.int .u64 18))⟩,
    ⟨some 2, none, .mv (.t 5)⟩])
  (.ret)),
  [.t 2]⟩
/-- math/bits.Len64 -/
def rf118 : RFunc := ⟨.seq (.reg [⟨some 2, none, .mv (.c (.int .i64 0))⟩])
  (.seq (.seq (.reg [⟨some 3, none, .mv (.t 0)⟩,
    ⟨some 4, none, .bin .geq (.t 3) (.c (.int .u64 4294967296))⟩])
  (.cond (.t 4) (.seq (.reg [⟨some 5, none, .mv (.t 0)⟩,
    ⟨some 6, none, .bin .shr (.t 5) (.c (.int .u64 32))⟩,
    ⟨some 0, none, .mv (.t 6)⟩])
  (.reg [⟨some 2, none, .mv (.c (.int .i64 32))⟩]))
  (.skip)))
  (.seq (.seq (.reg [⟨some 7, none, .mv (.t 0)⟩,
    ⟨some 8, none, .bin .geq (.t 7) (.c (.int .u64 65536))⟩])
  (.cond (.t 8) (.seq (.reg [⟨some 9, none, .mv (.t 0)⟩,
    ⟨some 10, none, .bin .shr (.t 9) (.c (.int .u64 16))⟩,
    ⟨some 0, none, .mv (.t 10)⟩])
  (.reg [⟨some 11, none, .mv (.t 2)⟩,
    ⟨some 12, none, .bin .add (.t 11) (.c (.int .i64 16))⟩,
    ⟨some 2, none, .mv (.t 12)⟩]))
  (.skip)))
  (.seq (.seq (.reg [⟨some 13, none, .mv (.t 0)⟩,
    ⟨some 14, none, .bin .geq (.t 13) (.c (.int .u64 256))⟩])
  (.cond (.t 14) (.seq (.reg [⟨some 15, none, .mv (.t 0)⟩,
    ⟨some 16, none, .bin .shr (.t 15) (.c (.int .u64 8))⟩,
    ⟨some 0, none, .mv (.t 16)⟩])
  (.reg [⟨some 17, none, .mv (.t 2)⟩,
    ⟨some 18, none, .bin .add (.t 17) (.c (.int .i64 8))⟩,
    ⟨some 2, none, .mv (.t 18)⟩]))
  (.skip)))
  (.seq (.reg [⟨some 19, none, .mv (.t 2)⟩,
    ⟨some 20, none, .mv (.t 0)⟩,
    ⟨some 21, none, .cvi .u8 (.t 20)⟩,
    ⟨some 22, none, .ixS (.c (.str [0, 1, 2, 2, 3, 3, 3, 3, 4, 4, 4, 4, 4, 4, 4, 4, 5, 5, 5, 5, 5, 5, 5, 5, 5, 5, 5, 5, 5, 5, 5, 5, 6, 6, 6, 6, 6, 6, 6, 6, 6, 6, 6, 6, 6, 6, 6, 6, 6, 6, 6, 6, 6, 6, 6, 6, 6, 6, 6, 6, 6, 6, 6, 6, 7, 7, 7, 7, 7, 7, 7, 7, 7, 7, 7, 7, 7, 7, 7, 7, 7, 7, 7, 7, 7, 7, 7, 7, 7, 7, 7, 7, 7, 7, 7, 7, 7, 7, 7, 7, 7, 7, 7, 7, 7, 7, 7, 7, 7, 7, 7, 7, 7, 7, 7, 7, 7, 7, 7, 7, 7, 7, 7, 7, 7, 7, 7, 7, 8, 8, 8, 8, 8, 8, 8, 8, 8, 8, 8, 8, 8, 8, 8, 8, 8, 8, 8, 8, 8, 8, 8, 8, 8, 8, 8, 8, 8, 8, 8, 8, 8, 8, 8, 8, 8, 8, 8, 8, 8, 8, 8, 8, 8, 8, 8, 8, 8, 8, 8, 8, 8, 8, 8, 8, 8, 8, 8, 8, 8, 8, 8, 8, 8, 8, 8, 8, 8, 8, 8, 8, 8, 8, 8, 8, 8, 8, 8, 8, 8, 8, 8, 8, 8, 8, 8, 8, 8, 8, 8, 8, 8, 8, 8, 8, 8, 8, 8, 8, 8, 8, 8, 8, 8, 8, 8, 8, 8, 8, 8, 8, 8, 8, 8, 8, 8, 8, 8, 8, 8, 8, 8, 8, 8, 8, 8, 8])) (.t 21)⟩,
    ⟨some 23, none, .cvi .i64 (.t 22)⟩,
    ⟨some 24, none, .bin .add (.t 19) (.t 23)⟩,
    ⟨some 2, none, .mv (.t 24)⟩])
  (.ret))))),
  [.t 2]⟩
/-- internal/strconv.bool2[int] -/
def rf119 : RFunc := ⟨.seq (.reg [⟨some 2, none, .mv (.c (.int .i64 0))⟩])
  (.seq (.seq (.reg [⟨some 3, none, .mv (.t 0)⟩])
  (.cond (.t 3) (.seq (.reg [⟨some 2, none, .mv (.c (.int .i64 1))⟩])
  (.ret))
  (.skip)))
  (.seq (.reg [⟨some 2, none, .mv (.c (.int .i64 0))⟩])
  (.ret))),
  [.t 2]⟩
/-- internal/strconv.isPowerOfTwo -/
def rf120 : RFunc := ⟨.seq (.reg [⟨some 2, none, .mv (.c (.bool false))⟩])
  (.seq (.reg [⟨some 3, none, .mv (.t 0)⟩,
    ⟨some 4, none, .mv (.t 0)⟩,
    ⟨some 5, none, .bin .sub (.t 4) (.c (.int .i64 1))⟩,
    ⟨some 6, none, .bin .and (.t 3) (.t 5)⟩,
    ⟨some 7, none, .bin .eql (.t 6) (.c (.int .i64 0))⟩,
    ⟨some 2, none, .mv (.t 7)⟩])
  (.ret)),
  [.t 2]⟩
/-- math/bits.TrailingZeros -/
def rf121 : RFunc := ⟨.seq (.reg [⟨some 2, none, .mv (.c (.int .i64 0))⟩])
  (.seq (.cond (.c (.bool false)) (.seq (.reg [⟨some 3, none, .mv (.t 0)⟩,
    ⟨some 4, none, .cvi .u32 (.t 3)⟩,
    ⟨some 5, none, .call 122 [.t 4]⟩,
    ⟨some 2, none, .mv (.t 5)⟩])
  (.ret))
  (.skip))
  (.seq (.reg [⟨some 6, none, .mv (.t 0)⟩,
    ⟨some 7, none, .call 123 [.t 6]⟩,
    ⟨some 2, none, .mv (.t 7)⟩])
  (.ret))),
  [.t 2]⟩
/-- math/bits.TrailingZeros32 -/
def rf122 : RFunc := ⟨.seq (.reg [⟨some 2, none, .mv (.c (.int .i64 0))⟩])
  (.seq (.seq (.reg [⟨some 3, none, .mv (.t 0)⟩,
    ⟨some 4, none, .bin .eql (.t 3) (.c (.int .u32 0))⟩])
  (.cond (.t 4) (.seq (.reg [⟨some 2, none, .mv (.c (.int .i64 32))⟩])
  (.ret))
  (.skip)))
  (.seq (.reg [⟨some 5, none, .mv (.t 0)⟩,
    ⟨some 6, none, .mv (.t 0)⟩,
    ⟨some 7, none, .un .neg (.t 6)⟩,
    ⟨some 8, none, .bin .and (.t 5) (.t 7)⟩,
    ⟨some 9, none, .bin .mul (.t 8) (.c (.int .u32 125613361))⟩,
    ⟨some 10, none, .bin .shr (.t 9) (.c (.int .u64 27))⟩,
    ⟨some 11, none, .ixaA 32 1 (.c (.ptr 2 0)) (.t 10)⟩,
    ⟨some 12, none, .ld1 (.t 11)⟩,
    ⟨some 13, none, .cvi .i64 (.t 12)⟩,
    ⟨some 2, none, .mv (.t 13)⟩])
  (.ret))),
  [.t 2]⟩
/-- math/bits.TrailingZeros64 -/
def rf123 : RFunc := ⟨.seq (.reg [⟨some 2, none, .mv (.c (.int .i64 0))⟩])
  (.seq (.seq (.reg [⟨some 3, none, .mv (.t 0)⟩,
    ⟨some 4, none, .bin .eql (.t 3) (.c (.int .u64 0))⟩])
  (.cond (.t 4) (.seq (.reg [⟨some 2, none, .mv (.c (.int .i64 64))⟩])
  (.ret))
  (.skip)))
  (.seq (.reg [⟨some 5, none, .mv (.t 0)⟩,
    ⟨some 6, none, .mv (.t 0)⟩,
    ⟨some 7, none, .un .neg (.t 6)⟩,
    ⟨some 8, none, .bin .and (.t 5) (.t 7)⟩,
    ⟨some 9, none, .bin .mul (.t 8) (.c (.int .u64 285870213051353865))⟩,
    ⟨some 10, none, .bin .shr (.t 9) (.c (.int .u64 58))⟩,
    ⟨some 11, none, .ixaA 64 1 (.c (.ptr 3 0)) (.t 10)⟩,
    ⟨some 12, none, .ld1 (.t 11)⟩,
    ⟨some 13, none, .cvi .i64 (.t 12)⟩,
    ⟨some 2, none, .mv (.t 13)⟩])
  (.ret))),
  [.t 2]⟩
end Go.Ev.Pg
