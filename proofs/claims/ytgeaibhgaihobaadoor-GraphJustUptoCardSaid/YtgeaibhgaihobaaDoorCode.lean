import Derived.Test.YtgeaibhgaihobaaDoorFa
import Derived.Test.YtgeaibhgaihobaaDoorProg
import Derived.KernelRfl
set_option maxRecDepth 100000
namespace Go.Proofs.YtgeaibhgaihobaaDoor
open Go.Abs
def k4 : Nat → List (Nat × H) := fun _ => []
def a4 : AFun := ⟨4, (.seq (.reg [⟨some 4, .box (.tmp 0), none⟩, ⟨some 5, .box (.tmp 1), none⟩, ⟨some 7, .box (.tmp 3), none⟩, ⟨some 8, .mov (.con (.b false)), none⟩])
 (.seq (.seq (.reg [⟨some 18, .call 5 [], none⟩, ⟨some 19, .un .not (.tmp 18), none⟩, ⟨some 20, .mov (.tmp 19), none⟩, ⟨some 21, .load true 3 (.tmp 4), some (20, false)⟩, ⟨some 22, .call 6 [(.tmp 21)], some (20, false)⟩, ⟨some 23, .bin .neq (.tmp 22) (.con (.i .i64 (0))), some (20, false)⟩, ⟨some 24, .pick (.tmp 20) (.con (.b true)) (.tmp 23), none⟩])
 (.cond (.tmp 24) (.seq (.reg [⟨some 25, .call 5 [], none⟩, ⟨some 8, .mov (.tmp 25), none⟩])
 .ret) .skip))
 (.seq (.reg [⟨some 27, .load true 3 (.tmp 4), none⟩, ⟨some 28, .load true 4 (.tmp 5), none⟩, ⟨some 29, .mov (.tmp 2), none⟩, ⟨some 30, .call 13 [(.tmp 27), (.tmp 28), (.tmp 29)], none⟩, ⟨some 26, .mov (.tmp 30), none⟩, ⟨some 31, .ext (.tmp 26) 0, none⟩, ⟨some 32, .ext (.tmp 26) 1, none⟩, ⟨some 9, .alloc [(.i .i64 (0)), (.i .i64 (0)), (.str []), (.sl .nil 0 [])], none⟩, ⟨none, .store 4 (.tmp 9) (.tmp 31), none⟩, ⟨some 10, .mov (.tmp 32), none⟩])
 (.seq (.reg [⟨some 34, .load true 3 (.tmp 4), none⟩, ⟨some 35, .load true 4 (.tmp 5), none⟩, ⟨some 36, .mov (.tmp 2), none⟩, ⟨some 37, .load true 4 (.tmp 7), none⟩, ⟨some 38, .call 14 [(.tmp 34), (.tmp 35), (.tmp 36), (.tmp 37)], none⟩, ⟨some 33, .mov (.tmp 38), none⟩, ⟨some 39, .ext (.tmp 33) 0, none⟩, ⟨some 40, .ext (.tmp 33) 1, none⟩, ⟨some 11, .alloc [(.sl .nil 0 []), (.sl .nil 0 []), (.i .i64 (0))], none⟩, ⟨none, .store 3 (.tmp 11) (.tmp 39), none⟩, ⟨some 12, .mov (.tmp 40), none⟩])
 (.seq (.seq (.reg [⟨some 41, .mov (.tmp 12), none⟩, ⟨some 42, .bin .neq (.tmp 41) (.con (.i .i64 (0))), none⟩])
 (.cond (.tmp 42) (.seq (.reg [⟨some 43, .load true 3 (.tmp 11), none⟩, ⟨some 44, .load true 3 (.tmp 4), none⟩, ⟨some 45, .call 15 [(.tmp 43), (.tmp 44)], none⟩, ⟨some 8, .mov (.tmp 45), none⟩])
 .ret) .skip))
 (.seq (.reg [⟨some 47, .load true 3 (.tmp 11), none⟩, ⟨some 48, .load true 4 (.tmp 5), none⟩, ⟨some 49, .mov (.tmp 2), none⟩, ⟨some 50, .call 13 [(.tmp 47), (.tmp 48), (.tmp 49)], none⟩, ⟨some 46, .mov (.tmp 50), none⟩, ⟨some 51, .ext (.tmp 46) 0, none⟩, ⟨some 52, .ext (.tmp 46) 1, none⟩, ⟨some 13, .alloc [(.i .i64 (0)), (.i .i64 (0)), (.str []), (.sl .nil 0 [])], none⟩, ⟨none, .store 4 (.tmp 13) (.tmp 51), none⟩, ⟨some 14, .mov (.tmp 52), none⟩])
 (.seq (.seq (.reg [⟨some 53, .mov (.tmp 14), none⟩, ⟨some 54, .un .not (.tmp 53), none⟩, ⟨some 55, .mov (.tmp 54), none⟩, ⟨some 56, .load true 4 (.tmp 13), some (55, false)⟩, ⟨some 57, .load true 4 (.tmp 7), some (55, false)⟩, ⟨some 58, .call 16 [(.tmp 56), (.tmp 57)], some (55, false)⟩, ⟨some 59, .un .not (.tmp 58), some (55, false)⟩, ⟨some 60, .pick (.tmp 55) (.con (.b true)) (.tmp 59), none⟩])
 (.cond (.tmp 60) (.seq (.reg [⟨some 8, .mov (.con (.b false)), none⟩])
 .ret) .skip))
 (.seq (.reg [⟨some 62, .load true 3 (.tmp 11), none⟩, ⟨some 63, .load true 4 (.tmp 5), none⟩, ⟨some 64, .mov (.tmp 2), none⟩, ⟨some 65, .call 17 [(.tmp 62), (.tmp 63), (.tmp 64)], none⟩, ⟨some 61, .mov (.tmp 65), none⟩, ⟨some 66, .ext (.tmp 61) 0, none⟩, ⟨some 67, .ext (.tmp 61) 1, none⟩, ⟨some 68, .ext (.tmp 61) 2, none⟩, ⟨some 15, .alloc [(.sl .nil 0 []), (.sl .nil 0 []), (.i .i64 (0))], none⟩, ⟨none, .store 3 (.tmp 15) (.tmp 66), none⟩, ⟨some 14, .mov (.tmp 67), none⟩, ⟨some 12, .mov (.tmp 68), none⟩])
 (.seq (.seq (.reg [⟨some 69, .mov (.tmp 14), none⟩, ⟨some 70, .un .not (.tmp 69), none⟩, ⟨some 71, .mov (.tmp 70), none⟩, ⟨some 72, .mov (.tmp 12), some (71, false)⟩, ⟨some 73, .bin .neq (.tmp 72) (.con (.i .i64 (0))), some (71, false)⟩, ⟨some 74, .pick (.tmp 71) (.con (.b true)) (.tmp 73), none⟩])
 (.cond (.tmp 74) (.seq (.reg [⟨some 8, .mov (.con (.b false)), none⟩])
 .ret) .skip))
 (.seq (.seq (.reg [⟨some 76, .load true 3 (.tmp 15), none⟩, ⟨some 77, .load true 4 (.tmp 5), none⟩, ⟨some 78, .mov (.tmp 2), none⟩, ⟨some 79, .call 13 [(.tmp 76), (.tmp 77), (.tmp 78)], none⟩, ⟨some 75, .mov (.tmp 79), none⟩, ⟨some 80, .ext (.tmp 75) 0, none⟩, ⟨some 81, .ext (.tmp 75) 1, none⟩, ⟨some 16, .alloc [(.i .i64 (0)), (.i .i64 (0)), (.str []), (.sl .nil 0 [])], none⟩, ⟨none, .store 4 (.tmp 16) (.tmp 80), none⟩, ⟨some 17, .mov (.tmp 81), none⟩])
 (.seq (.reg [⟨some 82, .mov (.tmp 17), none⟩])
 (.cond (.tmp 82) (.seq (.reg [⟨some 8, .mov (.con (.b false)), none⟩])
 .ret) .skip)))
 (.seq (.seq (.reg [⟨some 83, .mov (.tmp 10), none⟩])
 (.cond (.tmp 83) (.seq (.reg [⟨some 85, .load true 3 (.tmp 15), none⟩, ⟨some 86, .load true 4 (.tmp 5), none⟩, ⟨some 87, .mov (.tmp 2), none⟩, ⟨some 88, .load true 4 (.tmp 9), none⟩, ⟨some 89, .call 14 [(.tmp 85), (.tmp 86), (.tmp 87), (.tmp 88)], none⟩, ⟨some 84, .mov (.tmp 89), none⟩, ⟨some 90, .ext (.tmp 84) 0, none⟩, ⟨some 91, .ext (.tmp 84) 1, none⟩, ⟨none, .store 3 (.tmp 15) (.tmp 90), none⟩, ⟨some 12, .mov (.tmp 91), none⟩])
 (.seq (.reg [⟨some 92, .mov (.tmp 12), none⟩, ⟨some 93, .bin .neq (.tmp 92) (.con (.i .i64 (0))), none⟩])
 (.cond (.tmp 93) (.seq (.reg [⟨some 8, .mov (.con (.b false)), none⟩])
 .ret) .skip))) .skip))
 (.seq (.reg [⟨some 94, .load true 3 (.tmp 15), none⟩, ⟨some 95, .load true 3 (.tmp 4), none⟩, ⟨some 96, .call 15 [(.tmp 94), (.tmp 95)], none⟩, ⟨some 8, .mov (.tmp 96), none⟩])
 .ret)))))))))))), [.tmp 8]⟩
theorem c4 : compF Tryd.prog k4 [] Tryd.f4 = some a4 := by kernel_rfl
def k5 : Nat → List (Nat × H) := fun _ => []
def a5 : AFun := ⟨0, (.seq (.reg [⟨some 0, .mov (.con (.b false)), none⟩])
 (.seq (.reg [⟨some 9, .build [(.sl .nil 0 []), (.sl .nil 0 []), (.i .i64 (0))] [], none⟩, ⟨some 10, .call 18 [(.tmp 9), (.con (.str [112, 101, 114, 115, 111, 110]))], none⟩, ⟨some 8, .mov (.tmp 10), none⟩, ⟨some 11, .ext (.tmp 8) 0, none⟩, ⟨some 12, .ext (.tmp 8) 1, none⟩, ⟨some 13, .ext (.tmp 8) 2, none⟩, ⟨some 1, .alloc [(.sl .nil 0 []), (.sl .nil 0 []), (.i .i64 (0))], none⟩, ⟨none, .store 3 (.tmp 1) (.tmp 11), none⟩, ⟨some 2, .mov (.tmp 12), none⟩, ⟨some 3, .mov (.tmp 13), none⟩])
 (.seq (.reg [⟨some 15, .load true 3 (.tmp 1), none⟩, ⟨some 16, .call 18 [(.tmp 15), (.con (.str [112, 101, 114, 115, 111, 110]))], none⟩, ⟨some 14, .mov (.tmp 16), none⟩, ⟨some 17, .ext (.tmp 14) 0, none⟩, ⟨some 18, .ext (.tmp 14) 1, none⟩, ⟨some 19, .ext (.tmp 14) 2, none⟩, ⟨none, .store 3 (.tmp 1) (.tmp 17), none⟩, ⟨some 4, .mov (.tmp 18), none⟩, ⟨some 5, .mov (.tmp 19), none⟩])
 (.seq (.reg [⟨some 21, .load true 3 (.tmp 1), none⟩, ⟨some 22, .mov (.tmp 2), none⟩, ⟨some 23, .mov (.tmp 4), none⟩, ⟨some 24, .call 19 [(.tmp 21), (.con (.str [107, 110, 111, 119, 115])), (.tmp 22), (.tmp 23)], none⟩, ⟨some 20, .mov (.tmp 24), none⟩, ⟨some 25, .ext (.tmp 20) 0, none⟩, ⟨some 26, .ext (.tmp 20) 1, none⟩, ⟨some 27, .ext (.tmp 20) 2, none⟩, ⟨none, .store 3 (.tmp 1) (.tmp 25), none⟩, ⟨some 6, .mov (.tmp 26), none⟩, ⟨some 7, .mov (.tmp 27), none⟩])
 (.seq (.seq (.reg [⟨some 28, .mov (.tmp 3), none⟩, ⟨some 29, .bin .neq (.tmp 28) (.con (.i .i64 (0))), none⟩, ⟨some 30, .mov (.tmp 29), none⟩, ⟨some 31, .mov (.tmp 5), some (30, false)⟩, ⟨some 32, .bin .neq (.tmp 31) (.con (.i .i64 (0))), some (30, false)⟩, ⟨some 33, .pick (.tmp 30) (.con (.b true)) (.tmp 32), none⟩, ⟨some 34, .mov (.tmp 33), none⟩, ⟨some 35, .mov (.tmp 7), some (34, false)⟩, ⟨some 36, .bin .neq (.tmp 35) (.con (.i .i64 (0))), some (34, false)⟩, ⟨some 37, .pick (.tmp 34) (.con (.b true)) (.tmp 36), none⟩, ⟨some 38, .mov (.tmp 37), none⟩, ⟨some 39, .mov (.tmp 2), some (38, false)⟩, ⟨some 40, .bin .neq (.tmp 39) (.con (.i .i64 (1))), some (38, false)⟩, ⟨some 41, .pick (.tmp 38) (.con (.b true)) (.tmp 40), none⟩, ⟨some 42, .mov (.tmp 41), none⟩, ⟨some 43, .mov (.tmp 4), some (42, false)⟩, ⟨some 44, .bin .neq (.tmp 43) (.con (.i .i64 (2))), some (42, false)⟩, ⟨some 45, .pick (.tmp 42) (.con (.b true)) (.tmp 44), none⟩, ⟨some 46, .mov (.tmp 45), none⟩, ⟨some 47, .mov (.tmp 6), some (46, false)⟩, ⟨some 48, .bin .neq (.tmp 47) (.con (.i .i64 (3))), some (46, false)⟩, ⟨some 49, .pick (.tmp 46) (.con (.b true)) (.tmp 48), none⟩, ⟨some 50, .mov (.tmp 49), none⟩, ⟨some 51, .load true 3 (.tmp 1), some (50, false)⟩, ⟨some 52, .call 8 [(.tmp 51), (.con (.i .i64 (1))), (.con (.sl .nil 0 []))], some (50, false)⟩, ⟨some 53, .call 7 [(.tmp 52)], some (50, false)⟩, ⟨some 54, .len false (.tmp 53), some (50, false)⟩, ⟨some 55, .bin .neq (.tmp 54) (.con (.i .i64 (1))), some (50, false)⟩, ⟨some 56, .pick (.tmp 50) (.con (.b true)) (.tmp 55), none⟩, ⟨some 57, .mov (.tmp 56), none⟩, ⟨some 58, .load true 3 (.tmp 1), some (57, false)⟩, ⟨some 59, .bslice 9 [(.str [])] 1 [(0, (.con (.str [107, 110, 111, 119, 115])))], some (57, false)⟩, ⟨some 60, .call 10 [(.tmp 58), (.con (.i .i64 (2))), (.tmp 59)], some (57, false)⟩, ⟨some 61, .call 7 [(.tmp 60)], some (57, false)⟩, ⟨some 62, .len false (.tmp 61), some (57, false)⟩, ⟨some 63, .bin .neq (.tmp 62) (.con (.i .i64 (1))), some (57, false)⟩, ⟨some 64, .pick (.tmp 57) (.con (.b true)) (.tmp 63), none⟩])
 (.cond (.tmp 64) (.seq (.reg [⟨some 0, .mov (.con (.b false)), none⟩])
 .ret) .skip))
 (.seq (.draw [⟨some 66, .load true 3 (.tmp 1), none⟩, ⟨some 67, .call 21 [(.con (.i .i64 (2)))], none⟩, ⟨some 68, .call 20 [(.tmp 66), (.tmp 67)], none⟩, ⟨some 65, .mov (.tmp 68), none⟩, ⟨some 69, .ext (.tmp 65) 0, none⟩, ⟨some 70, .ext (.tmp 65) 1, none⟩, ⟨none, .store 3 (.tmp 1) (.tmp 69), none⟩, ⟨some 3, .mov (.tmp 70), none⟩] [(0, 1)])
 (.seq (.reg [⟨some 71, .mov (.tmp 3), none⟩, ⟨some 72, .bin .eql (.tmp 71) (.con (.i .i64 (0))), none⟩, ⟨some 73, .mov (.tmp 72), none⟩, ⟨some 74, .faddr 1 (.tmp 1), some (73, true)⟩, ⟨some 75, .load false 1 (.tmp 74), some (73, true)⟩, ⟨some 76, .len false (.tmp 75), some (73, true)⟩, ⟨some 77, .bin .eql (.tmp 76) (.con (.i .i64 (0))), some (73, true)⟩, ⟨some 78, .pick (.tmp 73) (.tmp 77) (.con (.b false)), none⟩, ⟨some 79, .mov (.tmp 78), none⟩, ⟨some 80, .faddr 0 (.tmp 1), some (79, true)⟩, ⟨some 81, .load false 1 (.tmp 80), some (79, true)⟩, ⟨some 82, .len false (.tmp 81), some (79, true)⟩, ⟨some 83, .bin .eql (.tmp 82) (.con (.i .i64 (1))), some (79, true)⟩, ⟨some 84, .pick (.tmp 79) (.tmp 83) (.con (.b false)), none⟩, ⟨some 85, .mov (.tmp 84), none⟩, ⟨some 86, .faddr 2 (.tmp 1), some (85, true)⟩, ⟨some 87, .load false 1 (.tmp 86), some (85, true)⟩, ⟨some 88, .bin .eql (.tmp 87) (.con (.i .i64 (3))), some (85, true)⟩, ⟨some 89, .pick (.tmp 85) (.tmp 88) (.con (.b false)), none⟩, ⟨some 0, .mov (.tmp 89), none⟩])
 .ret))))))), [.tmp 0]⟩
theorem c5 : compF Tryd.prog k5 [] Tryd.f5 = some a5 := by kernel_rfl
def k6 : Nat → List (Nat × H) := fun r => if r = 6 then [(1, .none), (3, .none), (4, .none), (31, .none), (32, .none), (33, .none)] else if r = 15 then [(1, .none), (3, .none), (4, .none), (66, .none), (67, .none), (68, .none)] else []
def a6 : AFun := ⟨1, (.seq (.reg [⟨some 1, .box (.tmp 0), none⟩, ⟨some 2, .mov (.con (.i .i64 (0))), none⟩])
 (.seq (.seq (.reg [⟨some 9, .faddr 2 (.tmp 1), none⟩, ⟨some 10, .load false 1 (.tmp 9), none⟩, ⟨some 11, .bin .lss (.tmp 10) (.con (.i .i64 (0))), none⟩, ⟨some 12, .mov (.tmp 11), none⟩, ⟨some 13, .faddr 2 (.tmp 1), some (12, false)⟩, ⟨some 14, .load false 1 (.tmp 13), some (12, false)⟩, ⟨some 15, .bin .gtr (.tmp 14) (.con (.i .i64 (281474976710656))), some (12, false)⟩, ⟨some 16, .pick (.tmp 12) (.con (.b true)) (.tmp 15), none⟩, ⟨some 17, .mov (.tmp 16), none⟩, ⟨some 18, .faddr 0 (.tmp 1), some (17, false)⟩, ⟨some 19, .load false 1 (.tmp 18), some (17, false)⟩, ⟨some 20, .len false (.tmp 19), some (17, false)⟩, ⟨some 21, .bin .gtr (.tmp 20) (.con (.i .i64 (2048))), some (17, false)⟩, ⟨some 22, .pick (.tmp 17) (.con (.b true)) (.tmp 21), none⟩, ⟨some 23, .mov (.tmp 22), none⟩, ⟨some 24, .faddr 1 (.tmp 1), some (23, false)⟩, ⟨some 25, .load false 1 (.tmp 24), some (23, false)⟩, ⟨some 26, .len false (.tmp 25), some (23, false)⟩, ⟨some 27, .bin .gtr (.tmp 26) (.con (.i .i64 (2048))), some (23, false)⟩, ⟨some 28, .pick (.tmp 23) (.con (.b true)) (.tmp 27), none⟩])
 (.cond (.tmp 28) (.seq (.reg [⟨some 2, .mov (.con (.i .i64 (103))), none⟩])
 .ret) .skip))
 (.seq (.reg [⟨some 29, .mkmap, none⟩, ⟨some 3, .mov (.tmp 29), none⟩])
 (.seq (.reg [⟨some 4, .mov (.con (.i .i64 (0))), none⟩])
 (.seq (.seq (.reg [⟨some 30, .faddr 0 (.tmp 1), none⟩, ⟨some 31, .load false 1 (.tmp 30), none⟩, ⟨some 32, .len false (.tmp 31), none⟩, ⟨some 33, .mov (.con (.i .i64 (0))), none⟩])
 (.block 0 (.loop [(1, .none), (3, .none), (4, .none), (31, .none), (32, .none), (33, .none)] (.seq (.reg [⟨some 34, .bin .lss (.tmp 33) (.tmp 32), none⟩])
 (.seq (.cond (.tmp 34) .skip (.exit 0))
 (.seq (.block 1 (.seq (.reg [⟨some 35, .iaddr 3 (.tmp 31) (.tmp 33), none⟩, ⟨some 36, .load true 3 (.tmp 35), none⟩, ⟨some 6, .alloc [(.i .i64 (0)), (.str []), (.sl .nil 0 [])], none⟩, ⟨none, .store 3 (.tmp 6) (.tmp 36), none⟩])
 (.seq (.seq (.reg [⟨some 37, .faddr 0 (.tmp 6), none⟩, ⟨some 38, .load false 1 (.tmp 37), none⟩, ⟨some 39, .mov (.tmp 4), none⟩, ⟨some 40, .bin .leq (.tmp 38) (.tmp 39), none⟩, ⟨some 41, .mov (.tmp 40), none⟩, ⟨some 42, .faddr 0 (.tmp 6), some (41, false)⟩, ⟨some 43, .load false 1 (.tmp 42), some (41, false)⟩, ⟨some 44, .faddr 2 (.tmp 1), some (41, false)⟩, ⟨some 45, .load false 1 (.tmp 44), some (41, false)⟩, ⟨some 46, .bin .gtr (.tmp 43) (.tmp 45), some (41, false)⟩, ⟨some 47, .pick (.tmp 41) (.con (.b true)) (.tmp 46), none⟩, ⟨some 48, .mov (.tmp 47), none⟩, ⟨some 49, .faddr 1 (.tmp 6), some (48, false)⟩, ⟨some 50, .load false 1 (.tmp 49), some (48, false)⟩, ⟨some 51, .call 22 [(.tmp 50)], some (48, false)⟩, ⟨some 52, .un .not (.tmp 51), some (48, false)⟩, ⟨some 53, .pick (.tmp 48) (.con (.b true)) (.tmp 52), none⟩, ⟨some 54, .mov (.tmp 53), none⟩, ⟨some 55, .faddr 2 (.tmp 6), some (54, false)⟩, ⟨some 56, .load false 1 (.tmp 55), some (54, false)⟩, ⟨some 57, .call 23 [(.tmp 56)], some (54, false)⟩, ⟨some 58, .pick (.tmp 54) (.con (.b true)) (.tmp 57), none⟩])
 (.cond (.tmp 58) (.seq (.reg [⟨some 2, .mov (.con (.i .i64 (103))), none⟩])
 .ret) .skip))
 (.seq (.reg [⟨some 59, .mov (.tmp 3), none⟩, ⟨some 60, .faddr 0 (.tmp 6), none⟩, ⟨some 61, .load false 1 (.tmp 60), none⟩, ⟨none, .mput .int (.tmp 59) (.tmp 61) (.con (.b true)), none⟩])
 (.reg [⟨some 62, .faddr 0 (.tmp 6), none⟩, ⟨some 63, .load false 1 (.tmp 62), none⟩, ⟨some 4, .mov (.tmp 63), none⟩])))))
 (.reg [⟨some 64, .bin .add (.tmp 33) (.con (.i .i64 (1))), none⟩, ⟨some 33, .mov (.tmp 64), none⟩])))))))
 (.seq (.reg [⟨some 4, .mov (.con (.i .i64 (0))), none⟩])
 (.seq (.seq (.reg [⟨some 65, .faddr 1 (.tmp 1), none⟩, ⟨some 66, .load false 1 (.tmp 65), none⟩, ⟨some 67, .len false (.tmp 66), none⟩, ⟨some 68, .mov (.con (.i .i64 (0))), none⟩])
 (.block 2 (.loop [(1, .none), (3, .none), (4, .none), (66, .none), (67, .none), (68, .none)] (.seq (.reg [⟨some 69, .bin .lss (.tmp 68) (.tmp 67), none⟩])
 (.seq (.cond (.tmp 69) .skip (.exit 2))
 (.seq (.block 3 (.seq (.reg [⟨some 70, .iaddr 5 (.tmp 66) (.tmp 68), none⟩, ⟨some 71, .load true 5 (.tmp 70), none⟩, ⟨some 8, .alloc [(.i .i64 (0)), (.str []), (.i .i64 (0)), (.i .i64 (0)), (.sl .nil 0 [])], none⟩, ⟨none, .store 5 (.tmp 8) (.tmp 71), none⟩])
 (.seq (.seq (.reg [⟨some 72, .faddr 0 (.tmp 8), none⟩, ⟨some 73, .load false 1 (.tmp 72), none⟩, ⟨some 74, .mov (.tmp 4), none⟩, ⟨some 75, .bin .leq (.tmp 73) (.tmp 74), none⟩, ⟨some 76, .mov (.tmp 75), none⟩, ⟨some 77, .faddr 0 (.tmp 8), some (76, false)⟩, ⟨some 78, .load false 1 (.tmp 77), some (76, false)⟩, ⟨some 79, .faddr 2 (.tmp 1), some (76, false)⟩, ⟨some 80, .load false 1 (.tmp 79), some (76, false)⟩, ⟨some 81, .bin .gtr (.tmp 78) (.tmp 80), some (76, false)⟩, ⟨some 82, .pick (.tmp 76) (.con (.b true)) (.tmp 81), none⟩, ⟨some 83, .mov (.tmp 82), none⟩, ⟨some 84, .faddr 1 (.tmp 8), some (83, false)⟩, ⟨some 85, .load false 1 (.tmp 84), some (83, false)⟩, ⟨some 86, .call 22 [(.tmp 85)], some (83, false)⟩, ⟨some 87, .un .not (.tmp 86), some (83, false)⟩, ⟨some 88, .pick (.tmp 83) (.con (.b true)) (.tmp 87), none⟩, ⟨some 89, .mov (.tmp 88), none⟩, ⟨some 90, .faddr 4 (.tmp 8), some (89, false)⟩, ⟨some 91, .load false 1 (.tmp 90), some (89, false)⟩, ⟨some 92, .call 23 [(.tmp 91)], some (89, false)⟩, ⟨some 93, .pick (.tmp 89) (.con (.b true)) (.tmp 92), none⟩, ⟨some 94, .mov (.tmp 93), none⟩, ⟨some 95, .mov (.tmp 3), some (94, false)⟩, ⟨some 96, .faddr 0 (.tmp 8), some (94, false)⟩, ⟨some 97, .load false 1 (.tmp 96), some (94, false)⟩, ⟨some 98, .mget .int (.b false) false (.tmp 95) (.tmp 97), some (94, false)⟩, ⟨some 99, .pick (.tmp 94) (.con (.b true)) (.tmp 98), none⟩, ⟨some 100, .mov (.tmp 99), none⟩, ⟨some 101, .mov (.tmp 3), some (100, false)⟩, ⟨some 102, .faddr 2 (.tmp 8), some (100, false)⟩, ⟨some 103, .load false 1 (.tmp 102), some (100, false)⟩, ⟨some 104, .mget .int (.b false) false (.tmp 101) (.tmp 103), some (100, false)⟩, ⟨some 105, .un .not (.tmp 104), some (100, false)⟩, ⟨some 106, .pick (.tmp 100) (.con (.b true)) (.tmp 105), none⟩, ⟨some 107, .mov (.tmp 106), none⟩, ⟨some 108, .mov (.tmp 3), some (107, false)⟩, ⟨some 109, .faddr 3 (.tmp 8), some (107, false)⟩, ⟨some 110, .load false 1 (.tmp 109), some (107, false)⟩, ⟨some 111, .mget .int (.b false) false (.tmp 108) (.tmp 110), some (107, false)⟩, ⟨some 112, .un .not (.tmp 111), some (107, false)⟩, ⟨some 113, .pick (.tmp 107) (.con (.b true)) (.tmp 112), none⟩])
 (.cond (.tmp 113) (.seq (.reg [⟨some 2, .mov (.con (.i .i64 (103))), none⟩])
 .ret) .skip))
 (.reg [⟨some 114, .faddr 0 (.tmp 8), none⟩, ⟨some 115, .load false 1 (.tmp 114), none⟩, ⟨some 4, .mov (.tmp 115), none⟩]))))
 (.reg [⟨some 116, .bin .add (.tmp 68) (.con (.i .i64 (1))), none⟩, ⟨some 68, .mov (.tmp 116), none⟩])))))))
 (.seq (.reg [⟨some 2, .mov (.con (.i .i64 (0))), none⟩])
 .ret)))))))), [.tmp 2]⟩
theorem c6 : compF Tryd.prog k6 [] Tryd.f6 = some a6 := by kernel_rfl
def k7 : Nat → List (Nat × H) := fun r => if r = 1000005 then [(3, .none), (7, .none)] else []
def a7 : AFun := ⟨1, (.seq (.reg [⟨some 2, .mov (.con (.sl .nil 0 [])), none⟩])
 (.seq (.seq (.reg [⟨some 5, .mov (.tmp 0), none⟩, ⟨some 6, .eqnil .fn false (.tmp 5), none⟩])
 (.cond (.tmp 6) (.seq (.reg [⟨some 2, .mov (.con (.sl .nil 0 [])), none⟩])
 .ret) .skip))
 (.seq (.reg [⟨some 3, .alloc [(.sl .nil 0 [])], none⟩])
 (.seq (.seq (.reg [⟨some 7, .mov (.tmp 0), none⟩])
 (.block 0 (.rangef 7 [8] [(3, .none), (7, .none)]
 (.reg [⟨some 4, .alloc [(.i .i64 (0)), (.str []), (.i .i64 (0)), (.i .i64 (0)), (.sl .nil 0 [])], none⟩, ⟨none, .store 5 (.tmp 4) (.tmp 8), none⟩])
 (.block 1 (.reg [⟨some 9, .load false 1 (.tmp 3), none⟩, ⟨some 10, .load true 5 (.tmp 4), none⟩, ⟨some 11, .bslice 37 [(.i .i64 (0)), (.str []), (.i .i64 (0)), (.i .i64 (0)), (.sl .nil 0 [])] 1 [(0, (.tmp 10))], none⟩, ⟨some 12, .app 37 5 (.tmp 9) (.tmp 11), none⟩, ⟨none, .store 1 (.tmp 3) (.tmp 12), none⟩])))))
 (.seq (.reg [⟨some 13, .load false 1 (.tmp 3), none⟩, ⟨some 2, .mov (.tmp 13), none⟩])
 .ret))))), [.tmp 2]⟩
theorem c7 : compF Tryd.prog k7 [] Tryd.f7 = some a7 := by kernel_rfl
def k8 : Nat → List (Nat × H) := fun _ => []
def a8 : AFun := ⟨3, (.seq (.reg [⟨some 3, .box (.tmp 0), none⟩, ⟨some 4, .box (.tmp 1), none⟩, ⟨some 5, .box (.tmp 2), none⟩, ⟨some 6, .mov (.con .nilf), none⟩])
 (.seq (.reg [⟨some 7, .load true 3 (.tmp 3), none⟩, ⟨some 8, .mkfn 25 [(.tmp 4), (.tmp 5)], none⟩, ⟨some 9, .call 24 [(.tmp 7), (.tmp 8)], none⟩, ⟨some 6, .mov (.tmp 9), none⟩])
 .ret)), [.tmp 6]⟩
theorem c8 : compF Tryd.prog k8 [] Tryd.f8 = some a8 := by kernel_rfl
def k9 : Nat → List (Nat × H) := fun _ => []
def a9 : AFun := ⟨2, (.seq (.reg [⟨some 4, .mov (.con (.b false)), none⟩])
 (.seq (.reg [⟨some 5, .mov (.tmp 0), none⟩, ⟨some 6, .mov (.tmp 1), none⟩, ⟨some 7, .call 27 [(.tmp 5), (.tmp 6)], none⟩, ⟨some 8, .bin .geq (.tmp 7) (.con (.i .i64 (0))), none⟩, ⟨some 4, .mov (.tmp 8), none⟩])
 .ret)), [.tmp 4]⟩
theorem c9 : compF Tryd.prog k9 [] Tryd.f9 = some a9 := by kernel_rfl
def k10 : Nat → List (Nat × H) := fun _ => []
def a10 : AFun := ⟨3, (.seq (.reg [⟨some 3, .box (.tmp 0), none⟩, ⟨some 4, .box (.tmp 1), none⟩, ⟨some 5, .box (.tmp 2), none⟩, ⟨some 6, .mov (.con .nilf), none⟩])
 (.seq (.reg [⟨some 7, .load true 3 (.tmp 3), none⟩, ⟨some 8, .mkfn 28 [(.tmp 4), (.tmp 5)], none⟩, ⟨some 9, .call 24 [(.tmp 7), (.tmp 8)], none⟩, ⟨some 6, .mov (.tmp 9), none⟩])
 .ret)), [.tmp 6]⟩
theorem c10 : compF Tryd.prog k10 [] Tryd.f10 = some a10 := by kernel_rfl
def k11 : Nat → List (Nat × H) := fun _ => []
def a11 : AFun := ⟨2, (.seq (.reg [⟨some 2, .box (.tmp 0), none⟩, ⟨some 3, .mov (.con (.b false)), none⟩])
 (.seq (.reg [⟨some 4, .faddr 0 (.tmp 2), none⟩, ⟨some 5, .load false 1 (.tmp 4), none⟩, ⟨some 6, .faddr 0 (.tmp 1), none⟩, ⟨some 7, .load false 1 (.tmp 6), none⟩, ⟨some 8, .bin .eql (.tmp 5) (.tmp 7), none⟩, ⟨some 3, .mov (.tmp 8), none⟩])
 .ret)), [.tmp 3]⟩
theorem c11 : compF Tryd.prog k11 [] Tryd.f11 = some a11 := by kernel_rfl
def k12 : Nat → List (Nat × H) := fun _ => []
def a12 : AFun := ⟨2, (.seq (.reg [⟨some 2, .box (.tmp 0), none⟩, ⟨some 3, .mov (.con (.b false)), none⟩])
 (.seq (.reg [⟨some 4, .faddr 0 (.tmp 2), none⟩, ⟨some 5, .load false 1 (.tmp 4), none⟩, ⟨some 6, .faddr 0 (.tmp 1), none⟩, ⟨some 7, .load false 1 (.tmp 6), none⟩, ⟨some 8, .bin .eql (.tmp 5) (.tmp 7), none⟩, ⟨some 3, .mov (.tmp 8), none⟩])
 .ret)), [.tmp 3]⟩
theorem c12 : compF Tryd.prog k12 [] Tryd.f12 = some a12 := by kernel_rfl
def k13 : Nat → List (Nat × H) := fun _ => []
def a13 : AFun := ⟨3, (.seq (.reg [⟨some 3, .box (.tmp 0), none⟩, ⟨some 4, .box (.tmp 1), none⟩, ⟨some 6, .alloc [(.i .i64 (0)), (.i .i64 (0)), (.str []), (.sl .nil 0 [])], none⟩, ⟨some 7, .mov (.con (.b false)), none⟩])
 (.seq (.reg [⟨some 8, .load true 3 (.tmp 3), none⟩, ⟨some 9, .load true 4 (.tmp 4), none⟩, ⟨some 10, .call 30 [(.tmp 8), (.tmp 9)], none⟩, ⟨some 11, .mov (.tmp 2), none⟩, ⟨some 12, .call 29 [(.tmp 10), (.tmp 11)], none⟩, ⟨some 13, .ext (.tmp 12) 0, none⟩, ⟨some 14, .ext (.tmp 12) 1, none⟩, ⟨none, .store 4 (.tmp 6) (.tmp 13), none⟩, ⟨some 7, .mov (.tmp 14), none⟩])
 .ret)), [.cell 6 true 4, .tmp 7]⟩
theorem c13 : compF Tryd.prog k13 [] Tryd.f13 = some a13 := by kernel_rfl
def k14 : Nat → List (Nat × H) := fun r => if r = 999997 then [(16, .none)] else if r = 999996 then [(25, .none)] else []
def a14 : AFun := ⟨4, (.seq (.reg [⟨some 4, .box (.tmp 0), none⟩, ⟨some 5, .box (.tmp 1), none⟩, ⟨some 6, .box (.tmp 2), none⟩, ⟨some 7, .box (.tmp 3), none⟩, ⟨some 8, .alloc [(.sl .nil 0 []), (.sl .nil 0 []), (.i .i64 (0))], none⟩, ⟨some 9, .mov (.con (.i .i64 (0))), none⟩])
 (.seq (.reg [⟨some 15, .load true 3 (.tmp 4), none⟩, ⟨some 16, .calld 1000031 [(.tmp 15)], none⟩, ⟨none, .store 3 (.tmp 4) (.tmp 16), none⟩])
 (.seq (.seq (.reg [⟨some 17, .load true 3 (.tmp 4), none⟩, ⟨some 18, .call 6 [(.tmp 17)], none⟩, ⟨some 10, .mov (.tmp 18), none⟩])
 (.seq (.reg [⟨some 19, .mov (.tmp 10), none⟩, ⟨some 20, .bin .neq (.tmp 19) (.con (.i .i64 (0))), none⟩])
 (.cond (.tmp 20) (.seq (.reg [⟨some 21, .load true 3 (.tmp 4), none⟩, ⟨some 22, .mov (.tmp 10), none⟩, ⟨none, .store 3 (.tmp 8) (.tmp 21), none⟩, ⟨some 9, .mov (.tmp 22), none⟩])
 .ret) .skip)))
 (.seq (.reg [⟨some 23, .load true 3 (.tmp 4), none⟩, ⟨some 24, .load true 4 (.tmp 5), none⟩, ⟨some 25, .inl 1000032 [(.tmp 23), (.tmp 24)], none⟩, ⟨some 11, .mov (.tmp 25), none⟩])
 (.seq (.seq (.reg [⟨some 26, .mov (.tmp 11), none⟩, ⟨some 27, .eqnil .pt false (.tmp 26), none⟩])
 (.cond (.tmp 27) (.seq (.reg [⟨some 28, .load true 3 (.tmp 4), none⟩, ⟨none, .store 3 (.tmp 8) (.tmp 28), none⟩, ⟨some 9, .mov (.con (.i .i64 (101))), none⟩])
 .ret) .skip))
 (.seq (.seq (.reg [⟨some 29, .load false 1 (.tmp 6), none⟩, ⟨some 30, .call 22 [(.tmp 29)], none⟩, ⟨some 31, .un .not (.tmp 30), none⟩])
 (.cond (.tmp 31) (.seq (.reg [⟨some 32, .load true 3 (.tmp 4), none⟩, ⟨none, .store 3 (.tmp 8) (.tmp 32), none⟩, ⟨some 9, .mov (.con (.i .i64 (100))), none⟩])
 .ret) .skip))
 (.seq (.seq (.reg [⟨some 33, .load true 4 (.tmp 7), none⟩, ⟨some 34, .call 33 [(.tmp 33)], none⟩, ⟨some 12, .mov (.tmp 34), none⟩])
 (.seq (.reg [⟨some 35, .mov (.tmp 12), none⟩, ⟨some 36, .bin .neq (.tmp 35) (.con (.i .i64 (0))), none⟩])
 (.cond (.tmp 36) (.seq (.reg [⟨some 37, .load true 3 (.tmp 4), none⟩, ⟨some 38, .mov (.tmp 12), none⟩, ⟨none, .store 3 (.tmp 8) (.tmp 37), none⟩, ⟨some 9, .mov (.tmp 38), none⟩])
 .ret) .skip)))
 (.seq (.draw [⟨some 39, .load false 1 (.tmp 6), none⟩, ⟨some 40, .load true 4 (.tmp 7), none⟩, ⟨some 41, .call 34 [(.tmp 40)], none⟩, ⟨some 42, .build [(.str []), (.i .i64 (0)), (.i .i64 (0)), (.str []), (.sl .nil 0 [])] [(0, 1, (.tmp 39)), (1, 4, (.tmp 41))], none⟩, ⟨some 13, .alloc [(.str []), (.i .i64 (0)), (.i .i64 (0)), (.str []), (.sl .nil 0 [])], none⟩, ⟨none, .store 5 (.tmp 13) (.tmp 42), none⟩] [(0, 1), (0, 2), (0, 4), (1, 4), (2, 4)])
 (.seq (.reg [⟨some 43, .mov (.tmp 11), none⟩, ⟨some 44, .nilck (.tmp 43), none⟩, ⟨some 45, .load false 1 (.tmp 44), none⟩, ⟨some 46, .mkfn 36 [(.tmp 6)], none⟩, ⟨some 47, .call 35 [(.tmp 45), (.tmp 46)], none⟩, ⟨some 14, .mov (.tmp 47), none⟩])
 (.seq (.block 0 (.seq (.draw [⟨some 49, .mov (.tmp 14), none⟩, ⟨some 50, .bin .geq (.tmp 49) (.con (.i .i64 (0))), none⟩, ⟨some 51, .mov (.tmp 50), none⟩, ⟨some 52, .mov (.tmp 11), some (51, true)⟩, ⟨some 53, .nilck (.tmp 52), some (51, true)⟩, ⟨some 54, .load false 1 (.tmp 53), some (51, true)⟩, ⟨some 55, .mov (.tmp 14), some (51, true)⟩, ⟨some 56, .iaddr 5 (.tmp 54) (.tmp 55), some (51, true)⟩, ⟨some 57, .faddr 0 (.tmp 56), some (51, true)⟩, ⟨some 58, .load false 1 (.tmp 57), some (51, true)⟩, ⟨some 59, .load false 1 (.tmp 6), some (51, true)⟩, ⟨some 60, .bin .eql (.tmp 58) (.tmp 59), some (51, true)⟩, ⟨some 61, .pick (.tmp 51) (.tmp 60) (.con (.b false)), none⟩, ⟨some 48, .mov (.tmp 61), none⟩] [(5, 10), (7, 10), (9, 10)])
 (.cond (.tmp 48) (.seq (.draw [⟨some 62, .mov (.tmp 11), none⟩, ⟨some 63, .nilck (.tmp 62), none⟩, ⟨some 64, .load false 1 (.tmp 63), none⟩, ⟨some 65, .mov (.tmp 14), none⟩, ⟨some 66, .load true 5 (.tmp 13), none⟩, ⟨some 67, .iaddr 5 (.tmp 64) (.tmp 65), none⟩, ⟨none, .store 5 (.tmp 67) (.tmp 66), none⟩] [(2, 4)])
 (.seq (.reg [⟨some 68, .load true 3 (.tmp 4), none⟩, ⟨none, .store 3 (.tmp 8) (.tmp 68), none⟩, ⟨some 9, .mov (.con (.i .i64 (0))), none⟩])
 .ret)) (.seq (.reg [⟨some 70, .mov (.tmp 11), none⟩, ⟨some 71, .nilck (.tmp 70), none⟩, ⟨some 72, .load false 1 (.tmp 71), none⟩, ⟨some 73, .len false (.tmp 72), none⟩, ⟨some 74, .bin .geq (.tmp 73) (.con (.i .i64 (16))), none⟩, ⟨some 69, .mov (.tmp 74), none⟩])
 (.cond (.tmp 69) (.seq (.reg [⟨some 75, .load true 3 (.tmp 4), none⟩, ⟨none, .store 3 (.tmp 8) (.tmp 75), none⟩, ⟨some 9, .mov (.con (.i .i64 (102))), none⟩])
 .ret) (.seq (.reg [⟨some 77, .mov (.tmp 14), none⟩, ⟨some 78, .bin .lss (.tmp 77) (.con (.i .i64 (0))), none⟩, ⟨some 76, .mov (.tmp 78), none⟩])
 (.cond (.tmp 76) (.reg [⟨some 79, .mov (.tmp 11), none⟩, ⟨some 80, .nilck (.tmp 79), none⟩, ⟨some 81, .load false 1 (.tmp 80), none⟩, ⟨some 82, .len false (.tmp 81), none⟩, ⟨some 14, .mov (.tmp 82), none⟩]) .skip)))))))
 (.seq (.draw [⟨some 83, .mov (.tmp 11), none⟩, ⟨some 84, .mov (.tmp 11), none⟩, ⟨some 85, .nilck (.tmp 84), none⟩, ⟨some 86, .load false 1 (.tmp 85), none⟩, ⟨some 87, .mov (.tmp 14), none⟩, ⟨some 88, .load true 5 (.tmp 13), none⟩, ⟨some 89, .bslice 73 [(.str []), (.i .i64 (0)), (.i .i64 (0)), (.str []), (.sl .nil 0 [])] 1 [(0, (.tmp 88))], none⟩, ⟨some 90, .call 37 [(.tmp 86), (.tmp 87), (.tmp 89)], none⟩, ⟨some 91, .nilck (.tmp 83), none⟩, ⟨none, .store 1 (.tmp 91) (.tmp 90), none⟩] [(3, 5), (3, 6)])
 (.seq (.reg [⟨some 92, .load true 3 (.tmp 4), none⟩, ⟨none, .store 3 (.tmp 8) (.tmp 92), none⟩, ⟨some 9, .mov (.con (.i .i64 (0))), none⟩])
 .ret)))))))))))), [.cell 8 true 3, .tmp 9]⟩
theorem c14 : compF Tryd.prog k14 [] Tryd.f14 = some a14 := by kernel_rfl
def k15 : Nat → List (Nat × H) := fun r => if r = 4 then [(2, .none), (3, .none), (5, .none)] else if r = 9 then [(2, .none), (3, .none), (6, .none)] else []
def a15 : AFun := ⟨2, (.seq (.reg [⟨some 2, .box (.tmp 0), none⟩, ⟨some 3, .box (.tmp 1), none⟩, ⟨some 4, .mov (.con (.b false)), none⟩])
 (.seq (.seq (.reg [⟨some 7, .faddr 2 (.tmp 2), none⟩, ⟨some 8, .load false 1 (.tmp 7), none⟩, ⟨some 9, .faddr 2 (.tmp 3), none⟩, ⟨some 10, .load false 1 (.tmp 9), none⟩, ⟨some 11, .bin .neq (.tmp 8) (.tmp 10), none⟩, ⟨some 12, .mov (.tmp 11), none⟩, ⟨some 13, .faddr 0 (.tmp 2), some (12, false)⟩, ⟨some 14, .load false 1 (.tmp 13), some (12, false)⟩, ⟨some 15, .len false (.tmp 14), some (12, false)⟩, ⟨some 16, .faddr 0 (.tmp 3), some (12, false)⟩, ⟨some 17, .load false 1 (.tmp 16), some (12, false)⟩, ⟨some 18, .len false (.tmp 17), some (12, false)⟩, ⟨some 19, .bin .neq (.tmp 15) (.tmp 18), some (12, false)⟩, ⟨some 20, .pick (.tmp 12) (.con (.b true)) (.tmp 19), none⟩, ⟨some 21, .mov (.tmp 20), none⟩, ⟨some 22, .faddr 1 (.tmp 2), some (21, false)⟩, ⟨some 23, .load false 1 (.tmp 22), some (21, false)⟩, ⟨some 24, .len false (.tmp 23), some (21, false)⟩, ⟨some 25, .faddr 1 (.tmp 3), some (21, false)⟩, ⟨some 26, .load false 1 (.tmp 25), some (21, false)⟩, ⟨some 27, .len false (.tmp 26), some (21, false)⟩, ⟨some 28, .bin .neq (.tmp 24) (.tmp 27), some (21, false)⟩, ⟨some 29, .pick (.tmp 21) (.con (.b true)) (.tmp 28), none⟩])
 (.cond (.tmp 29) (.seq (.reg [⟨some 4, .mov (.con (.b false)), none⟩])
 .ret) .skip))
 (.seq (.seq (.reg [⟨some 5, .mov (.con (.i .i64 (0))), none⟩])
 (.block 0 (.loop [(2, .none), (3, .none), (5, .none)] (.seq (.seq (.reg [⟨some 30, .mov (.tmp 5), none⟩, ⟨some 31, .faddr 0 (.tmp 2), none⟩, ⟨some 32, .load false 1 (.tmp 31), none⟩, ⟨some 33, .len false (.tmp 32), none⟩, ⟨some 34, .bin .lss (.tmp 30) (.tmp 33), none⟩])
 (.cond (.tmp 34) .skip (.exit 0)))
 (.seq (.block 1 (.seq (.draw [⟨some 37, .faddr 0 (.tmp 2), none⟩, ⟨some 38, .load false 1 (.tmp 37), none⟩, ⟨some 39, .mov (.tmp 5), none⟩, ⟨some 40, .iaddr 3 (.tmp 38) (.tmp 39), none⟩, ⟨some 41, .load true 3 (.tmp 40), none⟩, ⟨some 42, .faddr 0 (.tmp 3), none⟩, ⟨some 43, .load false 1 (.tmp 42), none⟩, ⟨some 44, .mov (.tmp 5), none⟩, ⟨some 45, .iaddr 3 (.tmp 43) (.tmp 44), none⟩, ⟨some 46, .load true 3 (.tmp 45), none⟩, ⟨some 47, .call 38 [(.tmp 41), (.tmp 46)], none⟩, ⟨some 48, .un .not (.tmp 47), none⟩] [(1, 6), (3, 6), (4, 6), (1, 8), (3, 8), (4, 8), (1, 9), (3, 9), (4, 9)])
 (.cond (.tmp 48) (.seq (.reg [⟨some 4, .mov (.con (.b false)), none⟩])
 .ret) .skip)))
 (.reg [⟨some 35, .mov (.tmp 5), none⟩, ⟨some 36, .bin .add (.tmp 35) (.con (.i .i64 (1))), none⟩, ⟨some 5, .mov (.tmp 36), none⟩]))))))
 (.seq (.seq (.reg [⟨some 6, .mov (.con (.i .i64 (0))), none⟩])
 (.block 2 (.loop [(2, .none), (3, .none), (6, .none)] (.seq (.seq (.reg [⟨some 49, .mov (.tmp 6), none⟩, ⟨some 50, .faddr 1 (.tmp 2), none⟩, ⟨some 51, .load false 1 (.tmp 50), none⟩, ⟨some 52, .len false (.tmp 51), none⟩, ⟨some 53, .bin .lss (.tmp 49) (.tmp 52), none⟩])
 (.cond (.tmp 53) .skip (.exit 2)))
 (.seq (.block 3 (.seq (.draw [⟨some 56, .faddr 1 (.tmp 2), none⟩, ⟨some 57, .load false 1 (.tmp 56), none⟩, ⟨some 58, .mov (.tmp 6), none⟩, ⟨some 59, .iaddr 5 (.tmp 57) (.tmp 58), none⟩, ⟨some 60, .load true 5 (.tmp 59), none⟩, ⟨some 61, .faddr 1 (.tmp 3), none⟩, ⟨some 62, .load false 1 (.tmp 61), none⟩, ⟨some 63, .mov (.tmp 6), none⟩, ⟨some 64, .iaddr 5 (.tmp 62) (.tmp 63), none⟩, ⟨some 65, .load true 5 (.tmp 64), none⟩, ⟨some 66, .call 39 [(.tmp 60), (.tmp 65)], none⟩, ⟨some 67, .un .not (.tmp 66), none⟩] [(1, 6), (3, 6), (4, 6), (1, 8), (3, 8), (4, 8), (1, 9), (3, 9), (4, 9)])
 (.cond (.tmp 67) (.seq (.reg [⟨some 4, .mov (.con (.b false)), none⟩])
 .ret) .skip)))
 (.reg [⟨some 54, .mov (.tmp 6), none⟩, ⟨some 55, .bin .add (.tmp 54) (.con (.i .i64 (1))), none⟩, ⟨some 6, .mov (.tmp 55), none⟩]))))))
 (.seq (.reg [⟨some 4, .mov (.con (.b true)), none⟩])
 .ret))))), [.tmp 4]⟩
theorem c15 : compF Tryd.prog k15 [] Tryd.f15 = some a15 := by kernel_rfl
def k16 : Nat → List (Nat × H) := fun _ => []
def a16 : AFun := ⟨2, (.seq (.reg [⟨some 2, .box (.tmp 0), none⟩, ⟨some 3, .box (.tmp 1), none⟩, ⟨some 4, .mov (.con (.b false)), none⟩])
 (.seq (.reg [⟨some 5, .load true 4 (.tmp 2), none⟩, ⟨some 6, .load true 4 (.tmp 3), none⟩, ⟨some 7, .call 40 [(.tmp 5), (.tmp 6)], none⟩, ⟨some 8, .bin .eql (.tmp 7) (.con (.i .i64 (0))), none⟩, ⟨some 4, .mov (.tmp 8), none⟩])
 .ret)), [.tmp 4]⟩
theorem c16 : compF Tryd.prog k16 [] Tryd.f16 = some a16 := by kernel_rfl
def k17 : Nat → List (Nat × H) := fun r => if r = 999997 then [(13, .none)] else if r = 999996 then [(22, .none)] else []
def a17 : AFun := ⟨3, (.seq (.reg [⟨some 3, .box (.tmp 0), none⟩, ⟨some 4, .box (.tmp 1), none⟩, ⟨some 5, .box (.tmp 2), none⟩, ⟨some 6, .alloc [(.sl .nil 0 []), (.sl .nil 0 []), (.i .i64 (0))], none⟩, ⟨some 7, .mov (.con (.b false)), none⟩, ⟨some 8, .mov (.con (.i .i64 (0))), none⟩])
 (.seq (.reg [⟨some 12, .load true 3 (.tmp 3), none⟩, ⟨some 13, .calld 1000031 [(.tmp 12)], none⟩, ⟨none, .store 3 (.tmp 3) (.tmp 13), none⟩])
 (.seq (.seq (.reg [⟨some 14, .load true 3 (.tmp 3), none⟩, ⟨some 15, .call 6 [(.tmp 14)], none⟩, ⟨some 9, .mov (.tmp 15), none⟩])
 (.seq (.reg [⟨some 16, .mov (.tmp 9), none⟩, ⟨some 17, .bin .neq (.tmp 16) (.con (.i .i64 (0))), none⟩])
 (.cond (.tmp 17) (.seq (.reg [⟨some 18, .load true 3 (.tmp 3), none⟩, ⟨some 19, .mov (.tmp 9), none⟩, ⟨none, .store 3 (.tmp 6) (.tmp 18), none⟩, ⟨some 7, .mov (.con (.b false)), none⟩, ⟨some 8, .mov (.tmp 19), none⟩])
 .ret) .skip)))
 (.seq (.reg [⟨some 20, .load true 3 (.tmp 3), none⟩, ⟨some 21, .load true 4 (.tmp 4), none⟩, ⟨some 22, .inl 1000032 [(.tmp 20), (.tmp 21)], none⟩, ⟨some 10, .mov (.tmp 22), none⟩])
 (.seq (.seq (.reg [⟨some 23, .mov (.tmp 10), none⟩, ⟨some 24, .eqnil .pt false (.tmp 23), none⟩])
 (.cond (.tmp 24) (.seq (.reg [⟨some 25, .load true 3 (.tmp 3), none⟩, ⟨none, .store 3 (.tmp 6) (.tmp 25), none⟩, ⟨some 7, .mov (.con (.b false)), none⟩, ⟨some 8, .mov (.con (.i .i64 (101))), none⟩])
 .ret) .skip))
 (.seq (.reg [⟨some 26, .mov (.tmp 10), none⟩, ⟨some 27, .nilck (.tmp 26), none⟩, ⟨some 28, .load false 1 (.tmp 27), none⟩, ⟨some 29, .len false (.tmp 28), none⟩, ⟨some 11, .mov (.tmp 29), none⟩])
 (.seq (.reg [⟨some 30, .mov (.tmp 10), none⟩, ⟨some 31, .mov (.tmp 10), none⟩, ⟨some 32, .nilck (.tmp 31), none⟩, ⟨some 33, .load false 1 (.tmp 32), none⟩, ⟨some 34, .mkfn 42 [(.tmp 5)], none⟩, ⟨some 35, .call 41 [(.tmp 33), (.tmp 34)], none⟩, ⟨some 36, .nilck (.tmp 30), none⟩, ⟨none, .store 1 (.tmp 36) (.tmp 35), none⟩])
 (.seq (.draw [⟨some 37, .load true 3 (.tmp 3), none⟩, ⟨some 38, .mov (.tmp 10), none⟩, ⟨some 39, .nilck (.tmp 38), none⟩, ⟨some 40, .load false 1 (.tmp 39), none⟩, ⟨some 41, .len false (.tmp 40), none⟩, ⟨some 42, .mov (.tmp 11), none⟩, ⟨some 43, .bin .lss (.tmp 41) (.tmp 42), none⟩, ⟨none, .store 3 (.tmp 6) (.tmp 37), none⟩, ⟨some 7, .mov (.tmp 43), none⟩, ⟨some 8, .mov (.con (.i .i64 (0))), none⟩] [(0, 3), (3, 7)])
 .ret)))))))), [.cell 6 true 3, .tmp 7, .tmp 8]⟩
theorem c17 : compF Tryd.prog k17 [] Tryd.f17 = some a17 := by kernel_rfl
def k18 : Nat → List (Nat × H) := fun _ => []
def a18 : AFun := ⟨2, (.seq (.reg [⟨some 2, .box (.tmp 0), none⟩, ⟨some 4, .alloc [(.sl .nil 0 []), (.sl .nil 0 []), (.i .i64 (0))], none⟩, ⟨some 5, .mov (.con (.i .i64 (0))), none⟩, ⟨some 6, .mov (.con (.i .i64 (0))), none⟩])
 (.seq (.reg [⟨some 8, .load true 3 (.tmp 2), none⟩, ⟨some 9, .call 31 [(.tmp 8)], none⟩, ⟨none, .store 3 (.tmp 2) (.tmp 9), none⟩])
 (.seq (.reg [⟨some 10, .load true 3 (.tmp 2), none⟩, ⟨some 11, .call 6 [(.tmp 10)], none⟩, ⟨some 7, .mov (.tmp 11), none⟩])
 (.seq (.block 0 (.seq (.reg [⟨some 13, .mov (.tmp 7), none⟩, ⟨some 14, .bin .neq (.tmp 13) (.con (.i .i64 (0))), none⟩, ⟨some 12, .mov (.tmp 14), none⟩])
 (.cond (.tmp 12) .skip (.seq (.reg [⟨some 16, .mov (.tmp 1), none⟩, ⟨some 17, .call 22 [(.tmp 16)], none⟩, ⟨some 18, .un .not (.tmp 17), none⟩, ⟨some 15, .mov (.tmp 18), none⟩])
 (.cond (.tmp 15) (.reg [⟨some 7, .mov (.con (.i .i64 (100))), none⟩]) (.seq (.reg [⟨some 20, .faddr 0 (.tmp 2), none⟩, ⟨some 21, .load false 1 (.tmp 20), none⟩, ⟨some 22, .len false (.tmp 21), none⟩, ⟨some 23, .bin .geq (.tmp 22) (.con (.i .i64 (2048))), none⟩, ⟨some 24, .mov (.tmp 23), none⟩, ⟨some 25, .faddr 2 (.tmp 2), some (24, false)⟩, ⟨some 26, .load false 1 (.tmp 25), some (24, false)⟩, ⟨some 27, .bin .geq (.tmp 26) (.con (.i .i64 (281474976710656))), some (24, false)⟩, ⟨some 28, .pick (.tmp 24) (.con (.b true)) (.tmp 27), none⟩, ⟨some 19, .mov (.tmp 28), none⟩])
 (.cond (.tmp 19) (.reg [⟨some 7, .mov (.con (.i .i64 (6))), none⟩]) .skip)))))))
 (.seq (.seq (.reg [⟨some 29, .mov (.tmp 7), none⟩, ⟨some 30, .bin .neq (.tmp 29) (.con (.i .i64 (0))), none⟩])
 (.cond (.tmp 30) (.seq (.reg [⟨some 31, .load true 3 (.tmp 2), none⟩, ⟨some 32, .mov (.tmp 7), none⟩, ⟨none, .store 3 (.tmp 4) (.tmp 31), none⟩, ⟨some 5, .mov (.con (.i .i64 (0))), none⟩, ⟨some 6, .mov (.tmp 32), none⟩])
 .ret) .skip))
 (.seq (.reg [⟨some 33, .faddr 2 (.tmp 2), none⟩, ⟨some 34, .load false 1 (.tmp 33), none⟩, ⟨some 35, .bin .add (.tmp 34) (.con (.i .i64 (1))), none⟩, ⟨some 36, .faddr 2 (.tmp 2), none⟩, ⟨none, .store 1 (.tmp 36) (.tmp 35), none⟩])
 (.seq (.reg [⟨some 37, .faddr 0 (.tmp 2), none⟩, ⟨some 38, .load false 1 (.tmp 37), none⟩, ⟨some 39, .faddr 2 (.tmp 2), none⟩, ⟨some 40, .load false 1 (.tmp 39), none⟩, ⟨some 41, .mov (.tmp 1), none⟩, ⟨some 42, .build [(.i .i64 (0)), (.str []), (.sl .nil 0 [])] [(0, 1, (.tmp 40)), (1, 1, (.tmp 41))], none⟩, ⟨some 43, .bslice 31 [(.i .i64 (0)), (.str []), (.sl .nil 0 [])] 1 [(0, (.tmp 42))], none⟩, ⟨some 44, .app 31 3 (.tmp 38) (.tmp 43), none⟩, ⟨some 45, .faddr 0 (.tmp 2), none⟩, ⟨none, .store 1 (.tmp 45) (.tmp 44), none⟩])
 (.seq (.draw [⟨some 46, .load true 3 (.tmp 2), none⟩, ⟨some 47, .faddr 2 (.tmp 2), none⟩, ⟨some 48, .load false 1 (.tmp 47), none⟩, ⟨none, .store 3 (.tmp 4) (.tmp 46), none⟩, ⟨some 5, .mov (.tmp 48), none⟩, ⟨some 6, .mov (.con (.i .i64 (0))), none⟩] [(0, 2), (2, 3)])
 .ret)))))))), [.cell 4 true 3, .tmp 5, .tmp 6]⟩
theorem c18 : compF Tryd.prog k18 [] Tryd.f18 = some a18 := by kernel_rfl
def k19 : Nat → List (Nat × H) := fun _ => []
def a19 : AFun := ⟨4, (.seq (.reg [⟨some 4, .box (.tmp 0), none⟩, ⟨some 8, .alloc [(.sl .nil 0 []), (.sl .nil 0 []), (.i .i64 (0))], none⟩, ⟨some 9, .mov (.con (.i .i64 (0))), none⟩, ⟨some 10, .mov (.con (.i .i64 (0))), none⟩])
 (.seq (.reg [⟨some 16, .load true 3 (.tmp 4), none⟩, ⟨some 17, .call 31 [(.tmp 16)], none⟩, ⟨none, .store 3 (.tmp 4) (.tmp 17), none⟩])
 (.seq (.reg [⟨some 19, .load true 3 (.tmp 4), none⟩, ⟨some 20, .mov (.tmp 2), none⟩, ⟨some 21, .call 43 [(.tmp 19), (.tmp 20)], none⟩, ⟨some 18, .mov (.tmp 21), none⟩, ⟨some 22, .ext (.tmp 18) 0, none⟩, ⟨some 23, .ext (.tmp 18) 1, none⟩, ⟨some 11, .mov (.tmp 22), none⟩, ⟨some 12, .mov (.tmp 23), none⟩])
 (.seq (.reg [⟨some 25, .load true 3 (.tmp 4), none⟩, ⟨some 26, .mov (.tmp 3), none⟩, ⟨some 27, .call 43 [(.tmp 25), (.tmp 26)], none⟩, ⟨some 24, .mov (.tmp 27), none⟩, ⟨some 28, .ext (.tmp 24) 0, none⟩, ⟨some 29, .ext (.tmp 24) 1, none⟩, ⟨some 13, .mov (.tmp 28), none⟩, ⟨some 14, .mov (.tmp 29), none⟩])
 (.seq (.reg [⟨some 30, .load true 3 (.tmp 4), none⟩, ⟨some 31, .call 6 [(.tmp 30)], none⟩, ⟨some 15, .mov (.tmp 31), none⟩])
 (.seq (.block 0 (.seq (.reg [⟨some 33, .mov (.tmp 15), none⟩, ⟨some 34, .bin .neq (.tmp 33) (.con (.i .i64 (0))), none⟩, ⟨some 32, .mov (.tmp 34), none⟩])
 (.cond (.tmp 32) .skip (.seq (.reg [⟨some 36, .mov (.tmp 1), none⟩, ⟨some 37, .call 22 [(.tmp 36)], none⟩, ⟨some 38, .un .not (.tmp 37), none⟩, ⟨some 35, .mov (.tmp 38), none⟩])
 (.cond (.tmp 35) (.reg [⟨some 15, .mov (.con (.i .i64 (100))), none⟩]) (.seq (.reg [⟨some 40, .mov (.tmp 12), none⟩, ⟨some 41, .un .not (.tmp 40), none⟩, ⟨some 42, .mov (.tmp 41), none⟩, ⟨some 43, .mov (.tmp 14), some (42, false)⟩, ⟨some 44, .un .not (.tmp 43), some (42, false)⟩, ⟨some 45, .pick (.tmp 42) (.con (.b true)) (.tmp 44), none⟩, ⟨some 39, .mov (.tmp 45), none⟩])
 (.cond (.tmp 39) (.reg [⟨some 15, .mov (.con (.i .i64 (101))), none⟩]) (.seq (.reg [⟨some 47, .faddr 1 (.tmp 4), none⟩, ⟨some 48, .load false 1 (.tmp 47), none⟩, ⟨some 49, .len false (.tmp 48), none⟩, ⟨some 50, .bin .geq (.tmp 49) (.con (.i .i64 (2048))), none⟩, ⟨some 51, .mov (.tmp 50), none⟩, ⟨some 52, .faddr 2 (.tmp 4), some (51, false)⟩, ⟨some 53, .load false 1 (.tmp 52), some (51, false)⟩, ⟨some 54, .bin .geq (.tmp 53) (.con (.i .i64 (281474976710656))), some (51, false)⟩, ⟨some 55, .pick (.tmp 51) (.con (.b true)) (.tmp 54), none⟩, ⟨some 46, .mov (.tmp 55), none⟩])
 (.cond (.tmp 46) (.reg [⟨some 15, .mov (.con (.i .i64 (6))), none⟩]) .skip)))))))))
 (.seq (.seq (.reg [⟨some 56, .mov (.tmp 15), none⟩, ⟨some 57, .bin .neq (.tmp 56) (.con (.i .i64 (0))), none⟩])
 (.cond (.tmp 57) (.seq (.reg [⟨some 58, .load true 3 (.tmp 4), none⟩, ⟨some 59, .mov (.tmp 15), none⟩, ⟨none, .store 3 (.tmp 8) (.tmp 58), none⟩, ⟨some 9, .mov (.con (.i .i64 (0))), none⟩, ⟨some 10, .mov (.tmp 59), none⟩])
 .ret) .skip))
 (.seq (.reg [⟨some 60, .faddr 2 (.tmp 4), none⟩, ⟨some 61, .load false 1 (.tmp 60), none⟩, ⟨some 62, .bin .add (.tmp 61) (.con (.i .i64 (1))), none⟩, ⟨some 63, .faddr 2 (.tmp 4), none⟩, ⟨none, .store 1 (.tmp 63) (.tmp 62), none⟩])
 (.seq (.reg [⟨some 64, .faddr 1 (.tmp 4), none⟩, ⟨some 65, .load false 1 (.tmp 64), none⟩, ⟨some 66, .faddr 2 (.tmp 4), none⟩, ⟨some 67, .load false 1 (.tmp 66), none⟩, ⟨some 68, .mov (.tmp 1), none⟩, ⟨some 69, .mov (.tmp 2), none⟩, ⟨some 70, .mov (.tmp 3), none⟩, ⟨some 71, .build [(.i .i64 (0)), (.str []), (.i .i64 (0)), (.i .i64 (0)), (.sl .nil 0 [])] [(0, 1, (.tmp 67)), (1, 1, (.tmp 68)), (2, 1, (.tmp 69)), (3, 1, (.tmp 70))], none⟩, ⟨some 72, .bslice 37 [(.i .i64 (0)), (.str []), (.i .i64 (0)), (.i .i64 (0)), (.sl .nil 0 [])] 1 [(0, (.tmp 71))], none⟩, ⟨some 73, .app 37 5 (.tmp 65) (.tmp 72), none⟩, ⟨some 74, .faddr 1 (.tmp 4), none⟩, ⟨none, .store 1 (.tmp 74) (.tmp 73), none⟩])
 (.seq (.draw [⟨some 75, .load true 3 (.tmp 4), none⟩, ⟨some 76, .faddr 2 (.tmp 4), none⟩, ⟨some 77, .load false 1 (.tmp 76), none⟩, ⟨none, .store 3 (.tmp 8) (.tmp 75), none⟩, ⟨some 9, .mov (.tmp 77), none⟩, ⟨some 10, .mov (.con (.i .i64 (0))), none⟩] [(0, 2), (2, 3)])
 .ret)))))))))), [.cell 8 true 3, .tmp 9, .tmp 10]⟩
theorem c19 : compF Tryd.prog k19 [] Tryd.f19 = some a19 := by kernel_rfl
def k20 : Nat → List (Nat × H) := fun r => if r = 999999 then [(3, .none)] else []
def a20 : AFun := ⟨2, (.seq (.reg [⟨some 2, .box (.tmp 0), none⟩, ⟨some 3, .boxi (.tmp 1), none⟩, ⟨some 4, .alloc [(.sl .nil 0 []), (.sl .nil 0 []), (.i .i64 (0))], none⟩, ⟨some 5, .mov (.con (.i .i64 (0))), none⟩])
 (.seq (.reg [⟨some 7, .load true 3 (.tmp 2), none⟩, ⟨some 8, .call 31 [(.tmp 7)], none⟩, ⟨none, .store 3 (.tmp 2) (.tmp 8), none⟩])
 (.seq (.seq (.reg [⟨some 9, .load true 3 (.tmp 2), none⟩, ⟨some 10, .call 6 [(.tmp 9)], none⟩, ⟨some 6, .mov (.tmp 10), none⟩])
 (.seq (.reg [⟨some 11, .mov (.tmp 6), none⟩, ⟨some 12, .bin .neq (.tmp 11) (.con (.i .i64 (0))), none⟩])
 (.cond (.tmp 12) (.seq (.reg [⟨some 13, .load true 3 (.tmp 2), none⟩, ⟨some 14, .mov (.tmp 6), none⟩, ⟨none, .store 3 (.tmp 4) (.tmp 13), none⟩, ⟨some 5, .mov (.tmp 14), none⟩])
 .ret) .skip)))
 (.seq (.seq (.reg [⟨some 15, .load true 3 (.tmp 2), none⟩, ⟨some 16, .load true 4 (.tmp 3), none⟩, ⟨some 17, .call 32 [(.tmp 15), (.tmp 16)], none⟩, ⟨some 18, .eqnil .pt false (.tmp 17), none⟩])
 (.cond (.tmp 18) (.seq (.reg [⟨some 19, .load true 3 (.tmp 2), none⟩, ⟨none, .store 3 (.tmp 4) (.tmp 19), none⟩, ⟨some 5, .mov (.con (.i .i64 (101))), none⟩])
 .ret) .skip))
 (.seq (.seq (.reg [⟨some 20, .faddr 0 (.tmp 3), none⟩, ⟨some 21, .load false 1 (.tmp 20), none⟩, ⟨some 22, .bin .eql (.tmp 21) (.con (.i .i64 (7))), none⟩])
 (.cond (.tmp 22) (.seq (.reg [⟨some 23, .faddr 1 (.tmp 2), none⟩, ⟨some 24, .load false 1 (.tmp 23), none⟩, ⟨some 25, .mkfn 45 [(.tmp 3)], none⟩, ⟨some 26, .call 44 [(.tmp 24), (.tmp 25)], none⟩, ⟨some 27, .faddr 1 (.tmp 2), none⟩, ⟨none, .store 1 (.tmp 27) (.tmp 26), none⟩])
 (.seq (.reg [⟨some 28, .load true 3 (.tmp 2), none⟩, ⟨none, .store 3 (.tmp 4) (.tmp 28), none⟩, ⟨some 5, .mov (.con (.i .i64 (0))), none⟩])
 .ret)) .skip))
 (.seq (.reg [⟨some 29, .faddr 0 (.tmp 2), none⟩, ⟨some 30, .load false 1 (.tmp 29), none⟩, ⟨some 31, .mkfn 47 [(.tmp 3)], none⟩, ⟨some 32, .call 46 [(.tmp 30), (.tmp 31)], none⟩, ⟨some 33, .faddr 0 (.tmp 2), none⟩, ⟨none, .store 1 (.tmp 33) (.tmp 32), none⟩])
 (.seq (.reg [⟨some 34, .faddr 1 (.tmp 2), none⟩, ⟨some 35, .load false 1 (.tmp 34), none⟩, ⟨some 36, .mkfn 48 [(.tmp 3)], none⟩, ⟨some 37, .call 44 [(.tmp 35), (.tmp 36)], none⟩, ⟨some 38, .faddr 1 (.tmp 2), none⟩, ⟨none, .store 1 (.tmp 38) (.tmp 37), none⟩])
 (.seq (.reg [⟨some 39, .load true 3 (.tmp 2), none⟩, ⟨none, .store 3 (.tmp 4) (.tmp 39), none⟩, ⟨some 5, .mov (.con (.i .i64 (0))), none⟩])
 .ret)))))))), [.cell 4 true 3, .tmp 5]⟩
theorem c20 : compF Tryd.prog k20 [] Tryd.f20 = some a20 := by kernel_rfl
def k21 : Nat → List (Nat × H) := fun _ => []
def a21 : AFun := ⟨1, (.seq (.reg [⟨some 2, .alloc [(.i .i64 (0)), (.i .i64 (0)), (.str []), (.sl .nil 0 [])], none⟩])
 (.seq (.reg [⟨some 3, .mov (.tmp 0), none⟩, ⟨some 4, .build [(.i .i64 (0)), (.i .i64 (0)), (.str []), (.sl .nil 0 [])] [(0, 1, (.con (.i .i64 (6)))), (1, 1, (.tmp 3))], none⟩, ⟨none, .store 4 (.tmp 2) (.tmp 4), none⟩])
 .ret)), [.cell 2 true 4]⟩
theorem c21 : compF Tryd.prog k21 [] Tryd.f21 = some a21 := by kernel_rfl
def k22 : Nat → List (Nat × H) := fun _ => []
def a22 : AFun := ⟨1, (.seq (.reg [⟨some 2, .mov (.con (.b false)), none⟩])
 (.seq (.seq (.reg [⟨some 3, .mov (.tmp 0), none⟩, ⟨some 4, .bin .eql (.tmp 3) (.con (.str [])), none⟩, ⟨some 5, .mov (.tmp 4), none⟩, ⟨some 6, .mov (.tmp 0), some (5, false)⟩, ⟨some 7, .len true (.tmp 6), some (5, false)⟩, ⟨some 8, .bin .gtr (.tmp 7) (.con (.i .i64 (24))), some (5, false)⟩, ⟨some 9, .pick (.tmp 5) (.con (.b true)) (.tmp 8), none⟩, ⟨some 10, .mov (.tmp 9), none⟩, ⟨some 11, .mov (.tmp 0), some (10, false)⟩, ⟨some 12, .idx (.tmp 11) (.con (.i .i64 (0))), some (10, false)⟩, ⟨some 13, .bin .geq (.tmp 12) (.con (.i .u8 (48))), some (10, false)⟩, ⟨some 14, .mov (.tmp 13), some (10, false)⟩, ⟨some 15, .mov (.tmp 0), some (14, true)⟩, ⟨some 16, .idx (.tmp 15) (.con (.i .i64 (0))), some (14, true)⟩, ⟨some 17, .bin .leq (.tmp 16) (.con (.i .u8 (57))), some (14, true)⟩, ⟨some 18, .pick (.tmp 14) (.tmp 17) (.con (.b false)), some (10, false)⟩, ⟨some 19, .pick (.tmp 10) (.con (.b true)) (.tmp 18), none⟩])
 (.cond (.tmp 19) (.seq (.reg [⟨some 2, .mov (.con (.b false)), none⟩])
 .ret) .skip))
 (.seq (.reg [⟨some 20, .mov (.tmp 0), none⟩, ⟨some 21, .call 49 [(.tmp 20), (.con (.str [97, 98, 99, 100, 101, 102, 103, 104, 105, 106, 107, 108, 109, 110, 111, 112, 113, 114, 115, 116, 117, 118, 119, 120, 121, 122, 65, 66, 67, 68, 69, 70, 71, 72, 73, 74, 75, 76, 77, 78, 79, 80, 81, 82, 83, 84, 85, 86, 87, 88, 89, 90, 48, 49, 50, 51, 52, 53, 54, 55, 56, 57, 95]))], none⟩, ⟨some 22, .bin .eql (.tmp 21) (.con (.str [])), none⟩, ⟨some 2, .mov (.tmp 22), none⟩])
 .ret))), [.tmp 2]⟩
theorem c22 : compF Tryd.prog k22 [] Tryd.f22 = some a22 := by kernel_rfl
def k23 : Nat → List (Nat × H) := fun r => if r = 2 then [(0, .none), (5, .none), (6, .none), (7, .none)] else []
def a23 : AFun := ⟨1, (.seq (.reg [⟨some 2, .mov (.con (.b false)), none⟩])
 (.seq (.seq (.reg [⟨some 5, .mov (.tmp 0), none⟩, ⟨some 6, .len false (.tmp 5), none⟩, ⟨some 7, .mov (.con (.i .i64 (0))), none⟩])
 (.block 0 (.loop [(0, .none), (5, .none), (6, .none), (7, .none)] (.seq (.reg [⟨some 8, .bin .lss (.tmp 7) (.tmp 6), none⟩])
 (.seq (.cond (.tmp 8) .skip (.exit 0))
 (.seq (.block 1 (.seq (.reg [⟨some 9, .mov (.tmp 7), none⟩, ⟨some 10, .iaddr 5 (.tmp 5) (.tmp 7), none⟩, ⟨some 11, .load true 5 (.tmp 10), none⟩, ⟨some 4, .alloc [(.str []), (.i .i64 (0)), (.i .i64 (0)), (.str []), (.sl .nil 0 [])], none⟩, ⟨some 3, .mov (.tmp 9), none⟩, ⟨none, .store 5 (.tmp 4) (.tmp 11), none⟩])
 (.seq (.draw [⟨some 12, .faddr 0 (.tmp 4), none⟩, ⟨some 13, .load false 1 (.tmp 12), none⟩, ⟨some 14, .call 22 [(.tmp 13)], none⟩, ⟨some 15, .un .not (.tmp 14), none⟩, ⟨some 16, .mov (.tmp 15), none⟩, ⟨some 17, .mov (.tmp 3), some (16, false)⟩, ⟨some 18, .bin .gtr (.tmp 17) (.con (.i .i64 (0))), some (16, false)⟩, ⟨some 19, .mov (.tmp 18), some (16, false)⟩, ⟨some 20, .mov (.tmp 0), some (19, true)⟩, ⟨some 21, .mov (.tmp 3), some (19, true)⟩, ⟨some 22, .bin .sub (.tmp 21) (.con (.i .i64 (1))), some (19, true)⟩, ⟨some 23, .iaddr 5 (.tmp 20) (.tmp 22), some (19, true)⟩, ⟨some 24, .faddr 0 (.tmp 23), some (19, true)⟩, ⟨some 25, .load false 1 (.tmp 24), some (19, true)⟩, ⟨some 26, .faddr 0 (.tmp 4), some (19, true)⟩, ⟨some 27, .load false 1 (.tmp 26), some (19, true)⟩, ⟨some 28, .bin .geq (.tmp 25) (.tmp 27), some (19, true)⟩, ⟨some 29, .pick (.tmp 19) (.tmp 28) (.con (.b false)), some (16, false)⟩, ⟨some 30, .pick (.tmp 16) (.con (.b true)) (.tmp 29), none⟩, ⟨some 31, .mov (.tmp 30), none⟩, ⟨some 32, .faddr 1 (.tmp 4), some (31, false)⟩, ⟨some 33, .load true 4 (.tmp 32), some (31, false)⟩, ⟨some 34, .call 33 [(.tmp 33)], some (31, false)⟩, ⟨some 35, .bin .neq (.tmp 34) (.con (.i .i64 (0))), some (31, false)⟩, ⟨some 36, .pick (.tmp 31) (.con (.b true)) (.tmp 35), none⟩] [(11, 15), (13, 15)])
 (.cond (.tmp 36) (.seq (.reg [⟨some 2, .mov (.con (.b true)), none⟩])
 .ret) .skip))))
 (.reg [⟨some 37, .bin .add (.tmp 7) (.con (.i .i64 (1))), none⟩, ⟨some 7, .mov (.tmp 37), none⟩])))))))
 (.seq (.reg [⟨some 38, .mov (.tmp 0), none⟩, ⟨some 39, .len false (.tmp 38), none⟩, ⟨some 40, .bin .gtr (.tmp 39) (.con (.i .i64 (16))), none⟩, ⟨some 2, .mov (.tmp 40), none⟩])
 .ret))), [.tmp 2]⟩
theorem c23 : compF Tryd.prog k23 [] Tryd.f23 = some a23 := by kernel_rfl
def k24 : Nat → List (Nat × H) := fun _ => []
def a24 : AFun := ⟨2, (.seq (.reg [⟨some 2, .box (.tmp 0), none⟩, ⟨some 3, .box (.tmp 1), none⟩, ⟨some 4, .mov (.con .nilf), none⟩])
 (.seq (.reg [⟨some 5, .mkfn 50 [(.tmp 2), (.tmp 3)], none⟩, ⟨some 4, .mov (.tmp 5), none⟩])
 .ret)), [.tmp 4]⟩
theorem c24 : compF Tryd.prog k24 [] Tryd.f24 = some a24 := by kernel_rfl
def k25 : Nat → List (Nat × H) := fun _ => []
def a25 : AFun := ⟨3, (.seq (.reg [⟨some 3, .box (.tmp 0), none⟩, ⟨some 4, .mov (.con (.b false)), none⟩])
 (.seq (.reg [⟨some 5, .faddr 2 (.tmp 3), none⟩, ⟨some 6, .load false 1 (.tmp 5), none⟩, ⟨some 7, .load false 1 (.tmp 1), none⟩, ⟨some 8, .bin .eql (.tmp 6) (.tmp 7), none⟩, ⟨some 9, .mov (.tmp 8), none⟩, ⟨some 10, .faddr 1 (.tmp 3), some (9, true)⟩, ⟨some 11, .load false 1 (.tmp 10), some (9, true)⟩, ⟨some 12, .load false 1 (.tmp 2), some (9, true)⟩, ⟨some 13, .call 26 [(.tmp 11), (.tmp 12)], some (9, true)⟩, ⟨some 14, .pick (.tmp 9) (.tmp 13) (.con (.b false)), none⟩, ⟨some 4, .mov (.tmp 14), none⟩])
 .ret)), [.tmp 4]⟩
theorem c25 : compF Tryd.prog k25 [] Tryd.f25 = some a25 := by kernel_rfl
def k26 : Nat → List (Nat × H) := fun _ => []
def a26 : AFun := ⟨2, (.seq (.reg [⟨some 4, .mov (.con (.b false)), none⟩])
 (.seq (.reg [⟨some 5, .mov (.tmp 1), none⟩, ⟨some 6, .len false (.tmp 5), none⟩, ⟨some 7, .bin .eql (.tmp 6) (.con (.i .i64 (0))), none⟩, ⟨some 8, .mov (.tmp 7), none⟩, ⟨some 9, .mov (.tmp 1), some (8, false)⟩, ⟨some 10, .mov (.tmp 0), some (8, false)⟩, ⟨some 11, .call 52 [(.tmp 9), (.tmp 10)], some (8, false)⟩, ⟨some 12, .pick (.tmp 8) (.con (.b true)) (.tmp 11), none⟩, ⟨some 4, .mov (.tmp 12), none⟩])
 .ret)), [.tmp 4]⟩
theorem c26 : compF Tryd.prog k26 [] Tryd.f26 = some a26 := by kernel_rfl
def k27 : Nat → List (Nat × H) := fun r => if r = 2 then [(0, .none), (1, .none), (7, .none), (8, .none)] else []
def a27 : AFun := ⟨2, (.seq (.reg [⟨some 4, .mov (.con (.i .i64 (0))), none⟩])
 (.seq (.seq (.reg [⟨some 6, .mov (.tmp 0), none⟩, ⟨some 7, .len false (.tmp 6), none⟩, ⟨some 8, .mov (.con (.i .i64 (0))), none⟩])
 (.block 0 (.loop [(0, .none), (1, .none), (7, .none), (8, .none)] (.seq (.reg [⟨some 9, .bin .lss (.tmp 8) (.tmp 7), none⟩])
 (.seq (.cond (.tmp 9) .skip (.exit 0))
 (.seq (.block 1 (.seq (.reg [⟨some 10, .mov (.tmp 8), none⟩, ⟨some 5, .mov (.tmp 10), none⟩])
 (.seq (.reg [⟨some 11, .mov (.tmp 1), none⟩, ⟨some 12, .mov (.tmp 0), none⟩, ⟨some 13, .mov (.tmp 5), none⟩, ⟨some 14, .iaddr 5 (.tmp 12) (.tmp 13), none⟩, ⟨some 15, .load true 5 (.tmp 14), none⟩, ⟨some 16, .callv (.tmp 11) [(.tmp 15)], none⟩])
 (.cond (.tmp 16) (.seq (.reg [⟨some 17, .mov (.tmp 5), none⟩, ⟨some 4, .mov (.tmp 17), none⟩])
 .ret) .skip))))
 (.reg [⟨some 18, .bin .add (.tmp 8) (.con (.i .i64 (1))), none⟩, ⟨some 8, .mov (.tmp 18), none⟩])))))))
 (.seq (.reg [⟨some 4, .mov (.con (.i .i64 (-1))), none⟩])
 .ret))), [.tmp 4]⟩
theorem c27 : compF Tryd.prog k27 [] Tryd.f27 = some a27 := by kernel_rfl
def k28 : Nat → List (Nat × H) := fun _ => []
def a28 : AFun := ⟨3, (.seq (.reg [⟨some 3, .box (.tmp 0), none⟩, ⟨some 4, .mov (.con (.b false)), none⟩])
 (.seq (.reg [⟨some 5, .faddr 3 (.tmp 3), none⟩, ⟨some 6, .load false 1 (.tmp 5), none⟩, ⟨some 7, .load false 1 (.tmp 1), none⟩, ⟨some 8, .bin .eql (.tmp 6) (.tmp 7), none⟩, ⟨some 9, .mov (.tmp 8), none⟩, ⟨some 10, .faddr 1 (.tmp 3), some (9, true)⟩, ⟨some 11, .load false 1 (.tmp 10), some (9, true)⟩, ⟨some 12, .load false 1 (.tmp 2), some (9, true)⟩, ⟨some 13, .call 26 [(.tmp 11), (.tmp 12)], some (9, true)⟩, ⟨some 14, .pick (.tmp 9) (.tmp 13) (.con (.b false)), none⟩, ⟨some 4, .mov (.tmp 14), none⟩])
 .ret)), [.tmp 4]⟩
theorem c28 : compF Tryd.prog k28 [] Tryd.f28 = some a28 := by kernel_rfl
def k29 : Nat → List (Nat × H) := fun r => if r = 2 then [(1, .none), (4, .none), (8, .none), (9, .none), (10, .none)] else []
def a29 : AFun := ⟨2, (.seq (.reg [⟨some 4, .alloc [(.i .i64 (0)), (.i .i64 (0)), (.str []), (.sl .nil 0 [])], none⟩, ⟨some 5, .mov (.con (.b false)), none⟩])
 (.seq (.seq (.reg [⟨some 8, .mov (.tmp 0), none⟩, ⟨some 9, .len false (.tmp 8), none⟩, ⟨some 10, .mov (.con (.i .i64 (0))), none⟩])
 (.block 0 (.loop [(1, .none), (4, .none), (8, .none), (9, .none), (10, .none)] (.seq (.reg [⟨some 11, .bin .lss (.tmp 10) (.tmp 9), none⟩])
 (.seq (.cond (.tmp 11) .skip (.exit 0))
 (.seq (.block 1 (.seq (.reg [⟨some 12, .iaddr 5 (.tmp 8) (.tmp 10), none⟩, ⟨some 13, .load true 5 (.tmp 12), none⟩, ⟨some 7, .alloc [(.str []), (.i .i64 (0)), (.i .i64 (0)), (.str []), (.sl .nil 0 [])], none⟩, ⟨none, .store 5 (.tmp 7) (.tmp 13), none⟩])
 (.seq (.reg [⟨some 14, .faddr 0 (.tmp 7), none⟩, ⟨some 15, .load false 1 (.tmp 14), none⟩, ⟨some 16, .mov (.tmp 1), none⟩, ⟨some 17, .bin .eql (.tmp 15) (.tmp 16), none⟩])
 (.cond (.tmp 17) (.seq (.reg [⟨some 18, .faddr 1 (.tmp 7), none⟩, ⟨some 19, .load true 4 (.tmp 18), none⟩, ⟨none, .store 4 (.tmp 4) (.tmp 19), none⟩, ⟨some 5, .mov (.con (.b true)), none⟩])
 .ret) .skip))))
 (.reg [⟨some 20, .bin .add (.tmp 10) (.con (.i .i64 (1))), none⟩, ⟨some 10, .mov (.tmp 20), none⟩])))))))
 (.seq (.reg [⟨some 21, .build [(.i .i64 (0)), (.i .i64 (0)), (.str []), (.sl .nil 0 [])] [], none⟩, ⟨none, .store 4 (.tmp 4) (.tmp 21), none⟩, ⟨some 5, .mov (.con (.b false)), none⟩])
 .ret))), [.cell 4 true 4, .tmp 5]⟩
theorem c29 : compF Tryd.prog k29 [] Tryd.f29 = some a29 := by kernel_rfl
def k30 : Nat → List (Nat × H) := fun r => if r = 999997 then [(8, .none)] else []
def a30 : AFun := ⟨2, (.seq (.reg [⟨some 2, .box (.tmp 0), none⟩, ⟨some 3, .box (.tmp 1), none⟩, ⟨some 4, .mov (.con (.sl .nil 0 [])), none⟩])
 (.seq (.seq (.reg [⟨some 6, .load true 3 (.tmp 2), none⟩, ⟨some 7, .load true 4 (.tmp 3), none⟩, ⟨some 8, .calld 1000032 [(.tmp 6), (.tmp 7)], none⟩, ⟨some 5, .mov (.tmp 8), none⟩])
 (.seq (.reg [⟨some 9, .mov (.tmp 5), none⟩, ⟨some 10, .eqnil .pt true (.tmp 9), none⟩])
 (.cond (.tmp 10) (.seq (.reg [⟨some 11, .mov (.tmp 5), none⟩, ⟨some 12, .nilck (.tmp 11), none⟩, ⟨some 13, .load false 1 (.tmp 12), none⟩, ⟨some 14, .call 53 [(.tmp 13)], none⟩, ⟨some 4, .mov (.tmp 14), none⟩])
 .ret) .skip)))
 (.seq (.reg [⟨some 4, .mov (.con (.sl .nil 0 [])), none⟩])
 .ret))), [.tmp 4]⟩
theorem c30 : compF Tryd.prog k30 [] Tryd.f30 = some a30 := by kernel_rfl
def k31 : Nat → List (Nat × H) := fun r => if r = 3 then [(1, .none), (2, .none), (3, .cells [.row 31 3]), (12, .none), (13, .none), (14, .none)] else if r = 8 then [(2, .none), (3, .cells [.none, .row 37 5]), (27, .none), (28, .none), (29, .none)] else []
def a31 : AFun := ⟨1, (.seq (.reg [⟨some 1, .box (.tmp 0), none⟩, ⟨some 2, .alloc [(.sl .nil 0 []), (.sl .nil 0 []), (.i .i64 (0))], none⟩])
 (.seq (.reg [⟨some 8, .faddr 2 (.tmp 1), none⟩, ⟨some 9, .load false 1 (.tmp 8), none⟩, ⟨some 10, .build [(.sl .nil 0 []), (.sl .nil 0 []), (.i .i64 (0))] [(2, 1, (.tmp 9))], none⟩, ⟨some 3, .alloc [(.sl .nil 0 []), (.sl .nil 0 []), (.i .i64 (0))], none⟩, ⟨none, .store 3 (.tmp 3) (.tmp 10), none⟩])
 (.seq (.seq (.reg [⟨some 11, .faddr 0 (.tmp 1), none⟩, ⟨some 12, .load false 1 (.tmp 11), none⟩, ⟨some 13, .len false (.tmp 12), none⟩, ⟨some 14, .mov (.con (.i .i64 (0))), none⟩])
 (.block 0 (.loop [(1, .none), (2, .none), (3, .cells [.row 31 3]), (12, .none), (13, .none), (14, .none)] (.seq (.reg [⟨some 15, .bin .lss (.tmp 14) (.tmp 13), none⟩])
 (.seq (.cond (.tmp 15) .skip (.exit 0))
 (.seq (.block 1 (.seq (.reg [⟨some 16, .iaddr 3 (.tmp 12) (.tmp 14), none⟩, ⟨some 17, .load true 3 (.tmp 16), none⟩, ⟨some 5, .alloc [(.i .i64 (0)), (.str []), (.sl .nil 0 [])], none⟩, ⟨none, .store 3 (.tmp 5) (.tmp 17), none⟩])
 (.draw [⟨some 18, .faddr 0 (.tmp 3), none⟩, ⟨some 19, .load false 1 (.tmp 18), none⟩, ⟨some 20, .load true 3 (.tmp 5), none⟩, ⟨some 21, .call 54 [(.tmp 20)], none⟩, ⟨some 22, .bslice 31 [(.i .i64 (0)), (.str []), (.sl .nil 0 [])] 1 [(0, (.tmp 21))], none⟩, ⟨some 23, .app 31 3 (.tmp 19) (.tmp 22), none⟩, ⟨some 24, .faddr 0 (.tmp 3), none⟩, ⟨none, .store 1 (.tmp 24) (.tmp 23), none⟩] [(1, 2), (1, 3), (1, 4)])))
 (.reg [⟨some 25, .bin .add (.tmp 14) (.con (.i .i64 (1))), none⟩, ⟨some 14, .mov (.tmp 25), none⟩])))))))
 (.seq (.seq (.reg [⟨some 26, .faddr 1 (.tmp 1), none⟩, ⟨some 27, .load false 1 (.tmp 26), none⟩, ⟨some 28, .len false (.tmp 27), none⟩, ⟨some 29, .mov (.con (.i .i64 (0))), none⟩])
 (.block 2 (.loop [(2, .none), (3, .cells [.none, .row 37 5]), (27, .none), (28, .none), (29, .none)] (.seq (.reg [⟨some 30, .bin .lss (.tmp 29) (.tmp 28), none⟩])
 (.seq (.cond (.tmp 30) .skip (.exit 2))
 (.seq (.block 3 (.seq (.reg [⟨some 31, .iaddr 5 (.tmp 27) (.tmp 29), none⟩, ⟨some 32, .load true 5 (.tmp 31), none⟩, ⟨some 7, .alloc [(.i .i64 (0)), (.str []), (.i .i64 (0)), (.i .i64 (0)), (.sl .nil 0 [])], none⟩, ⟨none, .store 5 (.tmp 7) (.tmp 32), none⟩])
 (.draw [⟨some 33, .faddr 1 (.tmp 3), none⟩, ⟨some 34, .load false 1 (.tmp 33), none⟩, ⟨some 35, .load true 5 (.tmp 7), none⟩, ⟨some 36, .call 51 [(.tmp 35)], none⟩, ⟨some 37, .bslice 37 [(.i .i64 (0)), (.str []), (.i .i64 (0)), (.i .i64 (0)), (.sl .nil 0 [])] 1 [(0, (.tmp 36))], none⟩, ⟨some 38, .app 37 5 (.tmp 34) (.tmp 37), none⟩, ⟨some 39, .faddr 1 (.tmp 3), none⟩, ⟨none, .store 1 (.tmp 39) (.tmp 38), none⟩] [(1, 2), (1, 3), (1, 4)])))
 (.reg [⟨some 40, .bin .add (.tmp 29) (.con (.i .i64 (1))), none⟩, ⟨some 29, .mov (.tmp 40), none⟩])))))))
 (.seq (.reg [⟨some 41, .load true 3 (.tmp 3), none⟩, ⟨none, .store 3 (.tmp 2) (.tmp 41), none⟩])
 .ret))))), [.cell 2 true 3]⟩
theorem c31 : compF Tryd.prog k31 [] Tryd.f31 = some a31 := by kernel_rfl
def k32 : Nat → List (Nat × H) := fun _ => []
def a32 : AFun := ⟨2, (.seq (.reg [⟨some 2, .box (.tmp 0), none⟩, ⟨some 3, .box (.tmp 1), none⟩, ⟨some 4, .mov (.con .nilp), none⟩])
 (.seq (.seq (.reg [⟨some 9, .faddr 0 (.tmp 3), none⟩, ⟨some 10, .load false 1 (.tmp 9), none⟩])
 (.block 0 (.seq (.reg [⟨some 12, .bin .eql (.tmp 10) (.con (.i .i64 (6))), none⟩, ⟨some 11, .mov (.tmp 12), none⟩])
 (.cond (.tmp 11) (.seq (.reg [⟨some 14, .load true 3 (.tmp 2), none⟩, ⟨some 15, .faddr 1 (.tmp 3), none⟩, ⟨some 16, .load false 1 (.tmp 15), none⟩, ⟨some 17, .call 43 [(.tmp 14), (.tmp 16)], none⟩, ⟨some 13, .mov (.tmp 17), none⟩, ⟨some 18, .ext (.tmp 13) 0, none⟩, ⟨some 19, .ext (.tmp 13) 1, none⟩, ⟨some 5, .mov (.tmp 18), none⟩, ⟨some 6, .mov (.tmp 19), none⟩])
 (.seq (.reg [⟨some 20, .mov (.tmp 6), none⟩])
 (.cond (.tmp 20) (.seq (.reg [⟨some 21, .faddr 0 (.tmp 2), none⟩, ⟨some 22, .load false 1 (.tmp 21), none⟩, ⟨some 23, .mov (.tmp 5), none⟩, ⟨some 24, .iaddr 3 (.tmp 22) (.tmp 23), none⟩, ⟨some 25, .faddr 2 (.tmp 24), none⟩, ⟨some 4, .mov (.tmp 25), none⟩])
 .ret) .skip))) (.seq (.reg [⟨some 27, .bin .eql (.tmp 10) (.con (.i .i64 (7))), none⟩, ⟨some 26, .mov (.tmp 27), none⟩])
 (.cond (.tmp 26) (.seq (.reg [⟨some 29, .load true 3 (.tmp 2), none⟩, ⟨some 30, .faddr 1 (.tmp 3), none⟩, ⟨some 31, .load false 1 (.tmp 30), none⟩, ⟨some 32, .call 55 [(.tmp 29), (.tmp 31)], none⟩, ⟨some 28, .mov (.tmp 32), none⟩, ⟨some 33, .ext (.tmp 28) 0, none⟩, ⟨some 34, .ext (.tmp 28) 1, none⟩, ⟨some 7, .mov (.tmp 33), none⟩, ⟨some 8, .mov (.tmp 34), none⟩])
 (.seq (.reg [⟨some 35, .mov (.tmp 8), none⟩])
 (.cond (.tmp 35) (.seq (.reg [⟨some 36, .faddr 1 (.tmp 2), none⟩, ⟨some 37, .load false 1 (.tmp 36), none⟩, ⟨some 38, .mov (.tmp 7), none⟩, ⟨some 39, .iaddr 5 (.tmp 37) (.tmp 38), none⟩, ⟨some 40, .faddr 4 (.tmp 39), none⟩, ⟨some 4, .mov (.tmp 40), none⟩])
 .ret) .skip))) .skip))))))
 (.seq (.reg [⟨some 4, .mov (.con .nilp), none⟩])
 .ret))), [.tmp 4]⟩
theorem c32 : compF Tryd.prog k32 [] Tryd.f32 = some a32 := by kernel_rfl
def k33 : Nat → List (Nat × H) := fun _ => []
def a33 : AFun := ⟨1, (.seq (.reg [⟨some 1, .box (.tmp 0), none⟩, ⟨some 2, .mov (.con (.i .i64 (0))), none⟩])
 (.seq (.seq (.reg [⟨some 3, .load true 4 (.tmp 1), none⟩, ⟨some 4, .call 56 [(.tmp 3), (.con (.i .i64 (1)))], none⟩, ⟨some 5, .un .not (.tmp 4), none⟩])
 (.cond (.tmp 5) (.seq (.reg [⟨some 2, .mov (.con (.i .i64 (20))), none⟩])
 .ret) .skip))
 (.seq (.reg [⟨some 2, .mov (.con (.i .i64 (0))), none⟩])
 .ret))), [.tmp 2]⟩
theorem c33 : compF Tryd.prog k33 [] Tryd.f33 = some a33 := by kernel_rfl
def k34 : Nat → List (Nat × H) := fun r => if r = 3 then [(1, .none), (2, .none), (10, .none), (11, .none)] else []
def a34 : AFun := ⟨1, (.seq (.reg [⟨some 1, .box (.tmp 0), none⟩, ⟨some 2, .alloc [(.i .i64 (0)), (.i .i64 (0)), (.str []), (.sl .nil 0 [])], none⟩])
 (.seq (.reg [⟨some 4, .faddr 3 (.tmp 1), none⟩, ⟨some 5, .load false 1 (.tmp 4), none⟩, ⟨some 6, .call 57 [(.tmp 5)], none⟩, ⟨some 7, .faddr 3 (.tmp 1), none⟩, ⟨none, .store 1 (.tmp 7) (.tmp 6), none⟩])
 (.seq (.seq (.reg [⟨some 8, .faddr 3 (.tmp 1), none⟩, ⟨some 9, .load false 1 (.tmp 8), none⟩, ⟨some 10, .len false (.tmp 9), none⟩, ⟨some 11, .mov (.con (.i .i64 (0))), none⟩])
 (.block 0 (.loop [(1, .none), (2, .none), (10, .none), (11, .none)] (.seq (.reg [⟨some 12, .bin .lss (.tmp 11) (.tmp 10), none⟩])
 (.seq (.cond (.tmp 12) .skip (.exit 0))
 (.seq (.block 1 (.seq (.reg [⟨some 13, .mov (.tmp 11), none⟩, ⟨some 3, .mov (.tmp 13), none⟩])
 (.draw [⟨some 14, .faddr 3 (.tmp 1), none⟩, ⟨some 15, .load false 1 (.tmp 14), none⟩, ⟨some 16, .mov (.tmp 3), none⟩, ⟨some 17, .faddr 3 (.tmp 1), none⟩, ⟨some 18, .load false 1 (.tmp 17), none⟩, ⟨some 19, .mov (.tmp 3), none⟩, ⟨some 20, .iaddr 4 (.tmp 18) (.tmp 19), none⟩, ⟨some 21, .load true 4 (.tmp 20), none⟩, ⟨some 22, .call 34 [(.tmp 21)], none⟩, ⟨some 23, .iaddr 4 (.tmp 15) (.tmp 16), none⟩, ⟨none, .store 4 (.tmp 23) (.tmp 22), none⟩] [(1, 4), (1, 6), (1, 7), (1, 8)])))
 (.reg [⟨some 24, .bin .add (.tmp 11) (.con (.i .i64 (1))), none⟩, ⟨some 11, .mov (.tmp 24), none⟩])))))))
 (.seq (.reg [⟨some 25, .load true 4 (.tmp 1), none⟩, ⟨none, .store 4 (.tmp 2) (.tmp 25), none⟩])
 .ret)))), [.cell 2 true 4]⟩
theorem c34 : compF Tryd.prog k34 [] Tryd.f34 = some a34 := by kernel_rfl
def k35 : Nat → List (Nat × H) := fun r => if r = 2 then [(0, .none), (1, .none), (7, .none), (8, .none)] else []
def a35 : AFun := ⟨2, (.seq (.reg [⟨some 4, .mov (.con (.i .i64 (0))), none⟩])
 (.seq (.seq (.reg [⟨some 6, .mov (.tmp 0), none⟩, ⟨some 7, .len false (.tmp 6), none⟩, ⟨some 8, .mov (.con (.i .i64 (0))), none⟩])
 (.block 0 (.loop [(0, .none), (1, .none), (7, .none), (8, .none)] (.seq (.reg [⟨some 9, .bin .lss (.tmp 8) (.tmp 7), none⟩])
 (.seq (.cond (.tmp 9) .skip (.exit 0))
 (.seq (.block 1 (.seq (.reg [⟨some 10, .mov (.tmp 8), none⟩, ⟨some 5, .mov (.tmp 10), none⟩])
 (.seq (.reg [⟨some 11, .mov (.tmp 1), none⟩, ⟨some 12, .mov (.tmp 0), none⟩, ⟨some 13, .mov (.tmp 5), none⟩, ⟨some 14, .iaddr 5 (.tmp 12) (.tmp 13), none⟩, ⟨some 15, .load true 5 (.tmp 14), none⟩, ⟨some 16, .callv (.tmp 11) [(.tmp 15)], none⟩])
 (.cond (.tmp 16) (.seq (.reg [⟨some 17, .mov (.tmp 5), none⟩, ⟨some 4, .mov (.tmp 17), none⟩])
 .ret) .skip))))
 (.reg [⟨some 18, .bin .add (.tmp 8) (.con (.i .i64 (1))), none⟩, ⟨some 8, .mov (.tmp 18), none⟩])))))))
 (.seq (.reg [⟨some 4, .mov (.con (.i .i64 (-1))), none⟩])
 .ret))), [.tmp 4]⟩
theorem c35 : compF Tryd.prog k35 [] Tryd.f35 = some a35 := by kernel_rfl
def k36 : Nat → List (Nat × H) := fun _ => []
def a36 : AFun := ⟨2, (.seq (.reg [⟨some 2, .box (.tmp 0), none⟩, ⟨some 3, .mov (.con (.b false)), none⟩])
 (.seq (.reg [⟨some 4, .faddr 0 (.tmp 2), none⟩, ⟨some 5, .load false 1 (.tmp 4), none⟩, ⟨some 6, .load false 1 (.tmp 1), none⟩, ⟨some 7, .bin .geq (.tmp 5) (.tmp 6), none⟩, ⟨some 3, .mov (.tmp 7), none⟩])
 .ret)), [.tmp 3]⟩
theorem c36 : compF Tryd.prog k36 [] Tryd.f36 = some a36 := by kernel_rfl
def k38 : Nat → List (Nat × H) := fun _ => []
def a38 : AFun := ⟨2, (.seq (.reg [⟨some 2, .box (.tmp 0), none⟩, ⟨some 3, .box (.tmp 1), none⟩, ⟨some 4, .mov (.con (.b false)), none⟩])
 (.seq (.reg [⟨some 5, .faddr 0 (.tmp 2), none⟩, ⟨some 6, .load false 1 (.tmp 5), none⟩, ⟨some 7, .faddr 0 (.tmp 3), none⟩, ⟨some 8, .load false 1 (.tmp 7), none⟩, ⟨some 9, .bin .eql (.tmp 6) (.tmp 8), none⟩, ⟨some 10, .mov (.tmp 9), none⟩, ⟨some 11, .faddr 1 (.tmp 2), some (10, true)⟩, ⟨some 12, .load false 1 (.tmp 11), some (10, true)⟩, ⟨some 13, .faddr 1 (.tmp 3), some (10, true)⟩, ⟨some 14, .load false 1 (.tmp 13), some (10, true)⟩, ⟨some 15, .bin .eql (.tmp 12) (.tmp 14), some (10, true)⟩, ⟨some 16, .pick (.tmp 10) (.tmp 15) (.con (.b false)), none⟩, ⟨some 17, .mov (.tmp 16), none⟩, ⟨some 18, .faddr 2 (.tmp 2), some (17, true)⟩, ⟨some 19, .load false 1 (.tmp 18), some (17, true)⟩, ⟨some 20, .faddr 2 (.tmp 3), some (17, true)⟩, ⟨some 21, .load false 1 (.tmp 20), some (17, true)⟩, ⟨some 22, .call 60 [(.tmp 19), (.tmp 21)], some (17, true)⟩, ⟨some 23, .pick (.tmp 17) (.tmp 22) (.con (.b false)), none⟩, ⟨some 4, .mov (.tmp 23), none⟩])
 .ret)), [.tmp 4]⟩
theorem c38 : compF Tryd.prog k38 [] Tryd.f38 = some a38 := by kernel_rfl
def k39 : Nat → List (Nat × H) := fun _ => []
def a39 : AFun := ⟨2, (.seq (.reg [⟨some 2, .box (.tmp 0), none⟩, ⟨some 3, .box (.tmp 1), none⟩, ⟨some 4, .mov (.con (.b false)), none⟩])
 (.seq (.reg [⟨some 5, .faddr 0 (.tmp 2), none⟩, ⟨some 6, .load false 1 (.tmp 5), none⟩, ⟨some 7, .faddr 0 (.tmp 3), none⟩, ⟨some 8, .load false 1 (.tmp 7), none⟩, ⟨some 9, .bin .eql (.tmp 6) (.tmp 8), none⟩, ⟨some 10, .mov (.tmp 9), none⟩, ⟨some 11, .faddr 1 (.tmp 2), some (10, true)⟩, ⟨some 12, .load false 1 (.tmp 11), some (10, true)⟩, ⟨some 13, .faddr 1 (.tmp 3), some (10, true)⟩, ⟨some 14, .load false 1 (.tmp 13), some (10, true)⟩, ⟨some 15, .bin .eql (.tmp 12) (.tmp 14), some (10, true)⟩, ⟨some 16, .pick (.tmp 10) (.tmp 15) (.con (.b false)), none⟩, ⟨some 17, .mov (.tmp 16), none⟩, ⟨some 18, .faddr 2 (.tmp 2), some (17, true)⟩, ⟨some 19, .load false 1 (.tmp 18), some (17, true)⟩, ⟨some 20, .faddr 2 (.tmp 3), some (17, true)⟩, ⟨some 21, .load false 1 (.tmp 20), some (17, true)⟩, ⟨some 22, .bin .eql (.tmp 19) (.tmp 21), some (17, true)⟩, ⟨some 23, .pick (.tmp 17) (.tmp 22) (.con (.b false)), none⟩, ⟨some 24, .mov (.tmp 23), none⟩, ⟨some 25, .faddr 3 (.tmp 2), some (24, true)⟩, ⟨some 26, .load false 1 (.tmp 25), some (24, true)⟩, ⟨some 27, .faddr 3 (.tmp 3), some (24, true)⟩, ⟨some 28, .load false 1 (.tmp 27), some (24, true)⟩, ⟨some 29, .bin .eql (.tmp 26) (.tmp 28), some (24, true)⟩, ⟨some 30, .pick (.tmp 24) (.tmp 29) (.con (.b false)), none⟩, ⟨some 31, .mov (.tmp 30), none⟩, ⟨some 32, .faddr 4 (.tmp 2), some (31, true)⟩, ⟨some 33, .load false 1 (.tmp 32), some (31, true)⟩, ⟨some 34, .faddr 4 (.tmp 3), some (31, true)⟩, ⟨some 35, .load false 1 (.tmp 34), some (31, true)⟩, ⟨some 36, .call 60 [(.tmp 33), (.tmp 35)], some (31, true)⟩, ⟨some 37, .pick (.tmp 31) (.tmp 36) (.con (.b false)), none⟩, ⟨some 4, .mov (.tmp 37), none⟩])
 .ret)), [.tmp 4]⟩
theorem c39 : compF Tryd.prog k39 [] Tryd.f39 = some a39 := by kernel_rfl
def k40 : Nat → List (Nat × H) := fun r => if r = 11 then [(2, .none), (3, .none), (8, .none)] else []
def a40 : AFun := ⟨2, (.seq (.reg [⟨some 2, .box (.tmp 0), none⟩, ⟨some 3, .box (.tmp 1), none⟩, ⟨some 4, .mov (.con (.i .i64 (0))), none⟩])
 (.seq (.seq (.reg [⟨some 10, .faddr 0 (.tmp 2), none⟩, ⟨some 11, .load false 1 (.tmp 10), none⟩, ⟨some 12, .faddr 0 (.tmp 3), none⟩, ⟨some 13, .load false 1 (.tmp 12), none⟩, ⟨some 14, .call 61 [(.tmp 11), (.tmp 13)], none⟩, ⟨some 5, .mov (.tmp 14), none⟩])
 (.seq (.reg [⟨some 15, .mov (.tmp 5), none⟩, ⟨some 16, .bin .neq (.tmp 15) (.con (.i .i64 (0))), none⟩])
 (.cond (.tmp 16) (.seq (.reg [⟨some 17, .mov (.tmp 5), none⟩, ⟨some 4, .mov (.tmp 17), none⟩])
 .ret) .skip)))
 (.seq (.seq (.reg [⟨some 18, .faddr 1 (.tmp 2), none⟩, ⟨some 19, .load false 1 (.tmp 18), none⟩, ⟨some 20, .faddr 1 (.tmp 3), none⟩, ⟨some 21, .load false 1 (.tmp 20), none⟩, ⟨some 22, .call 61 [(.tmp 19), (.tmp 21)], none⟩, ⟨some 6, .mov (.tmp 22), none⟩])
 (.seq (.reg [⟨some 23, .mov (.tmp 6), none⟩, ⟨some 24, .bin .neq (.tmp 23) (.con (.i .i64 (0))), none⟩])
 (.cond (.tmp 24) (.seq (.reg [⟨some 25, .mov (.tmp 6), none⟩, ⟨some 4, .mov (.tmp 25), none⟩])
 .ret) .skip)))
 (.seq (.seq (.reg [⟨some 26, .faddr 2 (.tmp 2), none⟩, ⟨some 27, .load false 1 (.tmp 26), none⟩, ⟨some 28, .faddr 2 (.tmp 3), none⟩, ⟨some 29, .load false 1 (.tmp 28), none⟩, ⟨some 30, .call 62 [(.tmp 27), (.tmp 29)], none⟩, ⟨some 7, .mov (.tmp 30), none⟩])
 (.seq (.reg [⟨some 31, .mov (.tmp 7), none⟩, ⟨some 32, .bin .neq (.tmp 31) (.con (.i .i64 (0))), none⟩])
 (.cond (.tmp 32) (.seq (.reg [⟨some 33, .mov (.tmp 7), none⟩, ⟨some 4, .mov (.tmp 33), none⟩])
 .ret) .skip)))
 (.seq (.seq (.reg [⟨some 8, .mov (.con (.i .i64 (0))), none⟩])
 (.block 0 (.loop [(2, .none), (3, .none), (8, .none)] (.seq (.seq (.reg [⟨some 34, .mov (.tmp 8), none⟩, ⟨some 35, .faddr 3 (.tmp 2), none⟩, ⟨some 36, .load false 1 (.tmp 35), none⟩, ⟨some 37, .len false (.tmp 36), none⟩, ⟨some 38, .bin .lss (.tmp 34) (.tmp 37), none⟩, ⟨some 39, .mov (.tmp 38), none⟩, ⟨some 40, .mov (.tmp 8), some (39, true)⟩, ⟨some 41, .faddr 3 (.tmp 3), some (39, true)⟩, ⟨some 42, .load false 1 (.tmp 41), some (39, true)⟩, ⟨some 43, .len false (.tmp 42), some (39, true)⟩, ⟨some 44, .bin .lss (.tmp 40) (.tmp 43), some (39, true)⟩, ⟨some 45, .pick (.tmp 39) (.tmp 44) (.con (.b false)), none⟩])
 (.cond (.tmp 45) .skip (.exit 0)))
 (.seq (.block 1 (.seq (.draw [⟨some 48, .faddr 3 (.tmp 2), none⟩, ⟨some 49, .load false 1 (.tmp 48), none⟩, ⟨some 50, .mov (.tmp 8), none⟩, ⟨some 51, .iaddr 4 (.tmp 49) (.tmp 50), none⟩, ⟨some 52, .load true 4 (.tmp 51), none⟩, ⟨some 53, .faddr 3 (.tmp 3), none⟩, ⟨some 54, .load false 1 (.tmp 53), none⟩, ⟨some 55, .mov (.tmp 8), none⟩, ⟨some 56, .iaddr 4 (.tmp 54) (.tmp 55), none⟩, ⟨some 57, .load true 4 (.tmp 56), none⟩, ⟨some 58, .call 40 [(.tmp 52), (.tmp 57)], none⟩, ⟨some 9, .mov (.tmp 58), none⟩] [(1, 6), (3, 6), (4, 6), (1, 8), (3, 8), (4, 8), (1, 9), (3, 9), (4, 9)])
 (.seq (.reg [⟨some 59, .mov (.tmp 9), none⟩, ⟨some 60, .bin .neq (.tmp 59) (.con (.i .i64 (0))), none⟩])
 (.cond (.tmp 60) (.seq (.reg [⟨some 61, .mov (.tmp 9), none⟩, ⟨some 4, .mov (.tmp 61), none⟩])
 .ret) .skip))))
 (.reg [⟨some 46, .mov (.tmp 8), none⟩, ⟨some 47, .bin .add (.tmp 46) (.con (.i .i64 (1))), none⟩, ⟨some 8, .mov (.tmp 47), none⟩]))))))
 (.seq (.reg [⟨some 62, .faddr 3 (.tmp 2), none⟩, ⟨some 63, .load false 1 (.tmp 62), none⟩, ⟨some 64, .len false (.tmp 63), none⟩, ⟨some 65, .faddr 3 (.tmp 3), none⟩, ⟨some 66, .load false 1 (.tmp 65), none⟩, ⟨some 67, .len false (.tmp 66), none⟩, ⟨some 68, .call 61 [(.tmp 64), (.tmp 67)], none⟩, ⟨some 4, .mov (.tmp 68), none⟩])
 .ret)))))), [.tmp 4]⟩
theorem c40 : compF Tryd.prog k40 [] Tryd.f40 = some a40 := by kernel_rfl
def k41 : Nat → List (Nat × H) := fun r => if r = 5 then [(0, .row 73 5), (1, .none), (5, .none), (6, .none)] else []
def a41 : AFun := ⟨2, (.seq (.reg [⟨some 4, .mov (.con (.sl .nil 0 [])), none⟩])
 (.seq (.reg [⟨some 8, .mov (.tmp 0), none⟩, ⟨some 9, .mov (.tmp 1), none⟩, ⟨some 10, .call 35 [(.tmp 8), (.tmp 9)], none⟩, ⟨some 5, .mov (.tmp 10), none⟩])
 (.seq (.seq (.reg [⟨some 11, .mov (.tmp 5), none⟩, ⟨some 12, .bin .eql (.tmp 11) (.con (.i .i64 (-1))), none⟩])
 (.cond (.tmp 12) (.seq (.reg [⟨some 13, .mov (.tmp 0), none⟩, ⟨some 4, .mov (.tmp 13), none⟩])
 .ret) .skip))
 (.seq (.seq (.reg [⟨some 14, .mov (.tmp 5), none⟩, ⟨some 15, .bin .add (.tmp 14) (.con (.i .i64 (1))), none⟩, ⟨some 6, .mov (.tmp 15), none⟩])
 (.block 0 (.loop [(0, .row 73 5), (1, .none), (5, .none), (6, .none)] (.seq (.seq (.reg [⟨some 16, .mov (.tmp 6), none⟩, ⟨some 17, .mov (.tmp 0), none⟩, ⟨some 18, .len false (.tmp 17), none⟩, ⟨some 19, .bin .lss (.tmp 16) (.tmp 18), none⟩])
 (.cond (.tmp 19) .skip (.exit 0)))
 (.seq (.block 1 (.seq (.reg [⟨some 22, .mov (.tmp 0), none⟩, ⟨some 23, .mov (.tmp 6), none⟩, ⟨some 24, .iaddr 5 (.tmp 22) (.tmp 23), none⟩, ⟨some 25, .load true 5 (.tmp 24), none⟩, ⟨some 7, .alloc [(.str []), (.i .i64 (0)), (.i .i64 (0)), (.str []), (.sl .nil 0 [])], none⟩, ⟨none, .store 5 (.tmp 7) (.tmp 25), none⟩])
 (.seq (.reg [⟨some 26, .mov (.tmp 1), none⟩, ⟨some 27, .load true 5 (.tmp 7), none⟩, ⟨some 28, .callv (.tmp 26) [(.tmp 27)], none⟩, ⟨some 29, .un .not (.tmp 28), none⟩])
 (.cond (.tmp 29) (.seq (.reg [⟨some 30, .mov (.tmp 0), none⟩, ⟨some 31, .mov (.tmp 5), none⟩, ⟨some 32, .load true 5 (.tmp 7), none⟩, ⟨some 33, .iaddr 5 (.tmp 30) (.tmp 31), none⟩, ⟨none, .store 5 (.tmp 33) (.tmp 32), none⟩])
 (.reg [⟨some 34, .mov (.tmp 5), none⟩, ⟨some 35, .bin .add (.tmp 34) (.con (.i .i64 (1))), none⟩, ⟨some 5, .mov (.tmp 35), none⟩])) .skip))))
 (.reg [⟨some 20, .mov (.tmp 6), none⟩, ⟨some 21, .bin .add (.tmp 20) (.con (.i .i64 (1))), none⟩, ⟨some 6, .mov (.tmp 21), none⟩]))))))
 (.seq (.reg [⟨some 36, .mov (.tmp 0), none⟩, ⟨some 37, .mov (.tmp 5), none⟩, ⟨some 38, .slice 5 (.tmp 36) (some (.tmp 37)) none none, none⟩, ⟨none, .clear [(.str []), (.i .i64 (0)), (.i .i64 (0)), (.str []), (.sl .nil 0 [])] (.tmp 38), none⟩])
 (.seq (.reg [⟨some 39, .mov (.tmp 0), none⟩, ⟨some 40, .mov (.tmp 5), none⟩, ⟨some 41, .slice 5 (.tmp 39) none (some (.tmp 40)) none, none⟩, ⟨some 4, .mov (.tmp 41), none⟩])
 .ret)))))), [.tmp 4]⟩
theorem c41 : compF Tryd.prog k41 [.give (.row 73 5), .borrow] Tryd.f41 = some a41 := by kernel_rfl
def k42 : Nat → List (Nat × H) := fun _ => []
def a42 : AFun := ⟨2, (.seq (.reg [⟨some 2, .box (.tmp 0), none⟩, ⟨some 3, .mov (.con (.b false)), none⟩])
 (.seq (.reg [⟨some 4, .faddr 0 (.tmp 2), none⟩, ⟨some 5, .load false 1 (.tmp 4), none⟩, ⟨some 6, .load false 1 (.tmp 1), none⟩, ⟨some 7, .bin .eql (.tmp 5) (.tmp 6), none⟩, ⟨some 3, .mov (.tmp 7), none⟩])
 .ret)), [.tmp 3]⟩
theorem c42 : compF Tryd.prog k42 [] Tryd.f42 = some a42 := by kernel_rfl
def k43 : Nat → List (Nat × H) := fun _ => []
def a43 : AFun := ⟨2, (.seq (.reg [⟨some 2, .box (.tmp 0), none⟩, ⟨some 3, .box (.tmp 1), none⟩, ⟨some 4, .mov (.con (.i .i64 (0))), none⟩, ⟨some 5, .mov (.con (.b false)), none⟩])
 (.seq (.reg [⟨some 7, .faddr 0 (.tmp 2), none⟩, ⟨some 8, .load false 1 (.tmp 7), none⟩, ⟨some 9, .mkfn 64 [(.tmp 3)], none⟩, ⟨some 10, .call 63 [(.tmp 8), (.tmp 9)], none⟩, ⟨some 6, .mov (.tmp 10), none⟩])
 (.seq (.reg [⟨some 11, .mov (.tmp 6), none⟩, ⟨some 12, .mov (.tmp 6), none⟩, ⟨some 13, .bin .geq (.tmp 12) (.con (.i .i64 (0))), none⟩, ⟨some 4, .mov (.tmp 11), none⟩, ⟨some 5, .mov (.tmp 13), none⟩])
 .ret))), [.tmp 4, .tmp 5]⟩
theorem c43 : compF Tryd.prog k43 [] Tryd.f43 = some a43 := by kernel_rfl
def k44 : Nat → List (Nat × H) := fun r => if r = 5 then [(0, .row 37 5), (1, .none), (5, .none), (6, .none)] else []
def a44 : AFun := ⟨2, (.seq (.reg [⟨some 4, .mov (.con (.sl .nil 0 [])), none⟩])
 (.seq (.reg [⟨some 8, .mov (.tmp 0), none⟩, ⟨some 9, .mov (.tmp 1), none⟩, ⟨some 10, .call 27 [(.tmp 8), (.tmp 9)], none⟩, ⟨some 5, .mov (.tmp 10), none⟩])
 (.seq (.seq (.reg [⟨some 11, .mov (.tmp 5), none⟩, ⟨some 12, .bin .eql (.tmp 11) (.con (.i .i64 (-1))), none⟩])
 (.cond (.tmp 12) (.seq (.reg [⟨some 13, .mov (.tmp 0), none⟩, ⟨some 4, .mov (.tmp 13), none⟩])
 .ret) .skip))
 (.seq (.seq (.reg [⟨some 14, .mov (.tmp 5), none⟩, ⟨some 15, .bin .add (.tmp 14) (.con (.i .i64 (1))), none⟩, ⟨some 6, .mov (.tmp 15), none⟩])
 (.block 0 (.loop [(0, .row 37 5), (1, .none), (5, .none), (6, .none)] (.seq (.seq (.reg [⟨some 16, .mov (.tmp 6), none⟩, ⟨some 17, .mov (.tmp 0), none⟩, ⟨some 18, .len false (.tmp 17), none⟩, ⟨some 19, .bin .lss (.tmp 16) (.tmp 18), none⟩])
 (.cond (.tmp 19) .skip (.exit 0)))
 (.seq (.block 1 (.seq (.reg [⟨some 22, .mov (.tmp 0), none⟩, ⟨some 23, .mov (.tmp 6), none⟩, ⟨some 24, .iaddr 5 (.tmp 22) (.tmp 23), none⟩, ⟨some 25, .load true 5 (.tmp 24), none⟩, ⟨some 7, .alloc [(.i .i64 (0)), (.str []), (.i .i64 (0)), (.i .i64 (0)), (.sl .nil 0 [])], none⟩, ⟨none, .store 5 (.tmp 7) (.tmp 25), none⟩])
 (.seq (.reg [⟨some 26, .mov (.tmp 1), none⟩, ⟨some 27, .load true 5 (.tmp 7), none⟩, ⟨some 28, .callv (.tmp 26) [(.tmp 27)], none⟩, ⟨some 29, .un .not (.tmp 28), none⟩])
 (.cond (.tmp 29) (.seq (.reg [⟨some 30, .mov (.tmp 0), none⟩, ⟨some 31, .mov (.tmp 5), none⟩, ⟨some 32, .load true 5 (.tmp 7), none⟩, ⟨some 33, .iaddr 5 (.tmp 30) (.tmp 31), none⟩, ⟨none, .store 5 (.tmp 33) (.tmp 32), none⟩])
 (.reg [⟨some 34, .mov (.tmp 5), none⟩, ⟨some 35, .bin .add (.tmp 34) (.con (.i .i64 (1))), none⟩, ⟨some 5, .mov (.tmp 35), none⟩])) .skip))))
 (.reg [⟨some 20, .mov (.tmp 6), none⟩, ⟨some 21, .bin .add (.tmp 20) (.con (.i .i64 (1))), none⟩, ⟨some 6, .mov (.tmp 21), none⟩]))))))
 (.seq (.reg [⟨some 36, .mov (.tmp 0), none⟩, ⟨some 37, .mov (.tmp 5), none⟩, ⟨some 38, .slice 5 (.tmp 36) (some (.tmp 37)) none none, none⟩, ⟨none, .clear [(.i .i64 (0)), (.str []), (.i .i64 (0)), (.i .i64 (0)), (.sl .nil 0 [])] (.tmp 38), none⟩])
 (.seq (.reg [⟨some 39, .mov (.tmp 0), none⟩, ⟨some 40, .mov (.tmp 5), none⟩, ⟨some 41, .slice 5 (.tmp 39) none (some (.tmp 40)) none, none⟩, ⟨some 4, .mov (.tmp 41), none⟩])
 .ret)))))), [.tmp 4]⟩
theorem c44 : compF Tryd.prog k44 [.give (.row 37 5), .borrow] Tryd.f44 = some a44 := by kernel_rfl
def k45 : Nat → List (Nat × H) := fun _ => []
def a45 : AFun := ⟨2, (.seq (.reg [⟨some 2, .box (.tmp 0), none⟩, ⟨some 3, .mov (.con (.b false)), none⟩])
 (.seq (.reg [⟨some 4, .faddr 0 (.tmp 2), none⟩, ⟨some 5, .load false 1 (.tmp 4), none⟩, ⟨some 6, .faddr 1 (.tmp 1), none⟩, ⟨some 7, .load false 1 (.tmp 6), none⟩, ⟨some 8, .bin .eql (.tmp 5) (.tmp 7), none⟩, ⟨some 3, .mov (.tmp 8), none⟩])
 .ret)), [.tmp 3]⟩
theorem c45 : compF Tryd.prog k45 [] Tryd.f45 = some a45 := by kernel_rfl
def k46 : Nat → List (Nat × H) := fun r => if r = 5 then [(0, .row 31 3), (1, .none), (5, .none), (6, .none)] else []
def a46 : AFun := ⟨2, (.seq (.reg [⟨some 4, .mov (.con (.sl .nil 0 [])), none⟩])
 (.seq (.reg [⟨some 8, .mov (.tmp 0), none⟩, ⟨some 9, .mov (.tmp 1), none⟩, ⟨some 10, .call 63 [(.tmp 8), (.tmp 9)], none⟩, ⟨some 5, .mov (.tmp 10), none⟩])
 (.seq (.seq (.reg [⟨some 11, .mov (.tmp 5), none⟩, ⟨some 12, .bin .eql (.tmp 11) (.con (.i .i64 (-1))), none⟩])
 (.cond (.tmp 12) (.seq (.reg [⟨some 13, .mov (.tmp 0), none⟩, ⟨some 4, .mov (.tmp 13), none⟩])
 .ret) .skip))
 (.seq (.seq (.reg [⟨some 14, .mov (.tmp 5), none⟩, ⟨some 15, .bin .add (.tmp 14) (.con (.i .i64 (1))), none⟩, ⟨some 6, .mov (.tmp 15), none⟩])
 (.block 0 (.loop [(0, .row 31 3), (1, .none), (5, .none), (6, .none)] (.seq (.seq (.reg [⟨some 16, .mov (.tmp 6), none⟩, ⟨some 17, .mov (.tmp 0), none⟩, ⟨some 18, .len false (.tmp 17), none⟩, ⟨some 19, .bin .lss (.tmp 16) (.tmp 18), none⟩])
 (.cond (.tmp 19) .skip (.exit 0)))
 (.seq (.block 1 (.seq (.reg [⟨some 22, .mov (.tmp 0), none⟩, ⟨some 23, .mov (.tmp 6), none⟩, ⟨some 24, .iaddr 3 (.tmp 22) (.tmp 23), none⟩, ⟨some 25, .load true 3 (.tmp 24), none⟩, ⟨some 7, .alloc [(.i .i64 (0)), (.str []), (.sl .nil 0 [])], none⟩, ⟨none, .store 3 (.tmp 7) (.tmp 25), none⟩])
 (.seq (.reg [⟨some 26, .mov (.tmp 1), none⟩, ⟨some 27, .load true 3 (.tmp 7), none⟩, ⟨some 28, .callv (.tmp 26) [(.tmp 27)], none⟩, ⟨some 29, .un .not (.tmp 28), none⟩])
 (.cond (.tmp 29) (.seq (.reg [⟨some 30, .mov (.tmp 0), none⟩, ⟨some 31, .mov (.tmp 5), none⟩, ⟨some 32, .load true 3 (.tmp 7), none⟩, ⟨some 33, .iaddr 3 (.tmp 30) (.tmp 31), none⟩, ⟨none, .store 3 (.tmp 33) (.tmp 32), none⟩])
 (.reg [⟨some 34, .mov (.tmp 5), none⟩, ⟨some 35, .bin .add (.tmp 34) (.con (.i .i64 (1))), none⟩, ⟨some 5, .mov (.tmp 35), none⟩])) .skip))))
 (.reg [⟨some 20, .mov (.tmp 6), none⟩, ⟨some 21, .bin .add (.tmp 20) (.con (.i .i64 (1))), none⟩, ⟨some 6, .mov (.tmp 21), none⟩]))))))
 (.seq (.reg [⟨some 36, .mov (.tmp 0), none⟩, ⟨some 37, .mov (.tmp 5), none⟩, ⟨some 38, .slice 3 (.tmp 36) (some (.tmp 37)) none none, none⟩, ⟨none, .clear [(.i .i64 (0)), (.str []), (.sl .nil 0 [])] (.tmp 38), none⟩])
 (.seq (.reg [⟨some 39, .mov (.tmp 0), none⟩, ⟨some 40, .mov (.tmp 5), none⟩, ⟨some 41, .slice 3 (.tmp 39) none (some (.tmp 40)) none, none⟩, ⟨some 4, .mov (.tmp 41), none⟩])
 .ret)))))), [.tmp 4]⟩
theorem c46 : compF Tryd.prog k46 [.give (.row 31 3), .borrow] Tryd.f46 = some a46 := by kernel_rfl
def k47 : Nat → List (Nat × H) := fun _ => []
def a47 : AFun := ⟨2, (.seq (.reg [⟨some 2, .box (.tmp 0), none⟩, ⟨some 3, .mov (.con (.b false)), none⟩])
 (.seq (.reg [⟨some 4, .faddr 0 (.tmp 2), none⟩, ⟨some 5, .load false 1 (.tmp 4), none⟩, ⟨some 6, .faddr 1 (.tmp 1), none⟩, ⟨some 7, .load false 1 (.tmp 6), none⟩, ⟨some 8, .bin .eql (.tmp 5) (.tmp 7), none⟩, ⟨some 3, .mov (.tmp 8), none⟩])
 .ret)), [.tmp 3]⟩
theorem c47 : compF Tryd.prog k47 [] Tryd.f47 = some a47 := by kernel_rfl
def k48 : Nat → List (Nat × H) := fun _ => []
def a48 : AFun := ⟨2, (.seq (.reg [⟨some 2, .box (.tmp 0), none⟩, ⟨some 3, .mov (.con (.b false)), none⟩])
 (.seq (.reg [⟨some 4, .faddr 2 (.tmp 2), none⟩, ⟨some 5, .load false 1 (.tmp 4), none⟩, ⟨some 6, .faddr 1 (.tmp 1), none⟩, ⟨some 7, .load false 1 (.tmp 6), none⟩, ⟨some 8, .bin .eql (.tmp 5) (.tmp 7), none⟩, ⟨some 9, .mov (.tmp 8), none⟩, ⟨some 10, .faddr 3 (.tmp 2), some (9, false)⟩, ⟨some 11, .load false 1 (.tmp 10), some (9, false)⟩, ⟨some 12, .faddr 1 (.tmp 1), some (9, false)⟩, ⟨some 13, .load false 1 (.tmp 12), some (9, false)⟩, ⟨some 14, .bin .eql (.tmp 11) (.tmp 13), some (9, false)⟩, ⟨some 15, .pick (.tmp 9) (.con (.b true)) (.tmp 14), none⟩, ⟨some 3, .mov (.tmp 15), none⟩])
 .ret)), [.tmp 3]⟩
theorem c48 : compF Tryd.prog k48 [] Tryd.f48 = some a48 := by kernel_rfl
def k50 : Nat → List (Nat × H) := fun r => if r = 1 then [(2, .none), (7, .none), (8, .none), (9, .none)] else []
def a50 : AFun := ⟨3, (.seq (.reg [⟨some 6, .faddr 1 (.tmp 1), none⟩, ⟨some 7, .load false 1 (.tmp 6), none⟩, ⟨some 8, .len false (.tmp 7), none⟩, ⟨some 9, .mov (.con (.i .i64 (0))), none⟩])
 (.block 0 (.loop [(2, .none), (7, .none), (8, .none), (9, .none)] (.seq (.reg [⟨some 10, .bin .lss (.tmp 9) (.tmp 8), none⟩])
 (.seq (.cond (.tmp 10) .skip (.exit 0))
 (.seq (.block 1 (.seq (.reg [⟨some 11, .iaddr 5 (.tmp 7) (.tmp 9), none⟩, ⟨some 12, .load true 5 (.tmp 11), none⟩, ⟨some 5, .alloc [(.i .i64 (0)), (.str []), (.i .i64 (0)), (.i .i64 (0)), (.sl .nil 0 [])], none⟩, ⟨none, .store 5 (.tmp 5) (.tmp 12), none⟩])
 (.seq (.reg [⟨some 13, .load false 1 (.tmp 2), none⟩, ⟨some 14, .load true 5 (.tmp 5), none⟩, ⟨some 15, .callv (.tmp 13) [(.tmp 14)], none⟩, ⟨some 16, .mov (.tmp 15), none⟩, ⟨some 17, .mov (.tmp 0), some (16, true)⟩, ⟨some 18, .load true 5 (.tmp 5), some (16, true)⟩, ⟨some 19, .call 51 [(.tmp 18)], some (16, true)⟩, ⟨some 20, .callv (.tmp 17) [(.tmp 19)], some (16, true)⟩, ⟨some 21, .un .not (.tmp 20), some (16, true)⟩, ⟨some 22, .pick (.tmp 16) (.tmp 21) (.con (.b false)), none⟩])
 (.cond (.tmp 22) .ret .skip))))
 (.reg [⟨some 23, .bin .add (.tmp 9) (.con (.i .i64 (1))), none⟩, ⟨some 9, .mov (.tmp 23), none⟩]))))))), []⟩
theorem c50 : compF Tryd.prog k50 [.inout (.none)] Tryd.f50 = some a50 := by kernel_rfl
def k51 : Nat → List (Nat × H) := fun _ => []
def a51 : AFun := ⟨1, (.seq (.reg [⟨some 1, .box (.tmp 0), none⟩, ⟨some 2, .alloc [(.i .i64 (0)), (.str []), (.i .i64 (0)), (.i .i64 (0)), (.sl .nil 0 [])], none⟩])
 (.seq (.reg [⟨some 3, .faddr 4 (.tmp 1), none⟩, ⟨some 4, .load false 1 (.tmp 3), none⟩, ⟨some 5, .call 53 [(.tmp 4)], none⟩, ⟨some 6, .faddr 4 (.tmp 1), none⟩, ⟨none, .store 1 (.tmp 6) (.tmp 5), none⟩])
 (.seq (.reg [⟨some 7, .load true 5 (.tmp 1), none⟩, ⟨none, .store 5 (.tmp 2) (.tmp 7), none⟩])
 .ret))), [.cell 2 true 5]⟩
theorem c51 : compF Tryd.prog k51 [] Tryd.f51 = some a51 := by kernel_rfl
def k52 : Nat → List (Nat × H) := fun _ => []
def a52 : AFun := ⟨2, (.seq (.reg [⟨some 4, .mov (.con (.b false)), none⟩])
 (.seq (.reg [⟨some 5, .mov (.tmp 0), none⟩, ⟨some 6, .mov (.tmp 1), none⟩, ⟨some 7, .call 72 [(.tmp 5), (.tmp 6)], none⟩, ⟨some 8, .bin .geq (.tmp 7) (.con (.i .i64 (0))), none⟩, ⟨some 4, .mov (.tmp 8), none⟩])
 .ret)), [.tmp 4]⟩
theorem c52 : compF Tryd.prog k52 [] Tryd.f52 = some a52 := by kernel_rfl
def k53 : Nat → List (Nat × H) := fun r => if r = 4 then [(3, .row 73 5), (12, .none), (13, .none)] else []
def a53 : AFun := ⟨1, (.seq (.reg [⟨some 2, .mov (.con (.sl .nil 0 [])), none⟩])
 (.seq (.reg [⟨some 5, .mov (.tmp 0), none⟩, ⟨some 6, .len false (.tmp 5), none⟩, ⟨some 7, .mkslice 73 [(.str []), (.i .i64 (0)), (.i .i64 (0)), (.str []), (.sl .nil 0 [])] (.tmp 6), none⟩, ⟨some 3, .mov (.tmp 7), none⟩])
 (.seq (.reg [⟨some 8, .mov (.tmp 3), none⟩, ⟨some 9, .mov (.tmp 0), none⟩, ⟨some 10, .copy 5 (.tmp 8) (.tmp 9), none⟩])
 (.seq (.seq (.reg [⟨some 11, .mov (.tmp 3), none⟩, ⟨some 12, .len false (.tmp 11), none⟩, ⟨some 13, .mov (.con (.i .i64 (0))), none⟩])
 (.block 0 (.loop [(3, .row 73 5), (12, .none), (13, .none)] (.seq (.reg [⟨some 14, .bin .lss (.tmp 13) (.tmp 12), none⟩])
 (.seq (.cond (.tmp 14) .skip (.exit 0))
 (.seq (.block 1 (.seq (.reg [⟨some 15, .mov (.tmp 13), none⟩, ⟨some 4, .mov (.tmp 15), none⟩])
 (.reg [⟨some 16, .mov (.tmp 3), none⟩, ⟨some 17, .mov (.tmp 4), none⟩, ⟨some 18, .mov (.tmp 3), none⟩, ⟨some 19, .mov (.tmp 4), none⟩, ⟨some 20, .iaddr 5 (.tmp 18) (.tmp 19), none⟩, ⟨some 21, .faddr 1 (.tmp 20), none⟩, ⟨some 22, .load true 4 (.tmp 21), none⟩, ⟨some 23, .call 34 [(.tmp 22)], none⟩, ⟨some 24, .iaddr 5 (.tmp 16) (.tmp 17), none⟩, ⟨some 25, .faddr 1 (.tmp 24), none⟩, ⟨none, .store 4 (.tmp 25) (.tmp 23), none⟩])))
 (.reg [⟨some 26, .bin .add (.tmp 13) (.con (.i .i64 (1))), none⟩, ⟨some 13, .mov (.tmp 26), none⟩])))))))
 (.seq (.reg [⟨some 27, .mov (.tmp 3), none⟩, ⟨some 2, .mov (.tmp 27), none⟩])
 .ret))))), [.tmp 2]⟩
theorem c53 : compF Tryd.prog k53 [] Tryd.f53 = some a53 := by kernel_rfl
def k54 : Nat → List (Nat × H) := fun _ => []
def a54 : AFun := ⟨1, (.seq (.reg [⟨some 1, .box (.tmp 0), none⟩, ⟨some 2, .alloc [(.i .i64 (0)), (.str []), (.sl .nil 0 [])], none⟩])
 (.seq (.reg [⟨some 3, .faddr 2 (.tmp 1), none⟩, ⟨some 4, .load false 1 (.tmp 3), none⟩, ⟨some 5, .call 53 [(.tmp 4)], none⟩, ⟨some 6, .faddr 2 (.tmp 1), none⟩, ⟨none, .store 1 (.tmp 6) (.tmp 5), none⟩])
 (.seq (.reg [⟨some 7, .load true 3 (.tmp 1), none⟩, ⟨none, .store 3 (.tmp 2) (.tmp 7), none⟩])
 .ret))), [.cell 2 true 3]⟩
theorem c54 : compF Tryd.prog k54 [] Tryd.f54 = some a54 := by kernel_rfl
def k55 : Nat → List (Nat × H) := fun _ => []
def a55 : AFun := ⟨2, (.seq (.reg [⟨some 2, .box (.tmp 0), none⟩, ⟨some 3, .box (.tmp 1), none⟩, ⟨some 4, .mov (.con (.i .i64 (0))), none⟩, ⟨some 5, .mov (.con (.b false)), none⟩])
 (.seq (.reg [⟨some 7, .faddr 1 (.tmp 2), none⟩, ⟨some 8, .load false 1 (.tmp 7), none⟩, ⟨some 9, .mkfn 73 [(.tmp 3)], none⟩, ⟨some 10, .call 27 [(.tmp 8), (.tmp 9)], none⟩, ⟨some 6, .mov (.tmp 10), none⟩])
 (.seq (.reg [⟨some 11, .mov (.tmp 6), none⟩, ⟨some 12, .mov (.tmp 6), none⟩, ⟨some 13, .bin .geq (.tmp 12) (.con (.i .i64 (0))), none⟩, ⟨some 4, .mov (.tmp 11), none⟩, ⟨some 5, .mov (.tmp 13), none⟩])
 .ret))), [.tmp 4, .tmp 5]⟩
theorem c55 : compF Tryd.prog k55 [] Tryd.f55 = some a55 := by kernel_rfl
def k56 : Nat → List (Nat × H) := fun r => if r = 22 then [(2, .none), (3, .none), (6, .none)] else []
def a56 : AFun := ⟨2, (.seq (.reg [⟨some 2, .box (.tmp 0), none⟩, ⟨some 3, .box (.tmp 1), none⟩, ⟨some 4, .mov (.con (.b false)), none⟩])
 (.seq (.seq (.reg [⟨some 7, .load false 1 (.tmp 3), none⟩, ⟨some 8, .bin .gtr (.tmp 7) (.con (.i .i64 (8))), none⟩])
 (.cond (.tmp 8) (.seq (.reg [⟨some 4, .mov (.con (.b false)), none⟩])
 .ret) .skip))
 (.seq (.reg [⟨some 9, .faddr 2 (.tmp 2), none⟩, ⟨some 10, .load false 1 (.tmp 9), none⟩, ⟨some 11, .bin .eql (.tmp 10) (.con (.str [])), none⟩, ⟨some 12, .mov (.tmp 11), none⟩, ⟨some 13, .faddr 3 (.tmp 2), some (12, true)⟩, ⟨some 14, .load false 1 (.tmp 13), some (12, true)⟩, ⟨some 15, .len false (.tmp 14), some (12, true)⟩, ⟨some 16, .bin .eql (.tmp 15) (.con (.i .i64 (0))), some (12, true)⟩, ⟨some 17, .pick (.tmp 12) (.tmp 16) (.con (.b false)), none⟩, ⟨some 5, .mov (.tmp 17), none⟩])
 (.seq (.seq (.reg [⟨some 18, .faddr 0 (.tmp 2), none⟩, ⟨some 19, .load false 1 (.tmp 18), none⟩])
 (.block 0 (.seq (.reg [⟨some 21, .bin .eql (.tmp 19) (.con (.i .i64 (1))), none⟩, ⟨some 20, .mov (.tmp 21), none⟩])
 (.cond (.tmp 20) (.seq (.reg [⟨some 22, .mov (.tmp 5), none⟩, ⟨some 4, .mov (.tmp 22), none⟩])
 .ret) (.seq (.reg [⟨some 24, .bin .eql (.tmp 19) (.con (.i .i64 (3))), none⟩, ⟨some 23, .mov (.tmp 24), none⟩])
 (.cond (.tmp 23) (.seq (.reg [⟨some 25, .mov (.tmp 5), none⟩, ⟨some 26, .mov (.tmp 25), none⟩, ⟨some 27, .faddr 1 (.tmp 2), some (26, true)⟩, ⟨some 28, .load false 1 (.tmp 27), some (26, true)⟩, ⟨some 29, .bin .eql (.tmp 28) (.con (.i .i64 (0))), some (26, true)⟩, ⟨some 30, .mov (.tmp 29), some (26, true)⟩, ⟨some 31, .faddr 1 (.tmp 2), some (30, false)⟩, ⟨some 32, .load false 1 (.tmp 31), some (30, false)⟩, ⟨some 33, .bin .eql (.tmp 32) (.con (.i .i64 (1))), some (30, false)⟩, ⟨some 34, .pick (.tmp 30) (.con (.b true)) (.tmp 33), some (26, true)⟩, ⟨some 35, .pick (.tmp 26) (.tmp 34) (.con (.b false)), none⟩, ⟨some 4, .mov (.tmp 35), none⟩])
 .ret) (.seq (.seq (.reg [⟨some 37, .bin .eql (.tmp 19) (.con (.i .i64 (6))), none⟩, ⟨some 36, .mov (.tmp 37), none⟩])
 (.cond (.tmp 36) .skip (.reg [⟨some 38, .bin .eql (.tmp 19) (.con (.i .i64 (7))), none⟩, ⟨some 36, .mov (.tmp 38), none⟩])))
 (.cond (.tmp 36) (.seq (.reg [⟨some 39, .mov (.tmp 5), none⟩, ⟨some 40, .mov (.tmp 39), none⟩, ⟨some 41, .faddr 1 (.tmp 2), some (40, true)⟩, ⟨some 42, .load false 1 (.tmp 41), some (40, true)⟩, ⟨some 43, .bin .geq (.tmp 42) (.con (.i .i64 (1))), some (40, true)⟩, ⟨some 44, .pick (.tmp 40) (.tmp 43) (.con (.b false)), none⟩, ⟨some 45, .mov (.tmp 44), none⟩, ⟨some 46, .faddr 1 (.tmp 2), some (45, true)⟩, ⟨some 47, .load false 1 (.tmp 46), some (45, true)⟩, ⟨some 48, .bin .leq (.tmp 47) (.con (.i .i64 (281474976710656))), some (45, true)⟩, ⟨some 49, .pick (.tmp 45) (.tmp 48) (.con (.b false)), none⟩, ⟨some 4, .mov (.tmp 49), none⟩])
 .ret) (.seq (.reg [⟨some 51, .bin .eql (.tmp 19) (.con (.i .i64 (2))), none⟩, ⟨some 50, .mov (.tmp 51), none⟩])
 (.cond (.tmp 50) (.seq (.reg [⟨some 52, .faddr 1 (.tmp 2), none⟩, ⟨some 53, .load false 1 (.tmp 52), none⟩, ⟨some 54, .bin .eql (.tmp 53) (.con (.i .i64 (0))), none⟩, ⟨some 55, .mov (.tmp 54), none⟩, ⟨some 56, .faddr 3 (.tmp 2), some (55, true)⟩, ⟨some 57, .load false 1 (.tmp 56), some (55, true)⟩, ⟨some 58, .len false (.tmp 57), some (55, true)⟩, ⟨some 59, .bin .eql (.tmp 58) (.con (.i .i64 (0))), some (55, true)⟩, ⟨some 60, .pick (.tmp 55) (.tmp 59) (.con (.b false)), none⟩, ⟨some 61, .mov (.tmp 60), none⟩, ⟨some 62, .faddr 2 (.tmp 2), some (61, true)⟩, ⟨some 63, .load false 1 (.tmp 62), some (61, true)⟩, ⟨some 64, .len true (.tmp 63), some (61, true)⟩, ⟨some 65, .bin .leq (.tmp 64) (.con (.i .i64 (128))), some (61, true)⟩, ⟨some 66, .pick (.tmp 61) (.tmp 65) (.con (.b false)), none⟩, ⟨some 4, .mov (.tmp 66), none⟩])
 .ret) (.seq (.reg [⟨some 68, .bin .eql (.tmp 19) (.con (.i .i64 (4))), none⟩, ⟨some 67, .mov (.tmp 68), none⟩])
 (.cond (.tmp 67) (.seq (.reg [⟨some 69, .faddr 3 (.tmp 2), none⟩, ⟨some 70, .load false 1 (.tmp 69), none⟩, ⟨some 71, .len false (.tmp 70), none⟩, ⟨some 72, .bin .gtr (.tmp 71) (.con (.i .i64 (256))), none⟩])
 (.cond (.tmp 72) (.seq (.reg [⟨some 4, .mov (.con (.b false)), none⟩])
 .ret) .skip)) (.seq (.reg [⟨some 74, .bin .eql (.tmp 19) (.con (.i .i64 (5))), none⟩, ⟨some 73, .mov (.tmp 74), none⟩])
 (.cond (.tmp 73) (.seq (.seq (.reg [⟨some 75, .faddr 3 (.tmp 2), none⟩, ⟨some 76, .load false 1 (.tmp 75), none⟩, ⟨some 77, .len false (.tmp 76), none⟩, ⟨some 78, .bin .gtr (.tmp 77) (.con (.i .i64 (512))), none⟩, ⟨some 79, .mov (.tmp 78), none⟩, ⟨some 80, .faddr 3 (.tmp 2), some (79, false)⟩, ⟨some 81, .load false 1 (.tmp 80), some (79, false)⟩, ⟨some 82, .len false (.tmp 81), some (79, false)⟩, ⟨some 83, .bin .rem (.tmp 82) (.con (.i .i64 (2))), some (79, false)⟩, ⟨some 84, .bin .eql (.tmp 83) (.con (.i .i64 (1))), some (79, false)⟩, ⟨some 85, .pick (.tmp 79) (.con (.b true)) (.tmp 84), none⟩])
 (.cond (.tmp 85) (.seq (.reg [⟨some 4, .mov (.con (.b false)), none⟩])
 .ret) .skip))
 (.seq (.reg [⟨some 6, .mov (.con (.i .i64 (2))), none⟩])
 (.block 1 (.loop [(2, .none), (3, .none), (6, .none)] (.seq (.seq (.reg [⟨some 86, .mov (.tmp 6), none⟩, ⟨some 87, .faddr 3 (.tmp 2), none⟩, ⟨some 88, .load false 1 (.tmp 87), none⟩, ⟨some 89, .len false (.tmp 88), none⟩, ⟨some 90, .bin .lss (.tmp 86) (.tmp 89), none⟩])
 (.cond (.tmp 90) .skip (.exit 1)))
 (.seq (.block 2 (.seq (.draw [⟨some 93, .faddr 3 (.tmp 2), none⟩, ⟨some 94, .load false 1 (.tmp 93), none⟩, ⟨some 95, .mov (.tmp 6), none⟩, ⟨some 96, .bin .sub (.tmp 95) (.con (.i .i64 (2))), none⟩, ⟨some 97, .iaddr 4 (.tmp 94) (.tmp 96), none⟩, ⟨some 98, .load true 4 (.tmp 97), none⟩, ⟨some 99, .faddr 3 (.tmp 2), none⟩, ⟨some 100, .load false 1 (.tmp 99), none⟩, ⟨some 101, .mov (.tmp 6), none⟩, ⟨some 102, .iaddr 4 (.tmp 100) (.tmp 101), none⟩, ⟨some 103, .load true 4 (.tmp 102), none⟩, ⟨some 104, .call 74 [(.tmp 98), (.tmp 103)], none⟩, ⟨some 105, .bin .geq (.tmp 104) (.con (.i .i64 (0))), none⟩] [(1, 7), (4, 7), (5, 7), (1, 9), (4, 9), (5, 9), (1, 10), (4, 10), (5, 10)])
 (.cond (.tmp 105) (.seq (.reg [⟨some 4, .mov (.con (.b false)), none⟩])
 .ret) .skip)))
 (.reg [⟨some 91, .mov (.tmp 6), none⟩, ⟨some 92, .bin .add (.tmp 91) (.con (.i .i64 (2))), none⟩, ⟨some 6, .mov (.tmp 92), none⟩]))))))) (.seq (.reg [⟨some 4, .mov (.con (.b false)), none⟩])
 .ret)))))))))))))))
 (.seq (.reg [⟨some 106, .faddr 1 (.tmp 2), none⟩, ⟨some 107, .load false 1 (.tmp 106), none⟩, ⟨some 108, .bin .eql (.tmp 107) (.con (.i .i64 (0))), none⟩, ⟨some 109, .mov (.tmp 108), none⟩, ⟨some 110, .faddr 2 (.tmp 2), some (109, true)⟩, ⟨some 111, .load false 1 (.tmp 110), some (109, true)⟩, ⟨some 112, .bin .eql (.tmp 111) (.con (.str [])), some (109, true)⟩, ⟨some 113, .pick (.tmp 109) (.tmp 112) (.con (.b false)), none⟩, ⟨some 114, .mov (.tmp 113), none⟩, ⟨some 115, .faddr 3 (.tmp 2), some (114, true)⟩, ⟨some 116, .load false 1 (.tmp 115), some (114, true)⟩, ⟨some 117, .mkfn 76 [(.tmp 3)], some (114, true)⟩, ⟨some 118, .call 75 [(.tmp 116), (.tmp 117)], some (114, true)⟩, ⟨some 119, .un .not (.tmp 118), some (114, true)⟩, ⟨some 120, .pick (.tmp 114) (.tmp 119) (.con (.b false)), none⟩, ⟨some 4, .mov (.tmp 120), none⟩])
 .ret))))), [.tmp 4]⟩
theorem c56 : compF Tryd.prog k56 [] Tryd.f56 = some a56 := by kernel_rfl
def k57 : Nat → List (Nat × H) := fun _ => []
def a57 : AFun := ⟨1, (.seq (.reg [⟨some 2, .mov (.con (.sl .nil 0 [])), none⟩])
 (.seq (.seq (.reg [⟨some 3, .mov (.tmp 0), none⟩, ⟨some 4, .eqnil .sl false (.tmp 3), none⟩])
 (.cond (.tmp 4) (.seq (.reg [⟨some 2, .mov (.con (.sl .nil 0 [])), none⟩])
 .ret) .skip))
 (.seq (.reg [⟨some 5, .bslice 43 [(.i .i64 (0)), (.i .i64 (0)), (.str []), (.sl .nil 0 [])] 0 [], none⟩, ⟨some 6, .mov (.tmp 0), none⟩, ⟨some 7, .app 43 4 (.tmp 5) (.tmp 6), none⟩, ⟨some 2, .mov (.tmp 7), none⟩])
 .ret))), [.tmp 2]⟩
theorem c57 : compF Tryd.prog k57 [] Tryd.f57 = some a57 := by kernel_rfl
def k60 : Nat → List (Nat × H) := fun r => if r = 4 then [(0, .none), (1, .none), (5, .none)] else []
def a60 : AFun := ⟨2, (.seq (.reg [⟨some 4, .mov (.con (.b false)), none⟩])
 (.seq (.seq (.reg [⟨some 6, .mov (.tmp 0), none⟩, ⟨some 7, .len false (.tmp 6), none⟩, ⟨some 8, .mov (.tmp 1), none⟩, ⟨some 9, .len false (.tmp 8), none⟩, ⟨some 10, .bin .neq (.tmp 7) (.tmp 9), none⟩])
 (.cond (.tmp 10) (.seq (.reg [⟨some 4, .mov (.con (.b false)), none⟩])
 .ret) .skip))
 (.seq (.seq (.reg [⟨some 5, .mov (.con (.i .i64 (0))), none⟩])
 (.block 0 (.loop [(0, .none), (1, .none), (5, .none)] (.seq (.seq (.reg [⟨some 11, .mov (.tmp 5), none⟩, ⟨some 12, .mov (.tmp 0), none⟩, ⟨some 13, .len false (.tmp 12), none⟩, ⟨some 14, .bin .lss (.tmp 11) (.tmp 13), none⟩])
 (.cond (.tmp 14) .skip (.exit 0)))
 (.seq (.block 1 (.seq (.draw [⟨some 17, .mov (.tmp 0), none⟩, ⟨some 18, .mov (.tmp 5), none⟩, ⟨some 19, .iaddr 5 (.tmp 17) (.tmp 18), none⟩, ⟨some 20, .faddr 0 (.tmp 19), none⟩, ⟨some 21, .load false 1 (.tmp 20), none⟩, ⟨some 22, .mov (.tmp 1), none⟩, ⟨some 23, .mov (.tmp 5), none⟩, ⟨some 24, .iaddr 5 (.tmp 22) (.tmp 23), none⟩, ⟨some 25, .faddr 0 (.tmp 24), none⟩, ⟨some 26, .load false 1 (.tmp 25), none⟩, ⟨some 27, .bin .neq (.tmp 21) (.tmp 26), none⟩, ⟨some 28, .mov (.tmp 27), none⟩, ⟨some 29, .mov (.tmp 0), some (28, false)⟩, ⟨some 30, .mov (.tmp 5), some (28, false)⟩, ⟨some 31, .iaddr 5 (.tmp 29) (.tmp 30), some (28, false)⟩, ⟨some 32, .faddr 1 (.tmp 31), some (28, false)⟩, ⟨some 33, .load true 4 (.tmp 32), some (28, false)⟩, ⟨some 34, .mov (.tmp 1), some (28, false)⟩, ⟨some 35, .mov (.tmp 5), some (28, false)⟩, ⟨some 36, .iaddr 5 (.tmp 34) (.tmp 35), some (28, false)⟩, ⟨some 37, .faddr 1 (.tmp 36), some (28, false)⟩, ⟨some 38, .load true 4 (.tmp 37), some (28, false)⟩, ⟨some 39, .call 16 [(.tmp 33), (.tmp 38)], some (28, false)⟩, ⟨some 40, .un .not (.tmp 39), some (28, false)⟩, ⟨some 41, .pick (.tmp 28) (.con (.b true)) (.tmp 40), none⟩] [(2, 7), (4, 7), (2, 9), (4, 9), (14, 19), (16, 19), (14, 21), (16, 21)])
 (.cond (.tmp 41) (.seq (.reg [⟨some 4, .mov (.con (.b false)), none⟩])
 .ret) .skip)))
 (.reg [⟨some 15, .mov (.tmp 5), none⟩, ⟨some 16, .bin .add (.tmp 15) (.con (.i .i64 (1))), none⟩, ⟨some 5, .mov (.tmp 16), none⟩]))))))
 (.seq (.reg [⟨some 4, .mov (.con (.b true)), none⟩])
 .ret)))), [.tmp 4]⟩
theorem c60 : compF Tryd.prog k60 [] Tryd.f60 = some a60 := by kernel_rfl
def k61 : Nat → List (Nat × H) := fun _ => []
def a61 : AFun := ⟨2, (.seq (.reg [⟨some 4, .mov (.con (.i .i64 (0))), none⟩])
 (.seq (.seq (.reg [⟨some 5, .mov (.tmp 0), none⟩, ⟨some 6, .mov (.tmp 1), none⟩, ⟨some 7, .bin .lss (.tmp 5) (.tmp 6), none⟩])
 (.cond (.tmp 7) (.seq (.reg [⟨some 4, .mov (.con (.i .i64 (-1))), none⟩])
 .ret) .skip))
 (.seq (.seq (.reg [⟨some 8, .mov (.tmp 0), none⟩, ⟨some 9, .mov (.tmp 1), none⟩, ⟨some 10, .bin .gtr (.tmp 8) (.tmp 9), none⟩])
 (.cond (.tmp 10) (.seq (.reg [⟨some 4, .mov (.con (.i .i64 (1))), none⟩])
 .ret) .skip))
 (.seq (.reg [⟨some 4, .mov (.con (.i .i64 (0))), none⟩])
 .ret)))), [.tmp 4]⟩
theorem c61 : compF Tryd.prog k61 [] Tryd.f61 = some a61 := by kernel_rfl
def k62 : Nat → List (Nat × H) := fun r => if r = 2 then [(0, .none), (1, .none), (5, .none)] else []
def a62 : AFun := ⟨2, (.seq (.reg [⟨some 4, .mov (.con (.i .i64 (0))), none⟩])
 (.seq (.seq (.reg [⟨some 5, .mov (.con (.i .i64 (0))), none⟩])
 (.block 0 (.loop [(0, .none), (1, .none), (5, .none)] (.seq (.seq (.reg [⟨some 6, .mov (.tmp 5), none⟩, ⟨some 7, .mov (.tmp 0), none⟩, ⟨some 8, .len true (.tmp 7), none⟩, ⟨some 9, .bin .lss (.tmp 6) (.tmp 8), none⟩, ⟨some 10, .mov (.tmp 9), none⟩, ⟨some 11, .mov (.tmp 5), some (10, true)⟩, ⟨some 12, .mov (.tmp 1), some (10, true)⟩, ⟨some 13, .len true (.tmp 12), some (10, true)⟩, ⟨some 14, .bin .lss (.tmp 11) (.tmp 13), some (10, true)⟩, ⟨some 15, .pick (.tmp 10) (.tmp 14) (.con (.b false)), none⟩])
 (.cond (.tmp 15) .skip (.exit 0)))
 (.seq (.block 1 (.seq (.draw [⟨some 18, .mov (.tmp 0), none⟩, ⟨some 19, .mov (.tmp 5), none⟩, ⟨some 20, .idx (.tmp 18) (.tmp 19), none⟩, ⟨some 21, .mov (.tmp 1), none⟩, ⟨some 22, .mov (.tmp 5), none⟩, ⟨some 23, .idx (.tmp 21) (.tmp 22), none⟩, ⟨some 24, .bin .neq (.tmp 20) (.tmp 23), none⟩] [])
 (.cond (.tmp 24) (.seq (.draw [⟨some 25, .mov (.tmp 0), none⟩, ⟨some 26, .mov (.tmp 5), none⟩, ⟨some 27, .idx (.tmp 25) (.tmp 26), none⟩, ⟨some 28, .conv (.int .i64) (.tmp 27), none⟩, ⟨some 29, .mov (.tmp 1), none⟩, ⟨some 30, .mov (.tmp 5), none⟩, ⟨some 31, .idx (.tmp 29) (.tmp 30), none⟩, ⟨some 32, .conv (.int .i64) (.tmp 31), none⟩, ⟨some 33, .call 61 [(.tmp 28), (.tmp 32)], none⟩, ⟨some 4, .mov (.tmp 33), none⟩] [])
 .ret) .skip)))
 (.reg [⟨some 16, .mov (.tmp 5), none⟩, ⟨some 17, .bin .add (.tmp 16) (.con (.i .i64 (1))), none⟩, ⟨some 5, .mov (.tmp 17), none⟩]))))))
 (.seq (.reg [⟨some 34, .mov (.tmp 0), none⟩, ⟨some 35, .len true (.tmp 34), none⟩, ⟨some 36, .mov (.tmp 1), none⟩, ⟨some 37, .len true (.tmp 36), none⟩, ⟨some 38, .call 61 [(.tmp 35), (.tmp 37)], none⟩, ⟨some 4, .mov (.tmp 38), none⟩])
 .ret))), [.tmp 4]⟩
theorem c62 : compF Tryd.prog k62 [] Tryd.f62 = some a62 := by kernel_rfl
def k63 : Nat → List (Nat × H) := fun r => if r = 2 then [(0, .none), (1, .none), (7, .none), (8, .none)] else []
def a63 : AFun := ⟨2, (.seq (.reg [⟨some 4, .mov (.con (.i .i64 (0))), none⟩])
 (.seq (.seq (.reg [⟨some 6, .mov (.tmp 0), none⟩, ⟨some 7, .len false (.tmp 6), none⟩, ⟨some 8, .mov (.con (.i .i64 (0))), none⟩])
 (.block 0 (.loop [(0, .none), (1, .none), (7, .none), (8, .none)] (.seq (.reg [⟨some 9, .bin .lss (.tmp 8) (.tmp 7), none⟩])
 (.seq (.cond (.tmp 9) .skip (.exit 0))
 (.seq (.block 1 (.seq (.reg [⟨some 10, .mov (.tmp 8), none⟩, ⟨some 5, .mov (.tmp 10), none⟩])
 (.seq (.reg [⟨some 11, .mov (.tmp 1), none⟩, ⟨some 12, .mov (.tmp 0), none⟩, ⟨some 13, .mov (.tmp 5), none⟩, ⟨some 14, .iaddr 3 (.tmp 12) (.tmp 13), none⟩, ⟨some 15, .load true 3 (.tmp 14), none⟩, ⟨some 16, .callv (.tmp 11) [(.tmp 15)], none⟩])
 (.cond (.tmp 16) (.seq (.reg [⟨some 17, .mov (.tmp 5), none⟩, ⟨some 4, .mov (.tmp 17), none⟩])
 .ret) .skip))))
 (.reg [⟨some 18, .bin .add (.tmp 8) (.con (.i .i64 (1))), none⟩, ⟨some 8, .mov (.tmp 18), none⟩])))))))
 (.seq (.reg [⟨some 4, .mov (.con (.i .i64 (-1))), none⟩])
 .ret))), [.tmp 4]⟩
theorem c63 : compF Tryd.prog k63 [] Tryd.f63 = some a63 := by kernel_rfl
def k64 : Nat → List (Nat × H) := fun _ => []
def a64 : AFun := ⟨2, (.seq (.reg [⟨some 2, .box (.tmp 0), none⟩, ⟨some 3, .mov (.con (.b false)), none⟩])
 (.seq (.reg [⟨some 4, .faddr 0 (.tmp 2), none⟩, ⟨some 5, .load false 1 (.tmp 4), none⟩, ⟨some 6, .load false 1 (.tmp 1), none⟩, ⟨some 7, .bin .eql (.tmp 5) (.tmp 6), none⟩, ⟨some 3, .mov (.tmp 7), none⟩])
 .ret)), [.tmp 3]⟩
theorem c64 : compF Tryd.prog k64 [] Tryd.f64 = some a64 := by kernel_rfl
def k72 : Nat → List (Nat × H) := fun r => if r = 2 then [(0, .none), (1, .none), (7, .none), (8, .none)] else []
def a72 : AFun := ⟨2, (.seq (.reg [⟨some 4, .mov (.con (.i .i64 (0))), none⟩])
 (.seq (.seq (.reg [⟨some 6, .mov (.tmp 0), none⟩, ⟨some 7, .len false (.tmp 6), none⟩, ⟨some 8, .mov (.con (.i .i64 (0))), none⟩])
 (.block 0 (.loop [(0, .none), (1, .none), (7, .none), (8, .none)] (.seq (.reg [⟨some 9, .bin .lss (.tmp 8) (.tmp 7), none⟩])
 (.seq (.cond (.tmp 9) .skip (.exit 0))
 (.seq (.block 1 (.seq (.reg [⟨some 10, .mov (.tmp 8), none⟩, ⟨some 5, .mov (.tmp 10), none⟩])
 (.seq (.reg [⟨some 11, .mov (.tmp 1), none⟩, ⟨some 12, .mov (.tmp 0), none⟩, ⟨some 13, .mov (.tmp 5), none⟩, ⟨some 14, .iaddr 1 (.tmp 12) (.tmp 13), none⟩, ⟨some 15, .load false 1 (.tmp 14), none⟩, ⟨some 16, .bin .eql (.tmp 11) (.tmp 15), none⟩])
 (.cond (.tmp 16) (.seq (.reg [⟨some 17, .mov (.tmp 5), none⟩, ⟨some 4, .mov (.tmp 17), none⟩])
 .ret) .skip))))
 (.reg [⟨some 18, .bin .add (.tmp 8) (.con (.i .i64 (1))), none⟩, ⟨some 8, .mov (.tmp 18), none⟩])))))))
 (.seq (.reg [⟨some 4, .mov (.con (.i .i64 (-1))), none⟩])
 .ret))), [.tmp 4]⟩
theorem c72 : compF Tryd.prog k72 [] Tryd.f72 = some a72 := by kernel_rfl
def k73 : Nat → List (Nat × H) := fun _ => []
def a73 : AFun := ⟨2, (.seq (.reg [⟨some 2, .box (.tmp 0), none⟩, ⟨some 3, .mov (.con (.b false)), none⟩])
 (.seq (.reg [⟨some 4, .faddr 0 (.tmp 2), none⟩, ⟨some 5, .load false 1 (.tmp 4), none⟩, ⟨some 6, .load false 1 (.tmp 1), none⟩, ⟨some 7, .bin .eql (.tmp 5) (.tmp 6), none⟩, ⟨some 3, .mov (.tmp 7), none⟩])
 .ret)), [.tmp 3]⟩
theorem c73 : compF Tryd.prog k73 [] Tryd.f73 = some a73 := by kernel_rfl
def k74 : Nat → List (Nat × H) := fun _ => []
def a74 : AFun := ⟨2, (.seq (.reg [⟨some 2, .box (.tmp 0), none⟩, ⟨some 3, .box (.tmp 1), none⟩, ⟨some 4, .mov (.con (.i .i64 (0))), none⟩])
 (.seq (.draw [⟨some 5, .faddr 0 (.tmp 2), none⟩, ⟨some 6, .load false 1 (.tmp 5), none⟩, ⟨some 7, .faddr 0 (.tmp 3), none⟩, ⟨some 8, .load false 1 (.tmp 7), none⟩, ⟨some 9, .call 83 [(.tmp 6), (.tmp 8)], none⟩, ⟨some 10, .faddr 1 (.tmp 2), none⟩, ⟨some 11, .load false 1 (.tmp 10), none⟩, ⟨some 12, .faddr 1 (.tmp 3), none⟩, ⟨some 13, .load false 1 (.tmp 12), none⟩, ⟨some 14, .call 84 [(.tmp 11), (.tmp 13)], none⟩, ⟨some 15, .faddr 2 (.tmp 2), none⟩, ⟨some 16, .load false 1 (.tmp 15), none⟩, ⟨some 17, .faddr 2 (.tmp 3), none⟩, ⟨some 18, .load false 1 (.tmp 17), none⟩, ⟨some 19, .call 85 [(.tmp 16), (.tmp 18)], none⟩, ⟨some 20, .faddr 3 (.tmp 2), none⟩, ⟨some 21, .load false 1 (.tmp 20), none⟩, ⟨some 22, .faddr 3 (.tmp 3), none⟩, ⟨some 23, .load false 1 (.tmp 22), none⟩, ⟨some 24, .call 86 [(.tmp 21), (.tmp 23), (.con (.fn 74 []))], none⟩, ⟨some 25, .bslice 3 [(.i .i64 (0))] 4 [(0, (.tmp 9)), (1, (.tmp 14)), (2, (.tmp 19)), (3, (.tmp 24))], none⟩, ⟨some 26, .call 82 [(.tmp 25)], none⟩, ⟨some 4, .mov (.tmp 26), none⟩] [(1, 3), (1, 6), (3, 6), (4, 6), (1, 8), (3, 8), (4, 8), (6, 8), (1, 11), (3, 11), (4, 11), (6, 11), (8, 11), (9, 11), (1, 13), (3, 13), (4, 13), (6, 13), (8, 13), (9, 13), (11, 13), (1, 16), (3, 16), (4, 16), (6, 16), (8, 16), (9, 16), (11, 16), (13, 16), (14, 16), (1, 18), (3, 18), (4, 18), (6, 18), (8, 18), (9, 18), (11, 18), (13, 18), (14, 18), (16, 18)])
 .ret)), [.tmp 4]⟩
theorem c74 : compF Tryd.prog k74 [] Tryd.f74 = some a74 := by kernel_rfl
def k75 : Nat → List (Nat × H) := fun _ => []
def a75 : AFun := ⟨2, (.seq (.reg [⟨some 4, .mov (.con (.b false)), none⟩])
 (.seq (.reg [⟨some 5, .mov (.tmp 0), none⟩, ⟨some 6, .mov (.tmp 1), none⟩, ⟨some 7, .call 87 [(.tmp 5), (.tmp 6)], none⟩, ⟨some 8, .bin .geq (.tmp 7) (.con (.i .i64 (0))), none⟩, ⟨some 4, .mov (.tmp 8), none⟩])
 .ret)), [.tmp 4]⟩
theorem c75 : compF Tryd.prog k75 [] Tryd.f75 = some a75 := by kernel_rfl
def k76 : Nat → List (Nat × H) := fun _ => []
def a76 : AFun := ⟨2, (.seq (.reg [⟨some 2, .box (.tmp 0), none⟩, ⟨some 3, .mov (.con (.b false)), none⟩])
 (.seq (.reg [⟨some 4, .load true 4 (.tmp 2), none⟩, ⟨some 5, .load false 1 (.tmp 1), none⟩, ⟨some 6, .bin .add (.tmp 5) (.con (.i .i64 (1))), none⟩, ⟨some 7, .call 56 [(.tmp 4), (.tmp 6)], none⟩, ⟨some 8, .un .not (.tmp 7), none⟩, ⟨some 3, .mov (.tmp 8), none⟩])
 .ret)), [.tmp 3]⟩
theorem c76 : compF Tryd.prog k76 [] Tryd.f76 = some a76 := by kernel_rfl
def k82 : Nat → List (Nat × H) := fun r => if r = 3 then [(3, .none), (6, .none), (7, .none), (8, .none)] else []
def a82 : AFun := ⟨1, (.seq (.reg [⟨some 2, .mov (.con (.i .i64 (0))), none⟩])
 (.seq (.reg [⟨some 3, .mov (.con (.i .i64 (0))), none⟩])
 (.seq (.seq (.reg [⟨some 6, .mov (.tmp 0), none⟩, ⟨some 7, .len false (.tmp 6), none⟩, ⟨some 8, .mov (.con (.i .i64 (0))), none⟩])
 (.block 0 (.loop [(3, .none), (6, .none), (7, .none), (8, .none)] (.seq (.reg [⟨some 9, .bin .lss (.tmp 8) (.tmp 7), none⟩])
 (.seq (.cond (.tmp 9) .skip (.exit 0))
 (.seq (.block 1 (.seq (.reg [⟨some 10, .iaddr 1 (.tmp 6) (.tmp 8), none⟩, ⟨some 11, .load false 1 (.tmp 10), none⟩, ⟨some 5, .mov (.tmp 11), none⟩])
 (.seq (.reg [⟨some 12, .mov (.tmp 5), none⟩, ⟨some 13, .mov (.tmp 3), none⟩, ⟨some 14, .bin .neq (.tmp 12) (.tmp 13), none⟩])
 (.cond (.tmp 14) (.seq (.reg [⟨some 15, .mov (.tmp 5), none⟩, ⟨some 2, .mov (.tmp 15), none⟩])
 .ret) .skip))))
 (.reg [⟨some 16, .bin .add (.tmp 8) (.con (.i .i64 (1))), none⟩, ⟨some 8, .mov (.tmp 16), none⟩])))))))
 (.seq (.reg [⟨some 17, .mov (.tmp 3), none⟩, ⟨some 2, .mov (.tmp 17), none⟩])
 .ret)))), [.tmp 2]⟩
theorem c82 : compF Tryd.prog k82 [] Tryd.f82 = some a82 := by kernel_rfl
def k83 : Nat → List (Nat × H) := fun _ => []
def a83 : AFun := ⟨2, (.seq (.reg [⟨some 4, .mov (.con (.i .i64 (0))), none⟩])
 (.seq (.reg [⟨some 7, .mov (.tmp 0), none⟩, ⟨some 8, .call 92 [(.tmp 7)], none⟩, ⟨some 5, .mov (.tmp 8), none⟩])
 (.seq (.reg [⟨some 9, .mov (.tmp 1), none⟩, ⟨some 10, .call 92 [(.tmp 9)], none⟩, ⟨some 6, .mov (.tmp 10), none⟩])
 (.seq (.seq (.reg [⟨some 11, .mov (.tmp 5), none⟩])
 (.cond (.tmp 11) (.seq (.seq (.reg [⟨some 12, .mov (.tmp 6), none⟩])
 (.cond (.tmp 12) (.seq (.reg [⟨some 4, .mov (.con (.i .i64 (0))), none⟩])
 .ret) .skip))
 (.seq (.reg [⟨some 4, .mov (.con (.i .i64 (-1))), none⟩])
 .ret)) .skip))
 (.seq (.seq (.reg [⟨some 13, .mov (.tmp 6), none⟩])
 (.cond (.tmp 13) (.seq (.reg [⟨some 4, .mov (.con (.i .i64 (1))), none⟩])
 .ret) .skip))
 (.seq (.seq (.reg [⟨some 14, .mov (.tmp 0), none⟩, ⟨some 15, .mov (.tmp 1), none⟩, ⟨some 16, .bin .lss (.tmp 14) (.tmp 15), none⟩])
 (.cond (.tmp 16) (.seq (.reg [⟨some 4, .mov (.con (.i .i64 (-1))), none⟩])
 .ret) .skip))
 (.seq (.seq (.reg [⟨some 17, .mov (.tmp 0), none⟩, ⟨some 18, .mov (.tmp 1), none⟩, ⟨some 19, .bin .gtr (.tmp 17) (.tmp 18), none⟩])
 (.cond (.tmp 19) (.seq (.reg [⟨some 4, .mov (.con (.i .i64 (1))), none⟩])
 .ret) .skip))
 (.seq (.reg [⟨some 4, .mov (.con (.i .i64 (0))), none⟩])
 .ret)))))))), [.tmp 4]⟩
theorem c83 : compF Tryd.prog k83 [] Tryd.f83 = some a83 := by kernel_rfl
def k84 : Nat → List (Nat × H) := fun _ => []
def a84 : AFun := ⟨2, (.seq (.reg [⟨some 4, .mov (.con (.i .i64 (0))), none⟩])
 (.seq (.reg [⟨some 7, .mov (.tmp 0), none⟩, ⟨some 8, .call 93 [(.tmp 7)], none⟩, ⟨some 5, .mov (.tmp 8), none⟩])
 (.seq (.reg [⟨some 9, .mov (.tmp 1), none⟩, ⟨some 10, .call 93 [(.tmp 9)], none⟩, ⟨some 6, .mov (.tmp 10), none⟩])
 (.seq (.seq (.reg [⟨some 11, .mov (.tmp 5), none⟩])
 (.cond (.tmp 11) (.seq (.seq (.reg [⟨some 12, .mov (.tmp 6), none⟩])
 (.cond (.tmp 12) (.seq (.reg [⟨some 4, .mov (.con (.i .i64 (0))), none⟩])
 .ret) .skip))
 (.seq (.reg [⟨some 4, .mov (.con (.i .i64 (-1))), none⟩])
 .ret)) .skip))
 (.seq (.seq (.reg [⟨some 13, .mov (.tmp 6), none⟩])
 (.cond (.tmp 13) (.seq (.reg [⟨some 4, .mov (.con (.i .i64 (1))), none⟩])
 .ret) .skip))
 (.seq (.seq (.reg [⟨some 14, .mov (.tmp 0), none⟩, ⟨some 15, .mov (.tmp 1), none⟩, ⟨some 16, .bin .lss (.tmp 14) (.tmp 15), none⟩])
 (.cond (.tmp 16) (.seq (.reg [⟨some 4, .mov (.con (.i .i64 (-1))), none⟩])
 .ret) .skip))
 (.seq (.seq (.reg [⟨some 17, .mov (.tmp 0), none⟩, ⟨some 18, .mov (.tmp 1), none⟩, ⟨some 19, .bin .gtr (.tmp 17) (.tmp 18), none⟩])
 (.cond (.tmp 19) (.seq (.reg [⟨some 4, .mov (.con (.i .i64 (1))), none⟩])
 .ret) .skip))
 (.seq (.reg [⟨some 4, .mov (.con (.i .i64 (0))), none⟩])
 .ret)))))))), [.tmp 4]⟩
theorem c84 : compF Tryd.prog k84 [] Tryd.f84 = some a84 := by kernel_rfl
def k85 : Nat → List (Nat × H) := fun _ => []
def a85 : AFun := ⟨2, (.seq (.reg [⟨some 4, .mov (.con (.i .i64 (0))), none⟩])
 (.seq (.reg [⟨some 5, .mov (.tmp 0), none⟩, ⟨some 6, .mov (.tmp 1), none⟩, ⟨some 7, .call 94 [(.tmp 5), (.tmp 6)], none⟩, ⟨some 4, .mov (.tmp 7), none⟩])
 .ret)), [.tmp 4]⟩
theorem c85 : compF Tryd.prog k85 [] Tryd.f85 = some a85 := by kernel_rfl
def k86 : Nat → List (Nat × H) := fun r => if r = 2 then [(0, .none), (1, .none), (2, .none), (11, .none), (12, .none), (13, .none)] else []
def a86 : AFun := ⟨3, (.seq (.reg [⟨some 6, .mov (.con (.i .i64 (0))), none⟩])
 (.seq (.seq (.reg [⟨some 11, .mov (.tmp 0), none⟩, ⟨some 12, .len false (.tmp 11), none⟩, ⟨some 13, .mov (.con (.i .i64 (0))), none⟩])
 (.block 0 (.loop [(0, .none), (1, .none), (2, .none), (11, .none), (12, .none), (13, .none)] (.seq (.reg [⟨some 14, .bin .lss (.tmp 13) (.tmp 12), none⟩])
 (.seq (.cond (.tmp 14) .skip (.exit 0))
 (.seq (.block 1 (.seq (.reg [⟨some 15, .mov (.tmp 13), none⟩, ⟨some 16, .iaddr 4 (.tmp 11) (.tmp 13), none⟩, ⟨some 17, .load true 4 (.tmp 16), none⟩, ⟨some 8, .alloc [(.i .i64 (0)), (.i .i64 (0)), (.str []), (.sl .nil 0 [])], none⟩, ⟨some 7, .mov (.tmp 15), none⟩, ⟨none, .store 4 (.tmp 8) (.tmp 17), none⟩])
 (.seq (.seq (.reg [⟨some 18, .mov (.tmp 7), none⟩, ⟨some 19, .mov (.tmp 1), none⟩, ⟨some 20, .len false (.tmp 19), none⟩, ⟨some 21, .bin .geq (.tmp 18) (.tmp 20), none⟩])
 (.cond (.tmp 21) (.seq (.reg [⟨some 6, .mov (.con (.i .i64 (1))), none⟩])
 .ret) .skip))
 (.seq (.reg [⟨some 22, .mov (.tmp 1), none⟩, ⟨some 23, .mov (.tmp 7), none⟩, ⟨some 24, .iaddr 4 (.tmp 22) (.tmp 23), none⟩, ⟨some 25, .load true 4 (.tmp 24), none⟩, ⟨some 9, .alloc [(.i .i64 (0)), (.i .i64 (0)), (.str []), (.sl .nil 0 [])], none⟩, ⟨none, .store 4 (.tmp 9) (.tmp 25), none⟩])
 (.seq (.reg [⟨some 26, .mov (.tmp 2), none⟩, ⟨some 27, .load true 4 (.tmp 8), none⟩, ⟨some 28, .load true 4 (.tmp 9), none⟩, ⟨some 29, .callv (.tmp 26) [(.tmp 27), (.tmp 28)], none⟩, ⟨some 10, .mov (.tmp 29), none⟩])
 (.seq (.reg [⟨some 30, .mov (.tmp 10), none⟩, ⟨some 31, .bin .neq (.tmp 30) (.con (.i .i64 (0))), none⟩])
 (.cond (.tmp 31) (.seq (.reg [⟨some 32, .mov (.tmp 10), none⟩, ⟨some 6, .mov (.tmp 32), none⟩])
 .ret) .skip)))))))
 (.reg [⟨some 33, .bin .add (.tmp 13) (.con (.i .i64 (1))), none⟩, ⟨some 13, .mov (.tmp 33), none⟩])))))))
 (.seq (.seq (.reg [⟨some 34, .mov (.tmp 0), none⟩, ⟨some 35, .len false (.tmp 34), none⟩, ⟨some 36, .mov (.tmp 1), none⟩, ⟨some 37, .len false (.tmp 36), none⟩, ⟨some 38, .bin .lss (.tmp 35) (.tmp 37), none⟩])
 (.cond (.tmp 38) (.seq (.reg [⟨some 6, .mov (.con (.i .i64 (-1))), none⟩])
 .ret) .skip))
 (.seq (.reg [⟨some 6, .mov (.con (.i .i64 (0))), none⟩])
 .ret)))), [.tmp 6]⟩
theorem c86 : compF Tryd.prog k86 [] Tryd.f86 = some a86 := by kernel_rfl
def k87 : Nat → List (Nat × H) := fun r => if r = 2 then [(0, .none), (1, .none), (7, .none), (8, .none)] else []
def a87 : AFun := ⟨2, (.seq (.reg [⟨some 4, .mov (.con (.i .i64 (0))), none⟩])
 (.seq (.seq (.reg [⟨some 6, .mov (.tmp 0), none⟩, ⟨some 7, .len false (.tmp 6), none⟩, ⟨some 8, .mov (.con (.i .i64 (0))), none⟩])
 (.block 0 (.loop [(0, .none), (1, .none), (7, .none), (8, .none)] (.seq (.reg [⟨some 9, .bin .lss (.tmp 8) (.tmp 7), none⟩])
 (.seq (.cond (.tmp 9) .skip (.exit 0))
 (.seq (.block 1 (.seq (.reg [⟨some 10, .mov (.tmp 8), none⟩, ⟨some 5, .mov (.tmp 10), none⟩])
 (.seq (.reg [⟨some 11, .mov (.tmp 1), none⟩, ⟨some 12, .mov (.tmp 0), none⟩, ⟨some 13, .mov (.tmp 5), none⟩, ⟨some 14, .iaddr 4 (.tmp 12) (.tmp 13), none⟩, ⟨some 15, .load true 4 (.tmp 14), none⟩, ⟨some 16, .callv (.tmp 11) [(.tmp 15)], none⟩])
 (.cond (.tmp 16) (.seq (.reg [⟨some 17, .mov (.tmp 5), none⟩, ⟨some 4, .mov (.tmp 17), none⟩])
 .ret) .skip))))
 (.reg [⟨some 18, .bin .add (.tmp 8) (.con (.i .i64 (1))), none⟩, ⟨some 8, .mov (.tmp 18), none⟩])))))))
 (.seq (.reg [⟨some 4, .mov (.con (.i .i64 (-1))), none⟩])
 .ret))), [.tmp 4]⟩
theorem c87 : compF Tryd.prog k87 [] Tryd.f87 = some a87 := by kernel_rfl
def k92 : Nat → List (Nat × H) := fun _ => []
def a92 : AFun := ⟨1, (.seq (.reg [⟨some 2, .mov (.con (.b false)), none⟩])
 (.seq (.reg [⟨some 3, .mov (.tmp 0), none⟩, ⟨some 4, .mov (.tmp 0), none⟩, ⟨some 5, .bin .neq (.tmp 3) (.tmp 4), none⟩, ⟨some 2, .mov (.tmp 5), none⟩])
 .ret)), [.tmp 2]⟩
theorem c92 : compF Tryd.prog k92 [] Tryd.f92 = some a92 := by kernel_rfl
def k93 : Nat → List (Nat × H) := fun _ => []
def a93 : AFun := ⟨1, (.seq (.reg [⟨some 2, .mov (.con (.b false)), none⟩])
 (.seq (.reg [⟨some 3, .mov (.tmp 0), none⟩, ⟨some 4, .mov (.tmp 0), none⟩, ⟨some 5, .bin .neq (.tmp 3) (.tmp 4), none⟩, ⟨some 2, .mov (.tmp 5), none⟩])
 .ret)), [.tmp 2]⟩
theorem c93 : compF Tryd.prog k93 [] Tryd.f93 = some a93 := by kernel_rfl
def k94 : Nat → List (Nat × H) := fun _ => []
def a94 : AFun := ⟨2, (.seq (.reg [⟨some 4, .mov (.con (.i .i64 (0))), none⟩])
 (.seq (.reg [⟨some 5, .mov (.tmp 0), none⟩, ⟨some 6, .mov (.tmp 1), none⟩, ⟨some 7, .call 99 [(.tmp 5), (.tmp 6)], none⟩, ⟨some 4, .mov (.tmp 7), none⟩])
 .ret)), [.tmp 4]⟩
theorem c94 : compF Tryd.prog k94 [] Tryd.f94 = some a94 := by kernel_rfl
def k1000031 : Nat → List (Nat × H) := fun r => if r = 3 then [(1, .none), (2, .none), (3, .cells [.rowd 31 3]), (12, .none), (13, .none), (14, .none)] else if r = 8 then [(2, .none), (3, .cells [.none, .rowd 37 5]), (27, .none), (28, .none), (29, .none)] else if r = 999998 then [(22, .none), (23, .none), (37, .none), (38, .none)] else []
def a1000031 : AFun := ⟨1, (.seq (.reg [⟨some 1, .box (.tmp 0), none⟩, ⟨some 2, .alloc [(.sl .nil 0 []), (.sl .nil 0 []), (.i .i64 (0))], none⟩])
 (.seq (.reg [⟨some 8, .faddr 2 (.tmp 1), none⟩, ⟨some 9, .load false 1 (.tmp 8), none⟩, ⟨some 10, .build [(.sl .nil 0 []), (.sl .nil 0 []), (.i .i64 (0))] [(2, 1, (.tmp 9))], none⟩, ⟨some 3, .alloc [(.sl .nil 0 []), (.sl .nil 0 []), (.i .i64 (0))], none⟩, ⟨none, .store 3 (.tmp 3) (.tmp 10), none⟩])
 (.seq (.seq (.reg [⟨some 11, .faddr 0 (.tmp 1), none⟩, ⟨some 12, .load false 1 (.tmp 11), none⟩, ⟨some 13, .len false (.tmp 12), none⟩, ⟨some 14, .mov (.con (.i .i64 (0))), none⟩])
 (.block 0 (.loop [(1, .none), (2, .none), (3, .cells [.rowd 31 3]), (12, .none), (13, .none), (14, .none)] (.seq (.reg [⟨some 15, .bin .lss (.tmp 14) (.tmp 13), none⟩])
 (.seq (.cond (.tmp 15) .skip (.exit 0))
 (.seq (.block 1 (.seq (.reg [⟨some 16, .iaddr 3 (.tmp 12) (.tmp 14), none⟩, ⟨some 17, .load true 3 (.tmp 16), none⟩, ⟨some 5, .alloc [(.i .i64 (0)), (.str []), (.sl .nil 0 [])], none⟩, ⟨none, .store 3 (.tmp 5) (.tmp 17), none⟩])
 (.draw [⟨some 18, .faddr 0 (.tmp 3), none⟩, ⟨some 19, .load false 1 (.tmp 18), none⟩, ⟨some 20, .load true 3 (.tmp 5), none⟩, ⟨some 21, .call 54 [(.tmp 20)], none⟩, ⟨some 22, .bsliced 31 [(.i .i64 (0)), (.str []), (.sl .nil 0 [])] 1 [(0, (.tmp 21))], none⟩, ⟨some 23, .appd 31 3 (.tmp 19) (.tmp 22), none⟩, ⟨some 24, .faddr 0 (.tmp 3), none⟩, ⟨none, .store 1 (.tmp 24) (.tmp 23), none⟩] [(1, 2), (1, 3), (1, 4)])))
 (.reg [⟨some 25, .bin .add (.tmp 14) (.con (.i .i64 (1))), none⟩, ⟨some 14, .mov (.tmp 25), none⟩])))))))
 (.seq (.seq (.reg [⟨some 26, .faddr 1 (.tmp 1), none⟩, ⟨some 27, .load false 1 (.tmp 26), none⟩, ⟨some 28, .len false (.tmp 27), none⟩, ⟨some 29, .mov (.con (.i .i64 (0))), none⟩])
 (.block 2 (.loop [(2, .none), (3, .cells [.none, .rowd 37 5]), (27, .none), (28, .none), (29, .none)] (.seq (.reg [⟨some 30, .bin .lss (.tmp 29) (.tmp 28), none⟩])
 (.seq (.cond (.tmp 30) .skip (.exit 2))
 (.seq (.block 3 (.seq (.reg [⟨some 31, .iaddr 5 (.tmp 27) (.tmp 29), none⟩, ⟨some 32, .load true 5 (.tmp 31), none⟩, ⟨some 7, .alloc [(.i .i64 (0)), (.str []), (.i .i64 (0)), (.i .i64 (0)), (.sl .nil 0 [])], none⟩, ⟨none, .store 5 (.tmp 7) (.tmp 32), none⟩])
 (.draw [⟨some 33, .faddr 1 (.tmp 3), none⟩, ⟨some 34, .load false 1 (.tmp 33), none⟩, ⟨some 35, .load true 5 (.tmp 7), none⟩, ⟨some 36, .call 51 [(.tmp 35)], none⟩, ⟨some 37, .bsliced 37 [(.i .i64 (0)), (.str []), (.i .i64 (0)), (.i .i64 (0)), (.sl .nil 0 [])] 1 [(0, (.tmp 36))], none⟩, ⟨some 38, .appd 37 5 (.tmp 34) (.tmp 37), none⟩, ⟨some 39, .faddr 1 (.tmp 3), none⟩, ⟨none, .store 1 (.tmp 39) (.tmp 38), none⟩] [(1, 2), (1, 3), (1, 4)])))
 (.reg [⟨some 40, .bin .add (.tmp 29) (.con (.i .i64 (1))), none⟩, ⟨some 29, .mov (.tmp 40), none⟩])))))))
 (.seq (.reg [⟨some 41, .load true 3 (.tmp 3), none⟩, ⟨none, .store 3 (.tmp 2) (.tmp 41), none⟩])
 .ret))))), [.cell 2 true 3]⟩
theorem c1000031 : compF Tryd.prog k1000031 [] Tryd.f31 = some a1000031 := by kernel_rfl
def k1000032 : Nat → List (Nat × H) := fun _ => []
def a1000032 : AFun := ⟨2, (.seq (.reg [⟨some 2, .box (.tmp 0), none⟩, ⟨some 3, .box (.tmp 1), none⟩, ⟨some 4, .mov (.con .nilp), none⟩])
 (.seq (.seq (.reg [⟨some 9, .faddr 0 (.tmp 3), none⟩, ⟨some 10, .load false 1 (.tmp 9), none⟩])
 (.block 0 (.seq (.reg [⟨some 12, .bin .eql (.tmp 10) (.con (.i .i64 (6))), none⟩, ⟨some 11, .mov (.tmp 12), none⟩])
 (.cond (.tmp 11) (.seq (.reg [⟨some 14, .load true 3 (.tmp 2), none⟩, ⟨some 15, .faddr 1 (.tmp 3), none⟩, ⟨some 16, .load false 1 (.tmp 15), none⟩, ⟨some 17, .call 43 [(.tmp 14), (.tmp 16)], none⟩, ⟨some 13, .mov (.tmp 17), none⟩, ⟨some 18, .ext (.tmp 13) 0, none⟩, ⟨some 19, .ext (.tmp 13) 1, none⟩, ⟨some 5, .mov (.tmp 18), none⟩, ⟨some 6, .mov (.tmp 19), none⟩])
 (.seq (.reg [⟨some 20, .mov (.tmp 6), none⟩])
 (.cond (.tmp 20) (.seq (.reg [⟨some 21, .faddr 0 (.tmp 2), none⟩, ⟨some 22, .load false 1 (.tmp 21), none⟩, ⟨some 23, .mov (.tmp 5), none⟩, ⟨some 24, .iaddr 3 (.tmp 22) (.tmp 23), none⟩, ⟨some 25, .faddr 2 (.tmp 24), none⟩, ⟨some 4, .mov (.tmp 25), none⟩])
 .ret) .skip))) (.seq (.reg [⟨some 27, .bin .eql (.tmp 10) (.con (.i .i64 (7))), none⟩, ⟨some 26, .mov (.tmp 27), none⟩])
 (.cond (.tmp 26) (.seq (.reg [⟨some 29, .load true 3 (.tmp 2), none⟩, ⟨some 30, .faddr 1 (.tmp 3), none⟩, ⟨some 31, .load false 1 (.tmp 30), none⟩, ⟨some 32, .call 55 [(.tmp 29), (.tmp 31)], none⟩, ⟨some 28, .mov (.tmp 32), none⟩, ⟨some 33, .ext (.tmp 28) 0, none⟩, ⟨some 34, .ext (.tmp 28) 1, none⟩, ⟨some 7, .mov (.tmp 33), none⟩, ⟨some 8, .mov (.tmp 34), none⟩])
 (.seq (.reg [⟨some 35, .mov (.tmp 8), none⟩])
 (.cond (.tmp 35) (.seq (.reg [⟨some 36, .faddr 1 (.tmp 2), none⟩, ⟨some 37, .load false 1 (.tmp 36), none⟩, ⟨some 38, .mov (.tmp 7), none⟩, ⟨some 39, .iaddr 5 (.tmp 37) (.tmp 38), none⟩, ⟨some 40, .faddr 4 (.tmp 39), none⟩, ⟨some 4, .mov (.tmp 40), none⟩])
 .ret) .skip))) .skip))))))
 (.seq (.reg [⟨some 4, .mov (.con .nilp), none⟩])
 .ret))), [.tmp 4]⟩
theorem c1000032 : compF Tryd.prog k1000032 [] Tryd.f32 = some a1000032 := by kernel_rfl
end Go.Proofs.YtgeaibhgaihobaaDoor
