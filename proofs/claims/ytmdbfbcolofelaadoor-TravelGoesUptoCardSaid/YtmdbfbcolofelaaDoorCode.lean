/-
  The functions' code for the abstract machine, printed by a program of ours; each checked against the loaded program.
-/
import Derived.Test.YtmdbfbcolofelaaDoorFa
import Derived.Test.YtmdbfbcolofelaaDoorProg
import Derived.KernelRfl
set_option maxRecDepth 100000
namespace Go.Proofs.YtmdbfbcolofelaaDoor
open Go.Abs
/-- ramble/ramblelaw18.TravelWay -/
def k3 : Nat → List (Nat × H) := fun r => if r = 8 then [(1, .none), (2, .none), (3, .none), (7, .none), (9, .none), (41, .none), (42, .none), (43, .none)] else []
def a3 : AFun := ⟨3, (.seq (.reg [⟨some 3, .box (.tmp 0), none⟩, ⟨some 6, .mov (.con (.b false)), none⟩])
 (.seq (.seq (.reg [⟨some 18, .call 7 [], none⟩, ⟨some 19, .un .not (.tmp 18), none⟩, ⟨some 20, .mov (.tmp 19), none⟩, ⟨some 21, .faddr 4 (.tmp 3), some (20, false)⟩, ⟨some 22, .load false 1 (.tmp 21), some (20, false)⟩, ⟨some 23, .len false (.tmp 22), some (20, false)⟩, ⟨some 24, .mov (.tmp 1), some (20, false)⟩, ⟨some 25, .len false (.tmp 24), some (20, false)⟩, ⟨some 26, .bin .add (.tmp 23) (.tmp 25), some (20, false)⟩, ⟨some 27, .bin .gtr (.tmp 26) (.con (.i .i64 (256))), some (20, false)⟩, ⟨some 28, .pick (.tmp 20) (.con (.b true)) (.tmp 27), none⟩])
 (.cond (.tmp 28) (.seq (.reg [⟨some 29, .call 7 [], none⟩, ⟨some 6, .mov (.tmp 29), none⟩])
 .ret) .skip))
 (.seq (.reg [⟨some 30, .load true 7 (.tmp 3), none⟩, ⟨some 31, .call 8 [(.tmp 30)], none⟩, ⟨some 7, .alloc [(.i .i64 (0)), (.i .i64 (0)), (.str []), (.sl .nil 0 []), (.sl .nil 0 []), (.sl .nil 0 []), (.i .i64 (0))], none⟩, ⟨none, .store 7 (.tmp 7) (.tmp 31), none⟩])
 (.seq (.reg [⟨some 33, .load true 7 (.tmp 7), none⟩, ⟨some 34, .mov (.tmp 2), none⟩, ⟨some 35, .call 9 [(.tmp 33), (.tmp 34)], none⟩, ⟨some 32, .mov (.tmp 35), none⟩, ⟨some 36, .ext (.tmp 32) 0, none⟩, ⟨some 37, .ext (.tmp 32) 1, none⟩, ⟨some 8, .alloc [(.i .i64 (0)), (.i .i64 (0)), (.str []), (.sl .nil 0 []), (.sl .nil 0 []), (.sl .nil 0 []), (.i .i64 (0))], none⟩, ⟨none, .store 7 (.tmp 8) (.tmp 36), none⟩, ⟨some 9, .mov (.tmp 37), none⟩])
 (.seq (.seq (.reg [⟨some 38, .mov (.tmp 9), none⟩, ⟨some 39, .bin .eql (.tmp 38) (.con (.i .i64 (0))), none⟩])
 (.cond (.tmp 39) (.reg [⟨some 40, .load true 7 (.tmp 8), none⟩, ⟨none, .store 7 (.tmp 7) (.tmp 40), none⟩]) .skip))
 (.seq (.seq (.reg [⟨some 41, .mov (.tmp 1), none⟩, ⟨some 42, .len false (.tmp 41), none⟩, ⟨some 43, .mov (.con (.i .i64 (0))), none⟩])
 (.block 0 (.loop [(1, .none), (2, .none), (3, .none), (7, .none), (9, .none), (41, .none), (42, .none), (43, .none)] (.seq (.reg [⟨some 44, .bin .lss (.tmp 43) (.tmp 42), none⟩])
 (.seq (.cond (.tmp 44) .skip (.exit 0))
 (.seq (.block 1 (.seq (.reg [⟨some 45, .iaddr 4 (.tmp 41) (.tmp 43), none⟩, ⟨some 46, .load true 4 (.tmp 45), none⟩, ⟨some 11, .alloc [(.i .i64 (0)), (.i .i64 (0)), (.str []), (.sl .nil 0 [])], none⟩, ⟨none, .store 4 (.tmp 11) (.tmp 46), none⟩])
 (.seq (.reg [⟨some 48, .load true 7 (.tmp 7), none⟩, ⟨some 49, .load true 4 (.tmp 11), none⟩, ⟨some 50, .call 10 [(.tmp 48), (.tmp 49)], none⟩, ⟨some 47, .mov (.tmp 50), none⟩, ⟨some 51, .ext (.tmp 47) 0, none⟩, ⟨some 52, .ext (.tmp 47) 1, none⟩, ⟨some 12, .alloc [(.i .i64 (0)), (.i .i64 (0)), (.str []), (.sl .nil 0 []), (.sl .nil 0 []), (.sl .nil 0 []), (.i .i64 (0))], none⟩, ⟨none, .store 7 (.tmp 12) (.tmp 51), none⟩, ⟨some 13, .mov (.tmp 52), none⟩])
 (.seq (.seq (.reg [⟨some 53, .mov (.tmp 13), none⟩, ⟨some 54, .bin .neq (.tmp 53) (.con (.i .i64 (0))), none⟩])
 (.cond (.tmp 54) (.seq (.reg [⟨some 6, .mov (.con (.b false)), none⟩])
 .ret) .skip))
 (.seq (.reg [⟨some 56, .load true 7 (.tmp 12), none⟩, ⟨some 57, .build [(.i .i64 (0)), (.i .i64 (0)), (.str []), (.sl .nil 0 [])] [], none⟩, ⟨some 58, .call 11 [(.tmp 56), (.tmp 57)], none⟩, ⟨some 59, .call 9 [(.tmp 58), (.con (.str [122, 122]))], none⟩, ⟨some 55, .mov (.tmp 59), none⟩, ⟨some 60, .ext (.tmp 55) 0, none⟩, ⟨some 61, .ext (.tmp 55) 1, none⟩, ⟨some 14, .alloc [(.i .i64 (0)), (.i .i64 (0)), (.str []), (.sl .nil 0 []), (.sl .nil 0 []), (.sl .nil 0 []), (.i .i64 (0))], none⟩, ⟨none, .store 7 (.tmp 14) (.tmp 60), none⟩, ⟨some 15, .mov (.tmp 61), none⟩])
 (.seq (.seq (.draw [⟨some 62, .load true 7 (.tmp 14), none⟩, ⟨some 63, .call 13 [(.tmp 62)], none⟩, ⟨some 64, .fld true 0 7 (.tmp 63), none⟩, ⟨some 65, .fld false 4 1 (.tmp 64), none⟩, ⟨some 66, .faddr 0 (.tmp 12), none⟩, ⟨some 67, .faddr 4 (.tmp 66), none⟩, ⟨some 68, .load false 1 (.tmp 67), none⟩, ⟨some 69, .call 12 [(.tmp 65), (.tmp 68)], none⟩, ⟨some 70, .un .not (.tmp 69), none⟩] [(0, 6), (1, 6)])
 (.cond (.tmp 70) (.seq (.reg [⟨some 6, .mov (.con (.b false)), none⟩])
 .ret) .skip))
 (.reg [⟨some 71, .load true 7 (.tmp 12), none⟩, ⟨none, .store 7 (.tmp 7) (.tmp 71), none⟩])))))))
 (.reg [⟨some 72, .bin .add (.tmp 43) (.con (.i .i64 (1))), none⟩, ⟨some 43, .mov (.tmp 72), none⟩])))))))
 (.seq (.seq (.draw [⟨some 73, .faddr 0 (.tmp 7), none⟩, ⟨some 74, .faddr 4 (.tmp 73), none⟩, ⟨some 75, .load false 1 (.tmp 74), none⟩, ⟨some 76, .bslice 24 [(.i .i64 (0)), (.i .i64 (0)), (.str []), (.sl .nil 0 [])] 0 [], none⟩, ⟨some 77, .faddr 4 (.tmp 3), none⟩, ⟨some 78, .load false 1 (.tmp 77), none⟩, ⟨some 79, .app 24 4 (.tmp 76) (.tmp 78), none⟩, ⟨some 80, .mov (.tmp 1), none⟩, ⟨some 81, .app 24 4 (.tmp 79) (.tmp 80), none⟩, ⟨some 82, .call 12 [(.tmp 75), (.tmp 81)], none⟩, ⟨some 83, .un .not (.tmp 82), none⟩] [(2, 3), (2, 5), (3, 5), (2, 6), (2, 8)])
 (.cond (.tmp 83) (.seq (.reg [⟨some 6, .mov (.con (.b false)), none⟩])
 .ret) .skip))
 (.seq (.reg [⟨some 85, .load true 7 (.tmp 7), none⟩, ⟨some 86, .mov (.tmp 2), none⟩, ⟨some 87, .bslice 9 [(.str [])] 1 [(0, (.tmp 86))], none⟩, ⟨some 88, .call 14 [(.tmp 85), (.tmp 87)], none⟩, ⟨some 84, .mov (.tmp 88), none⟩, ⟨some 89, .ext (.tmp 84) 0, none⟩, ⟨some 90, .ext (.tmp 84) 1, none⟩, ⟨some 16, .alloc [(.i .i64 (0)), (.i .i64 (0)), (.str []), (.sl .nil 0 [])], none⟩, ⟨none, .store 4 (.tmp 16) (.tmp 89), none⟩, ⟨some 17, .mov (.tmp 90), none⟩])
 (.seq (.reg [⟨some 91, .mov (.tmp 9), none⟩, ⟨some 92, .bin .neq (.tmp 91) (.con (.i .i64 (0))), none⟩, ⟨some 93, .mov (.tmp 92), none⟩, ⟨some 94, .mov (.tmp 17), some (93, false)⟩, ⟨some 95, .mov (.tmp 94), some (93, false)⟩, ⟨some 96, .load true 4 (.tmp 16), some (95, true)⟩, ⟨some 97, .faddr 0 (.tmp 3), some (95, true)⟩, ⟨some 98, .load true 4 (.tmp 97), some (95, true)⟩, ⟨some 99, .call 15 [(.tmp 96), (.tmp 98)], some (95, true)⟩, ⟨some 100, .pick (.tmp 95) (.tmp 99) (.con (.b false)), some (93, false)⟩, ⟨some 101, .pick (.tmp 93) (.con (.b true)) (.tmp 100), none⟩, ⟨some 6, .mov (.tmp 101), none⟩])
 .ret))))))))), [.tmp 6]⟩
theorem c3 : compF Tryd.prog k3 [] Tryd.f3 = some a3 := by kernel_rfl
/-- ramble/ramblelaw18.TravelStays -/
def k5 : Nat → List (Nat × H) := fun _ => []
def a5 : AFun := ⟨3, (.seq (.reg [⟨some 3, .box (.tmp 0), none⟩, ⟨some 4, .box (.tmp 1), none⟩, ⟨some 6, .mov (.con (.b false)), none⟩])
 (.seq (.seq (.reg [⟨some 11, .call 7 [], none⟩, ⟨some 12, .un .not (.tmp 11), none⟩, ⟨some 13, .mov (.tmp 12), none⟩, ⟨some 14, .load true 7 (.tmp 3), some (13, false)⟩, ⟨some 15, .call 21 [(.tmp 14)], some (13, false)⟩, ⟨some 16, .bin .neq (.tmp 15) (.con (.i .i64 (0))), some (13, false)⟩, ⟨some 17, .pick (.tmp 13) (.con (.b true)) (.tmp 16), none⟩, ⟨some 18, .mov (.tmp 17), none⟩, ⟨some 19, .load true 4 (.tmp 4), some (18, false)⟩, ⟨some 20, .call 22 [(.tmp 19)], some (18, false)⟩, ⟨some 21, .bin .neq (.tmp 20) (.con (.i .i64 (0))), some (18, false)⟩, ⟨some 22, .pick (.tmp 18) (.con (.b true)) (.tmp 21), none⟩])
 (.cond (.tmp 22) (.seq (.reg [⟨some 23, .call 7 [], none⟩, ⟨some 6, .mov (.tmp 23), none⟩])
 .ret) .skip))
 (.seq (.draw [⟨some 25, .load true 7 (.tmp 3), none⟩, ⟨some 26, .call 8 [(.tmp 25)], none⟩, ⟨some 27, .load true 4 (.tmp 4), none⟩, ⟨some 28, .call 10 [(.tmp 26), (.tmp 27)], none⟩, ⟨some 24, .mov (.tmp 28), none⟩, ⟨some 29, .ext (.tmp 24) 0, none⟩, ⟨some 30, .ext (.tmp 24) 1, none⟩, ⟨some 7, .alloc [(.i .i64 (0)), (.i .i64 (0)), (.str []), (.sl .nil 0 []), (.sl .nil 0 []), (.sl .nil 0 []), (.i .i64 (0))], none⟩, ⟨none, .store 7 (.tmp 7) (.tmp 29), none⟩, ⟨some 8, .mov (.tmp 30), none⟩] [(0, 2), (1, 2), (0, 7), (1, 7), (2, 7), (3, 7)])
 (.seq (.reg [⟨some 32, .load true 7 (.tmp 3), none⟩, ⟨some 33, .call 8 [(.tmp 32)], none⟩, ⟨some 34, .mov (.tmp 2), none⟩, ⟨some 35, .call 9 [(.tmp 33), (.tmp 34)], none⟩, ⟨some 31, .mov (.tmp 35), none⟩, ⟨some 36, .ext (.tmp 31) 0, none⟩, ⟨some 37, .ext (.tmp 31) 1, none⟩, ⟨some 9, .alloc [(.i .i64 (0)), (.i .i64 (0)), (.str []), (.sl .nil 0 []), (.sl .nil 0 []), (.sl .nil 0 []), (.i .i64 (0))], none⟩, ⟨none, .store 7 (.tmp 9) (.tmp 36), none⟩, ⟨some 10, .mov (.tmp 37), none⟩])
 (.seq (.draw [⟨some 38, .load true 7 (.tmp 7), none⟩, ⟨some 39, .call 23 [(.tmp 38)], none⟩, ⟨some 40, .bin .eql (.tmp 39) (.con (.i .i64 (0))), none⟩, ⟨some 41, .mov (.tmp 40), none⟩, ⟨some 42, .load true 7 (.tmp 9), some (41, true)⟩, ⟨some 43, .call 23 [(.tmp 42)], some (41, true)⟩, ⟨some 44, .bin .eql (.tmp 43) (.con (.i .i64 (0))), some (41, true)⟩, ⟨some 45, .pick (.tmp 41) (.tmp 44) (.con (.b false)), none⟩, ⟨some 46, .mov (.tmp 45), none⟩, ⟨some 47, .load true 7 (.tmp 3), some (46, true)⟩, ⟨some 48, .call 8 [(.tmp 47)], some (46, true)⟩, ⟨some 49, .load true 4 (.tmp 4), some (46, true)⟩, ⟨some 50, .call 11 [(.tmp 48), (.tmp 49)], some (46, true)⟩, ⟨some 51, .call 23 [(.tmp 50)], some (46, true)⟩, ⟨some 52, .bin .eql (.tmp 51) (.con (.i .i64 (0))), some (46, true)⟩, ⟨some 53, .pick (.tmp 46) (.tmp 52) (.con (.b false)), none⟩, ⟨some 54, .mov (.tmp 53), none⟩, ⟨some 55, .load true 7 (.tmp 3), some (54, true)⟩, ⟨some 56, .call 8 [(.tmp 55)], some (54, true)⟩, ⟨some 57, .call 13 [(.tmp 56)], some (54, true)⟩, ⟨some 58, .call 23 [(.tmp 57)], some (54, true)⟩, ⟨some 59, .bin .eql (.tmp 58) (.con (.i .i64 (0))), some (54, true)⟩, ⟨some 60, .pick (.tmp 54) (.tmp 59) (.con (.b false)), none⟩, ⟨some 6, .mov (.tmp 60), none⟩] [(9, 11), (10, 11)])
 .ret))))), [.tmp 6]⟩
theorem c5 : compF Tryd.prog k5 [] Tryd.f5 = some a5 := by kernel_rfl
/-- ramble/ramblelaw18.TravelGoes -/
def k6 : Nat → List (Nat × H) := fun _ => []
def a6 : AFun := ⟨3, (.seq (.reg [⟨some 3, .box (.tmp 0), none⟩, ⟨some 4, .box (.tmp 1), none⟩, ⟨some 6, .mov (.con (.b false)), none⟩])
 (.seq (.draw [⟨some 13, .load true 7 (.tmp 3), none⟩, ⟨some 14, .call 8 [(.tmp 13)], none⟩, ⟨some 15, .load true 4 (.tmp 4), none⟩, ⟨some 16, .call 10 [(.tmp 14), (.tmp 15)], none⟩, ⟨some 12, .mov (.tmp 16), none⟩, ⟨some 17, .ext (.tmp 12) 0, none⟩, ⟨some 18, .ext (.tmp 12) 1, none⟩, ⟨some 7, .alloc [(.i .i64 (0)), (.i .i64 (0)), (.str []), (.sl .nil 0 []), (.sl .nil 0 []), (.sl .nil 0 []), (.i .i64 (0))], none⟩, ⟨none, .store 7 (.tmp 7) (.tmp 17), none⟩, ⟨some 8, .mov (.tmp 18), none⟩] [(0, 2), (1, 2), (0, 7), (1, 7), (2, 7), (3, 7)])
 (.seq (.reg [⟨some 20, .load true 7 (.tmp 3), none⟩, ⟨some 21, .load true 4 (.tmp 4), none⟩, ⟨some 22, .call 24 [(.tmp 20), (.tmp 21)], none⟩, ⟨some 19, .mov (.tmp 22), none⟩, ⟨some 23, .ext (.tmp 19) 0, none⟩, ⟨some 24, .ext (.tmp 19) 1, none⟩, ⟨some 9, .alloc [(.i .i64 (0)), (.i .i64 (0)), (.str []), (.sl .nil 0 []), (.sl .nil 0 []), (.sl .nil 0 []), (.i .i64 (0))], none⟩, ⟨none, .store 7 (.tmp 9) (.tmp 23), none⟩, ⟨some 10, .mov (.tmp 24), none⟩])
 (.seq (.reg [⟨some 25, .load true 7 (.tmp 3), none⟩, ⟨some 26, .call 16 [(.tmp 25)], none⟩, ⟨some 11, .alloc [(.i .i64 (0)), (.i .i64 (0)), (.str []), (.sl .nil 0 []), (.sl .nil 0 []), (.sl .nil 0 []), (.i .i64 (0))], none⟩, ⟨none, .store 7 (.tmp 11) (.tmp 26), none⟩])
 (.seq (.reg [⟨some 27, .mov (.tmp 2), none⟩, ⟨some 28, .faddr 6 (.tmp 11), none⟩, ⟨none, .store 1 (.tmp 28) (.tmp 27), none⟩])
 (.seq (.draw [⟨some 29, .call 7 [], none⟩, ⟨some 30, .mov (.tmp 29), none⟩, ⟨some 31, .load true 7 (.tmp 3), some (30, true)⟩, ⟨some 32, .call 8 [(.tmp 31)], some (30, true)⟩, ⟨some 33, .call 23 [(.tmp 32)], some (30, true)⟩, ⟨some 34, .load true 7 (.tmp 3), some (30, true)⟩, ⟨some 35, .call 21 [(.tmp 34)], some (30, true)⟩, ⟨some 36, .bin .eql (.tmp 33) (.tmp 35), some (30, true)⟩, ⟨some 37, .pick (.tmp 30) (.tmp 36) (.con (.b false)), none⟩, ⟨some 38, .mov (.tmp 37), none⟩, ⟨some 39, .call 25 [], some (38, true)⟩, ⟨some 40, .call 26 [], some (38, true)⟩, ⟨some 41, .call 20 [(.tmp 39), (.tmp 40)], some (38, true)⟩, ⟨some 42, .pick (.tmp 38) (.tmp 41) (.con (.b false)), none⟩, ⟨some 43, .mov (.tmp 42), none⟩, ⟨some 44, .load true 7 (.tmp 7), some (43, true)⟩, ⟨some 45, .load true 7 (.tmp 9), some (43, true)⟩, ⟨some 46, .call 20 [(.tmp 44), (.tmp 45)], some (43, true)⟩, ⟨some 47, .pick (.tmp 43) (.tmp 46) (.con (.b false)), none⟩, ⟨some 48, .mov (.tmp 47), none⟩, ⟨some 49, .mov (.tmp 8), some (48, true)⟩, ⟨some 50, .mov (.tmp 10), some (48, true)⟩, ⟨some 51, .bin .eql (.tmp 49) (.tmp 50), some (48, true)⟩, ⟨some 52, .pick (.tmp 48) (.tmp 51) (.con (.b false)), none⟩, ⟨some 53, .mov (.tmp 52), none⟩, ⟨some 54, .load true 7 (.tmp 3), some (53, true)⟩, ⟨some 55, .call 8 [(.tmp 54)], some (53, true)⟩, ⟨some 56, .load true 4 (.tmp 4), some (53, true)⟩, ⟨some 57, .call 11 [(.tmp 55), (.tmp 56)], some (53, true)⟩, ⟨some 58, .load true 7 (.tmp 3), some (53, true)⟩, ⟨some 59, .load true 4 (.tmp 4), some (53, true)⟩, ⟨some 60, .call 27 [(.tmp 58), (.tmp 59)], some (53, true)⟩, ⟨some 61, .call 20 [(.tmp 57), (.tmp 60)], some (53, true)⟩, ⟨some 62, .pick (.tmp 53) (.tmp 61) (.con (.b false)), none⟩, ⟨some 63, .mov (.tmp 62), none⟩, ⟨some 64, .load true 7 (.tmp 3), some (63, true)⟩, ⟨some 65, .call 8 [(.tmp 64)], some (63, true)⟩, ⟨some 66, .call 13 [(.tmp 65)], some (63, true)⟩, ⟨some 67, .load true 7 (.tmp 3), some (63, true)⟩, ⟨some 68, .call 28 [(.tmp 67)], some (63, true)⟩, ⟨some 69, .call 20 [(.tmp 66), (.tmp 68)], some (63, true)⟩, ⟨some 70, .pick (.tmp 63) (.tmp 69) (.con (.b false)), none⟩, ⟨some 71, .mov (.tmp 70), none⟩, ⟨some 72, .load true 7 (.tmp 3), some (71, true)⟩, ⟨some 73, .call 8 [(.tmp 72)], some (71, true)⟩, ⟨some 74, .mov (.tmp 2), some (71, true)⟩, ⟨some 75, .call 29 [(.tmp 73), (.tmp 74)], some (71, true)⟩, ⟨some 76, .load true 7 (.tmp 11), some (71, true)⟩, ⟨some 77, .call 20 [(.tmp 75), (.tmp 76)], some (71, true)⟩, ⟨some 78, .pick (.tmp 71) (.tmp 77) (.con (.b false)), none⟩, ⟨some 79, .mov (.tmp 78), none⟩, ⟨some 80, .load true 7 (.tmp 3), some (79, true)⟩, ⟨some 81, .call 8 [(.tmp 80)], some (79, true)⟩, ⟨some 82, .call 30 [(.tmp 81)], some (79, true)⟩, ⟨some 83, .load true 7 (.tmp 3), some (79, true)⟩, ⟨some 84, .call 31 [(.tmp 83)], some (79, true)⟩, ⟨some 85, .eqb false (.tmp 82) (.tmp 84), some (79, true)⟩, ⟨some 86, .pick (.tmp 79) (.tmp 85) (.con (.b false)), none⟩, ⟨some 6, .mov (.tmp 86), none⟩] [(2, 5), (3, 5), (4, 5), (15, 16), (25, 27), (26, 27), (25, 29), (26, 29), (27, 29), (28, 29), (25, 30), (26, 30), (27, 30), (28, 30), (29, 30), (35, 38), (36, 38), (37, 38), (43, 47), (44, 47), (46, 47), (51, 54), (52, 54), (53, 54)])
 .ret)))))), [.tmp 6]⟩
theorem c6 : compF Tryd.prog k6 [] Tryd.f6 = some a6 := by kernel_rfl
/-- ramble/ramblelaw18.begun -/
def k7 : Nat → List (Nat × H) := fun _ => []
def a7 : AFun := ⟨0, (.seq (.reg [⟨some 0, .mov (.con (.b false)), none⟩])
 (.seq (.reg [⟨some 8, .call 25 [], none⟩, ⟨some 9, .call 32 [(.con (.i .i64 (1)))], none⟩, ⟨some 10, .call 10 [(.tmp 8), (.tmp 9)], none⟩, ⟨some 7, .mov (.tmp 10), none⟩, ⟨some 11, .ext (.tmp 7) 0, none⟩, ⟨some 12, .ext (.tmp 7) 1, none⟩, ⟨some 1, .alloc [(.i .i64 (0)), (.i .i64 (0)), (.str []), (.sl .nil 0 []), (.sl .nil 0 []), (.sl .nil 0 []), (.i .i64 (0))], none⟩, ⟨none, .store 7 (.tmp 1) (.tmp 11), none⟩, ⟨some 2, .mov (.tmp 12), none⟩])
 (.seq (.reg [⟨some 14, .load true 7 (.tmp 1), none⟩, ⟨some 15, .call 9 [(.tmp 14), (.con (.str [97]))], none⟩, ⟨some 13, .mov (.tmp 15), none⟩, ⟨some 16, .ext (.tmp 13) 0, none⟩, ⟨some 17, .ext (.tmp 13) 1, none⟩, ⟨none, .store 7 (.tmp 1) (.tmp 16), none⟩, ⟨some 3, .mov (.tmp 17), none⟩])
 (.seq (.draw [⟨some 19, .load true 7 (.tmp 1), none⟩, ⟨some 20, .call 32 [(.con (.i .i64 (2)))], none⟩, ⟨some 21, .call 10 [(.tmp 19), (.tmp 20)], none⟩, ⟨some 18, .mov (.tmp 21), none⟩, ⟨some 22, .ext (.tmp 18) 0, none⟩, ⟨some 23, .ext (.tmp 18) 1, none⟩, ⟨none, .store 7 (.tmp 1) (.tmp 22), none⟩, ⟨some 4, .mov (.tmp 23), none⟩] [(0, 1)])
 (.seq (.reg [⟨some 25, .load true 7 (.tmp 1), none⟩, ⟨some 26, .bslice 9 [(.str [])] 1 [(0, (.con (.str [97])))], none⟩, ⟨some 27, .call 14 [(.tmp 25), (.tmp 26)], none⟩, ⟨some 24, .mov (.tmp 27), none⟩, ⟨some 28, .ext (.tmp 24) 0, none⟩, ⟨some 29, .ext (.tmp 24) 1, none⟩, ⟨some 5, .alloc [(.i .i64 (0)), (.i .i64 (0)), (.str []), (.sl .nil 0 [])], none⟩, ⟨none, .store 4 (.tmp 5) (.tmp 28), none⟩, ⟨some 6, .mov (.tmp 29), none⟩])
 (.seq (.draw [⟨some 30, .mov (.tmp 2), none⟩, ⟨some 31, .bin .eql (.tmp 30) (.con (.i .i64 (0))), none⟩, ⟨some 32, .mov (.tmp 31), none⟩, ⟨some 33, .mov (.tmp 3), some (32, true)⟩, ⟨some 34, .bin .eql (.tmp 33) (.con (.i .i64 (0))), some (32, true)⟩, ⟨some 35, .pick (.tmp 32) (.tmp 34) (.con (.b false)), none⟩, ⟨some 36, .mov (.tmp 35), none⟩, ⟨some 37, .mov (.tmp 4), some (36, true)⟩, ⟨some 38, .bin .eql (.tmp 37) (.con (.i .i64 (0))), some (36, true)⟩, ⟨some 39, .pick (.tmp 36) (.tmp 38) (.con (.b false)), none⟩, ⟨some 40, .mov (.tmp 39), none⟩, ⟨some 41, .mov (.tmp 6), some (40, true)⟩, ⟨some 42, .pick (.tmp 40) (.tmp 41) (.con (.b false)), none⟩, ⟨some 43, .mov (.tmp 42), none⟩, ⟨some 44, .load true 4 (.tmp 5), some (43, true)⟩, ⟨some 45, .call 32 [(.con (.i .i64 (1)))], some (43, true)⟩, ⟨some 46, .call 15 [(.tmp 44), (.tmp 45)], some (43, true)⟩, ⟨some 47, .pick (.tmp 43) (.tmp 46) (.con (.b false)), none⟩, ⟨some 48, .mov (.tmp 47), none⟩, ⟨some 49, .faddr 0 (.tmp 1), some (48, true)⟩, ⟨some 50, .faddr 4 (.tmp 49), some (48, true)⟩, ⟨some 51, .load false 1 (.tmp 50), some (48, true)⟩, ⟨some 52, .len false (.tmp 51), some (48, true)⟩, ⟨some 53, .bin .eql (.tmp 52) (.con (.i .i64 (2))), some (48, true)⟩, ⟨some 54, .pick (.tmp 48) (.tmp 53) (.con (.b false)), none⟩, ⟨some 55, .mov (.tmp 54), none⟩, ⟨some 56, .faddr 0 (.tmp 1), some (55, true)⟩, ⟨some 57, .faddr 0 (.tmp 56), some (55, true)⟩, ⟨some 58, .load true 4 (.tmp 57), some (55, true)⟩, ⟨some 59, .call 32 [(.con (.i .i64 (2)))], some (55, true)⟩, ⟨some 60, .call 15 [(.tmp 58), (.tmp 59)], some (55, true)⟩, ⟨some 61, .pick (.tmp 55) (.tmp 60) (.con (.b false)), none⟩, ⟨some 0, .mov (.tmp 61), none⟩] [(14, 15), (28, 29)])
 .ret)))))), [.tmp 0]⟩
theorem c7 : compF Tryd.prog k7 [] Tryd.f7 = some a7 := by kernel_rfl
/-- ramble/travel.Of -/
def k8 : Nat → List (Nat × H) := fun _ => []
def a8 : AFun := ⟨1, (.seq (.reg [⟨some 1, .box (.tmp 0), none⟩, ⟨some 2, .alloc [(.i .i64 (0)), (.i .i64 (0)), (.str []), (.sl .nil 0 []), (.sl .nil 0 []), (.sl .nil 0 []), (.i .i64 (0))], none⟩])
 (.seq (.reg [⟨some 3, .load true 7 (.tmp 1), none⟩, ⟨some 4, .build [(.i .i64 (0)), (.i .i64 (0)), (.str []), (.sl .nil 0 []), (.sl .nil 0 []), (.sl .nil 0 []), (.i .i64 (0))] [(0, 7, (.tmp 3))], none⟩, ⟨some 5, .call 19 [(.tmp 4)], none⟩, ⟨none, .store 7 (.tmp 2) (.tmp 5), none⟩])
 .ret)), [.cell 2 true 7]⟩
theorem c8 : compF Tryd.prog k8 [] Tryd.f8 = some a8 := by kernel_rfl
/-- (ramble/travel.T).As -/
def k9 : Nat → List (Nat × H) := fun _ => []
def a9 : AFun := ⟨2, (.seq (.reg [⟨some 2, .box (.tmp 0), none⟩, ⟨some 4, .alloc [(.i .i64 (0)), (.i .i64 (0)), (.str []), (.sl .nil 0 []), (.sl .nil 0 []), (.sl .nil 0 []), (.i .i64 (0))], none⟩, ⟨some 5, .mov (.con (.i .i64 (0))), none⟩])
 (.seq (.reg [⟨some 8, .load true 7 (.tmp 2), none⟩, ⟨some 9, .call 19 [(.tmp 8)], none⟩, ⟨some 6, .alloc [(.i .i64 (0)), (.i .i64 (0)), (.str []), (.sl .nil 0 []), (.sl .nil 0 []), (.sl .nil 0 []), (.i .i64 (0))], none⟩, ⟨none, .store 7 (.tmp 6) (.tmp 9), none⟩])
 (.seq (.reg [⟨some 10, .load true 7 (.tmp 6), none⟩, ⟨some 11, .mov (.tmp 1), none⟩, ⟨some 12, .call 33 [(.tmp 10), (.tmp 11)], none⟩, ⟨some 7, .mov (.tmp 12), none⟩])
 (.seq (.block 0 (.seq (.reg [⟨some 27, .mov (.tmp 1), none⟩, ⟨some 28, .call 34 [(.tmp 27)], none⟩, ⟨some 29, .un .not (.tmp 28), none⟩, ⟨some 26, .mov (.tmp 29), none⟩])
 (.cond (.tmp 26) (.seq (.reg [⟨some 30, .load true 7 (.tmp 6), none⟩, ⟨none, .store 7 (.tmp 4) (.tmp 30), none⟩, ⟨some 5, .mov (.con (.i .i64 (100))), none⟩])
 .ret) (.seq (.reg [⟨some 32, .mov (.tmp 7), none⟩, ⟨some 33, .bin .geq (.tmp 32) (.con (.i .i64 (0))), none⟩, ⟨some 31, .mov (.tmp 33), none⟩])
 (.cond (.tmp 31) (.draw [⟨some 34, .faddr 0 (.tmp 6), none⟩, ⟨some 35, .faddr 5 (.tmp 34), none⟩, ⟨some 36, .load false 1 (.tmp 35), none⟩, ⟨some 37, .mov (.tmp 7), none⟩, ⟨some 38, .faddr 0 (.tmp 6), none⟩, ⟨some 39, .faddr 0 (.tmp 38), none⟩, ⟨some 40, .load true 4 (.tmp 39), none⟩, ⟨some 41, .call 35 [(.tmp 40)], none⟩, ⟨some 42, .iaddr 5 (.tmp 36) (.tmp 37), none⟩, ⟨some 43, .faddr 1 (.tmp 42), none⟩, ⟨none, .store 4 (.tmp 43) (.tmp 41), none⟩] [(2, 6), (2, 7)]) (.seq (.reg [⟨some 45, .faddr 0 (.tmp 6), none⟩, ⟨some 46, .faddr 5 (.tmp 45), none⟩, ⟨some 47, .load false 1 (.tmp 46), none⟩, ⟨some 48, .len false (.tmp 47), none⟩, ⟨some 49, .bin .geq (.tmp 48) (.con (.i .i64 (32))), none⟩, ⟨some 44, .mov (.tmp 49), none⟩])
 (.cond (.tmp 44) (.seq (.reg [⟨some 50, .load true 7 (.tmp 6), none⟩, ⟨none, .store 7 (.tmp 4) (.tmp 50), none⟩, ⟨some 5, .mov (.con (.i .i64 (3))), none⟩])
 .ret) (.draw [⟨some 13, .faddr 0 (.tmp 6), none⟩, ⟨some 14, .faddr 5 (.tmp 13), none⟩, ⟨some 15, .load false 1 (.tmp 14), none⟩, ⟨some 16, .mov (.tmp 1), none⟩, ⟨some 17, .faddr 0 (.tmp 6), none⟩, ⟨some 18, .faddr 0 (.tmp 17), none⟩, ⟨some 19, .load true 4 (.tmp 18), none⟩, ⟨some 20, .call 35 [(.tmp 19)], none⟩, ⟨some 21, .build [(.str []), (.i .i64 (0)), (.i .i64 (0)), (.str []), (.sl .nil 0 [])] [(0, 1, (.tmp 16)), (1, 4, (.tmp 20))], none⟩, ⟨some 22, .bslice 48 [(.str []), (.i .i64 (0)), (.i .i64 (0)), (.str []), (.sl .nil 0 [])] 1 [(0, (.tmp 21))], none⟩, ⟨some 23, .app 48 5 (.tmp 15) (.tmp 22), none⟩, ⟨some 24, .faddr 0 (.tmp 6), none⟩, ⟨some 25, .faddr 5 (.tmp 24), none⟩, ⟨none, .store 1 (.tmp 25) (.tmp 23), none⟩] [(2, 6), (2, 7), (2, 9)]))))))))
 (.seq (.reg [⟨some 51, .load true 7 (.tmp 6), none⟩, ⟨none, .store 7 (.tmp 4) (.tmp 51), none⟩, ⟨some 5, .mov (.con (.i .i64 (0))), none⟩])
 .ret))))), [.cell 4 true 7, .tmp 5]⟩
theorem c9 : compF Tryd.prog k9 [] Tryd.f9 = some a9 := by kernel_rfl
/-- (ramble/travel.T).To -/
def k10 : Nat → List (Nat × H) := fun _ => []
def a10 : AFun := ⟨2, (.seq (.reg [⟨some 2, .box (.tmp 0), none⟩, ⟨some 3, .box (.tmp 1), none⟩, ⟨some 4, .alloc [(.i .i64 (0)), (.i .i64 (0)), (.str []), (.sl .nil 0 []), (.sl .nil 0 []), (.sl .nil 0 []), (.i .i64 (0))], none⟩, ⟨some 5, .mov (.con (.i .i64 (0))), none⟩])
 (.seq (.reg [⟨some 7, .load true 7 (.tmp 2), none⟩, ⟨some 8, .call 19 [(.tmp 7)], none⟩, ⟨some 6, .alloc [(.i .i64 (0)), (.i .i64 (0)), (.str []), (.sl .nil 0 []), (.sl .nil 0 []), (.sl .nil 0 []), (.i .i64 (0))], none⟩, ⟨none, .store 7 (.tmp 6) (.tmp 8), none⟩])
 (.seq (.seq (.reg [⟨some 9, .faddr 0 (.tmp 6), none⟩, ⟨some 10, .faddr 4 (.tmp 9), none⟩, ⟨some 11, .load false 1 (.tmp 10), none⟩, ⟨some 12, .len false (.tmp 11), none⟩, ⟨some 13, .bin .geq (.tmp 12) (.con (.i .i64 (256))), none⟩])
 (.cond (.tmp 13) (.seq (.reg [⟨some 14, .load true 7 (.tmp 6), none⟩, ⟨none, .store 7 (.tmp 4) (.tmp 14), none⟩, ⟨some 5, .mov (.con (.i .i64 (3))), none⟩])
 .ret) .skip))
 (.seq (.reg [⟨some 15, .load true 4 (.tmp 3), none⟩, ⟨some 16, .call 35 [(.tmp 15)], none⟩, ⟨some 17, .faddr 0 (.tmp 6), none⟩, ⟨some 18, .faddr 0 (.tmp 17), none⟩, ⟨none, .store 4 (.tmp 18) (.tmp 16), none⟩])
 (.seq (.draw [⟨some 19, .faddr 0 (.tmp 6), none⟩, ⟨some 20, .faddr 4 (.tmp 19), none⟩, ⟨some 21, .load false 1 (.tmp 20), none⟩, ⟨some 22, .load true 4 (.tmp 3), none⟩, ⟨some 23, .call 35 [(.tmp 22)], none⟩, ⟨some 24, .bslice 24 [(.i .i64 (0)), (.i .i64 (0)), (.str []), (.sl .nil 0 [])] 1 [(0, (.tmp 23))], none⟩, ⟨some 25, .app 24 4 (.tmp 21) (.tmp 24), none⟩, ⟨some 26, .faddr 0 (.tmp 6), none⟩, ⟨some 27, .faddr 4 (.tmp 26), none⟩, ⟨none, .store 1 (.tmp 27) (.tmp 25), none⟩] [(2, 3), (2, 4), (2, 5)])
 (.seq (.reg [⟨some 28, .load true 7 (.tmp 6), none⟩, ⟨none, .store 7 (.tmp 4) (.tmp 28), none⟩, ⟨some 5, .mov (.con (.i .i64 (0))), none⟩])
 .ret)))))), [.cell 4 true 7, .tmp 5]⟩
theorem c10 : compF Tryd.prog k10 [] Tryd.f10 = some a10 := by kernel_rfl
/-- (ramble/travel.T).At -/
def k11 : Nat → List (Nat × H) := fun _ => []
def a11 : AFun := ⟨2, (.seq (.reg [⟨some 2, .box (.tmp 0), none⟩, ⟨some 3, .box (.tmp 1), none⟩, ⟨some 4, .alloc [(.i .i64 (0)), (.i .i64 (0)), (.str []), (.sl .nil 0 []), (.sl .nil 0 []), (.sl .nil 0 []), (.i .i64 (0))], none⟩])
 (.seq (.reg [⟨some 6, .load true 7 (.tmp 2), none⟩, ⟨some 7, .call 19 [(.tmp 6)], none⟩, ⟨some 5, .alloc [(.i .i64 (0)), (.i .i64 (0)), (.str []), (.sl .nil 0 []), (.sl .nil 0 []), (.sl .nil 0 []), (.i .i64 (0))], none⟩, ⟨none, .store 7 (.tmp 5) (.tmp 7), none⟩])
 (.seq (.reg [⟨some 8, .load true 4 (.tmp 3), none⟩, ⟨some 9, .call 35 [(.tmp 8)], none⟩, ⟨some 10, .faddr 0 (.tmp 5), none⟩, ⟨some 11, .faddr 0 (.tmp 10), none⟩, ⟨none, .store 4 (.tmp 11) (.tmp 9), none⟩])
 (.seq (.reg [⟨some 12, .load true 7 (.tmp 5), none⟩, ⟨none, .store 7 (.tmp 4) (.tmp 12), none⟩])
 .ret)))), [.cell 4 true 7]⟩
theorem c11 : compF Tryd.prog k11 [] Tryd.f11 = some a11 := by kernel_rfl
/-- ramble/rambleref02.SameAll -/
def k12 : Nat → List (Nat × H) := fun r => if r = 4 then [(0, .none), (1, .none), (5, .none)] else []
def a12 : AFun := ⟨2, (.seq (.reg [⟨some 4, .mov (.con (.b false)), none⟩])
 (.seq (.seq (.reg [⟨some 6, .mov (.tmp 0), none⟩, ⟨some 7, .len false (.tmp 6), none⟩, ⟨some 8, .mov (.tmp 1), none⟩, ⟨some 9, .len false (.tmp 8), none⟩, ⟨some 10, .bin .neq (.tmp 7) (.tmp 9), none⟩])
 (.cond (.tmp 10) (.seq (.reg [⟨some 4, .mov (.con (.b false)), none⟩])
 .ret) .skip))
 (.seq (.seq (.reg [⟨some 5, .mov (.con (.i .i64 (0))), none⟩])
 (.block 0 (.loop [(0, .none), (1, .none), (5, .none)] (.seq (.seq (.reg [⟨some 11, .mov (.tmp 5), none⟩, ⟨some 12, .mov (.tmp 0), none⟩, ⟨some 13, .len false (.tmp 12), none⟩, ⟨some 14, .bin .lss (.tmp 11) (.tmp 13), none⟩])
 (.cond (.tmp 14) .skip (.exit 0)))
 (.seq (.block 1 (.seq (.draw [⟨some 17, .mov (.tmp 0), none⟩, ⟨some 18, .mov (.tmp 5), none⟩, ⟨some 19, .iaddr 4 (.tmp 17) (.tmp 18), none⟩, ⟨some 20, .load true 4 (.tmp 19), none⟩, ⟨some 21, .mov (.tmp 1), none⟩, ⟨some 22, .mov (.tmp 5), none⟩, ⟨some 23, .iaddr 4 (.tmp 21) (.tmp 22), none⟩, ⟨some 24, .load true 4 (.tmp 23), none⟩, ⟨some 25, .call 15 [(.tmp 20), (.tmp 24)], none⟩, ⟨some 26, .un .not (.tmp 25), none⟩] [(2, 6), (3, 6), (2, 7), (3, 7)])
 (.cond (.tmp 26) (.seq (.reg [⟨some 4, .mov (.con (.b false)), none⟩])
 .ret) .skip)))
 (.reg [⟨some 15, .mov (.tmp 5), none⟩, ⟨some 16, .bin .add (.tmp 15) (.con (.i .i64 (1))), none⟩, ⟨some 5, .mov (.tmp 16), none⟩]))))))
 (.seq (.reg [⟨some 4, .mov (.con (.b true)), none⟩])
 .ret)))), [.tmp 4]⟩
theorem c12 : compF Tryd.prog k12 [] Tryd.f12 = some a12 := by kernel_rfl
/-- (ramble/travel.T).Round -/
def k13 : Nat → List (Nat × H) := fun _ => []
def a13 : AFun := ⟨1, (.seq (.reg [⟨some 1, .box (.tmp 0), none⟩, ⟨some 2, .alloc [(.i .i64 (0)), (.i .i64 (0)), (.str []), (.sl .nil 0 []), (.sl .nil 0 []), (.sl .nil 0 []), (.i .i64 (0))], none⟩])
 (.seq (.reg [⟨some 4, .load true 7 (.tmp 1), none⟩, ⟨some 5, .call 19 [(.tmp 4)], none⟩, ⟨some 3, .alloc [(.i .i64 (0)), (.i .i64 (0)), (.str []), (.sl .nil 0 []), (.sl .nil 0 []), (.sl .nil 0 []), (.i .i64 (0))], none⟩, ⟨none, .store 7 (.tmp 3) (.tmp 5), none⟩])
 (.seq (.seq (.reg [⟨some 6, .faddr 0 (.tmp 3), none⟩, ⟨some 7, .faddr 6 (.tmp 6), none⟩, ⟨some 8, .load false 1 (.tmp 7), none⟩, ⟨some 9, .bin .lss (.tmp 8) (.con (.i .i64 (9223372036854775807))), none⟩])
 (.cond (.tmp 9) (.reg [⟨some 10, .faddr 0 (.tmp 3), none⟩, ⟨some 11, .faddr 6 (.tmp 10), none⟩, ⟨some 12, .load false 1 (.tmp 11), none⟩, ⟨some 13, .bin .add (.tmp 12) (.con (.i .i64 (1))), none⟩, ⟨some 14, .faddr 0 (.tmp 3), none⟩, ⟨some 15, .faddr 6 (.tmp 14), none⟩, ⟨none, .store 1 (.tmp 15) (.tmp 13), none⟩]) .skip))
 (.seq (.reg [⟨some 16, .load true 7 (.tmp 3), none⟩, ⟨none, .store 7 (.tmp 2) (.tmp 16), none⟩])
 .ret)))), [.cell 2 true 7]⟩
theorem c13 : compF Tryd.prog k13 [] Tryd.f13 = some a13 := by kernel_rfl
/-- (ramble/travel.T).Select -/
def k14 : Nat → List (Nat × H) := fun r => if r = 3 then [(1, .none), (2, .none), (4, .none), (6, .row 24 4), (12, .none), (13, .none), (14, .none)] else []
def a14 : AFun := ⟨2, (.seq (.reg [⟨some 2, .box (.tmp 0), none⟩, ⟨some 4, .alloc [(.i .i64 (0)), (.i .i64 (0)), (.str []), (.sl .nil 0 [])], none⟩, ⟨some 5, .mov (.con (.b false)), none⟩])
 (.seq (.reg [⟨some 6, .mov (.con (.sl .nil 0 [])), none⟩])
 (.seq (.seq (.reg [⟨some 12, .mov (.tmp 1), none⟩, ⟨some 13, .len false (.tmp 12), none⟩, ⟨some 14, .mov (.con (.i .i64 (0))), none⟩])
 (.block 0 (.loop [(1, .none), (2, .none), (4, .none), (6, .row 24 4), (12, .none), (13, .none), (14, .none)] (.seq (.reg [⟨some 15, .bin .lss (.tmp 14) (.tmp 13), none⟩])
 (.seq (.cond (.tmp 15) .skip (.exit 0))
 (.seq (.block 1 (.seq (.reg [⟨some 16, .mov (.tmp 14), none⟩, ⟨some 17, .iaddr 1 (.tmp 12) (.tmp 14), none⟩, ⟨some 18, .load false 1 (.tmp 17), none⟩, ⟨some 7, .mov (.tmp 16), none⟩, ⟨some 8, .mov (.tmp 18), none⟩])
 (.seq (.reg [⟨some 19, .load true 7 (.tmp 2), none⟩, ⟨some 20, .mov (.tmp 8), none⟩, ⟨some 21, .call 33 [(.tmp 19), (.tmp 20)], none⟩, ⟨some 9, .mov (.tmp 21), none⟩])
 (.seq (.seq (.reg [⟨some 22, .mov (.tmp 9), none⟩, ⟨some 23, .bin .lss (.tmp 22) (.con (.i .i64 (0))), none⟩])
 (.cond (.tmp 23) (.seq (.reg [⟨some 24, .build [(.i .i64 (0)), (.i .i64 (0)), (.str []), (.sl .nil 0 [])] [], none⟩, ⟨none, .store 4 (.tmp 4) (.tmp 24), none⟩, ⟨some 5, .mov (.con (.b false)), none⟩])
 .ret) .skip))
 (.seq (.seq (.reg [⟨some 25, .mov (.tmp 1), none⟩, ⟨some 26, .mov (.tmp 7), none⟩, ⟨some 27, .slice 1 (.tmp 25) none (some (.tmp 26)) none, none⟩, ⟨some 28, .mov (.tmp 8), none⟩, ⟨some 29, .call 36 [(.tmp 27), (.tmp 28)], none⟩])
 (.cond (.tmp 29) (.exit 1) .skip))
 (.draw [⟨some 30, .mov (.tmp 6), none⟩, ⟨some 31, .mov (.tmp 8), none⟩, ⟨some 32, .call 37 [(.tmp 31)], none⟩, ⟨some 33, .faddr 0 (.tmp 2), none⟩, ⟨some 34, .faddr 5 (.tmp 33), none⟩, ⟨some 35, .load false 1 (.tmp 34), none⟩, ⟨some 36, .mov (.tmp 9), none⟩, ⟨some 37, .iaddr 5 (.tmp 35) (.tmp 36), none⟩, ⟨some 38, .faddr 1 (.tmp 37), none⟩, ⟨some 39, .load true 4 (.tmp 38), none⟩, ⟨some 40, .call 35 [(.tmp 39)], none⟩, ⟨some 41, .bslice 24 [(.i .i64 (0)), (.i .i64 (0)), (.str []), (.sl .nil 0 [])] 2 [(0, (.tmp 32)), (1, (.tmp 40))], none⟩, ⟨some 42, .app 24 4 (.tmp 30) (.tmp 41), none⟩, ⟨some 6, .mov (.tmp 42), none⟩] [(2, 5), (2, 7), (2, 9)]))))))
 (.reg [⟨some 43, .bin .add (.tmp 14) (.con (.i .i64 (1))), none⟩, ⟨some 14, .mov (.tmp 43), none⟩])))))))
 (.seq (.seq (.reg [⟨some 44, .mov (.tmp 1), none⟩, ⟨some 45, .len false (.tmp 44), none⟩])
 (.block 2 (.seq (.reg [⟨some 47, .bin .eql (.tmp 45) (.con (.i .i64 (0))), none⟩, ⟨some 46, .mov (.tmp 47), none⟩])
 (.cond (.tmp 46) (.seq (.reg [⟨some 48, .build [(.i .i64 (0)), (.i .i64 (0)), (.str []), (.sl .nil 0 [])] [], none⟩, ⟨none, .store 4 (.tmp 4) (.tmp 48), none⟩, ⟨some 5, .mov (.con (.b false)), none⟩])
 .ret) (.seq (.reg [⟨some 50, .bin .eql (.tmp 45) (.con (.i .i64 (1))), none⟩, ⟨some 49, .mov (.tmp 50), none⟩])
 (.cond (.tmp 49) (.seq (.reg [⟨some 51, .mov (.tmp 6), none⟩, ⟨some 52, .iaddr 4 (.tmp 51) (.con (.i .i64 (1))), none⟩, ⟨some 53, .load true 4 (.tmp 52), none⟩, ⟨none, .store 4 (.tmp 4) (.tmp 53), none⟩, ⟨some 5, .mov (.con (.b true)), none⟩])
 .ret) .skip))))))
 (.seq (.reg [⟨some 55, .mov (.tmp 6), none⟩, ⟨some 56, .call 38 [(.tmp 55)], none⟩, ⟨some 54, .mov (.tmp 56), none⟩, ⟨some 57, .ext (.tmp 54) 0, none⟩, ⟨some 58, .ext (.tmp 54) 1, none⟩, ⟨some 10, .alloc [(.i .i64 (0)), (.i .i64 (0)), (.str []), (.sl .nil 0 [])], none⟩, ⟨none, .store 4 (.tmp 10) (.tmp 57), none⟩, ⟨some 11, .mov (.tmp 58), none⟩])
 (.seq (.seq (.reg [⟨some 59, .mov (.tmp 11), none⟩, ⟨some 60, .bin .neq (.tmp 59) (.con (.i .i64 (0))), none⟩])
 (.cond (.tmp 60) (.seq (.reg [⟨some 61, .build [(.i .i64 (0)), (.i .i64 (0)), (.str []), (.sl .nil 0 [])] [], none⟩, ⟨none, .store 4 (.tmp 4) (.tmp 61), none⟩, ⟨some 5, .mov (.con (.b false)), none⟩])
 .ret) .skip))
 (.seq (.reg [⟨some 62, .load true 4 (.tmp 10), none⟩, ⟨none, .store 4 (.tmp 4) (.tmp 62), none⟩, ⟨some 5, .mov (.con (.b true)), none⟩])
 .ret))))))), [.cell 4 true 4, .tmp 5]⟩
theorem c14 : compF Tryd.prog k14 [] Tryd.f14 = some a14 := by kernel_rfl
/-- ramble/rambleref02.Same -/
def k15 : Nat → List (Nat × H) := fun _ => []
def a15 : AFun := ⟨2, (.seq (.reg [⟨some 2, .box (.tmp 0), none⟩, ⟨some 3, .box (.tmp 1), none⟩, ⟨some 4, .mov (.con (.b false)), none⟩])
 (.seq (.reg [⟨some 5, .load true 4 (.tmp 2), none⟩, ⟨some 6, .load true 4 (.tmp 3), none⟩, ⟨some 7, .call 39 [(.tmp 5), (.tmp 6)], none⟩, ⟨some 8, .bin .eql (.tmp 7) (.con (.i .i64 (0))), none⟩, ⟨some 4, .mov (.tmp 8), none⟩])
 .ret)), [.tmp 4]⟩
theorem c15 : compF Tryd.prog k15 [] Tryd.f15 = some a15 := by kernel_rfl
/-- ramble/rambleref18.Clone -/
def k16 : Nat → List (Nat × H) := fun r => if r = 3 then [(1, .none), (2, .none), (3, .cells [.none, .none, .none, .none, .row 24 4]), (4, .none)] else if r = 7 then [(1, .none), (2, .none), (3, .cells [.none, .none, .none, .none, .none, .row 48 5]), (5, .none)] else []
def a16 : AFun := ⟨1, (.seq (.reg [⟨some 1, .box (.tmp 0), none⟩, ⟨some 2, .alloc [(.i .i64 (0)), (.i .i64 (0)), (.str []), (.sl .nil 0 []), (.sl .nil 0 []), (.sl .nil 0 []), (.i .i64 (0))], none⟩])
 (.seq (.draw [⟨some 6, .faddr 0 (.tmp 1), none⟩, ⟨some 7, .load true 4 (.tmp 6), none⟩, ⟨some 8, .call 40 [(.tmp 7)], none⟩, ⟨some 9, .faddr 6 (.tmp 1), none⟩, ⟨some 10, .load false 1 (.tmp 9), none⟩, ⟨some 11, .build [(.i .i64 (0)), (.i .i64 (0)), (.str []), (.sl .nil 0 []), (.sl .nil 0 []), (.sl .nil 0 []), (.i .i64 (0))] [(0, 4, (.tmp 8)), (6, 1, (.tmp 10))], none⟩, ⟨some 3, .alloc [(.i .i64 (0)), (.i .i64 (0)), (.str []), (.sl .nil 0 []), (.sl .nil 0 []), (.sl .nil 0 []), (.i .i64 (0))], none⟩, ⟨none, .store 7 (.tmp 3) (.tmp 11), none⟩] [(1, 4), (2, 4), (1, 6), (2, 6), (4, 6)])
 (.seq (.seq (.reg [⟨some 4, .mov (.con (.i .i64 (0))), none⟩])
 (.block 0 (.loop [(1, .none), (2, .none), (3, .cells [.none, .none, .none, .none, .row 24 4]), (4, .none)] (.seq (.seq (.reg [⟨some 12, .mov (.tmp 4), none⟩, ⟨some 13, .faddr 4 (.tmp 1), none⟩, ⟨some 14, .load false 1 (.tmp 13), none⟩, ⟨some 15, .len false (.tmp 14), none⟩, ⟨some 16, .bin .lss (.tmp 12) (.tmp 15), none⟩])
 (.cond (.tmp 16) .skip (.exit 0)))
 (.seq (.block 1 (.draw [⟨some 19, .faddr 4 (.tmp 3), none⟩, ⟨some 20, .load false 1 (.tmp 19), none⟩, ⟨some 21, .faddr 4 (.tmp 1), none⟩, ⟨some 22, .load false 1 (.tmp 21), none⟩, ⟨some 23, .mov (.tmp 4), none⟩, ⟨some 24, .iaddr 4 (.tmp 22) (.tmp 23), none⟩, ⟨some 25, .load true 4 (.tmp 24), none⟩, ⟨some 26, .call 40 [(.tmp 25)], none⟩, ⟨some 27, .bslice 24 [(.i .i64 (0)), (.i .i64 (0)), (.str []), (.sl .nil 0 [])] 1 [(0, (.tmp 26))], none⟩, ⟨some 28, .app 24 4 (.tmp 20) (.tmp 27), none⟩, ⟨some 29, .faddr 4 (.tmp 3), none⟩, ⟨none, .store 1 (.tmp 29) (.tmp 28), none⟩] [(1, 3), (1, 5), (1, 6), (1, 7), (1, 8)]))
 (.reg [⟨some 17, .mov (.tmp 4), none⟩, ⟨some 18, .bin .add (.tmp 17) (.con (.i .i64 (1))), none⟩, ⟨some 4, .mov (.tmp 18), none⟩]))))))
 (.seq (.seq (.reg [⟨some 5, .mov (.con (.i .i64 (0))), none⟩])
 (.block 2 (.loop [(1, .none), (2, .none), (3, .cells [.none, .none, .none, .none, .none, .row 48 5]), (5, .none)] (.seq (.seq (.reg [⟨some 30, .mov (.tmp 5), none⟩, ⟨some 31, .faddr 5 (.tmp 1), none⟩, ⟨some 32, .load false 1 (.tmp 31), none⟩, ⟨some 33, .len false (.tmp 32), none⟩, ⟨some 34, .bin .lss (.tmp 30) (.tmp 33), none⟩])
 (.cond (.tmp 34) .skip (.exit 2)))
 (.seq (.block 3 (.draw [⟨some 37, .faddr 5 (.tmp 3), none⟩, ⟨some 38, .load false 1 (.tmp 37), none⟩, ⟨some 39, .faddr 5 (.tmp 1), none⟩, ⟨some 40, .load false 1 (.tmp 39), none⟩, ⟨some 41, .mov (.tmp 5), none⟩, ⟨some 42, .iaddr 5 (.tmp 40) (.tmp 41), none⟩, ⟨some 43, .faddr 0 (.tmp 42), none⟩, ⟨some 44, .load false 1 (.tmp 43), none⟩, ⟨some 45, .faddr 5 (.tmp 1), none⟩, ⟨some 46, .load false 1 (.tmp 45), none⟩, ⟨some 47, .mov (.tmp 5), none⟩, ⟨some 48, .iaddr 5 (.tmp 46) (.tmp 47), none⟩, ⟨some 49, .faddr 1 (.tmp 48), none⟩, ⟨some 50, .load true 4 (.tmp 49), none⟩, ⟨some 51, .call 40 [(.tmp 50)], none⟩, ⟨some 52, .build [(.str []), (.i .i64 (0)), (.i .i64 (0)), (.str []), (.sl .nil 0 [])] [(0, 1, (.tmp 44)), (1, 4, (.tmp 51))], none⟩, ⟨some 53, .bslice 48 [(.str []), (.i .i64 (0)), (.i .i64 (0)), (.str []), (.sl .nil 0 [])] 1 [(0, (.tmp 52))], none⟩, ⟨some 54, .app 48 5 (.tmp 38) (.tmp 53), none⟩, ⟨some 55, .faddr 5 (.tmp 3), none⟩, ⟨none, .store 1 (.tmp 55) (.tmp 54), none⟩] [(1, 3), (1, 5), (1, 7), (1, 9), (3, 9), (5, 9), (7, 9), (1, 11), (3, 11), (5, 11), (7, 11), (1, 13), (3, 13), (5, 13), (7, 13), (1, 14), (3, 14), (5, 14), (7, 14), (1, 16)]))
 (.reg [⟨some 35, .mov (.tmp 5), none⟩, ⟨some 36, .bin .add (.tmp 35) (.con (.i .i64 (1))), none⟩, ⟨some 5, .mov (.tmp 36), none⟩]))))))
 (.seq (.reg [⟨some 56, .load true 7 (.tmp 3), none⟩, ⟨none, .store 7 (.tmp 2) (.tmp 56), none⟩])
 .ret))))), [.cell 2 true 7]⟩
theorem c16 : compF Tryd.prog k16 [] Tryd.f16 = some a16 := by kernel_rfl
/-- ramble/rambleref18.Same -/
def k18 : Nat → List (Nat × H) := fun r => if r = 4 then [(2, .none), (3, .none), (5, .none)] else []
def a18 : AFun := ⟨2, (.seq (.reg [⟨some 2, .box (.tmp 0), none⟩, ⟨some 3, .box (.tmp 1), none⟩, ⟨some 4, .mov (.con (.b false)), none⟩])
 (.seq (.seq (.reg [⟨some 6, .faddr 0 (.tmp 2), none⟩, ⟨some 7, .load true 4 (.tmp 6), none⟩, ⟨some 8, .faddr 0 (.tmp 3), none⟩, ⟨some 9, .load true 4 (.tmp 8), none⟩, ⟨some 10, .call 15 [(.tmp 7), (.tmp 9)], none⟩, ⟨some 11, .un .not (.tmp 10), none⟩, ⟨some 12, .mov (.tmp 11), none⟩, ⟨some 13, .faddr 4 (.tmp 2), some (12, false)⟩, ⟨some 14, .load false 1 (.tmp 13), some (12, false)⟩, ⟨some 15, .faddr 4 (.tmp 3), some (12, false)⟩, ⟨some 16, .load false 1 (.tmp 15), some (12, false)⟩, ⟨some 17, .call 12 [(.tmp 14), (.tmp 16)], some (12, false)⟩, ⟨some 18, .un .not (.tmp 17), some (12, false)⟩, ⟨some 19, .pick (.tmp 12) (.con (.b true)) (.tmp 18), none⟩, ⟨some 20, .mov (.tmp 19), none⟩, ⟨some 21, .faddr 5 (.tmp 2), some (20, false)⟩, ⟨some 22, .load false 1 (.tmp 21), some (20, false)⟩, ⟨some 23, .len false (.tmp 22), some (20, false)⟩, ⟨some 24, .faddr 5 (.tmp 3), some (20, false)⟩, ⟨some 25, .load false 1 (.tmp 24), some (20, false)⟩, ⟨some 26, .len false (.tmp 25), some (20, false)⟩, ⟨some 27, .bin .neq (.tmp 23) (.tmp 26), some (20, false)⟩, ⟨some 28, .pick (.tmp 20) (.con (.b true)) (.tmp 27), none⟩, ⟨some 29, .mov (.tmp 28), none⟩, ⟨some 30, .faddr 6 (.tmp 2), some (29, false)⟩, ⟨some 31, .load false 1 (.tmp 30), some (29, false)⟩, ⟨some 32, .faddr 6 (.tmp 3), some (29, false)⟩, ⟨some 33, .load false 1 (.tmp 32), some (29, false)⟩, ⟨some 34, .bin .neq (.tmp 31) (.tmp 33), some (29, false)⟩, ⟨some 35, .pick (.tmp 29) (.con (.b true)) (.tmp 34), none⟩])
 (.cond (.tmp 35) (.seq (.reg [⟨some 4, .mov (.con (.b false)), none⟩])
 .ret) .skip))
 (.seq (.seq (.reg [⟨some 5, .mov (.con (.i .i64 (0))), none⟩])
 (.block 0 (.loop [(2, .none), (3, .none), (5, .none)] (.seq (.seq (.reg [⟨some 36, .mov (.tmp 5), none⟩, ⟨some 37, .faddr 5 (.tmp 2), none⟩, ⟨some 38, .load false 1 (.tmp 37), none⟩, ⟨some 39, .len false (.tmp 38), none⟩, ⟨some 40, .bin .lss (.tmp 36) (.tmp 39), none⟩])
 (.cond (.tmp 40) .skip (.exit 0)))
 (.seq (.block 1 (.seq (.draw [⟨some 43, .faddr 5 (.tmp 2), none⟩, ⟨some 44, .load false 1 (.tmp 43), none⟩, ⟨some 45, .mov (.tmp 5), none⟩, ⟨some 46, .iaddr 5 (.tmp 44) (.tmp 45), none⟩, ⟨some 47, .faddr 0 (.tmp 46), none⟩, ⟨some 48, .load false 1 (.tmp 47), none⟩, ⟨some 49, .faddr 5 (.tmp 3), none⟩, ⟨some 50, .load false 1 (.tmp 49), none⟩, ⟨some 51, .mov (.tmp 5), none⟩, ⟨some 52, .iaddr 5 (.tmp 50) (.tmp 51), none⟩, ⟨some 53, .faddr 0 (.tmp 52), none⟩, ⟨some 54, .load false 1 (.tmp 53), none⟩, ⟨some 55, .bin .neq (.tmp 48) (.tmp 54), none⟩, ⟨some 56, .mov (.tmp 55), none⟩, ⟨some 57, .faddr 5 (.tmp 2), some (56, false)⟩, ⟨some 58, .load false 1 (.tmp 57), some (56, false)⟩, ⟨some 59, .mov (.tmp 5), some (56, false)⟩, ⟨some 60, .iaddr 5 (.tmp 58) (.tmp 59), some (56, false)⟩, ⟨some 61, .faddr 1 (.tmp 60), some (56, false)⟩, ⟨some 62, .load true 4 (.tmp 61), some (56, false)⟩, ⟨some 63, .faddr 5 (.tmp 3), some (56, false)⟩, ⟨some 64, .load false 1 (.tmp 63), some (56, false)⟩, ⟨some 65, .mov (.tmp 5), some (56, false)⟩, ⟨some 66, .iaddr 5 (.tmp 64) (.tmp 65), some (56, false)⟩, ⟨some 67, .faddr 1 (.tmp 66), some (56, false)⟩, ⟨some 68, .load true 4 (.tmp 67), some (56, false)⟩, ⟨some 69, .call 15 [(.tmp 62), (.tmp 68)], some (56, false)⟩, ⟨some 70, .un .not (.tmp 69), some (56, false)⟩, ⟨some 71, .pick (.tmp 56) (.con (.b true)) (.tmp 70), none⟩] [(1, 7), (3, 7), (5, 7), (1, 9), (3, 9), (5, 9), (1, 11), (3, 11), (5, 11), (15, 21), (17, 21), (19, 21), (15, 23), (17, 23), (19, 23), (15, 25), (17, 25), (19, 25)])
 (.cond (.tmp 71) (.seq (.reg [⟨some 4, .mov (.con (.b false)), none⟩])
 .ret) .skip)))
 (.reg [⟨some 41, .mov (.tmp 5), none⟩, ⟨some 42, .bin .add (.tmp 41) (.con (.i .i64 (1))), none⟩, ⟨some 5, .mov (.tmp 42), none⟩]))))))
 (.seq (.reg [⟨some 4, .mov (.con (.b true)), none⟩])
 .ret)))), [.tmp 4]⟩
theorem c18 : compF Tryd.prog k18 [] Tryd.f18 = some a18 := by kernel_rfl
/-- (ramble/travel.T).Clone -/
def k19 : Nat → List (Nat × H) := fun r => if r = 3 then [(1, .none), (2, .none), (3, .cells [.none, .none, .none, .none, .row 24 4]), (19, .none), (20, .none), (21, .none)] else if r = 8 then [(2, .none), (3, .cells [.none, .none, .none, .none, .none, .row 48 5]), (37, .none), (38, .none), (39, .none)] else []
def a19 : AFun := ⟨1, (.seq (.reg [⟨some 1, .box (.tmp 0), none⟩, ⟨some 2, .alloc [(.i .i64 (0)), (.i .i64 (0)), (.str []), (.sl .nil 0 []), (.sl .nil 0 []), (.sl .nil 0 []), (.i .i64 (0))], none⟩])
 (.seq (.draw [⟨some 8, .faddr 0 (.tmp 1), none⟩, ⟨some 9, .faddr 0 (.tmp 8), none⟩, ⟨some 10, .load true 4 (.tmp 9), none⟩, ⟨some 11, .call 35 [(.tmp 10)], none⟩, ⟨some 12, .faddr 0 (.tmp 1), none⟩, ⟨some 13, .faddr 6 (.tmp 12), none⟩, ⟨some 14, .load false 1 (.tmp 13), none⟩, ⟨some 15, .build [(.i .i64 (0)), (.i .i64 (0)), (.str []), (.sl .nil 0 []), (.sl .nil 0 []), (.sl .nil 0 []), (.i .i64 (0))] [(0, 4, (.tmp 11)), (6, 1, (.tmp 14))], none⟩, ⟨some 16, .build [(.i .i64 (0)), (.i .i64 (0)), (.str []), (.sl .nil 0 []), (.sl .nil 0 []), (.sl .nil 0 []), (.i .i64 (0))] [(0, 7, (.tmp 15))], none⟩, ⟨some 3, .alloc [(.i .i64 (0)), (.i .i64 (0)), (.str []), (.sl .nil 0 []), (.sl .nil 0 []), (.sl .nil 0 []), (.i .i64 (0))], none⟩, ⟨none, .store 7 (.tmp 3) (.tmp 16), none⟩] [(2, 6), (3, 6), (2, 9), (3, 9), (6, 9)])
 (.seq (.seq (.reg [⟨some 17, .faddr 0 (.tmp 1), none⟩, ⟨some 18, .faddr 4 (.tmp 17), none⟩, ⟨some 19, .load false 1 (.tmp 18), none⟩, ⟨some 20, .len false (.tmp 19), none⟩, ⟨some 21, .mov (.con (.i .i64 (0))), none⟩])
 (.block 0 (.loop [(1, .none), (2, .none), (3, .cells [.none, .none, .none, .none, .row 24 4]), (19, .none), (20, .none), (21, .none)] (.seq (.reg [⟨some 22, .bin .lss (.tmp 21) (.tmp 20), none⟩])
 (.seq (.cond (.tmp 22) .skip (.exit 0))
 (.seq (.block 1 (.seq (.reg [⟨some 23, .iaddr 4 (.tmp 19) (.tmp 21), none⟩, ⟨some 24, .load true 4 (.tmp 23), none⟩, ⟨some 5, .alloc [(.i .i64 (0)), (.i .i64 (0)), (.str []), (.sl .nil 0 [])], none⟩, ⟨none, .store 4 (.tmp 5) (.tmp 24), none⟩])
 (.draw [⟨some 25, .faddr 0 (.tmp 3), none⟩, ⟨some 26, .faddr 4 (.tmp 25), none⟩, ⟨some 27, .load false 1 (.tmp 26), none⟩, ⟨some 28, .load true 4 (.tmp 5), none⟩, ⟨some 29, .call 35 [(.tmp 28)], none⟩, ⟨some 30, .bslice 24 [(.i .i64 (0)), (.i .i64 (0)), (.str []), (.sl .nil 0 [])] 1 [(0, (.tmp 29))], none⟩, ⟨some 31, .app 24 4 (.tmp 27) (.tmp 30), none⟩, ⟨some 32, .faddr 0 (.tmp 3), none⟩, ⟨some 33, .faddr 4 (.tmp 32), none⟩, ⟨none, .store 1 (.tmp 33) (.tmp 31), none⟩] [(2, 3), (2, 4), (2, 5)])))
 (.reg [⟨some 34, .bin .add (.tmp 21) (.con (.i .i64 (1))), none⟩, ⟨some 21, .mov (.tmp 34), none⟩])))))))
 (.seq (.seq (.reg [⟨some 35, .faddr 0 (.tmp 1), none⟩, ⟨some 36, .faddr 5 (.tmp 35), none⟩, ⟨some 37, .load false 1 (.tmp 36), none⟩, ⟨some 38, .len false (.tmp 37), none⟩, ⟨some 39, .mov (.con (.i .i64 (0))), none⟩])
 (.block 2 (.loop [(2, .none), (3, .cells [.none, .none, .none, .none, .none, .row 48 5]), (37, .none), (38, .none), (39, .none)] (.seq (.reg [⟨some 40, .bin .lss (.tmp 39) (.tmp 38), none⟩])
 (.seq (.cond (.tmp 40) .skip (.exit 2))
 (.seq (.block 3 (.seq (.reg [⟨some 41, .iaddr 5 (.tmp 37) (.tmp 39), none⟩, ⟨some 42, .load true 5 (.tmp 41), none⟩, ⟨some 7, .alloc [(.str []), (.i .i64 (0)), (.i .i64 (0)), (.str []), (.sl .nil 0 [])], none⟩, ⟨none, .store 5 (.tmp 7) (.tmp 42), none⟩])
 (.draw [⟨some 43, .faddr 0 (.tmp 3), none⟩, ⟨some 44, .faddr 5 (.tmp 43), none⟩, ⟨some 45, .load false 1 (.tmp 44), none⟩, ⟨some 46, .faddr 0 (.tmp 7), none⟩, ⟨some 47, .load false 1 (.tmp 46), none⟩, ⟨some 48, .faddr 1 (.tmp 7), none⟩, ⟨some 49, .load true 4 (.tmp 48), none⟩, ⟨some 50, .call 35 [(.tmp 49)], none⟩, ⟨some 51, .build [(.str []), (.i .i64 (0)), (.i .i64 (0)), (.str []), (.sl .nil 0 [])] [(0, 1, (.tmp 47)), (1, 4, (.tmp 50))], none⟩, ⟨some 52, .bslice 48 [(.str []), (.i .i64 (0)), (.i .i64 (0)), (.str []), (.sl .nil 0 [])] 1 [(0, (.tmp 51))], none⟩, ⟨some 53, .app 48 5 (.tmp 45) (.tmp 52), none⟩, ⟨some 54, .faddr 0 (.tmp 3), none⟩, ⟨some 55, .faddr 5 (.tmp 54), none⟩, ⟨none, .store 1 (.tmp 55) (.tmp 53), none⟩] [(2, 4), (2, 6), (4, 6), (2, 7), (4, 7), (2, 9)])))
 (.reg [⟨some 56, .bin .add (.tmp 39) (.con (.i .i64 (1))), none⟩, ⟨some 39, .mov (.tmp 56), none⟩])))))))
 (.seq (.reg [⟨some 57, .load true 7 (.tmp 3), none⟩, ⟨none, .store 7 (.tmp 2) (.tmp 57), none⟩])
 .ret))))), [.cell 2 true 7]⟩
theorem c19 : compF Tryd.prog k19 [] Tryd.f19 = some a19 := by kernel_rfl
/-- ramble/ramblelaw18.same -/
def k20 : Nat → List (Nat × H) := fun _ => []
def a20 : AFun := ⟨2, (.seq (.reg [⟨some 2, .box (.tmp 0), none⟩, ⟨some 3, .box (.tmp 1), none⟩, ⟨some 4, .mov (.con (.b false)), none⟩])
 (.seq (.reg [⟨some 5, .faddr 0 (.tmp 2), none⟩, ⟨some 6, .load true 7 (.tmp 5), none⟩, ⟨some 7, .load true 7 (.tmp 3), none⟩, ⟨some 8, .call 18 [(.tmp 6), (.tmp 7)], none⟩, ⟨some 4, .mov (.tmp 8), none⟩])
 .ret)), [.tmp 4]⟩
theorem c20 : compF Tryd.prog k20 [] Tryd.f20 = some a20 := by kernel_rfl
/-- ramble/rambleref18.Check -/
def k21 : Nat → List (Nat × H) := fun r => if r = 3 then [(1, .none), (3, .none), (4, .none)] else if r = 7 then [(1, .none), (3, .none), (5, .none)] else if r = 11 then [(1, .none), (3, .none), (5, .none), (6, .none)] else []
def a21 : AFun := ⟨1, (.seq (.reg [⟨some 1, .box (.tmp 0), none⟩, ⟨some 2, .mov (.con (.i .i64 (0))), none⟩])
 (.seq (.reg [⟨some 7, .faddr 0 (.tmp 1), none⟩, ⟨some 8, .load true 4 (.tmp 7), none⟩, ⟨some 9, .call 22 [(.tmp 8)], none⟩, ⟨some 10, .bin .eql (.tmp 9) (.con (.i .i64 (0))), none⟩, ⟨some 11, .mov (.tmp 10), none⟩, ⟨some 12, .faddr 4 (.tmp 1), some (11, true)⟩, ⟨some 13, .load false 1 (.tmp 12), some (11, true)⟩, ⟨some 14, .len false (.tmp 13), some (11, true)⟩, ⟨some 15, .bin .leq (.tmp 14) (.con (.i .i64 (256))), some (11, true)⟩, ⟨some 16, .pick (.tmp 11) (.tmp 15) (.con (.b false)), none⟩, ⟨some 17, .mov (.tmp 16), none⟩, ⟨some 18, .faddr 5 (.tmp 1), some (17, true)⟩, ⟨some 19, .load false 1 (.tmp 18), some (17, true)⟩, ⟨some 20, .len false (.tmp 19), some (17, true)⟩, ⟨some 21, .bin .leq (.tmp 20) (.con (.i .i64 (32))), some (17, true)⟩, ⟨some 22, .pick (.tmp 17) (.tmp 21) (.con (.b false)), none⟩, ⟨some 23, .mov (.tmp 22), none⟩, ⟨some 24, .faddr 6 (.tmp 1), some (23, true)⟩, ⟨some 25, .load false 1 (.tmp 24), some (23, true)⟩, ⟨some 26, .bin .geq (.tmp 25) (.con (.i .i64 (0))), some (23, true)⟩, ⟨some 27, .pick (.tmp 23) (.tmp 26) (.con (.b false)), none⟩, ⟨some 3, .mov (.tmp 27), none⟩])
 (.seq (.seq (.reg [⟨some 4, .mov (.con (.i .i64 (0))), none⟩])
 (.block 0 (.loop [(1, .none), (3, .none), (4, .none)] (.seq (.seq (.reg [⟨some 28, .mov (.tmp 3), none⟩, ⟨some 29, .mov (.tmp 28), none⟩, ⟨some 30, .mov (.tmp 4), some (29, true)⟩, ⟨some 31, .faddr 4 (.tmp 1), some (29, true)⟩, ⟨some 32, .load false 1 (.tmp 31), some (29, true)⟩, ⟨some 33, .len false (.tmp 32), some (29, true)⟩, ⟨some 34, .bin .lss (.tmp 30) (.tmp 33), some (29, true)⟩, ⟨some 35, .pick (.tmp 29) (.tmp 34) (.con (.b false)), none⟩])
 (.cond (.tmp 35) .skip (.exit 0)))
 (.seq (.block 1 (.reg [⟨some 38, .faddr 4 (.tmp 1), none⟩, ⟨some 39, .load false 1 (.tmp 38), none⟩, ⟨some 40, .mov (.tmp 4), none⟩, ⟨some 41, .iaddr 4 (.tmp 39) (.tmp 40), none⟩, ⟨some 42, .load true 4 (.tmp 41), none⟩, ⟨some 43, .call 22 [(.tmp 42)], none⟩, ⟨some 44, .bin .eql (.tmp 43) (.con (.i .i64 (0))), none⟩, ⟨some 3, .mov (.tmp 44), none⟩]))
 (.reg [⟨some 36, .mov (.tmp 4), none⟩, ⟨some 37, .bin .add (.tmp 36) (.con (.i .i64 (1))), none⟩, ⟨some 4, .mov (.tmp 37), none⟩]))))))
 (.seq (.seq (.reg [⟨some 5, .mov (.con (.i .i64 (0))), none⟩])
 (.block 2 (.loop [(1, .none), (3, .none), (5, .none)] (.seq (.seq (.reg [⟨some 45, .mov (.tmp 3), none⟩, ⟨some 46, .mov (.tmp 45), none⟩, ⟨some 47, .mov (.tmp 5), some (46, true)⟩, ⟨some 48, .faddr 5 (.tmp 1), some (46, true)⟩, ⟨some 49, .load false 1 (.tmp 48), some (46, true)⟩, ⟨some 50, .len false (.tmp 49), some (46, true)⟩, ⟨some 51, .bin .lss (.tmp 47) (.tmp 50), some (46, true)⟩, ⟨some 52, .pick (.tmp 46) (.tmp 51) (.con (.b false)), none⟩])
 (.cond (.tmp 52) .skip (.exit 2)))
 (.seq (.block 3 (.seq (.reg [⟨some 55, .faddr 5 (.tmp 1), none⟩, ⟨some 56, .load false 1 (.tmp 55), none⟩, ⟨some 57, .mov (.tmp 5), none⟩, ⟨some 58, .iaddr 5 (.tmp 56) (.tmp 57), none⟩, ⟨some 59, .faddr 0 (.tmp 58), none⟩, ⟨some 60, .load false 1 (.tmp 59), none⟩, ⟨some 61, .call 45 [(.tmp 60)], none⟩, ⟨some 62, .mov (.tmp 61), none⟩, ⟨some 63, .faddr 5 (.tmp 1), some (62, true)⟩, ⟨some 64, .load false 1 (.tmp 63), some (62, true)⟩, ⟨some 65, .mov (.tmp 5), some (62, true)⟩, ⟨some 66, .iaddr 5 (.tmp 64) (.tmp 65), some (62, true)⟩, ⟨some 67, .faddr 1 (.tmp 66), some (62, true)⟩, ⟨some 68, .load true 4 (.tmp 67), some (62, true)⟩, ⟨some 69, .call 22 [(.tmp 68)], some (62, true)⟩, ⟨some 70, .bin .eql (.tmp 69) (.con (.i .i64 (0))), some (62, true)⟩, ⟨some 71, .pick (.tmp 62) (.tmp 70) (.con (.b false)), none⟩, ⟨some 3, .mov (.tmp 71), none⟩])
 (.seq (.reg [⟨some 6, .mov (.con (.i .i64 (0))), none⟩])
 (.block 4 (.loop [(1, .none), (3, .none), (5, .none), (6, .none)] (.seq (.seq (.reg [⟨some 72, .mov (.tmp 6), none⟩, ⟨some 73, .mov (.tmp 5), none⟩, ⟨some 74, .bin .lss (.tmp 72) (.tmp 73), none⟩])
 (.cond (.tmp 74) .skip (.exit 4)))
 (.seq (.block 5 (.draw [⟨some 77, .mov (.tmp 3), none⟩, ⟨some 78, .mov (.tmp 77), none⟩, ⟨some 79, .faddr 5 (.tmp 1), some (78, true)⟩, ⟨some 80, .load false 1 (.tmp 79), some (78, true)⟩, ⟨some 81, .mov (.tmp 6), some (78, true)⟩, ⟨some 82, .iaddr 5 (.tmp 80) (.tmp 81), some (78, true)⟩, ⟨some 83, .faddr 0 (.tmp 82), some (78, true)⟩, ⟨some 84, .load false 1 (.tmp 83), some (78, true)⟩, ⟨some 85, .faddr 5 (.tmp 1), some (78, true)⟩, ⟨some 86, .load false 1 (.tmp 85), some (78, true)⟩, ⟨some 87, .mov (.tmp 5), some (78, true)⟩, ⟨some 88, .iaddr 5 (.tmp 86) (.tmp 87), some (78, true)⟩, ⟨some 89, .faddr 0 (.tmp 88), some (78, true)⟩, ⟨some 90, .load false 1 (.tmp 89), some (78, true)⟩, ⟨some 91, .bin .neq (.tmp 84) (.tmp 90), some (78, true)⟩, ⟨some 92, .pick (.tmp 78) (.tmp 91) (.con (.b false)), none⟩, ⟨some 3, .mov (.tmp 92), none⟩] [(3, 9), (5, 9), (7, 9), (3, 11), (5, 11), (7, 11), (3, 13), (5, 13), (7, 13)]))
 (.reg [⟨some 75, .mov (.tmp 6), none⟩, ⟨some 76, .bin .add (.tmp 75) (.con (.i .i64 (1))), none⟩, ⟨some 6, .mov (.tmp 76), none⟩]))))))))
 (.reg [⟨some 53, .mov (.tmp 5), none⟩, ⟨some 54, .bin .add (.tmp 53) (.con (.i .i64 (1))), none⟩, ⟨some 5, .mov (.tmp 54), none⟩]))))))
 (.seq (.seq (.reg [⟨some 93, .mov (.tmp 3), none⟩, ⟨some 94, .un .not (.tmp 93), none⟩])
 (.cond (.tmp 94) (.seq (.reg [⟨some 2, .mov (.con (.i .i64 (180))), none⟩])
 .ret) .skip))
 (.seq (.reg [⟨some 2, .mov (.con (.i .i64 (0))), none⟩])
 .ret)))))), [.tmp 2]⟩
theorem c21 : compF Tryd.prog k21 [] Tryd.f21 = some a21 := by kernel_rfl
/-- ramble/rambleref02.Check -/
def k22 : Nat → List (Nat × H) := fun _ => []
def a22 : AFun := ⟨1, (.seq (.reg [⟨some 1, .box (.tmp 0), none⟩, ⟨some 2, .mov (.con (.i .i64 (0))), none⟩])
 (.seq (.seq (.reg [⟨some 3, .load true 4 (.tmp 1), none⟩, ⟨some 4, .call 46 [(.tmp 3), (.con (.i .i64 (0)))], none⟩, ⟨some 5, .un .not (.tmp 4), none⟩])
 (.cond (.tmp 5) (.seq (.reg [⟨some 2, .mov (.con (.i .i64 (20))), none⟩])
 .ret) .skip))
 (.seq (.reg [⟨some 2, .mov (.con (.i .i64 (0))), none⟩])
 .ret))), [.tmp 2]⟩
theorem c22 : compF Tryd.prog k22 [] Tryd.f22 = some a22 := by kernel_rfl
/-- (ramble/travel.T).Check -/
def k23 : Nat → List (Nat × H) := fun r => if r = 5 then [(3, .none), (39, .none), (40, .none), (41, .none)] else []
def a23 : AFun := ⟨1, (.seq (.reg [⟨some 1, .box (.tmp 0), none⟩, ⟨some 2, .mov (.con (.i .i64 (0))), none⟩])
 (.seq (.seq (.reg [⟨some 6, .faddr 0 (.tmp 1), none⟩, ⟨some 7, .faddr 0 (.tmp 6), none⟩, ⟨some 8, .load true 4 (.tmp 7), none⟩, ⟨some 9, .call 47 [(.tmp 8)], none⟩, ⟨some 10, .mov (.tmp 9), none⟩, ⟨some 11, .faddr 0 (.tmp 1), some (10, false)⟩, ⟨some 12, .faddr 4 (.tmp 11), some (10, false)⟩, ⟨some 13, .load false 1 (.tmp 12), some (10, false)⟩, ⟨some 14, .len false (.tmp 13), some (10, false)⟩, ⟨some 15, .bin .gtr (.tmp 14) (.con (.i .i64 (256))), some (10, false)⟩, ⟨some 16, .pick (.tmp 10) (.con (.b true)) (.tmp 15), none⟩, ⟨some 17, .mov (.tmp 16), none⟩, ⟨some 18, .faddr 0 (.tmp 1), some (17, false)⟩, ⟨some 19, .faddr 5 (.tmp 18), some (17, false)⟩, ⟨some 20, .load false 1 (.tmp 19), some (17, false)⟩, ⟨some 21, .len false (.tmp 20), some (17, false)⟩, ⟨some 22, .bin .gtr (.tmp 21) (.con (.i .i64 (32))), some (17, false)⟩, ⟨some 23, .pick (.tmp 17) (.con (.b true)) (.tmp 22), none⟩, ⟨some 24, .mov (.tmp 23), none⟩, ⟨some 25, .faddr 0 (.tmp 1), some (24, false)⟩, ⟨some 26, .faddr 6 (.tmp 25), some (24, false)⟩, ⟨some 27, .load false 1 (.tmp 26), some (24, false)⟩, ⟨some 28, .bin .lss (.tmp 27) (.con (.i .i64 (0))), some (24, false)⟩, ⟨some 29, .pick (.tmp 24) (.con (.b true)) (.tmp 28), none⟩, ⟨some 30, .mov (.tmp 29), none⟩, ⟨some 31, .faddr 0 (.tmp 1), some (30, false)⟩, ⟨some 32, .faddr 4 (.tmp 31), some (30, false)⟩, ⟨some 33, .load false 1 (.tmp 32), some (30, false)⟩, ⟨some 34, .call 48 [(.tmp 33), (.con (.fn 47 []))], some (30, false)⟩, ⟨some 35, .pick (.tmp 30) (.con (.b true)) (.tmp 34), none⟩])
 (.cond (.tmp 35) (.seq (.reg [⟨some 2, .mov (.con (.i .i64 (180))), none⟩])
 .ret) .skip))
 (.seq (.reg [⟨some 36, .mkmap, none⟩, ⟨some 3, .mov (.tmp 36), none⟩])
 (.seq (.seq (.reg [⟨some 37, .faddr 0 (.tmp 1), none⟩, ⟨some 38, .faddr 5 (.tmp 37), none⟩, ⟨some 39, .load false 1 (.tmp 38), none⟩, ⟨some 40, .len false (.tmp 39), none⟩, ⟨some 41, .mov (.con (.i .i64 (0))), none⟩])
 (.block 0 (.loop [(3, .none), (39, .none), (40, .none), (41, .none)] (.seq (.reg [⟨some 42, .bin .lss (.tmp 41) (.tmp 40), none⟩])
 (.seq (.cond (.tmp 42) .skip (.exit 0))
 (.seq (.block 1 (.seq (.reg [⟨some 43, .iaddr 5 (.tmp 39) (.tmp 41), none⟩, ⟨some 44, .load true 5 (.tmp 43), none⟩, ⟨some 5, .alloc [(.str []), (.i .i64 (0)), (.i .i64 (0)), (.str []), (.sl .nil 0 [])], none⟩, ⟨none, .store 5 (.tmp 5) (.tmp 44), none⟩])
 (.seq (.seq (.reg [⟨some 45, .faddr 0 (.tmp 5), none⟩, ⟨some 46, .load false 1 (.tmp 45), none⟩, ⟨some 47, .call 34 [(.tmp 46)], none⟩, ⟨some 48, .un .not (.tmp 47), none⟩, ⟨some 49, .mov (.tmp 48), none⟩, ⟨some 50, .mov (.tmp 3), some (49, false)⟩, ⟨some 51, .faddr 0 (.tmp 5), some (49, false)⟩, ⟨some 52, .load false 1 (.tmp 51), some (49, false)⟩, ⟨some 53, .mget .str (.b false) false (.tmp 50) (.tmp 52), some (49, false)⟩, ⟨some 54, .pick (.tmp 49) (.con (.b true)) (.tmp 53), none⟩, ⟨some 55, .mov (.tmp 54), none⟩, ⟨some 56, .faddr 1 (.tmp 5), some (55, false)⟩, ⟨some 57, .load true 4 (.tmp 56), some (55, false)⟩, ⟨some 58, .call 47 [(.tmp 57)], some (55, false)⟩, ⟨some 59, .pick (.tmp 55) (.con (.b true)) (.tmp 58), none⟩])
 (.cond (.tmp 59) (.seq (.reg [⟨some 2, .mov (.con (.i .i64 (180))), none⟩])
 .ret) .skip))
 (.reg [⟨some 60, .mov (.tmp 3), none⟩, ⟨some 61, .faddr 0 (.tmp 5), none⟩, ⟨some 62, .load false 1 (.tmp 61), none⟩, ⟨none, .mput .str (.tmp 60) (.tmp 62) (.con (.b true)), none⟩]))))
 (.reg [⟨some 63, .bin .add (.tmp 41) (.con (.i .i64 (1))), none⟩, ⟨some 41, .mov (.tmp 63), none⟩])))))))
 (.seq (.reg [⟨some 2, .mov (.con (.i .i64 (0))), none⟩])
 .ret))))), [.tmp 2]⟩
theorem c23 : compF Tryd.prog k23 [] Tryd.f23 = some a23 := by kernel_rfl
/-- ramble/rambleref18.To -/
def k24 : Nat → List (Nat × H) := fun _ => []
def a24 : AFun := ⟨2, (.seq (.reg [⟨some 2, .box (.tmp 0), none⟩, ⟨some 3, .box (.tmp 1), none⟩, ⟨some 4, .alloc [(.i .i64 (0)), (.i .i64 (0)), (.str []), (.sl .nil 0 []), (.sl .nil 0 []), (.sl .nil 0 []), (.i .i64 (0))], none⟩, ⟨some 5, .mov (.con (.i .i64 (0))), none⟩])
 (.seq (.reg [⟨some 6, .load true 7 (.tmp 2), none⟩, ⟨some 7, .call 16 [(.tmp 6)], none⟩, ⟨none, .store 7 (.tmp 2) (.tmp 7), none⟩])
 (.seq (.seq (.reg [⟨some 8, .faddr 4 (.tmp 2), none⟩, ⟨some 9, .load false 1 (.tmp 8), none⟩, ⟨some 10, .len false (.tmp 9), none⟩, ⟨some 11, .bin .geq (.tmp 10) (.con (.i .i64 (256))), none⟩])
 (.cond (.tmp 11) (.seq (.reg [⟨some 12, .load true 7 (.tmp 2), none⟩, ⟨none, .store 7 (.tmp 4) (.tmp 12), none⟩, ⟨some 5, .mov (.con (.i .i64 (3))), none⟩])
 .ret) .skip))
 (.seq (.reg [⟨some 13, .load true 4 (.tmp 3), none⟩, ⟨some 14, .call 40 [(.tmp 13)], none⟩, ⟨some 15, .faddr 0 (.tmp 2), none⟩, ⟨none, .store 4 (.tmp 15) (.tmp 14), none⟩])
 (.seq (.draw [⟨some 16, .faddr 4 (.tmp 2), none⟩, ⟨some 17, .load false 1 (.tmp 16), none⟩, ⟨some 18, .load true 4 (.tmp 3), none⟩, ⟨some 19, .call 40 [(.tmp 18)], none⟩, ⟨some 20, .bslice 24 [(.i .i64 (0)), (.i .i64 (0)), (.str []), (.sl .nil 0 [])] 1 [(0, (.tmp 19))], none⟩, ⟨some 21, .app 24 4 (.tmp 17) (.tmp 20), none⟩, ⟨some 22, .faddr 4 (.tmp 2), none⟩, ⟨none, .store 1 (.tmp 22) (.tmp 21), none⟩] [(1, 2), (1, 3), (1, 4)])
 (.seq (.reg [⟨some 23, .load true 7 (.tmp 2), none⟩, ⟨none, .store 7 (.tmp 4) (.tmp 23), none⟩, ⟨some 5, .mov (.con (.i .i64 (0))), none⟩])
 .ret)))))), [.cell 4 true 7, .tmp 5]⟩
theorem c24 : compF Tryd.prog k24 [] Tryd.f24 = some a24 := by kernel_rfl
/-- ramble/travel.New -/
def k25 : Nat → List (Nat × H) := fun _ => []
def a25 : AFun := ⟨0, (.seq (.reg [⟨some 0, .alloc [(.i .i64 (0)), (.i .i64 (0)), (.str []), (.sl .nil 0 []), (.sl .nil 0 []), (.sl .nil 0 []), (.i .i64 (0))], none⟩])
 (.seq (.reg [⟨some 1, .build [(.i .i64 (0)), (.i .i64 (0)), (.str []), (.sl .nil 0 [])] [(0, 1, (.con (.i .i64 (4))))], none⟩, ⟨some 2, .build [(.i .i64 (0)), (.i .i64 (0)), (.str []), (.sl .nil 0 []), (.sl .nil 0 []), (.sl .nil 0 []), (.i .i64 (0))] [(0, 4, (.tmp 1))], none⟩, ⟨some 3, .build [(.i .i64 (0)), (.i .i64 (0)), (.str []), (.sl .nil 0 []), (.sl .nil 0 []), (.sl .nil 0 []), (.i .i64 (0))] [(0, 7, (.tmp 2))], none⟩, ⟨none, .store 7 (.tmp 0) (.tmp 3), none⟩])
 .ret)), [.cell 0 true 7]⟩
theorem c25 : compF Tryd.prog k25 [] Tryd.f25 = some a25 := by kernel_rfl
/-- ramble/rambleref18.New -/
def k26 : Nat → List (Nat × H) := fun _ => []
def a26 : AFun := ⟨0, (.seq (.reg [⟨some 0, .alloc [(.i .i64 (0)), (.i .i64 (0)), (.str []), (.sl .nil 0 []), (.sl .nil 0 []), (.sl .nil 0 []), (.i .i64 (0))], none⟩])
 (.seq (.reg [⟨some 1, .build [(.i .i64 (0)), (.i .i64 (0)), (.str []), (.sl .nil 0 [])] [(0, 1, (.con (.i .i64 (4))))], none⟩, ⟨some 2, .build [(.i .i64 (0)), (.i .i64 (0)), (.str []), (.sl .nil 0 []), (.sl .nil 0 []), (.sl .nil 0 []), (.i .i64 (0))] [(0, 4, (.tmp 1))], none⟩, ⟨none, .store 7 (.tmp 0) (.tmp 2), none⟩])
 .ret)), [.cell 0 true 7]⟩
theorem c26 : compF Tryd.prog k26 [] Tryd.f26 = some a26 := by kernel_rfl
/-- ramble/rambleref18.At -/
def k27 : Nat → List (Nat × H) := fun _ => []
def a27 : AFun := ⟨2, (.seq (.reg [⟨some 2, .box (.tmp 0), none⟩, ⟨some 3, .box (.tmp 1), none⟩, ⟨some 4, .alloc [(.i .i64 (0)), (.i .i64 (0)), (.str []), (.sl .nil 0 []), (.sl .nil 0 []), (.sl .nil 0 []), (.i .i64 (0))], none⟩])
 (.seq (.reg [⟨some 5, .load true 7 (.tmp 2), none⟩, ⟨some 6, .call 16 [(.tmp 5)], none⟩, ⟨none, .store 7 (.tmp 2) (.tmp 6), none⟩])
 (.seq (.reg [⟨some 7, .load true 4 (.tmp 3), none⟩, ⟨some 8, .call 40 [(.tmp 7)], none⟩, ⟨some 9, .faddr 0 (.tmp 2), none⟩, ⟨none, .store 4 (.tmp 9) (.tmp 8), none⟩])
 (.seq (.reg [⟨some 10, .load true 7 (.tmp 2), none⟩, ⟨none, .store 7 (.tmp 4) (.tmp 10), none⟩])
 .ret)))), [.cell 4 true 7]⟩
theorem c27 : compF Tryd.prog k27 [] Tryd.f27 = some a27 := by kernel_rfl
/-- ramble/rambleref18.Round -/
def k28 : Nat → List (Nat × H) := fun _ => []
def a28 : AFun := ⟨1, (.seq (.reg [⟨some 1, .box (.tmp 0), none⟩, ⟨some 2, .alloc [(.i .i64 (0)), (.i .i64 (0)), (.str []), (.sl .nil 0 []), (.sl .nil 0 []), (.sl .nil 0 []), (.i .i64 (0))], none⟩])
 (.seq (.reg [⟨some 3, .load true 7 (.tmp 1), none⟩, ⟨some 4, .call 16 [(.tmp 3)], none⟩, ⟨none, .store 7 (.tmp 1) (.tmp 4), none⟩])
 (.seq (.seq (.reg [⟨some 5, .faddr 6 (.tmp 1), none⟩, ⟨some 6, .load false 1 (.tmp 5), none⟩, ⟨some 7, .bin .lss (.tmp 6) (.con (.i .i64 (9223372036854775807))), none⟩])
 (.cond (.tmp 7) (.reg [⟨some 8, .faddr 6 (.tmp 1), none⟩, ⟨some 9, .load false 1 (.tmp 8), none⟩, ⟨some 10, .bin .add (.tmp 9) (.con (.i .i64 (1))), none⟩, ⟨some 11, .faddr 6 (.tmp 1), none⟩, ⟨none, .store 1 (.tmp 11) (.tmp 10), none⟩]) .skip))
 (.seq (.reg [⟨some 12, .load true 7 (.tmp 1), none⟩, ⟨none, .store 7 (.tmp 2) (.tmp 12), none⟩])
 .ret)))), [.cell 2 true 7]⟩
theorem c28 : compF Tryd.prog k28 [] Tryd.f28 = some a28 := by kernel_rfl
/-- (ramble/travel.T).Home -/
def k29 : Nat → List (Nat × H) := fun _ => []
def a29 : AFun := ⟨2, (.seq (.reg [⟨some 2, .box (.tmp 0), none⟩, ⟨some 4, .alloc [(.i .i64 (0)), (.i .i64 (0)), (.str []), (.sl .nil 0 []), (.sl .nil 0 []), (.sl .nil 0 []), (.i .i64 (0))], none⟩])
 (.seq (.reg [⟨some 6, .load true 7 (.tmp 2), none⟩, ⟨some 7, .call 19 [(.tmp 6)], none⟩, ⟨some 5, .alloc [(.i .i64 (0)), (.i .i64 (0)), (.str []), (.sl .nil 0 []), (.sl .nil 0 []), (.sl .nil 0 []), (.i .i64 (0))], none⟩, ⟨none, .store 7 (.tmp 5) (.tmp 7), none⟩])
 (.seq (.reg [⟨some 8, .mov (.tmp 1), none⟩, ⟨some 9, .faddr 0 (.tmp 5), none⟩, ⟨some 10, .faddr 6 (.tmp 9), none⟩, ⟨none, .store 1 (.tmp 10) (.tmp 8), none⟩])
 (.seq (.reg [⟨some 11, .load true 7 (.tmp 5), none⟩, ⟨none, .store 7 (.tmp 4) (.tmp 11), none⟩])
 .ret)))), [.cell 4 true 7]⟩
theorem c29 : compF Tryd.prog k29 [] Tryd.f29 = some a29 := by kernel_rfl
/-- (ramble/travel.T).Simple -/
def k30 : Nat → List (Nat × H) := fun r => if r = 2 then [(1, .none), (7, .none), (8, .none), (9, .none)] else []
def a30 : AFun := ⟨1, (.seq (.reg [⟨some 1, .box (.tmp 0), none⟩, ⟨some 2, .mov (.con (.b false)), none⟩])
 (.seq (.seq (.reg [⟨some 5, .faddr 0 (.tmp 1), none⟩, ⟨some 6, .faddr 4 (.tmp 5), none⟩, ⟨some 7, .load false 1 (.tmp 6), none⟩, ⟨some 8, .len false (.tmp 7), none⟩, ⟨some 9, .mov (.con (.i .i64 (0))), none⟩])
 (.block 0 (.loop [(1, .none), (7, .none), (8, .none), (9, .none)] (.seq (.reg [⟨some 10, .bin .lss (.tmp 9) (.tmp 8), none⟩])
 (.seq (.cond (.tmp 10) .skip (.exit 0))
 (.seq (.block 1 (.seq (.reg [⟨some 11, .mov (.tmp 9), none⟩, ⟨some 12, .iaddr 4 (.tmp 7) (.tmp 9), none⟩, ⟨some 13, .load true 4 (.tmp 12), none⟩, ⟨some 4, .alloc [(.i .i64 (0)), (.i .i64 (0)), (.str []), (.sl .nil 0 [])], none⟩, ⟨some 3, .mov (.tmp 11), none⟩, ⟨none, .store 4 (.tmp 4) (.tmp 13), none⟩])
 (.seq (.reg [⟨some 14, .faddr 0 (.tmp 1), none⟩, ⟨some 15, .faddr 4 (.tmp 14), none⟩, ⟨some 16, .load false 1 (.tmp 15), none⟩, ⟨some 17, .mov (.tmp 3), none⟩, ⟨some 18, .slice 4 (.tmp 16) none (some (.tmp 17)) none, none⟩, ⟨some 19, .mkfn 49 [(.tmp 4)], none⟩, ⟨some 20, .call 48 [(.tmp 18), (.tmp 19)], none⟩])
 (.cond (.tmp 20) (.seq (.reg [⟨some 2, .mov (.con (.b false)), none⟩])
 .ret) .skip))))
 (.reg [⟨some 21, .bin .add (.tmp 9) (.con (.i .i64 (1))), none⟩, ⟨some 9, .mov (.tmp 21), none⟩])))))))
 (.seq (.reg [⟨some 2, .mov (.con (.b true)), none⟩])
 .ret))), [.tmp 2]⟩
theorem c30 : compF Tryd.prog k30 [] Tryd.f30 = some a30 := by kernel_rfl
/-- ramble/rambleref18.Simple -/
def k31 : Nat → List (Nat × H) := fun r => if r = 2 then [(1, .none), (3, .none)] else if r = 5 then [(1, .none), (3, .none), (4, .none)] else []
def a31 : AFun := ⟨1, (.seq (.reg [⟨some 1, .box (.tmp 0), none⟩, ⟨some 2, .mov (.con (.b false)), none⟩])
 (.seq (.seq (.reg [⟨some 3, .mov (.con (.i .i64 (0))), none⟩])
 (.block 0 (.loop [(1, .none), (3, .none)] (.seq (.seq (.reg [⟨some 5, .mov (.tmp 3), none⟩, ⟨some 6, .faddr 4 (.tmp 1), none⟩, ⟨some 7, .load false 1 (.tmp 6), none⟩, ⟨some 8, .len false (.tmp 7), none⟩, ⟨some 9, .bin .lss (.tmp 5) (.tmp 8), none⟩])
 (.cond (.tmp 9) .skip (.exit 0)))
 (.seq (.block 1 (.seq (.reg [⟨some 4, .mov (.con (.i .i64 (0))), none⟩])
 (.block 2 (.loop [(1, .none), (3, .none), (4, .none)] (.seq (.seq (.reg [⟨some 12, .mov (.tmp 4), none⟩, ⟨some 13, .mov (.tmp 3), none⟩, ⟨some 14, .bin .lss (.tmp 12) (.tmp 13), none⟩])
 (.cond (.tmp 14) .skip (.exit 2)))
 (.seq (.block 3 (.seq (.draw [⟨some 17, .faddr 4 (.tmp 1), none⟩, ⟨some 18, .load false 1 (.tmp 17), none⟩, ⟨some 19, .mov (.tmp 3), none⟩, ⟨some 20, .iaddr 4 (.tmp 18) (.tmp 19), none⟩, ⟨some 21, .load true 4 (.tmp 20), none⟩, ⟨some 22, .faddr 4 (.tmp 1), none⟩, ⟨some 23, .load false 1 (.tmp 22), none⟩, ⟨some 24, .mov (.tmp 4), none⟩, ⟨some 25, .iaddr 4 (.tmp 23) (.tmp 24), none⟩, ⟨some 26, .load true 4 (.tmp 25), none⟩, ⟨some 27, .call 15 [(.tmp 21), (.tmp 26)], none⟩] [(1, 6), (3, 6), (4, 6), (1, 8), (3, 8), (4, 8), (1, 9), (3, 9), (4, 9)])
 (.cond (.tmp 27) (.seq (.reg [⟨some 2, .mov (.con (.b false)), none⟩])
 .ret) .skip)))
 (.reg [⟨some 15, .mov (.tmp 4), none⟩, ⟨some 16, .bin .add (.tmp 15) (.con (.i .i64 (1))), none⟩, ⟨some 4, .mov (.tmp 16), none⟩])))))))
 (.reg [⟨some 10, .mov (.tmp 3), none⟩, ⟨some 11, .bin .add (.tmp 10) (.con (.i .i64 (1))), none⟩, ⟨some 3, .mov (.tmp 11), none⟩]))))))
 (.seq (.reg [⟨some 2, .mov (.con (.b true)), none⟩])
 .ret))), [.tmp 2]⟩
theorem c31 : compF Tryd.prog k31 [] Tryd.f31 = some a31 := by kernel_rfl
/-- ramble/rambleref02.Int -/
def k32 : Nat → List (Nat × H) := fun _ => []
def a32 : AFun := ⟨1, (.seq (.reg [⟨some 2, .alloc [(.i .i64 (0)), (.i .i64 (0)), (.str []), (.sl .nil 0 [])], none⟩])
 (.seq (.reg [⟨some 3, .mov (.tmp 0), none⟩, ⟨some 4, .build [(.i .i64 (0)), (.i .i64 (0)), (.str []), (.sl .nil 0 [])] [(0, 1, (.con (.i .i64 (1)))), (1, 1, (.tmp 3))], none⟩, ⟨none, .store 4 (.tmp 2) (.tmp 4), none⟩])
 .ret)), [.cell 2 true 4]⟩
theorem c32 : compF Tryd.prog k32 [] Tryd.f32 = some a32 := by kernel_rfl
/-- (ramble/travel.T).tag -/
def k33 : Nat → List (Nat × H) := fun _ => []
def a33 : AFun := ⟨2, (.seq (.reg [⟨some 2, .box (.tmp 0), none⟩, ⟨some 3, .box (.tmp 1), none⟩, ⟨some 4, .mov (.con (.i .i64 (0))), none⟩])
 (.seq (.reg [⟨some 5, .faddr 0 (.tmp 2), none⟩, ⟨some 6, .faddr 5 (.tmp 5), none⟩, ⟨some 7, .load false 1 (.tmp 6), none⟩, ⟨some 8, .mkfn 51 [(.tmp 3)], none⟩, ⟨some 9, .call 50 [(.tmp 7), (.tmp 8)], none⟩, ⟨some 4, .mov (.tmp 9), none⟩])
 .ret)), [.tmp 4]⟩
theorem c33 : compF Tryd.prog k33 [] Tryd.f33 = some a33 := by kernel_rfl
/-- ramble/value.Name -/
def k34 : Nat → List (Nat × H) := fun _ => []
def a34 : AFun := ⟨1, (.seq (.reg [⟨some 2, .mov (.con (.b false)), none⟩])
 (.seq (.seq (.reg [⟨some 3, .mov (.tmp 0), none⟩, ⟨some 4, .bin .eql (.tmp 3) (.con (.str [])), none⟩, ⟨some 5, .mov (.tmp 4), none⟩, ⟨some 6, .mov (.tmp 0), some (5, false)⟩, ⟨some 7, .len true (.tmp 6), some (5, false)⟩, ⟨some 8, .bin .gtr (.tmp 7) (.con (.i .i64 (24))), some (5, false)⟩, ⟨some 9, .pick (.tmp 5) (.con (.b true)) (.tmp 8), none⟩, ⟨some 10, .mov (.tmp 9), none⟩, ⟨some 11, .mov (.tmp 0), some (10, false)⟩, ⟨some 12, .idx (.tmp 11) (.con (.i .i64 (0))), some (10, false)⟩, ⟨some 13, .bin .geq (.tmp 12) (.con (.i .u8 (48))), some (10, false)⟩, ⟨some 14, .mov (.tmp 13), some (10, false)⟩, ⟨some 15, .mov (.tmp 0), some (14, true)⟩, ⟨some 16, .idx (.tmp 15) (.con (.i .i64 (0))), some (14, true)⟩, ⟨some 17, .bin .leq (.tmp 16) (.con (.i .u8 (57))), some (14, true)⟩, ⟨some 18, .pick (.tmp 14) (.tmp 17) (.con (.b false)), some (10, false)⟩, ⟨some 19, .pick (.tmp 10) (.con (.b true)) (.tmp 18), none⟩])
 (.cond (.tmp 19) (.seq (.reg [⟨some 2, .mov (.con (.b false)), none⟩])
 .ret) .skip))
 (.seq (.reg [⟨some 20, .mov (.tmp 0), none⟩, ⟨some 21, .call 52 [(.tmp 20), (.con (.str [97, 98, 99, 100, 101, 102, 103, 104, 105, 106, 107, 108, 109, 110, 111, 112, 113, 114, 115, 116, 117, 118, 119, 120, 121, 122, 65, 66, 67, 68, 69, 70, 71, 72, 73, 74, 75, 76, 77, 78, 79, 80, 81, 82, 83, 84, 85, 86, 87, 88, 89, 90, 48, 49, 50, 51, 52, 53, 54, 55, 56, 57, 95]))], none⟩, ⟨some 22, .bin .eql (.tmp 21) (.con (.str [])), none⟩, ⟨some 2, .mov (.tmp 22), none⟩])
 .ret))), [.tmp 2]⟩
theorem c34 : compF Tryd.prog k34 [] Tryd.f34 = some a34 := by kernel_rfl
/-- ramble/value.Clone -/
def k35 : Nat → List (Nat × H) := fun r => if r = 3 then [(1, .none), (2, .none), (10, .none), (11, .none)] else []
def a35 : AFun := ⟨1, (.seq (.reg [⟨some 1, .box (.tmp 0), none⟩, ⟨some 2, .alloc [(.i .i64 (0)), (.i .i64 (0)), (.str []), (.sl .nil 0 [])], none⟩])
 (.seq (.reg [⟨some 4, .faddr 3 (.tmp 1), none⟩, ⟨some 5, .load false 1 (.tmp 4), none⟩, ⟨some 6, .call 53 [(.tmp 5)], none⟩, ⟨some 7, .faddr 3 (.tmp 1), none⟩, ⟨none, .store 1 (.tmp 7) (.tmp 6), none⟩])
 (.seq (.seq (.reg [⟨some 8, .faddr 3 (.tmp 1), none⟩, ⟨some 9, .load false 1 (.tmp 8), none⟩, ⟨some 10, .len false (.tmp 9), none⟩, ⟨some 11, .mov (.con (.i .i64 (0))), none⟩])
 (.block 0 (.loop [(1, .none), (2, .none), (10, .none), (11, .none)] (.seq (.reg [⟨some 12, .bin .lss (.tmp 11) (.tmp 10), none⟩])
 (.seq (.cond (.tmp 12) .skip (.exit 0))
 (.seq (.block 1 (.seq (.reg [⟨some 13, .mov (.tmp 11), none⟩, ⟨some 3, .mov (.tmp 13), none⟩])
 (.draw [⟨some 14, .faddr 3 (.tmp 1), none⟩, ⟨some 15, .load false 1 (.tmp 14), none⟩, ⟨some 16, .mov (.tmp 3), none⟩, ⟨some 17, .faddr 3 (.tmp 1), none⟩, ⟨some 18, .load false 1 (.tmp 17), none⟩, ⟨some 19, .mov (.tmp 3), none⟩, ⟨some 20, .iaddr 4 (.tmp 18) (.tmp 19), none⟩, ⟨some 21, .load true 4 (.tmp 20), none⟩, ⟨some 22, .call 35 [(.tmp 21)], none⟩, ⟨some 23, .iaddr 4 (.tmp 15) (.tmp 16), none⟩, ⟨none, .store 4 (.tmp 23) (.tmp 22), none⟩] [(1, 4), (1, 6), (1, 7), (1, 8)])))
 (.reg [⟨some 24, .bin .add (.tmp 11) (.con (.i .i64 (1))), none⟩, ⟨some 11, .mov (.tmp 24), none⟩])))))))
 (.seq (.reg [⟨some 25, .load true 4 (.tmp 1), none⟩, ⟨none, .store 4 (.tmp 2) (.tmp 25), none⟩])
 .ret)))), [.cell 2 true 4]⟩
theorem c35 : compF Tryd.prog k35 [] Tryd.f35 = some a35 := by kernel_rfl
/-- slices.Contains[[]string,string] -/
def k36 : Nat → List (Nat × H) := fun _ => []
def a36 : AFun := ⟨2, (.seq (.reg [⟨some 4, .mov (.con (.b false)), none⟩])
 (.seq (.reg [⟨some 5, .mov (.tmp 0), none⟩, ⟨some 6, .mov (.tmp 1), none⟩, ⟨some 7, .call 54 [(.tmp 5), (.tmp 6)], none⟩, ⟨some 8, .bin .geq (.tmp 7) (.con (.i .i64 (0))), none⟩, ⟨some 4, .mov (.tmp 8), none⟩])
 .ret)), [.tmp 4]⟩
theorem c36 : compF Tryd.prog k36 [] Tryd.f36 = some a36 := by kernel_rfl
/-- ramble/value.Str -/
def k37 : Nat → List (Nat × H) := fun _ => []
def a37 : AFun := ⟨1, (.seq (.reg [⟨some 2, .alloc [(.i .i64 (0)), (.i .i64 (0)), (.str []), (.sl .nil 0 [])], none⟩])
 (.seq (.reg [⟨some 3, .mov (.tmp 0), none⟩, ⟨some 4, .build [(.i .i64 (0)), (.i .i64 (0)), (.str []), (.sl .nil 0 [])] [(0, 1, (.con (.i .i64 (2)))), (2, 1, (.tmp 3))], none⟩, ⟨none, .store 4 (.tmp 2) (.tmp 4), none⟩])
 .ret)), [.cell 2 true 4]⟩
theorem c37 : compF Tryd.prog k37 [] Tryd.f37 = some a37 := by kernel_rfl
/-- ramble/rambleref02.Compare -/
def k39 : Nat → List (Nat × H) := fun r => if r = 11 then [(2, .none), (3, .none), (8, .none)] else []
def a39 : AFun := ⟨2, (.seq (.reg [⟨some 2, .box (.tmp 0), none⟩, ⟨some 3, .box (.tmp 1), none⟩, ⟨some 4, .mov (.con (.i .i64 (0))), none⟩])
 (.seq (.seq (.reg [⟨some 10, .faddr 0 (.tmp 2), none⟩, ⟨some 11, .load false 1 (.tmp 10), none⟩, ⟨some 12, .faddr 0 (.tmp 3), none⟩, ⟨some 13, .load false 1 (.tmp 12), none⟩, ⟨some 14, .call 62 [(.tmp 11), (.tmp 13)], none⟩, ⟨some 5, .mov (.tmp 14), none⟩])
 (.seq (.reg [⟨some 15, .mov (.tmp 5), none⟩, ⟨some 16, .bin .neq (.tmp 15) (.con (.i .i64 (0))), none⟩])
 (.cond (.tmp 16) (.seq (.reg [⟨some 17, .mov (.tmp 5), none⟩, ⟨some 4, .mov (.tmp 17), none⟩])
 .ret) .skip)))
 (.seq (.seq (.reg [⟨some 18, .faddr 1 (.tmp 2), none⟩, ⟨some 19, .load false 1 (.tmp 18), none⟩, ⟨some 20, .faddr 1 (.tmp 3), none⟩, ⟨some 21, .load false 1 (.tmp 20), none⟩, ⟨some 22, .call 62 [(.tmp 19), (.tmp 21)], none⟩, ⟨some 6, .mov (.tmp 22), none⟩])
 (.seq (.reg [⟨some 23, .mov (.tmp 6), none⟩, ⟨some 24, .bin .neq (.tmp 23) (.con (.i .i64 (0))), none⟩])
 (.cond (.tmp 24) (.seq (.reg [⟨some 25, .mov (.tmp 6), none⟩, ⟨some 4, .mov (.tmp 25), none⟩])
 .ret) .skip)))
 (.seq (.seq (.reg [⟨some 26, .faddr 2 (.tmp 2), none⟩, ⟨some 27, .load false 1 (.tmp 26), none⟩, ⟨some 28, .faddr 2 (.tmp 3), none⟩, ⟨some 29, .load false 1 (.tmp 28), none⟩, ⟨some 30, .call 63 [(.tmp 27), (.tmp 29)], none⟩, ⟨some 7, .mov (.tmp 30), none⟩])
 (.seq (.reg [⟨some 31, .mov (.tmp 7), none⟩, ⟨some 32, .bin .neq (.tmp 31) (.con (.i .i64 (0))), none⟩])
 (.cond (.tmp 32) (.seq (.reg [⟨some 33, .mov (.tmp 7), none⟩, ⟨some 4, .mov (.tmp 33), none⟩])
 .ret) .skip)))
 (.seq (.seq (.reg [⟨some 8, .mov (.con (.i .i64 (0))), none⟩])
 (.block 0 (.loop [(2, .none), (3, .none), (8, .none)] (.seq (.seq (.reg [⟨some 34, .mov (.tmp 8), none⟩, ⟨some 35, .faddr 3 (.tmp 2), none⟩, ⟨some 36, .load false 1 (.tmp 35), none⟩, ⟨some 37, .len false (.tmp 36), none⟩, ⟨some 38, .bin .lss (.tmp 34) (.tmp 37), none⟩, ⟨some 39, .mov (.tmp 38), none⟩, ⟨some 40, .mov (.tmp 8), some (39, true)⟩, ⟨some 41, .faddr 3 (.tmp 3), some (39, true)⟩, ⟨some 42, .load false 1 (.tmp 41), some (39, true)⟩, ⟨some 43, .len false (.tmp 42), some (39, true)⟩, ⟨some 44, .bin .lss (.tmp 40) (.tmp 43), some (39, true)⟩, ⟨some 45, .pick (.tmp 39) (.tmp 44) (.con (.b false)), none⟩])
 (.cond (.tmp 45) .skip (.exit 0)))
 (.seq (.block 1 (.seq (.draw [⟨some 48, .faddr 3 (.tmp 2), none⟩, ⟨some 49, .load false 1 (.tmp 48), none⟩, ⟨some 50, .mov (.tmp 8), none⟩, ⟨some 51, .iaddr 4 (.tmp 49) (.tmp 50), none⟩, ⟨some 52, .load true 4 (.tmp 51), none⟩, ⟨some 53, .faddr 3 (.tmp 3), none⟩, ⟨some 54, .load false 1 (.tmp 53), none⟩, ⟨some 55, .mov (.tmp 8), none⟩, ⟨some 56, .iaddr 4 (.tmp 54) (.tmp 55), none⟩, ⟨some 57, .load true 4 (.tmp 56), none⟩, ⟨some 58, .call 39 [(.tmp 52), (.tmp 57)], none⟩, ⟨some 9, .mov (.tmp 58), none⟩] [(1, 6), (3, 6), (4, 6), (1, 8), (3, 8), (4, 8), (1, 9), (3, 9), (4, 9)])
 (.seq (.reg [⟨some 59, .mov (.tmp 9), none⟩, ⟨some 60, .bin .neq (.tmp 59) (.con (.i .i64 (0))), none⟩])
 (.cond (.tmp 60) (.seq (.reg [⟨some 61, .mov (.tmp 9), none⟩, ⟨some 4, .mov (.tmp 61), none⟩])
 .ret) .skip))))
 (.reg [⟨some 46, .mov (.tmp 8), none⟩, ⟨some 47, .bin .add (.tmp 46) (.con (.i .i64 (1))), none⟩, ⟨some 8, .mov (.tmp 47), none⟩]))))))
 (.seq (.reg [⟨some 62, .faddr 3 (.tmp 2), none⟩, ⟨some 63, .load false 1 (.tmp 62), none⟩, ⟨some 64, .len false (.tmp 63), none⟩, ⟨some 65, .faddr 3 (.tmp 3), none⟩, ⟨some 66, .load false 1 (.tmp 65), none⟩, ⟨some 67, .len false (.tmp 66), none⟩, ⟨some 68, .call 62 [(.tmp 64), (.tmp 67)], none⟩, ⟨some 4, .mov (.tmp 68), none⟩])
 .ret)))))), [.tmp 4]⟩
theorem c39 : compF Tryd.prog k39 [] Tryd.f39 = some a39 := by kernel_rfl
/-- ramble/rambleref10.CloneValue -/
def k40 : Nat → List (Nat × H) := fun r => if r = 3 then [(1, .none), (2, .none), (3, .row 24 4), (4, .none)] else []
def a40 : AFun := ⟨1, (.seq (.reg [⟨some 1, .box (.tmp 0), none⟩, ⟨some 2, .alloc [(.i .i64 (0)), (.i .i64 (0)), (.str []), (.sl .nil 0 [])], none⟩])
 (.seq (.reg [⟨some 3, .mov (.con (.sl .nil 0 [])), none⟩])
 (.seq (.seq (.reg [⟨some 4, .mov (.con (.i .i64 (0))), none⟩])
 (.block 0 (.loop [(1, .none), (2, .none), (3, .row 24 4), (4, .none)] (.seq (.seq (.reg [⟨some 5, .mov (.tmp 4), none⟩, ⟨some 6, .faddr 3 (.tmp 1), none⟩, ⟨some 7, .load false 1 (.tmp 6), none⟩, ⟨some 8, .len false (.tmp 7), none⟩, ⟨some 9, .bin .lss (.tmp 5) (.tmp 8), none⟩])
 (.cond (.tmp 9) .skip (.exit 0)))
 (.seq (.block 1 (.reg [⟨some 12, .mov (.tmp 3), none⟩, ⟨some 13, .faddr 3 (.tmp 1), none⟩, ⟨some 14, .load false 1 (.tmp 13), none⟩, ⟨some 15, .mov (.tmp 4), none⟩, ⟨some 16, .iaddr 4 (.tmp 14) (.tmp 15), none⟩, ⟨some 17, .load true 4 (.tmp 16), none⟩, ⟨some 18, .call 40 [(.tmp 17)], none⟩, ⟨some 19, .bslice 24 [(.i .i64 (0)), (.i .i64 (0)), (.str []), (.sl .nil 0 [])] 1 [(0, (.tmp 18))], none⟩, ⟨some 20, .app 24 4 (.tmp 12) (.tmp 19), none⟩, ⟨some 3, .mov (.tmp 20), none⟩]))
 (.reg [⟨some 10, .mov (.tmp 4), none⟩, ⟨some 11, .bin .add (.tmp 10) (.con (.i .i64 (1))), none⟩, ⟨some 4, .mov (.tmp 11), none⟩]))))))
 (.seq (.reg [⟨some 21, .mov (.tmp 3), none⟩, ⟨some 22, .faddr 3 (.tmp 1), none⟩, ⟨none, .store 1 (.tmp 22) (.tmp 21), none⟩])
 (.seq (.reg [⟨some 23, .load true 4 (.tmp 1), none⟩, ⟨none, .store 4 (.tmp 2) (.tmp 23), none⟩])
 .ret))))), [.cell 2 true 4]⟩
theorem c40 : compF Tryd.prog k40 [] Tryd.f40 = some a40 := by kernel_rfl
/-- ramble/value.Same -/
def k41 : Nat → List (Nat × H) := fun _ => []
def a41 : AFun := ⟨2, (.seq (.reg [⟨some 2, .box (.tmp 0), none⟩, ⟨some 3, .box (.tmp 1), none⟩, ⟨some 4, .mov (.con (.b false)), none⟩])
 (.seq (.reg [⟨some 5, .load true 4 (.tmp 2), none⟩, ⟨some 6, .load true 4 (.tmp 3), none⟩, ⟨some 7, .call 59 [(.tmp 5), (.tmp 6)], none⟩, ⟨some 8, .bin .eql (.tmp 7) (.con (.i .i64 (0))), none⟩, ⟨some 4, .mov (.tmp 8), none⟩])
 .ret)), [.tmp 4]⟩
theorem c41 : compF Tryd.prog k41 [] Tryd.f41 = some a41 := by kernel_rfl
/-- ramble/rambleref02.Name -/
def k45 : Nat → List (Nat × H) := fun r => if r = 4 then [(0, .none), (3, .none)] else []
def a45 : AFun := ⟨1, (.seq (.reg [⟨some 2, .mov (.con (.b false)), none⟩])
 (.seq (.seq (.reg [⟨some 4, .mov (.tmp 0), none⟩, ⟨some 5, .bin .eql (.tmp 4) (.con (.str [])), none⟩, ⟨some 6, .mov (.tmp 5), none⟩, ⟨some 7, .mov (.tmp 0), some (6, false)⟩, ⟨some 8, .len true (.tmp 7), some (6, false)⟩, ⟨some 9, .bin .gtr (.tmp 8) (.con (.i .i64 (24))), some (6, false)⟩, ⟨some 10, .pick (.tmp 6) (.con (.b true)) (.tmp 9), none⟩, ⟨some 11, .mov (.tmp 10), none⟩, ⟨some 12, .mov (.tmp 0), some (11, false)⟩, ⟨some 13, .idx (.tmp 12) (.con (.i .i64 (0))), some (11, false)⟩, ⟨some 14, .call 64 [(.tmp 13)], some (11, false)⟩, ⟨some 15, .un .not (.tmp 14), some (11, false)⟩, ⟨some 16, .pick (.tmp 11) (.con (.b true)) (.tmp 15), none⟩])
 (.cond (.tmp 16) (.seq (.reg [⟨some 2, .mov (.con (.b false)), none⟩])
 .ret) .skip))
 (.seq (.seq (.reg [⟨some 3, .mov (.con (.i .i64 (0))), none⟩])
 (.block 0 (.loop [(0, .none), (3, .none)] (.seq (.seq (.reg [⟨some 17, .mov (.tmp 3), none⟩, ⟨some 18, .mov (.tmp 0), none⟩, ⟨some 19, .len true (.tmp 18), none⟩, ⟨some 20, .bin .lss (.tmp 17) (.tmp 19), none⟩])
 (.cond (.tmp 20) .skip (.exit 0)))
 (.seq (.block 1 (.seq (.reg [⟨some 23, .mov (.tmp 0), none⟩, ⟨some 24, .mov (.tmp 3), none⟩, ⟨some 25, .idx (.tmp 23) (.tmp 24), none⟩, ⟨some 26, .call 64 [(.tmp 25)], none⟩, ⟨some 27, .un .not (.tmp 26), none⟩, ⟨some 28, .mov (.tmp 27), none⟩, ⟨some 29, .mov (.tmp 0), some (28, true)⟩, ⟨some 30, .mov (.tmp 3), some (28, true)⟩, ⟨some 31, .idx (.tmp 29) (.tmp 30), some (28, true)⟩, ⟨some 32, .bin .lss (.tmp 31) (.con (.i .u8 (48))), some (28, true)⟩, ⟨some 33, .mov (.tmp 32), some (28, true)⟩, ⟨some 34, .mov (.tmp 0), some (33, false)⟩, ⟨some 35, .mov (.tmp 3), some (33, false)⟩, ⟨some 36, .idx (.tmp 34) (.tmp 35), some (33, false)⟩, ⟨some 37, .bin .gtr (.tmp 36) (.con (.i .u8 (57))), some (33, false)⟩, ⟨some 38, .pick (.tmp 33) (.con (.b true)) (.tmp 37), some (28, true)⟩, ⟨some 39, .pick (.tmp 28) (.tmp 38) (.con (.b false)), none⟩])
 (.cond (.tmp 39) (.seq (.reg [⟨some 2, .mov (.con (.b false)), none⟩])
 .ret) .skip)))
 (.reg [⟨some 21, .mov (.tmp 3), none⟩, ⟨some 22, .bin .add (.tmp 21) (.con (.i .i64 (1))), none⟩, ⟨some 3, .mov (.tmp 22), none⟩]))))))
 (.seq (.reg [⟨some 2, .mov (.con (.b true)), none⟩])
 .ret)))), [.tmp 2]⟩
theorem c45 : compF Tryd.prog k45 [] Tryd.f45 = some a45 := by kernel_rfl
/-- ramble/rambleref02.may -/
def k46 : Nat → List (Nat × H) := fun _ => []
def a46 : AFun := ⟨2, (.seq (.reg [⟨some 2, .box (.tmp 0), none⟩, ⟨some 4, .mov (.con (.b false)), none⟩])
 (.seq (.seq (.reg [⟨some 5, .mov (.tmp 1), none⟩, ⟨some 6, .bin .geq (.tmp 5) (.con (.i .i64 (8))), none⟩])
 (.cond (.tmp 6) (.seq (.reg [⟨some 4, .mov (.con (.b false)), none⟩])
 .ret) .skip))
 (.seq (.seq (.reg [⟨some 7, .faddr 0 (.tmp 2), none⟩, ⟨some 8, .load false 1 (.tmp 7), none⟩])
 (.block 0 (.seq (.reg [⟨some 10, .bin .eql (.tmp 8) (.con (.i .i64 (1))), none⟩, ⟨some 9, .mov (.tmp 10), none⟩])
 (.cond (.tmp 9) (.seq (.reg [⟨some 11, .faddr 2 (.tmp 2), none⟩, ⟨some 12, .load false 1 (.tmp 11), none⟩, ⟨some 13, .bin .eql (.tmp 12) (.con (.str [])), none⟩, ⟨some 14, .mov (.tmp 13), none⟩, ⟨some 15, .faddr 3 (.tmp 2), some (14, true)⟩, ⟨some 16, .load false 1 (.tmp 15), some (14, true)⟩, ⟨some 17, .len false (.tmp 16), some (14, true)⟩, ⟨some 18, .bin .eql (.tmp 17) (.con (.i .i64 (0))), some (14, true)⟩, ⟨some 19, .pick (.tmp 14) (.tmp 18) (.con (.b false)), none⟩, ⟨some 4, .mov (.tmp 19), none⟩])
 .ret) (.seq (.reg [⟨some 21, .bin .eql (.tmp 8) (.con (.i .i64 (3))), none⟩, ⟨some 20, .mov (.tmp 21), none⟩])
 (.cond (.tmp 20) (.seq (.reg [⟨some 22, .faddr 2 (.tmp 2), none⟩, ⟨some 23, .load false 1 (.tmp 22), none⟩, ⟨some 24, .bin .eql (.tmp 23) (.con (.str [])), none⟩, ⟨some 25, .mov (.tmp 24), none⟩, ⟨some 26, .faddr 3 (.tmp 2), some (25, true)⟩, ⟨some 27, .load false 1 (.tmp 26), some (25, true)⟩, ⟨some 28, .len false (.tmp 27), some (25, true)⟩, ⟨some 29, .bin .eql (.tmp 28) (.con (.i .i64 (0))), some (25, true)⟩, ⟨some 30, .pick (.tmp 25) (.tmp 29) (.con (.b false)), none⟩, ⟨some 31, .mov (.tmp 30), none⟩, ⟨some 32, .faddr 1 (.tmp 2), some (31, true)⟩, ⟨some 33, .load false 1 (.tmp 32), some (31, true)⟩, ⟨some 34, .bin .eql (.tmp 33) (.con (.i .i64 (0))), some (31, true)⟩, ⟨some 35, .mov (.tmp 34), some (31, true)⟩, ⟨some 36, .faddr 1 (.tmp 2), some (35, false)⟩, ⟨some 37, .load false 1 (.tmp 36), some (35, false)⟩, ⟨some 38, .bin .eql (.tmp 37) (.con (.i .i64 (1))), some (35, false)⟩, ⟨some 39, .pick (.tmp 35) (.con (.b true)) (.tmp 38), some (31, true)⟩, ⟨some 40, .pick (.tmp 31) (.tmp 39) (.con (.b false)), none⟩, ⟨some 4, .mov (.tmp 40), none⟩])
 .ret) (.seq (.seq (.reg [⟨some 42, .bin .eql (.tmp 8) (.con (.i .i64 (6))), none⟩, ⟨some 41, .mov (.tmp 42), none⟩])
 (.cond (.tmp 41) .skip (.reg [⟨some 43, .bin .eql (.tmp 8) (.con (.i .i64 (7))), none⟩, ⟨some 41, .mov (.tmp 43), none⟩])))
 (.cond (.tmp 41) (.seq (.reg [⟨some 44, .faddr 2 (.tmp 2), none⟩, ⟨some 45, .load false 1 (.tmp 44), none⟩, ⟨some 46, .bin .eql (.tmp 45) (.con (.str [])), none⟩, ⟨some 47, .mov (.tmp 46), none⟩, ⟨some 48, .faddr 3 (.tmp 2), some (47, true)⟩, ⟨some 49, .load false 1 (.tmp 48), some (47, true)⟩, ⟨some 50, .len false (.tmp 49), some (47, true)⟩, ⟨some 51, .bin .eql (.tmp 50) (.con (.i .i64 (0))), some (47, true)⟩, ⟨some 52, .pick (.tmp 47) (.tmp 51) (.con (.b false)), none⟩, ⟨some 53, .mov (.tmp 52), none⟩, ⟨some 54, .faddr 1 (.tmp 2), some (53, true)⟩, ⟨some 55, .load false 1 (.tmp 54), some (53, true)⟩, ⟨some 56, .bin .geq (.tmp 55) (.con (.i .i64 (1))), some (53, true)⟩, ⟨some 57, .pick (.tmp 53) (.tmp 56) (.con (.b false)), none⟩, ⟨some 58, .mov (.tmp 57), none⟩, ⟨some 59, .faddr 1 (.tmp 2), some (58, true)⟩, ⟨some 60, .load false 1 (.tmp 59), some (58, true)⟩, ⟨some 61, .bin .leq (.tmp 60) (.con (.i .i64 (281474976710656))), some (58, true)⟩, ⟨some 62, .pick (.tmp 58) (.tmp 61) (.con (.b false)), none⟩, ⟨some 4, .mov (.tmp 62), none⟩])
 .ret) (.seq (.reg [⟨some 64, .bin .eql (.tmp 8) (.con (.i .i64 (2))), none⟩, ⟨some 63, .mov (.tmp 64), none⟩])
 (.cond (.tmp 63) (.seq (.reg [⟨some 65, .faddr 1 (.tmp 2), none⟩, ⟨some 66, .load false 1 (.tmp 65), none⟩, ⟨some 67, .bin .eql (.tmp 66) (.con (.i .i64 (0))), none⟩, ⟨some 68, .mov (.tmp 67), none⟩, ⟨some 69, .faddr 3 (.tmp 2), some (68, true)⟩, ⟨some 70, .load false 1 (.tmp 69), some (68, true)⟩, ⟨some 71, .len false (.tmp 70), some (68, true)⟩, ⟨some 72, .bin .eql (.tmp 71) (.con (.i .i64 (0))), some (68, true)⟩, ⟨some 73, .pick (.tmp 68) (.tmp 72) (.con (.b false)), none⟩, ⟨some 74, .mov (.tmp 73), none⟩, ⟨some 75, .faddr 2 (.tmp 2), some (74, true)⟩, ⟨some 76, .load false 1 (.tmp 75), some (74, true)⟩, ⟨some 77, .len true (.tmp 76), some (74, true)⟩, ⟨some 78, .bin .leq (.tmp 77) (.con (.i .i64 (128))), some (74, true)⟩, ⟨some 79, .pick (.tmp 74) (.tmp 78) (.con (.b false)), none⟩, ⟨some 4, .mov (.tmp 79), none⟩])
 .ret) (.seq (.reg [⟨some 81, .bin .eql (.tmp 8) (.con (.i .i64 (4))), none⟩, ⟨some 80, .mov (.tmp 81), none⟩])
 (.cond (.tmp 80) (.seq (.reg [⟨some 82, .faddr 1 (.tmp 2), none⟩, ⟨some 83, .load false 1 (.tmp 82), none⟩, ⟨some 84, .bin .eql (.tmp 83) (.con (.i .i64 (0))), none⟩, ⟨some 85, .mov (.tmp 84), none⟩, ⟨some 86, .faddr 2 (.tmp 2), some (85, true)⟩, ⟨some 87, .load false 1 (.tmp 86), some (85, true)⟩, ⟨some 88, .bin .eql (.tmp 87) (.con (.str [])), some (85, true)⟩, ⟨some 89, .pick (.tmp 85) (.tmp 88) (.con (.b false)), none⟩, ⟨some 90, .mov (.tmp 89), none⟩, ⟨some 91, .faddr 3 (.tmp 2), some (90, true)⟩, ⟨some 92, .load false 1 (.tmp 91), some (90, true)⟩, ⟨some 93, .len false (.tmp 92), some (90, true)⟩, ⟨some 94, .bin .leq (.tmp 93) (.con (.i .i64 (256))), some (90, true)⟩, ⟨some 95, .pick (.tmp 90) (.tmp 94) (.con (.b false)), none⟩, ⟨some 96, .mov (.tmp 95), none⟩, ⟨some 97, .faddr 3 (.tmp 2), some (96, true)⟩, ⟨some 98, .load false 1 (.tmp 97), some (96, true)⟩, ⟨some 99, .mov (.tmp 1), some (96, true)⟩, ⟨some 100, .call 65 [(.tmp 98), (.tmp 99)], some (96, true)⟩, ⟨some 101, .pick (.tmp 96) (.tmp 100) (.con (.b false)), none⟩, ⟨some 4, .mov (.tmp 101), none⟩])
 .ret) (.seq (.reg [⟨some 103, .bin .eql (.tmp 8) (.con (.i .i64 (5))), none⟩, ⟨some 102, .mov (.tmp 103), none⟩])
 (.cond (.tmp 102) (.seq (.reg [⟨some 104, .faddr 1 (.tmp 2), none⟩, ⟨some 105, .load false 1 (.tmp 104), none⟩, ⟨some 106, .bin .eql (.tmp 105) (.con (.i .i64 (0))), none⟩, ⟨some 107, .mov (.tmp 106), none⟩, ⟨some 108, .faddr 2 (.tmp 2), some (107, true)⟩, ⟨some 109, .load false 1 (.tmp 108), some (107, true)⟩, ⟨some 110, .bin .eql (.tmp 109) (.con (.str [])), some (107, true)⟩, ⟨some 111, .pick (.tmp 107) (.tmp 110) (.con (.b false)), none⟩, ⟨some 112, .mov (.tmp 111), none⟩, ⟨some 113, .faddr 3 (.tmp 2), some (112, true)⟩, ⟨some 114, .load false 1 (.tmp 113), some (112, true)⟩, ⟨some 115, .len false (.tmp 114), some (112, true)⟩, ⟨some 116, .bin .leq (.tmp 115) (.con (.i .i64 (512))), some (112, true)⟩, ⟨some 117, .pick (.tmp 112) (.tmp 116) (.con (.b false)), none⟩, ⟨some 118, .mov (.tmp 117), none⟩, ⟨some 119, .faddr 3 (.tmp 2), some (118, true)⟩, ⟨some 120, .load false 1 (.tmp 119), some (118, true)⟩, ⟨some 121, .len false (.tmp 120), some (118, true)⟩, ⟨some 122, .bin .rem (.tmp 121) (.con (.i .i64 (2))), some (118, true)⟩, ⟨some 123, .bin .eql (.tmp 122) (.con (.i .i64 (0))), some (118, true)⟩, ⟨some 124, .pick (.tmp 118) (.tmp 123) (.con (.b false)), none⟩, ⟨some 125, .mov (.tmp 124), none⟩, ⟨some 126, .faddr 3 (.tmp 2), some (125, true)⟩, ⟨some 127, .load false 1 (.tmp 126), some (125, true)⟩, ⟨some 128, .mov (.tmp 1), some (125, true)⟩, ⟨some 129, .call 65 [(.tmp 127), (.tmp 128)], some (125, true)⟩, ⟨some 130, .pick (.tmp 125) (.tmp 129) (.con (.b false)), none⟩, ⟨some 131, .mov (.tmp 130), none⟩, ⟨some 132, .faddr 3 (.tmp 2), some (131, true)⟩, ⟨some 133, .load false 1 (.tmp 132), some (131, true)⟩, ⟨some 134, .call 66 [(.tmp 133)], some (131, true)⟩, ⟨some 135, .pick (.tmp 131) (.tmp 134) (.con (.b false)), none⟩, ⟨some 4, .mov (.tmp 135), none⟩])
 .ret) .skip))))))))))))))
 (.seq (.reg [⟨some 4, .mov (.con (.b false)), none⟩])
 .ret)))), [.tmp 4]⟩
theorem c46 : compF Tryd.prog k46 [] Tryd.f46 = some a46 := by kernel_rfl
/-- ramble/travel.bad -/
def k47 : Nat → List (Nat × H) := fun _ => []
def a47 : AFun := ⟨1, (.seq (.reg [⟨some 1, .box (.tmp 0), none⟩, ⟨some 2, .mov (.con (.b false)), none⟩])
 (.seq (.reg [⟨some 3, .load true 4 (.tmp 1), none⟩, ⟨some 4, .call 67 [(.tmp 3)], none⟩, ⟨some 5, .bin .neq (.tmp 4) (.con (.i .i64 (0))), none⟩, ⟨some 2, .mov (.tmp 5), none⟩])
 .ret)), [.tmp 2]⟩
theorem c47 : compF Tryd.prog k47 [] Tryd.f47 = some a47 := by kernel_rfl
/-- slices.ContainsFunc[[]ramble/api.Value,ramble/api.Value] -/
def k48 : Nat → List (Nat × H) := fun _ => []
def a48 : AFun := ⟨2, (.seq (.reg [⟨some 4, .mov (.con (.b false)), none⟩])
 (.seq (.reg [⟨some 5, .mov (.tmp 0), none⟩, ⟨some 6, .mov (.tmp 1), none⟩, ⟨some 7, .call 68 [(.tmp 5), (.tmp 6)], none⟩, ⟨some 8, .bin .geq (.tmp 7) (.con (.i .i64 (0))), none⟩, ⟨some 4, .mov (.tmp 8), none⟩])
 .ret)), [.tmp 4]⟩
theorem c48 : compF Tryd.prog k48 [] Tryd.f48 = some a48 := by kernel_rfl
/-- (ramble/travel.T).Simple$1 -/
def k49 : Nat → List (Nat × H) := fun _ => []
def a49 : AFun := ⟨2, (.seq (.reg [⟨some 2, .box (.tmp 0), none⟩, ⟨some 3, .mov (.con (.b false)), none⟩])
 (.seq (.reg [⟨some 4, .load true 4 (.tmp 1), none⟩, ⟨some 5, .load true 4 (.tmp 2), none⟩, ⟨some 6, .call 41 [(.tmp 4), (.tmp 5)], none⟩, ⟨some 3, .mov (.tmp 6), none⟩])
 .ret)), [.tmp 3]⟩
theorem c49 : compF Tryd.prog k49 [] Tryd.f49 = some a49 := by kernel_rfl
/-- slices.IndexFunc[[]ramble/api.Tag,ramble/api.Tag] -/
def k50 : Nat → List (Nat × H) := fun r => if r = 2 then [(0, .none), (1, .none), (7, .none), (8, .none)] else []
def a50 : AFun := ⟨2, (.seq (.reg [⟨some 4, .mov (.con (.i .i64 (0))), none⟩])
 (.seq (.seq (.reg [⟨some 6, .mov (.tmp 0), none⟩, ⟨some 7, .len false (.tmp 6), none⟩, ⟨some 8, .mov (.con (.i .i64 (0))), none⟩])
 (.block 0 (.loop [(0, .none), (1, .none), (7, .none), (8, .none)] (.seq (.reg [⟨some 9, .bin .lss (.tmp 8) (.tmp 7), none⟩])
 (.seq (.cond (.tmp 9) .skip (.exit 0))
 (.seq (.block 1 (.seq (.reg [⟨some 10, .mov (.tmp 8), none⟩, ⟨some 5, .mov (.tmp 10), none⟩])
 (.seq (.reg [⟨some 11, .mov (.tmp 1), none⟩, ⟨some 12, .mov (.tmp 0), none⟩, ⟨some 13, .mov (.tmp 5), none⟩, ⟨some 14, .iaddr 5 (.tmp 12) (.tmp 13), none⟩, ⟨some 15, .load true 5 (.tmp 14), none⟩, ⟨some 16, .callv (.tmp 11) [(.tmp 15)], none⟩])
 (.cond (.tmp 16) (.seq (.reg [⟨some 17, .mov (.tmp 5), none⟩, ⟨some 4, .mov (.tmp 17), none⟩])
 .ret) .skip))))
 (.reg [⟨some 18, .bin .add (.tmp 8) (.con (.i .i64 (1))), none⟩, ⟨some 8, .mov (.tmp 18), none⟩])))))))
 (.seq (.reg [⟨some 4, .mov (.con (.i .i64 (-1))), none⟩])
 .ret))), [.tmp 4]⟩
theorem c50 : compF Tryd.prog k50 [] Tryd.f50 = some a50 := by kernel_rfl
/-- (ramble/travel.T).tag$1 -/
def k51 : Nat → List (Nat × H) := fun _ => []
def a51 : AFun := ⟨2, (.seq (.reg [⟨some 2, .box (.tmp 0), none⟩, ⟨some 3, .mov (.con (.b false)), none⟩])
 (.seq (.reg [⟨some 4, .faddr 0 (.tmp 2), none⟩, ⟨some 5, .load false 1 (.tmp 4), none⟩, ⟨some 6, .load false 1 (.tmp 1), none⟩, ⟨some 7, .bin .eql (.tmp 5) (.tmp 6), none⟩, ⟨some 3, .mov (.tmp 7), none⟩])
 .ret)), [.tmp 3]⟩
theorem c51 : compF Tryd.prog k51 [] Tryd.f51 = some a51 := by kernel_rfl
/-- slices.Clone[[]ramble/api.Value,ramble/api.Value] -/
def k53 : Nat → List (Nat × H) := fun _ => []
def a53 : AFun := ⟨1, (.seq (.reg [⟨some 2, .mov (.con (.sl .nil 0 [])), none⟩])
 (.seq (.seq (.reg [⟨some 3, .mov (.tmp 0), none⟩, ⟨some 4, .eqnil .sl false (.tmp 3), none⟩])
 (.cond (.tmp 4) (.seq (.reg [⟨some 2, .mov (.con (.sl .nil 0 [])), none⟩])
 .ret) .skip))
 (.seq (.reg [⟨some 5, .bslice 24 [(.i .i64 (0)), (.i .i64 (0)), (.str []), (.sl .nil 0 [])] 0 [], none⟩, ⟨some 6, .mov (.tmp 0), none⟩, ⟨some 7, .app 24 4 (.tmp 5) (.tmp 6), none⟩, ⟨some 2, .mov (.tmp 7), none⟩])
 .ret))), [.tmp 2]⟩
theorem c53 : compF Tryd.prog k53 [] Tryd.f53 = some a53 := by kernel_rfl
/-- slices.Index[[]string,string] -/
def k54 : Nat → List (Nat × H) := fun r => if r = 2 then [(0, .none), (1, .none), (7, .none), (8, .none)] else []
def a54 : AFun := ⟨2, (.seq (.reg [⟨some 4, .mov (.con (.i .i64 (0))), none⟩])
 (.seq (.seq (.reg [⟨some 6, .mov (.tmp 0), none⟩, ⟨some 7, .len false (.tmp 6), none⟩, ⟨some 8, .mov (.con (.i .i64 (0))), none⟩])
 (.block 0 (.loop [(0, .none), (1, .none), (7, .none), (8, .none)] (.seq (.reg [⟨some 9, .bin .lss (.tmp 8) (.tmp 7), none⟩])
 (.seq (.cond (.tmp 9) .skip (.exit 0))
 (.seq (.block 1 (.seq (.reg [⟨some 10, .mov (.tmp 8), none⟩, ⟨some 5, .mov (.tmp 10), none⟩])
 (.seq (.reg [⟨some 11, .mov (.tmp 1), none⟩, ⟨some 12, .mov (.tmp 0), none⟩, ⟨some 13, .mov (.tmp 5), none⟩, ⟨some 14, .iaddr 1 (.tmp 12) (.tmp 13), none⟩, ⟨some 15, .load false 1 (.tmp 14), none⟩, ⟨some 16, .bin .eql (.tmp 11) (.tmp 15), none⟩])
 (.cond (.tmp 16) (.seq (.reg [⟨some 17, .mov (.tmp 5), none⟩, ⟨some 4, .mov (.tmp 17), none⟩])
 .ret) .skip))))
 (.reg [⟨some 18, .bin .add (.tmp 8) (.con (.i .i64 (1))), none⟩, ⟨some 8, .mov (.tmp 18), none⟩])))))))
 (.seq (.reg [⟨some 4, .mov (.con (.i .i64 (-1))), none⟩])
 .ret))), [.tmp 4]⟩
theorem c54 : compF Tryd.prog k54 [] Tryd.f54 = some a54 := by kernel_rfl
/-- ramble/value.Compare -/
def k59 : Nat → List (Nat × H) := fun _ => []
def a59 : AFun := ⟨2, (.seq (.reg [⟨some 2, .box (.tmp 0), none⟩, ⟨some 3, .box (.tmp 1), none⟩, ⟨some 4, .mov (.con (.i .i64 (0))), none⟩])
 (.seq (.draw [⟨some 5, .faddr 0 (.tmp 2), none⟩, ⟨some 6, .load false 1 (.tmp 5), none⟩, ⟨some 7, .faddr 0 (.tmp 3), none⟩, ⟨some 8, .load false 1 (.tmp 7), none⟩, ⟨some 9, .call 80 [(.tmp 6), (.tmp 8)], none⟩, ⟨some 10, .faddr 1 (.tmp 2), none⟩, ⟨some 11, .load false 1 (.tmp 10), none⟩, ⟨some 12, .faddr 1 (.tmp 3), none⟩, ⟨some 13, .load false 1 (.tmp 12), none⟩, ⟨some 14, .call 81 [(.tmp 11), (.tmp 13)], none⟩, ⟨some 15, .faddr 2 (.tmp 2), none⟩, ⟨some 16, .load false 1 (.tmp 15), none⟩, ⟨some 17, .faddr 2 (.tmp 3), none⟩, ⟨some 18, .load false 1 (.tmp 17), none⟩, ⟨some 19, .call 82 [(.tmp 16), (.tmp 18)], none⟩, ⟨some 20, .faddr 3 (.tmp 2), none⟩, ⟨some 21, .load false 1 (.tmp 20), none⟩, ⟨some 22, .faddr 3 (.tmp 3), none⟩, ⟨some 23, .load false 1 (.tmp 22), none⟩, ⟨some 24, .call 83 [(.tmp 21), (.tmp 23), (.con (.fn 59 []))], none⟩, ⟨some 25, .bslice 3 [(.i .i64 (0))] 4 [(0, (.tmp 9)), (1, (.tmp 14)), (2, (.tmp 19)), (3, (.tmp 24))], none⟩, ⟨some 26, .call 79 [(.tmp 25)], none⟩, ⟨some 4, .mov (.tmp 26), none⟩] [(1, 3), (1, 6), (3, 6), (4, 6), (1, 8), (3, 8), (4, 8), (6, 8), (1, 11), (3, 11), (4, 11), (6, 11), (8, 11), (9, 11), (1, 13), (3, 13), (4, 13), (6, 13), (8, 13), (9, 13), (11, 13), (1, 16), (3, 16), (4, 16), (6, 16), (8, 16), (9, 16), (11, 16), (13, 16), (14, 16), (1, 18), (3, 18), (4, 18), (6, 18), (8, 18), (9, 18), (11, 18), (13, 18), (14, 18), (16, 18)])
 .ret)), [.tmp 4]⟩
theorem c59 : compF Tryd.prog k59 [] Tryd.f59 = some a59 := by kernel_rfl
/-- ramble/rambleref02.num -/
def k62 : Nat → List (Nat × H) := fun _ => []
def a62 : AFun := ⟨2, (.seq (.reg [⟨some 4, .mov (.con (.i .i64 (0))), none⟩])
 (.seq (.seq (.reg [⟨some 5, .mov (.tmp 0), none⟩, ⟨some 6, .mov (.tmp 1), none⟩, ⟨some 7, .bin .lss (.tmp 5) (.tmp 6), none⟩])
 (.cond (.tmp 7) (.seq (.reg [⟨some 4, .mov (.con (.i .i64 (-1))), none⟩])
 .ret) .skip))
 (.seq (.seq (.reg [⟨some 8, .mov (.tmp 0), none⟩, ⟨some 9, .mov (.tmp 1), none⟩, ⟨some 10, .bin .gtr (.tmp 8) (.tmp 9), none⟩])
 (.cond (.tmp 10) (.seq (.reg [⟨some 4, .mov (.con (.i .i64 (1))), none⟩])
 .ret) .skip))
 (.seq (.reg [⟨some 4, .mov (.con (.i .i64 (0))), none⟩])
 .ret)))), [.tmp 4]⟩
theorem c62 : compF Tryd.prog k62 [] Tryd.f62 = some a62 := by kernel_rfl
/-- ramble/rambleref02.text -/
def k63 : Nat → List (Nat × H) := fun r => if r = 2 then [(0, .none), (1, .none), (5, .none)] else []
def a63 : AFun := ⟨2, (.seq (.reg [⟨some 4, .mov (.con (.i .i64 (0))), none⟩])
 (.seq (.seq (.reg [⟨some 5, .mov (.con (.i .i64 (0))), none⟩])
 (.block 0 (.loop [(0, .none), (1, .none), (5, .none)] (.seq (.seq (.reg [⟨some 6, .mov (.tmp 5), none⟩, ⟨some 7, .mov (.tmp 0), none⟩, ⟨some 8, .len true (.tmp 7), none⟩, ⟨some 9, .bin .lss (.tmp 6) (.tmp 8), none⟩, ⟨some 10, .mov (.tmp 9), none⟩, ⟨some 11, .mov (.tmp 5), some (10, true)⟩, ⟨some 12, .mov (.tmp 1), some (10, true)⟩, ⟨some 13, .len true (.tmp 12), some (10, true)⟩, ⟨some 14, .bin .lss (.tmp 11) (.tmp 13), some (10, true)⟩, ⟨some 15, .pick (.tmp 10) (.tmp 14) (.con (.b false)), none⟩])
 (.cond (.tmp 15) .skip (.exit 0)))
 (.seq (.block 1 (.seq (.draw [⟨some 18, .mov (.tmp 0), none⟩, ⟨some 19, .mov (.tmp 5), none⟩, ⟨some 20, .idx (.tmp 18) (.tmp 19), none⟩, ⟨some 21, .mov (.tmp 1), none⟩, ⟨some 22, .mov (.tmp 5), none⟩, ⟨some 23, .idx (.tmp 21) (.tmp 22), none⟩, ⟨some 24, .bin .neq (.tmp 20) (.tmp 23), none⟩] [])
 (.cond (.tmp 24) (.seq (.draw [⟨some 25, .mov (.tmp 0), none⟩, ⟨some 26, .mov (.tmp 5), none⟩, ⟨some 27, .idx (.tmp 25) (.tmp 26), none⟩, ⟨some 28, .conv (.int .i64) (.tmp 27), none⟩, ⟨some 29, .mov (.tmp 1), none⟩, ⟨some 30, .mov (.tmp 5), none⟩, ⟨some 31, .idx (.tmp 29) (.tmp 30), none⟩, ⟨some 32, .conv (.int .i64) (.tmp 31), none⟩, ⟨some 33, .call 62 [(.tmp 28), (.tmp 32)], none⟩, ⟨some 4, .mov (.tmp 33), none⟩] [])
 .ret) .skip)))
 (.reg [⟨some 16, .mov (.tmp 5), none⟩, ⟨some 17, .bin .add (.tmp 16) (.con (.i .i64 (1))), none⟩, ⟨some 5, .mov (.tmp 17), none⟩]))))))
 (.seq (.reg [⟨some 34, .mov (.tmp 0), none⟩, ⟨some 35, .len true (.tmp 34), none⟩, ⟨some 36, .mov (.tmp 1), none⟩, ⟨some 37, .len true (.tmp 36), none⟩, ⟨some 38, .call 62 [(.tmp 35), (.tmp 37)], none⟩, ⟨some 4, .mov (.tmp 38), none⟩])
 .ret))), [.tmp 4]⟩
theorem c63 : compF Tryd.prog k63 [] Tryd.f63 = some a63 := by kernel_rfl
/-- ramble/rambleref02.letter -/
def k64 : Nat → List (Nat × H) := fun _ => []
def a64 : AFun := ⟨1, (.seq (.reg [⟨some 2, .mov (.con (.b false)), none⟩])
 (.seq (.reg [⟨some 3, .mov (.tmp 0), none⟩, ⟨some 4, .bin .eql (.tmp 3) (.con (.i .u8 (95))), none⟩, ⟨some 5, .mov (.tmp 4), none⟩, ⟨some 6, .mov (.tmp 0), some (5, false)⟩, ⟨some 7, .bin .geq (.tmp 6) (.con (.i .u8 (97))), some (5, false)⟩, ⟨some 8, .mov (.tmp 7), some (5, false)⟩, ⟨some 9, .mov (.tmp 0), some (8, true)⟩, ⟨some 10, .bin .leq (.tmp 9) (.con (.i .u8 (122))), some (8, true)⟩, ⟨some 11, .pick (.tmp 8) (.tmp 10) (.con (.b false)), some (5, false)⟩, ⟨some 12, .pick (.tmp 5) (.con (.b true)) (.tmp 11), none⟩, ⟨some 13, .mov (.tmp 12), none⟩, ⟨some 14, .mov (.tmp 0), some (13, false)⟩, ⟨some 15, .bin .geq (.tmp 14) (.con (.i .u8 (65))), some (13, false)⟩, ⟨some 16, .mov (.tmp 15), some (13, false)⟩, ⟨some 17, .mov (.tmp 0), some (16, true)⟩, ⟨some 18, .bin .leq (.tmp 17) (.con (.i .u8 (90))), some (16, true)⟩, ⟨some 19, .pick (.tmp 16) (.tmp 18) (.con (.b false)), some (13, false)⟩, ⟨some 20, .pick (.tmp 13) (.con (.b true)) (.tmp 19), none⟩, ⟨some 2, .mov (.tmp 20), none⟩])
 .ret)), [.tmp 2]⟩
theorem c64 : compF Tryd.prog k64 [] Tryd.f64 = some a64 := by kernel_rfl
/-- ramble/rambleref02.all -/
def k65 : Nat → List (Nat × H) := fun r => if r = 2 then [(0, .none), (1, .none), (5, .none)] else []
def a65 : AFun := ⟨2, (.seq (.reg [⟨some 4, .mov (.con (.b false)), none⟩])
 (.seq (.seq (.reg [⟨some 5, .mov (.con (.i .i64 (0))), none⟩])
 (.block 0 (.loop [(0, .none), (1, .none), (5, .none)] (.seq (.seq (.reg [⟨some 6, .mov (.tmp 5), none⟩, ⟨some 7, .mov (.tmp 0), none⟩, ⟨some 8, .len false (.tmp 7), none⟩, ⟨some 9, .bin .lss (.tmp 6) (.tmp 8), none⟩])
 (.cond (.tmp 9) .skip (.exit 0)))
 (.seq (.block 1 (.seq (.reg [⟨some 12, .mov (.tmp 0), none⟩, ⟨some 13, .mov (.tmp 5), none⟩, ⟨some 14, .iaddr 4 (.tmp 12) (.tmp 13), none⟩, ⟨some 15, .load true 4 (.tmp 14), none⟩, ⟨some 16, .mov (.tmp 1), none⟩, ⟨some 17, .bin .add (.tmp 16) (.con (.i .i64 (1))), none⟩, ⟨some 18, .call 46 [(.tmp 15), (.tmp 17)], none⟩, ⟨some 19, .un .not (.tmp 18), none⟩])
 (.cond (.tmp 19) (.seq (.reg [⟨some 4, .mov (.con (.b false)), none⟩])
 .ret) .skip)))
 (.reg [⟨some 10, .mov (.tmp 5), none⟩, ⟨some 11, .bin .add (.tmp 10) (.con (.i .i64 (1))), none⟩, ⟨some 5, .mov (.tmp 11), none⟩]))))))
 (.seq (.reg [⟨some 4, .mov (.con (.b true)), none⟩])
 .ret))), [.tmp 4]⟩
theorem c65 : compF Tryd.prog k65 [] Tryd.f65 = some a65 := by kernel_rfl
/-- ramble/rambleref02.rises -/
def k66 : Nat → List (Nat × H) := fun r => if r = 2 then [(0, .none), (3, .none)] else []
def a66 : AFun := ⟨1, (.seq (.reg [⟨some 2, .mov (.con (.b false)), none⟩])
 (.seq (.seq (.reg [⟨some 3, .mov (.con (.i .i64 (2))), none⟩])
 (.block 0 (.loop [(0, .none), (3, .none)] (.seq (.seq (.reg [⟨some 4, .mov (.tmp 3), none⟩, ⟨some 5, .mov (.tmp 0), none⟩, ⟨some 6, .len false (.tmp 5), none⟩, ⟨some 7, .bin .lss (.tmp 4) (.tmp 6), none⟩])
 (.cond (.tmp 7) .skip (.exit 0)))
 (.seq (.block 1 (.seq (.draw [⟨some 10, .mov (.tmp 0), none⟩, ⟨some 11, .mov (.tmp 3), none⟩, ⟨some 12, .bin .sub (.tmp 11) (.con (.i .i64 (2))), none⟩, ⟨some 13, .iaddr 4 (.tmp 10) (.tmp 12), none⟩, ⟨some 14, .load true 4 (.tmp 13), none⟩, ⟨some 15, .mov (.tmp 0), none⟩, ⟨some 16, .mov (.tmp 3), none⟩, ⟨some 17, .iaddr 4 (.tmp 15) (.tmp 16), none⟩, ⟨some 18, .load true 4 (.tmp 17), none⟩, ⟨some 19, .call 39 [(.tmp 14), (.tmp 18)], none⟩, ⟨some 20, .bin .geq (.tmp 19) (.con (.i .i64 (0))), none⟩] [(3, 7), (4, 7), (3, 8), (4, 8)])
 (.cond (.tmp 20) (.seq (.reg [⟨some 2, .mov (.con (.b false)), none⟩])
 .ret) .skip)))
 (.reg [⟨some 8, .mov (.tmp 3), none⟩, ⟨some 9, .bin .add (.tmp 8) (.con (.i .i64 (2))), none⟩, ⟨some 3, .mov (.tmp 9), none⟩]))))))
 (.seq (.reg [⟨some 2, .mov (.con (.b true)), none⟩])
 .ret))), [.tmp 2]⟩
theorem c66 : compF Tryd.prog k66 [] Tryd.f66 = some a66 := by kernel_rfl
/-- ramble/value.Check -/
def k67 : Nat → List (Nat × H) := fun _ => []
def a67 : AFun := ⟨1, (.seq (.reg [⟨some 1, .box (.tmp 0), none⟩, ⟨some 2, .mov (.con (.i .i64 (0))), none⟩])
 (.seq (.seq (.reg [⟨some 3, .load true 4 (.tmp 1), none⟩, ⟨some 4, .call 85 [(.tmp 3), (.con (.i .i64 (1)))], none⟩, ⟨some 5, .un .not (.tmp 4), none⟩])
 (.cond (.tmp 5) (.seq (.reg [⟨some 2, .mov (.con (.i .i64 (20))), none⟩])
 .ret) .skip))
 (.seq (.reg [⟨some 2, .mov (.con (.i .i64 (0))), none⟩])
 .ret))), [.tmp 2]⟩
theorem c67 : compF Tryd.prog k67 [] Tryd.f67 = some a67 := by kernel_rfl
/-- slices.IndexFunc[[]ramble/api.Value,ramble/api.Value] -/
def k68 : Nat → List (Nat × H) := fun r => if r = 2 then [(0, .none), (1, .none), (7, .none), (8, .none)] else []
def a68 : AFun := ⟨2, (.seq (.reg [⟨some 4, .mov (.con (.i .i64 (0))), none⟩])
 (.seq (.seq (.reg [⟨some 6, .mov (.tmp 0), none⟩, ⟨some 7, .len false (.tmp 6), none⟩, ⟨some 8, .mov (.con (.i .i64 (0))), none⟩])
 (.block 0 (.loop [(0, .none), (1, .none), (7, .none), (8, .none)] (.seq (.reg [⟨some 9, .bin .lss (.tmp 8) (.tmp 7), none⟩])
 (.seq (.cond (.tmp 9) .skip (.exit 0))
 (.seq (.block 1 (.seq (.reg [⟨some 10, .mov (.tmp 8), none⟩, ⟨some 5, .mov (.tmp 10), none⟩])
 (.seq (.reg [⟨some 11, .mov (.tmp 1), none⟩, ⟨some 12, .mov (.tmp 0), none⟩, ⟨some 13, .mov (.tmp 5), none⟩, ⟨some 14, .iaddr 4 (.tmp 12) (.tmp 13), none⟩, ⟨some 15, .load true 4 (.tmp 14), none⟩, ⟨some 16, .callv (.tmp 11) [(.tmp 15)], none⟩])
 (.cond (.tmp 16) (.seq (.reg [⟨some 17, .mov (.tmp 5), none⟩, ⟨some 4, .mov (.tmp 17), none⟩])
 .ret) .skip))))
 (.reg [⟨some 18, .bin .add (.tmp 8) (.con (.i .i64 (1))), none⟩, ⟨some 8, .mov (.tmp 18), none⟩])))))))
 (.seq (.reg [⟨some 4, .mov (.con (.i .i64 (-1))), none⟩])
 .ret))), [.tmp 4]⟩
theorem c68 : compF Tryd.prog k68 [] Tryd.f68 = some a68 := by kernel_rfl
/-- cmp.Or[int] -/
def k79 : Nat → List (Nat × H) := fun r => if r = 3 then [(3, .none), (6, .none), (7, .none), (8, .none)] else []
def a79 : AFun := ⟨1, (.seq (.reg [⟨some 2, .mov (.con (.i .i64 (0))), none⟩])
 (.seq (.reg [⟨some 3, .mov (.con (.i .i64 (0))), none⟩])
 (.seq (.seq (.reg [⟨some 6, .mov (.tmp 0), none⟩, ⟨some 7, .len false (.tmp 6), none⟩, ⟨some 8, .mov (.con (.i .i64 (0))), none⟩])
 (.block 0 (.loop [(3, .none), (6, .none), (7, .none), (8, .none)] (.seq (.reg [⟨some 9, .bin .lss (.tmp 8) (.tmp 7), none⟩])
 (.seq (.cond (.tmp 9) .skip (.exit 0))
 (.seq (.block 1 (.seq (.reg [⟨some 10, .iaddr 1 (.tmp 6) (.tmp 8), none⟩, ⟨some 11, .load false 1 (.tmp 10), none⟩, ⟨some 5, .mov (.tmp 11), none⟩])
 (.seq (.reg [⟨some 12, .mov (.tmp 5), none⟩, ⟨some 13, .mov (.tmp 3), none⟩, ⟨some 14, .bin .neq (.tmp 12) (.tmp 13), none⟩])
 (.cond (.tmp 14) (.seq (.reg [⟨some 15, .mov (.tmp 5), none⟩, ⟨some 2, .mov (.tmp 15), none⟩])
 .ret) .skip))))
 (.reg [⟨some 16, .bin .add (.tmp 8) (.con (.i .i64 (1))), none⟩, ⟨some 8, .mov (.tmp 16), none⟩])))))))
 (.seq (.reg [⟨some 17, .mov (.tmp 3), none⟩, ⟨some 2, .mov (.tmp 17), none⟩])
 .ret)))), [.tmp 2]⟩
theorem c79 : compF Tryd.prog k79 [] Tryd.f79 = some a79 := by kernel_rfl
/-- cmp.Compare[int] -/
def k80 : Nat → List (Nat × H) := fun _ => []
def a80 : AFun := ⟨2, (.seq (.reg [⟨some 4, .mov (.con (.i .i64 (0))), none⟩])
 (.seq (.reg [⟨some 7, .mov (.tmp 0), none⟩, ⟨some 8, .call 92 [(.tmp 7)], none⟩, ⟨some 5, .mov (.tmp 8), none⟩])
 (.seq (.reg [⟨some 9, .mov (.tmp 1), none⟩, ⟨some 10, .call 92 [(.tmp 9)], none⟩, ⟨some 6, .mov (.tmp 10), none⟩])
 (.seq (.seq (.reg [⟨some 11, .mov (.tmp 5), none⟩])
 (.cond (.tmp 11) (.seq (.seq (.reg [⟨some 12, .mov (.tmp 6), none⟩])
 (.cond (.tmp 12) (.seq (.reg [⟨some 4, .mov (.con (.i .i64 (0))), none⟩])
 .ret) .skip))
 (.seq (.reg [⟨some 4, .mov (.con (.i .i64 (-1))), none⟩])
 .ret)) .skip))
 (.seq (.seq (.reg [⟨some 13, .mov (.tmp 6), none⟩])
 (.cond (.tmp 13) (.seq (.reg [⟨some 4, .mov (.con (.i .i64 (1))), none⟩])
 .ret) .skip))
 (.seq (.seq (.reg [⟨some 14, .mov (.tmp 0), none⟩, ⟨some 15, .mov (.tmp 1), none⟩, ⟨some 16, .bin .lss (.tmp 14) (.tmp 15), none⟩])
 (.cond (.tmp 16) (.seq (.reg [⟨some 4, .mov (.con (.i .i64 (-1))), none⟩])
 .ret) .skip))
 (.seq (.seq (.reg [⟨some 17, .mov (.tmp 0), none⟩, ⟨some 18, .mov (.tmp 1), none⟩, ⟨some 19, .bin .gtr (.tmp 17) (.tmp 18), none⟩])
 (.cond (.tmp 19) (.seq (.reg [⟨some 4, .mov (.con (.i .i64 (1))), none⟩])
 .ret) .skip))
 (.seq (.reg [⟨some 4, .mov (.con (.i .i64 (0))), none⟩])
 .ret)))))))), [.tmp 4]⟩
theorem c80 : compF Tryd.prog k80 [] Tryd.f80 = some a80 := by kernel_rfl
/-- cmp.Compare[int64] -/
def k81 : Nat → List (Nat × H) := fun _ => []
def a81 : AFun := ⟨2, (.seq (.reg [⟨some 4, .mov (.con (.i .i64 (0))), none⟩])
 (.seq (.reg [⟨some 7, .mov (.tmp 0), none⟩, ⟨some 8, .call 93 [(.tmp 7)], none⟩, ⟨some 5, .mov (.tmp 8), none⟩])
 (.seq (.reg [⟨some 9, .mov (.tmp 1), none⟩, ⟨some 10, .call 93 [(.tmp 9)], none⟩, ⟨some 6, .mov (.tmp 10), none⟩])
 (.seq (.seq (.reg [⟨some 11, .mov (.tmp 5), none⟩])
 (.cond (.tmp 11) (.seq (.seq (.reg [⟨some 12, .mov (.tmp 6), none⟩])
 (.cond (.tmp 12) (.seq (.reg [⟨some 4, .mov (.con (.i .i64 (0))), none⟩])
 .ret) .skip))
 (.seq (.reg [⟨some 4, .mov (.con (.i .i64 (-1))), none⟩])
 .ret)) .skip))
 (.seq (.seq (.reg [⟨some 13, .mov (.tmp 6), none⟩])
 (.cond (.tmp 13) (.seq (.reg [⟨some 4, .mov (.con (.i .i64 (1))), none⟩])
 .ret) .skip))
 (.seq (.seq (.reg [⟨some 14, .mov (.tmp 0), none⟩, ⟨some 15, .mov (.tmp 1), none⟩, ⟨some 16, .bin .lss (.tmp 14) (.tmp 15), none⟩])
 (.cond (.tmp 16) (.seq (.reg [⟨some 4, .mov (.con (.i .i64 (-1))), none⟩])
 .ret) .skip))
 (.seq (.seq (.reg [⟨some 17, .mov (.tmp 0), none⟩, ⟨some 18, .mov (.tmp 1), none⟩, ⟨some 19, .bin .gtr (.tmp 17) (.tmp 18), none⟩])
 (.cond (.tmp 19) (.seq (.reg [⟨some 4, .mov (.con (.i .i64 (1))), none⟩])
 .ret) .skip))
 (.seq (.reg [⟨some 4, .mov (.con (.i .i64 (0))), none⟩])
 .ret)))))))), [.tmp 4]⟩
theorem c81 : compF Tryd.prog k81 [] Tryd.f81 = some a81 := by kernel_rfl
/-- strings.Compare -/
def k82 : Nat → List (Nat × H) := fun _ => []
def a82 : AFun := ⟨2, (.seq (.reg [⟨some 4, .mov (.con (.i .i64 (0))), none⟩])
 (.seq (.reg [⟨some 5, .mov (.tmp 0), none⟩, ⟨some 6, .mov (.tmp 1), none⟩, ⟨some 7, .call 94 [(.tmp 5), (.tmp 6)], none⟩, ⟨some 4, .mov (.tmp 7), none⟩])
 .ret)), [.tmp 4]⟩
theorem c82 : compF Tryd.prog k82 [] Tryd.f82 = some a82 := by kernel_rfl
/-- slices.CompareFunc[[]ramble/api.Value,[]ramble/api.Value,ramble/api.Value,ramble/api.Value] -/
def k83 : Nat → List (Nat × H) := fun r => if r = 2 then [(0, .none), (1, .none), (2, .none), (11, .none), (12, .none), (13, .none)] else []
def a83 : AFun := ⟨3, (.seq (.reg [⟨some 6, .mov (.con (.i .i64 (0))), none⟩])
 (.seq (.seq (.reg [⟨some 11, .mov (.tmp 0), none⟩, ⟨some 12, .len false (.tmp 11), none⟩, ⟨some 13, .mov (.con (.i .i64 (0))), none⟩])
 (.block 0 (.loop [(0, .none), (1, .none), (2, .none), (11, .none), (12, .none), (13, .none)] (.seq (.reg [⟨some 14, .bin .lss (.tmp 13) (.tmp 12), none⟩])
 (.seq (.cond (.tmp 14) .skip (.exit 0))
 (.seq (.block 1 (.seq (.reg [⟨some 15, .mov (.tmp 13), none⟩, ⟨some 16, .iaddr 4 (.tmp 11) (.tmp 13), none⟩, ⟨some 17, .load true 4 (.tmp 16), none⟩, ⟨some 8, .alloc [(.i .i64 (0)), (.i .i64 (0)), (.str []), (.sl .nil 0 [])], none⟩, ⟨some 7, .mov (.tmp 15), none⟩, ⟨none, .store 4 (.tmp 8) (.tmp 17), none⟩])
 (.seq (.seq (.reg [⟨some 18, .mov (.tmp 7), none⟩, ⟨some 19, .mov (.tmp 1), none⟩, ⟨some 20, .len false (.tmp 19), none⟩, ⟨some 21, .bin .geq (.tmp 18) (.tmp 20), none⟩])
 (.cond (.tmp 21) (.seq (.reg [⟨some 6, .mov (.con (.i .i64 (1))), none⟩])
 .ret) .skip))
 (.seq (.reg [⟨some 22, .mov (.tmp 1), none⟩, ⟨some 23, .mov (.tmp 7), none⟩, ⟨some 24, .iaddr 4 (.tmp 22) (.tmp 23), none⟩, ⟨some 25, .load true 4 (.tmp 24), none⟩, ⟨some 9, .alloc [(.i .i64 (0)), (.i .i64 (0)), (.str []), (.sl .nil 0 [])], none⟩, ⟨none, .store 4 (.tmp 9) (.tmp 25), none⟩])
 (.seq (.reg [⟨some 26, .mov (.tmp 2), none⟩, ⟨some 27, .load true 4 (.tmp 8), none⟩, ⟨some 28, .load true 4 (.tmp 9), none⟩, ⟨some 29, .callv (.tmp 26) [(.tmp 27), (.tmp 28)], none⟩, ⟨some 10, .mov (.tmp 29), none⟩])
 (.seq (.reg [⟨some 30, .mov (.tmp 10), none⟩, ⟨some 31, .bin .neq (.tmp 30) (.con (.i .i64 (0))), none⟩])
 (.cond (.tmp 31) (.seq (.reg [⟨some 32, .mov (.tmp 10), none⟩, ⟨some 6, .mov (.tmp 32), none⟩])
 .ret) .skip)))))))
 (.reg [⟨some 33, .bin .add (.tmp 13) (.con (.i .i64 (1))), none⟩, ⟨some 13, .mov (.tmp 33), none⟩])))))))
 (.seq (.seq (.reg [⟨some 34, .mov (.tmp 0), none⟩, ⟨some 35, .len false (.tmp 34), none⟩, ⟨some 36, .mov (.tmp 1), none⟩, ⟨some 37, .len false (.tmp 36), none⟩, ⟨some 38, .bin .lss (.tmp 35) (.tmp 37), none⟩])
 (.cond (.tmp 38) (.seq (.reg [⟨some 6, .mov (.con (.i .i64 (-1))), none⟩])
 .ret) .skip))
 (.seq (.reg [⟨some 6, .mov (.con (.i .i64 (0))), none⟩])
 .ret)))), [.tmp 6]⟩
theorem c83 : compF Tryd.prog k83 [] Tryd.f83 = some a83 := by kernel_rfl
/-- ramble/value.may -/
def k85 : Nat → List (Nat × H) := fun r => if r = 22 then [(2, .none), (3, .none), (6, .none)] else []
def a85 : AFun := ⟨2, (.seq (.reg [⟨some 2, .box (.tmp 0), none⟩, ⟨some 3, .box (.tmp 1), none⟩, ⟨some 4, .mov (.con (.b false)), none⟩])
 (.seq (.seq (.reg [⟨some 7, .load false 1 (.tmp 3), none⟩, ⟨some 8, .bin .gtr (.tmp 7) (.con (.i .i64 (8))), none⟩])
 (.cond (.tmp 8) (.seq (.reg [⟨some 4, .mov (.con (.b false)), none⟩])
 .ret) .skip))
 (.seq (.reg [⟨some 9, .faddr 2 (.tmp 2), none⟩, ⟨some 10, .load false 1 (.tmp 9), none⟩, ⟨some 11, .bin .eql (.tmp 10) (.con (.str [])), none⟩, ⟨some 12, .mov (.tmp 11), none⟩, ⟨some 13, .faddr 3 (.tmp 2), some (12, true)⟩, ⟨some 14, .load false 1 (.tmp 13), some (12, true)⟩, ⟨some 15, .len false (.tmp 14), some (12, true)⟩, ⟨some 16, .bin .eql (.tmp 15) (.con (.i .i64 (0))), some (12, true)⟩, ⟨some 17, .pick (.tmp 12) (.tmp 16) (.con (.b false)), none⟩, ⟨some 5, .mov (.tmp 17), none⟩])
 (.seq (.seq (.reg [⟨some 18, .faddr 0 (.tmp 2), none⟩, ⟨some 19, .load false 1 (.tmp 18), none⟩])
 (.block 0 (.seq (.reg [⟨some 21, .bin .eql (.tmp 19) (.con (.i .i64 (1))), none⟩, ⟨some 20, .mov (.tmp 21), none⟩])
 (.cond (.tmp 20) (.seq (.reg [⟨some 22, .mov (.tmp 5), none⟩, ⟨some 4, .mov (.tmp 22), none⟩])
 .ret) (.seq (.reg [⟨some 24, .bin .eql (.tmp 19) (.con (.i .i64 (3))), none⟩, ⟨some 23, .mov (.tmp 24), none⟩])
 (.cond (.tmp 23) (.seq (.reg [⟨some 25, .mov (.tmp 5), none⟩, ⟨some 26, .mov (.tmp 25), none⟩, ⟨some 27, .faddr 1 (.tmp 2), some (26, true)⟩, ⟨some 28, .load false 1 (.tmp 27), some (26, true)⟩, ⟨some 29, .bin .eql (.tmp 28) (.con (.i .i64 (0))), some (26, true)⟩, ⟨some 30, .mov (.tmp 29), some (26, true)⟩, ⟨some 31, .faddr 1 (.tmp 2), some (30, false)⟩, ⟨some 32, .load false 1 (.tmp 31), some (30, false)⟩, ⟨some 33, .bin .eql (.tmp 32) (.con (.i .i64 (1))), some (30, false)⟩, ⟨some 34, .pick (.tmp 30) (.con (.b true)) (.tmp 33), some (26, true)⟩, ⟨some 35, .pick (.tmp 26) (.tmp 34) (.con (.b false)), none⟩, ⟨some 4, .mov (.tmp 35), none⟩])
 .ret) (.seq (.seq (.reg [⟨some 37, .bin .eql (.tmp 19) (.con (.i .i64 (6))), none⟩, ⟨some 36, .mov (.tmp 37), none⟩])
 (.cond (.tmp 36) .skip (.reg [⟨some 38, .bin .eql (.tmp 19) (.con (.i .i64 (7))), none⟩, ⟨some 36, .mov (.tmp 38), none⟩])))
 (.cond (.tmp 36) (.seq (.reg [⟨some 39, .mov (.tmp 5), none⟩, ⟨some 40, .mov (.tmp 39), none⟩, ⟨some 41, .faddr 1 (.tmp 2), some (40, true)⟩, ⟨some 42, .load false 1 (.tmp 41), some (40, true)⟩, ⟨some 43, .bin .geq (.tmp 42) (.con (.i .i64 (1))), some (40, true)⟩, ⟨some 44, .pick (.tmp 40) (.tmp 43) (.con (.b false)), none⟩, ⟨some 45, .mov (.tmp 44), none⟩, ⟨some 46, .faddr 1 (.tmp 2), some (45, true)⟩, ⟨some 47, .load false 1 (.tmp 46), some (45, true)⟩, ⟨some 48, .bin .leq (.tmp 47) (.con (.i .i64 (281474976710656))), some (45, true)⟩, ⟨some 49, .pick (.tmp 45) (.tmp 48) (.con (.b false)), none⟩, ⟨some 4, .mov (.tmp 49), none⟩])
 .ret) (.seq (.reg [⟨some 51, .bin .eql (.tmp 19) (.con (.i .i64 (2))), none⟩, ⟨some 50, .mov (.tmp 51), none⟩])
 (.cond (.tmp 50) (.seq (.reg [⟨some 52, .faddr 1 (.tmp 2), none⟩, ⟨some 53, .load false 1 (.tmp 52), none⟩, ⟨some 54, .bin .eql (.tmp 53) (.con (.i .i64 (0))), none⟩, ⟨some 55, .mov (.tmp 54), none⟩, ⟨some 56, .faddr 3 (.tmp 2), some (55, true)⟩, ⟨some 57, .load false 1 (.tmp 56), some (55, true)⟩, ⟨some 58, .len false (.tmp 57), some (55, true)⟩, ⟨some 59, .bin .eql (.tmp 58) (.con (.i .i64 (0))), some (55, true)⟩, ⟨some 60, .pick (.tmp 55) (.tmp 59) (.con (.b false)), none⟩, ⟨some 61, .mov (.tmp 60), none⟩, ⟨some 62, .faddr 2 (.tmp 2), some (61, true)⟩, ⟨some 63, .load false 1 (.tmp 62), some (61, true)⟩, ⟨some 64, .len true (.tmp 63), some (61, true)⟩, ⟨some 65, .bin .leq (.tmp 64) (.con (.i .i64 (128))), some (61, true)⟩, ⟨some 66, .pick (.tmp 61) (.tmp 65) (.con (.b false)), none⟩, ⟨some 4, .mov (.tmp 66), none⟩])
 .ret) (.seq (.reg [⟨some 68, .bin .eql (.tmp 19) (.con (.i .i64 (4))), none⟩, ⟨some 67, .mov (.tmp 68), none⟩])
 (.cond (.tmp 67) (.seq (.reg [⟨some 69, .faddr 3 (.tmp 2), none⟩, ⟨some 70, .load false 1 (.tmp 69), none⟩, ⟨some 71, .len false (.tmp 70), none⟩, ⟨some 72, .bin .gtr (.tmp 71) (.con (.i .i64 (256))), none⟩])
 (.cond (.tmp 72) (.seq (.reg [⟨some 4, .mov (.con (.b false)), none⟩])
 .ret) .skip)) (.seq (.reg [⟨some 74, .bin .eql (.tmp 19) (.con (.i .i64 (5))), none⟩, ⟨some 73, .mov (.tmp 74), none⟩])
 (.cond (.tmp 73) (.seq (.seq (.reg [⟨some 75, .faddr 3 (.tmp 2), none⟩, ⟨some 76, .load false 1 (.tmp 75), none⟩, ⟨some 77, .len false (.tmp 76), none⟩, ⟨some 78, .bin .gtr (.tmp 77) (.con (.i .i64 (512))), none⟩, ⟨some 79, .mov (.tmp 78), none⟩, ⟨some 80, .faddr 3 (.tmp 2), some (79, false)⟩, ⟨some 81, .load false 1 (.tmp 80), some (79, false)⟩, ⟨some 82, .len false (.tmp 81), some (79, false)⟩, ⟨some 83, .bin .rem (.tmp 82) (.con (.i .i64 (2))), some (79, false)⟩, ⟨some 84, .bin .eql (.tmp 83) (.con (.i .i64 (1))), some (79, false)⟩, ⟨some 85, .pick (.tmp 79) (.con (.b true)) (.tmp 84), none⟩])
 (.cond (.tmp 85) (.seq (.reg [⟨some 4, .mov (.con (.b false)), none⟩])
 .ret) .skip))
 (.seq (.reg [⟨some 6, .mov (.con (.i .i64 (2))), none⟩])
 (.block 1 (.loop [(2, .none), (3, .none), (6, .none)] (.seq (.seq (.reg [⟨some 86, .mov (.tmp 6), none⟩, ⟨some 87, .faddr 3 (.tmp 2), none⟩, ⟨some 88, .load false 1 (.tmp 87), none⟩, ⟨some 89, .len false (.tmp 88), none⟩, ⟨some 90, .bin .lss (.tmp 86) (.tmp 89), none⟩])
 (.cond (.tmp 90) .skip (.exit 1)))
 (.seq (.block 2 (.seq (.draw [⟨some 93, .faddr 3 (.tmp 2), none⟩, ⟨some 94, .load false 1 (.tmp 93), none⟩, ⟨some 95, .mov (.tmp 6), none⟩, ⟨some 96, .bin .sub (.tmp 95) (.con (.i .i64 (2))), none⟩, ⟨some 97, .iaddr 4 (.tmp 94) (.tmp 96), none⟩, ⟨some 98, .load true 4 (.tmp 97), none⟩, ⟨some 99, .faddr 3 (.tmp 2), none⟩, ⟨some 100, .load false 1 (.tmp 99), none⟩, ⟨some 101, .mov (.tmp 6), none⟩, ⟨some 102, .iaddr 4 (.tmp 100) (.tmp 101), none⟩, ⟨some 103, .load true 4 (.tmp 102), none⟩, ⟨some 104, .call 59 [(.tmp 98), (.tmp 103)], none⟩, ⟨some 105, .bin .geq (.tmp 104) (.con (.i .i64 (0))), none⟩] [(1, 7), (4, 7), (5, 7), (1, 9), (4, 9), (5, 9), (1, 10), (4, 10), (5, 10)])
 (.cond (.tmp 105) (.seq (.reg [⟨some 4, .mov (.con (.b false)), none⟩])
 .ret) .skip)))
 (.reg [⟨some 91, .mov (.tmp 6), none⟩, ⟨some 92, .bin .add (.tmp 91) (.con (.i .i64 (2))), none⟩, ⟨some 6, .mov (.tmp 92), none⟩]))))))) (.seq (.reg [⟨some 4, .mov (.con (.b false)), none⟩])
 .ret)))))))))))))))
 (.seq (.reg [⟨some 106, .faddr 1 (.tmp 2), none⟩, ⟨some 107, .load false 1 (.tmp 106), none⟩, ⟨some 108, .bin .eql (.tmp 107) (.con (.i .i64 (0))), none⟩, ⟨some 109, .mov (.tmp 108), none⟩, ⟨some 110, .faddr 2 (.tmp 2), some (109, true)⟩, ⟨some 111, .load false 1 (.tmp 110), some (109, true)⟩, ⟨some 112, .bin .eql (.tmp 111) (.con (.str [])), some (109, true)⟩, ⟨some 113, .pick (.tmp 109) (.tmp 112) (.con (.b false)), none⟩, ⟨some 114, .mov (.tmp 113), none⟩, ⟨some 115, .faddr 3 (.tmp 2), some (114, true)⟩, ⟨some 116, .load false 1 (.tmp 115), some (114, true)⟩, ⟨some 117, .mkfn 95 [(.tmp 3)], some (114, true)⟩, ⟨some 118, .call 48 [(.tmp 116), (.tmp 117)], some (114, true)⟩, ⟨some 119, .un .not (.tmp 118), some (114, true)⟩, ⟨some 120, .pick (.tmp 114) (.tmp 119) (.con (.b false)), none⟩, ⟨some 4, .mov (.tmp 120), none⟩])
 .ret))))), [.tmp 4]⟩
theorem c85 : compF Tryd.prog k85 [] Tryd.f85 = some a85 := by kernel_rfl
/-- cmp.isNaN[int] -/
def k92 : Nat → List (Nat × H) := fun _ => []
def a92 : AFun := ⟨1, (.seq (.reg [⟨some 2, .mov (.con (.b false)), none⟩])
 (.seq (.reg [⟨some 3, .mov (.tmp 0), none⟩, ⟨some 4, .mov (.tmp 0), none⟩, ⟨some 5, .bin .neq (.tmp 3) (.tmp 4), none⟩, ⟨some 2, .mov (.tmp 5), none⟩])
 .ret)), [.tmp 2]⟩
theorem c92 : compF Tryd.prog k92 [] Tryd.f92 = some a92 := by kernel_rfl
/-- cmp.isNaN[int64] -/
def k93 : Nat → List (Nat × H) := fun _ => []
def a93 : AFun := ⟨1, (.seq (.reg [⟨some 2, .mov (.con (.b false)), none⟩])
 (.seq (.reg [⟨some 3, .mov (.tmp 0), none⟩, ⟨some 4, .mov (.tmp 0), none⟩, ⟨some 5, .bin .neq (.tmp 3) (.tmp 4), none⟩, ⟨some 2, .mov (.tmp 5), none⟩])
 .ret)), [.tmp 2]⟩
theorem c93 : compF Tryd.prog k93 [] Tryd.f93 = some a93 := by kernel_rfl
/-- internal/bytealg.CompareString -/
def k94 : Nat → List (Nat × H) := fun _ => []
def a94 : AFun := ⟨2, (.seq (.reg [⟨some 4, .mov (.con (.i .i64 (0))), none⟩])
 (.seq (.reg [⟨some 5, .mov (.tmp 0), none⟩, ⟨some 6, .mov (.tmp 1), none⟩, ⟨some 7, .call 100 [(.tmp 5), (.tmp 6)], none⟩, ⟨some 4, .mov (.tmp 7), none⟩])
 .ret)), [.tmp 4]⟩
theorem c94 : compF Tryd.prog k94 [] Tryd.f94 = some a94 := by kernel_rfl
/-- ramble/value.may$1 -/
def k95 : Nat → List (Nat × H) := fun _ => []
def a95 : AFun := ⟨2, (.seq (.reg [⟨some 2, .box (.tmp 0), none⟩, ⟨some 3, .mov (.con (.b false)), none⟩])
 (.seq (.reg [⟨some 4, .load true 4 (.tmp 2), none⟩, ⟨some 5, .load false 1 (.tmp 1), none⟩, ⟨some 6, .bin .add (.tmp 5) (.con (.i .i64 (1))), none⟩, ⟨some 7, .call 85 [(.tmp 4), (.tmp 6)], none⟩, ⟨some 8, .un .not (.tmp 7), none⟩, ⟨some 3, .mov (.tmp 8), none⟩])
 .ret)), [.tmp 3]⟩
theorem c95 : compF Tryd.prog k95 [] Tryd.f95 = some a95 := by kernel_rfl
end Go.Proofs.YtmdbfbcolofelaaDoor
