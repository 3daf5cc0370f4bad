/-
  The functions' code for the abstract machine, printed by a program of ours; each checked against the loaded program.
-/
import Derived.Test.YtmdbfbcolofelaaDoorFa
import Derived.Test.YtmdbfbcolofelaaDoorProg
import Derived.KernelRfl
set_option maxRecDepth 100000
namespace Go.Proofs.YtmdbfbcolofelaaDoor
open Go.Abs
/-- ramble/ramblelaw18.TravelWay -/
def k3 : Nat → List (Nat × H) := fun r => if r = 8 then [(1, .none), (2, .none), (3, .none), (7, .none), (9, .none), (41, .none), (42, .none), (43, .none)] else []
def a3 : AFun := ⟨3, (.seq (.reg [⟨some 3, .box (.tmp 0), none⟩, ⟨some 6, .mov (.con (.b false)), none⟩])
 (.seq (.seq (.reg [⟨some 18, .call 7 [], none⟩, ⟨some 19, .un .not (.tmp 18), none⟩, ⟨some 20, .mov (.tmp 19), none⟩, ⟨some 21, .faddr 4 (.tmp 3), some (20, false)⟩, ⟨some 22, .load false 1 (.tmp 21), some (20, false)⟩, ⟨some 23, .len false (.tmp 22), some (20, false)⟩, ⟨some 24, .mov (.tmp 1), some (20, false)⟩, ⟨some 25, .len false (.tmp 24), some (20, false)⟩, ⟨some 26, .bin .add (.tmp 23) (.tmp 25), some (20, false)⟩, ⟨some 27, .bin .gtr (.tmp 26) (.con (.i .i64 (256))), some (20, false)⟩, ⟨some 28, .pick (.tmp 20) (.con (.b true)) (.tmp 27), none⟩])
 (.cond (.tmp 28) (.seq (.reg [⟨some 29, .call 7 [], none⟩, ⟨some 6, .mov (.tmp 29), none⟩])
 .ret) .skip))
 (.seq (.reg [⟨some 30, .load true 7 (.tmp 3), none⟩, ⟨some 31, .call 8 [(.tmp 30)], none⟩, ⟨some 7, .alloc [(.i .i64 (0)), (.i .i64 (0)), (.str []), (.sl .nil 0 []), (.sl .nil 0 []), (.sl .nil 0 []), (.i .i64 (0))], none⟩, ⟨none, .store 7 (.tmp 7) (.tmp 31), none⟩])
 (.seq (.reg [⟨some 33, .load true 7 (.tmp 7), none⟩, ⟨some 34, .mov (.tmp 2), none⟩, ⟨some 35, .call 9 [(.tmp 33), (.tmp 34)], none⟩, ⟨some 32, .mov (.tmp 35), none⟩, ⟨some 36, .ext (.tmp 32) 0, none⟩, ⟨some 37, .ext (.tmp 32) 1, none⟩, ⟨some 8, .alloc [(.i .i64 (0)), (.i .i64 (0)), (.str []), (.sl .nil 0 []), (.sl .nil 0 []), (.sl .nil 0 []), (.i .i64 (0))], none⟩, ⟨none, .store 7 (.tmp 8) (.tmp 36), none⟩, ⟨some 9, .mov (.tmp 37), none⟩])
 (.seq (.seq (.reg [⟨some 38, .mov (.tmp 9), none⟩, ⟨some 39, .bin .eql (.tmp 38) (.con (.i .i64 (0))), none⟩])
 (.cond (.tmp 39) (.reg [⟨some 40, .load true 7 (.tmp 8), none⟩, ⟨none, .store 7 (.tmp 7) (.tmp 40), none⟩]) .skip))
 (.seq (.seq (.reg [⟨some 41, .mov (.tmp 1), none⟩, ⟨some 42, .len false (.tmp 41), none⟩, ⟨some 43, .mov (.con (.i .i64 (0))), none⟩])
 (.block 0 (.loop [(1, .none), (2, .none), (3, .none), (7, .none), (9, .none), (41, .none), (42, .none), (43, .none)] (.seq (.reg [⟨some 44, .bin .lss (.tmp 43) (.tmp 42), none⟩])
 (.seq (.cond (.tmp 44) .skip (.exit 0))
 (.seq (.block 1 (.seq (.reg [⟨some 45, .iaddr 4 (.tmp 41) (.tmp 43), none⟩, ⟨some 46, .load true 4 (.tmp 45), none⟩, ⟨some 11, .alloc [(.i .i64 (0)), (.i .i64 (0)), (.str []), (.sl .nil 0 [])], none⟩, ⟨none, .store 4 (.tmp 11) (.tmp 46), none⟩])
 (.seq (.reg [⟨some 48, .load true 7 (.tmp 7), none⟩, ⟨some 49, .load true 4 (.tmp 11), none⟩, ⟨some 50, .call 10 [(.tmp 48), (.tmp 49)], none⟩, ⟨some 47, .mov (.tmp 50), none⟩, ⟨some 51, .ext (.tmp 47) 0, none⟩, ⟨some 52, .ext (.tmp 47) 1, none⟩, ⟨some 12, .alloc [(.i .i64 (0)), (.i .i64 (0)), (.str []), (.sl .nil 0 []), (.sl .nil 0 []), (.sl .nil 0 []), (.i .i64 (0))], none⟩, ⟨none, .store 7 (.tmp 12) (.tmp 51), none⟩, ⟨some 13, .mov (.tmp 52), none⟩])
 (.seq (.seq (.reg [⟨some 53, .mov (.tmp 13), none⟩, ⟨some 54, .bin .neq (.tmp 53) (.con (.i .i64 (0))), none⟩])
 (.cond (.tmp 54) (.seq (.reg [⟨some 6, .mov (.con (.b false)), none⟩])
 .ret) .skip))
 (.seq (.reg [⟨some 56, .load true 7 (.tmp 12), none⟩, ⟨some 57, .build [(.i .i64 (0)), (.i .i64 (0)), (.str []), (.sl .nil 0 [])] [], none⟩, ⟨some 58, .call 11 [(.tmp 56), (.tmp 57)], none⟩, ⟨some 59, .call 9 [(.tmp 58), (.con (.str [122, 122]))], none⟩, ⟨some 55, .mov (.tmp 59), none⟩, ⟨some 60, .ext (.tmp 55) 0, none⟩, ⟨some 61, .ext (.tmp 55) 1, none⟩, ⟨some 14, .alloc [(.i .i64 (0)), (.i .i64 (0)), (.str []), (.sl .nil 0 []), (.sl .nil 0 []), (.sl .nil 0 []), (.i .i64 (0))], none⟩, ⟨none, .store 7 (.tmp 14) (.tmp 60), none⟩, ⟨some 15, .mov (.tmp 61), none⟩])
 (.seq (.seq (.draw [⟨some 62, .load true 7 (.tmp 14), none⟩, ⟨some 63, .call 13 [(.tmp 62)], none⟩, ⟨some 64, .fld true 0 7 (.tmp 63), none⟩, ⟨some 65, .fld false 4 1 (.tmp 64), none⟩, ⟨some 66, .faddr 0 (.tmp 12), none⟩, ⟨some 67, .faddr 4 (.tmp 66), none⟩, ⟨some 68, .load false 1 (.tmp 67), none⟩, ⟨some 69, .call 12 [(.tmp 65), (.tmp 68)], none⟩, ⟨some 70, .un .not (.tmp 69), none⟩] [(0, 6), (1, 6)])
 (.cond (.tmp 70) (.seq (.reg [⟨some 6, .mov (.con (.b false)), none⟩])
 .ret) .skip))
 (.reg [⟨some 71, .load true 7 (.tmp 12), none⟩, ⟨none, .store 7 (.tmp 7) (.tmp 71), none⟩])))))))
 (.reg [⟨some 72, .bin .add (.tmp 43) (.con (.i .i64 (1))), none⟩, ⟨some 43, .mov (.tmp 72), none⟩])))))))
 (.seq (.seq (.draw [⟨some 73, .faddr 0 (.tmp 7), none⟩, ⟨some 74, .faddr 4 (.tmp 73), none⟩, ⟨some 75, .load false 1 (.tmp 74), none⟩, ⟨some 76, .bslice 24 [(.i .i64 (0)), (.i .i64 (0)), (.str []), (.sl .nil 0 [])] 0 [], none⟩, ⟨some 77, .faddr 4 (.tmp 3), none⟩, ⟨some 78, .load false 1 (.tmp 77), none⟩, ⟨some 79, .app 24 4 (.tmp 76) (.tmp 78), none⟩, ⟨some 80, .mov (.tmp 1), none⟩, ⟨some 81, .app 24 4 (.tmp 79) (.tmp 80), none⟩, ⟨some 82, .call 12 [(.tmp 75), (.tmp 81)], none⟩, ⟨some 83, .un .not (.tmp 82), none⟩] [(2, 3), (2, 5), (3, 5), (2, 6), (2, 8)])
 (.cond (.tmp 83) (.seq (.reg [⟨some 6, .mov (.con (.b false)), none⟩])
 .ret) .skip))
 (.seq (.reg [⟨some 85, .load true 7 (.tmp 7), none⟩, ⟨some 86, .mov (.tmp 2), none⟩, ⟨some 87, .bslice 9 [(.str [])] 1 [(0, (.tmp 86))], none⟩, ⟨some 88, .call 14 [(.tmp 85), (.tmp 87)], none⟩, ⟨some 84, .mov (.tmp 88), none⟩, ⟨some 89, .ext (.tmp 84) 0, none⟩, ⟨some 90, .ext (.tmp 84) 1, none⟩, ⟨some 16, .alloc [(.i .i64 (0)), (.i .i64 (0)), (.str []), (.sl .nil 0 [])], none⟩, ⟨none, .store 4 (.tmp 16) (.tmp 89), none⟩, ⟨some 17, .mov (.tmp 90), none⟩])
 (.seq (.reg [⟨some 91, .mov (.tmp 9), none⟩, ⟨some 92, .bin .neq (.tmp 91) (.con (.i .i64 (0))), none⟩, ⟨some 93, .mov (.tmp 92), none⟩, ⟨some 94, .mov (.tmp 17), some (93, false)⟩, ⟨some 95, .mov (.tmp 94), some (93, false)⟩, ⟨some 96, .load true 4 (.tmp 16), some (95, true)⟩, ⟨some 97, .faddr 0 (.tmp 3), some (95, true)⟩, ⟨some 98, .load true 4 (.tmp 97), some (95, true)⟩, ⟨some 99, .call 15 [(.tmp 96), (.tmp 98)], some (95, true)⟩, ⟨some 100, .pick (.tmp 95) (.tmp 99) (.con (.b false)), some (93, false)⟩, ⟨some 101, .pick (.tmp 93) (.con (.b true)) (.tmp 100), none⟩, ⟨some 6, .mov (.tmp 101), none⟩])
 .ret))))))))), [.tmp 6]⟩
theorem c3 : compF Tryd.prog k3 [] Tryd.f3 = some a3 := by kernel_rfl
/-- ramble/ramblelaw18.begun -/
def k7 : Nat → List (Nat × H) := fun _ => []
def a7 : AFun := ⟨0, (.seq (.reg [⟨some 0, .mov (.con (.b false)), none⟩])
 (.seq (.reg [⟨some 8, .call 25 [], none⟩, ⟨some 9, .call 32 [(.con (.i .i64 (1)))], none⟩, ⟨some 10, .call 10 [(.tmp 8), (.tmp 9)], none⟩, ⟨some 7, .mov (.tmp 10), none⟩, ⟨some 11, .ext (.tmp 7) 0, none⟩, ⟨some 12, .ext (.tmp 7) 1, none⟩, ⟨some 1, .alloc [(.i .i64 (0)), (.i .i64 (0)), (.str []), (.sl .nil 0 []), (.sl .nil 0 []), (.sl .nil 0 []), (.i .i64 (0))], none⟩, ⟨none, .store 7 (.tmp 1) (.tmp 11), none⟩, ⟨some 2, .mov (.tmp 12), none⟩])
 (.seq (.reg [⟨some 14, .load true 7 (.tmp 1), none⟩, ⟨some 15, .call 9 [(.tmp 14), (.con (.str [97]))], none⟩, ⟨some 13, .mov (.tmp 15), none⟩, ⟨some 16, .ext (.tmp 13) 0, none⟩, ⟨some 17, .ext (.tmp 13) 1, none⟩, ⟨none, .store 7 (.tmp 1) (.tmp 16), none⟩, ⟨some 3, .mov (.tmp 17), none⟩])
 (.seq (.draw [⟨some 19, .load true 7 (.tmp 1), none⟩, ⟨some 20, .call 32 [(.con (.i .i64 (2)))], none⟩, ⟨some 21, .call 10 [(.tmp 19), (.tmp 20)], none⟩, ⟨some 18, .mov (.tmp 21), none⟩, ⟨some 22, .ext (.tmp 18) 0, none⟩, ⟨some 23, .ext (.tmp 18) 1, none⟩, ⟨none, .store 7 (.tmp 1) (.tmp 22), none⟩, ⟨some 4, .mov (.tmp 23), none⟩] [(0, 1)])
 (.seq (.reg [⟨some 25, .load true 7 (.tmp 1), none⟩, ⟨some 26, .bslice 9 [(.str [])] 1 [(0, (.con (.str [97])))], none⟩, ⟨some 27, .call 14 [(.tmp 25), (.tmp 26)], none⟩, ⟨some 24, .mov (.tmp 27), none⟩, ⟨some 28, .ext (.tmp 24) 0, none⟩, ⟨some 29, .ext (.tmp 24) 1, none⟩, ⟨some 5, .alloc [(.i .i64 (0)), (.i .i64 (0)), (.str []), (.sl .nil 0 [])], none⟩, ⟨none, .store 4 (.tmp 5) (.tmp 28), none⟩, ⟨some 6, .mov (.tmp 29), none⟩])
 (.seq (.draw [⟨some 30, .mov (.tmp 2), none⟩, ⟨some 31, .bin .eql (.tmp 30) (.con (.i .i64 (0))), none⟩, ⟨some 32, .mov (.tmp 31), none⟩, ⟨some 33, .mov (.tmp 3), some (32, true)⟩, ⟨some 34, .bin .eql (.tmp 33) (.con (.i .i64 (0))), some (32, true)⟩, ⟨some 35, .pick (.tmp 32) (.tmp 34) (.con (.b false)), none⟩, ⟨some 36, .mov (.tmp 35), none⟩, ⟨some 37, .mov (.tmp 4), some (36, true)⟩, ⟨some 38, .bin .eql (.tmp 37) (.con (.i .i64 (0))), some (36, true)⟩, ⟨some 39, .pick (.tmp 36) (.tmp 38) (.con (.b false)), none⟩, ⟨some 40, .mov (.tmp 39), none⟩, ⟨some 41, .mov (.tmp 6), some (40, true)⟩, ⟨some 42, .pick (.tmp 40) (.tmp 41) (.con (.b false)), none⟩, ⟨some 43, .mov (.tmp 42), none⟩, ⟨some 44, .load true 4 (.tmp 5), some (43, true)⟩, ⟨some 45, .call 32 [(.con (.i .i64 (1)))], some (43, true)⟩, ⟨some 46, .call 15 [(.tmp 44), (.tmp 45)], some (43, true)⟩, ⟨some 47, .pick (.tmp 43) (.tmp 46) (.con (.b false)), none⟩, ⟨some 48, .mov (.tmp 47), none⟩, ⟨some 49, .faddr 0 (.tmp 1), some (48, true)⟩, ⟨some 50, .faddr 4 (.tmp 49), some (48, true)⟩, ⟨some 51, .load false 1 (.tmp 50), some (48, true)⟩, ⟨some 52, .len false (.tmp 51), some (48, true)⟩, ⟨some 53, .bin .eql (.tmp 52) (.con (.i .i64 (2))), some (48, true)⟩, ⟨some 54, .pick (.tmp 48) (.tmp 53) (.con (.b false)), none⟩, ⟨some 55, .mov (.tmp 54), none⟩, ⟨some 56, .faddr 0 (.tmp 1), some (55, true)⟩, ⟨some 57, .faddr 0 (.tmp 56), some (55, true)⟩, ⟨some 58, .load true 4 (.tmp 57), some (55, true)⟩, ⟨some 59, .call 32 [(.con (.i .i64 (2)))], some (55, true)⟩, ⟨some 60, .call 15 [(.tmp 58), (.tmp 59)], some (55, true)⟩, ⟨some 61, .pick (.tmp 55) (.tmp 60) (.con (.b false)), none⟩, ⟨some 0, .mov (.tmp 61), none⟩] [(14, 15), (28, 29)])
 .ret)))))), [.tmp 0]⟩
theorem c7 : compF Tryd.prog k7 [] Tryd.f7 = some a7 := by kernel_rfl
/-- ramble/travel.Of -/
def k8 : Nat → List (Nat × H) := fun _ => []
def a8 : AFun := ⟨1, (.seq (.reg [⟨some 1, .box (.tmp 0), none⟩, ⟨some 2, .alloc [(.i .i64 (0)), (.i .i64 (0)), (.str []), (.sl .nil 0 []), (.sl .nil 0 []), (.sl .nil 0 []), (.i .i64 (0))], none⟩])
 (.seq (.reg [⟨some 3, .load true 7 (.tmp 1), none⟩, ⟨some 4, .build [(.i .i64 (0)), (.i .i64 (0)), (.str []), (.sl .nil 0 []), (.sl .nil 0 []), (.sl .nil 0 []), (.i .i64 (0))] [(0, 7, (.tmp 3))], none⟩, ⟨some 5, .call 19 [(.tmp 4)], none⟩, ⟨none, .store 7 (.tmp 2) (.tmp 5), none⟩])
 .ret)), [.cell 2 true 7]⟩
theorem c8 : compF Tryd.prog k8 [] Tryd.f8 = some a8 := by kernel_rfl
/-- (ramble/travel.T).As -/
def k9 : Nat → List (Nat × H) := fun _ => []
def a9 : AFun := ⟨2, (.seq (.reg [⟨some 2, .box (.tmp 0), none⟩, ⟨some 4, .alloc [(.i .i64 (0)), (.i .i64 (0)), (.str []), (.sl .nil 0 []), (.sl .nil 0 []), (.sl .nil 0 []), (.i .i64 (0))], none⟩, ⟨some 5, .mov (.con (.i .i64 (0))), none⟩])
 (.seq (.reg [⟨some 8, .load true 7 (.tmp 2), none⟩, ⟨some 9, .call 19 [(.tmp 8)], none⟩, ⟨some 6, .alloc [(.i .i64 (0)), (.i .i64 (0)), (.str []), (.sl .nil 0 []), (.sl .nil 0 []), (.sl .nil 0 []), (.i .i64 (0))], none⟩, ⟨none, .store 7 (.tmp 6) (.tmp 9), none⟩])
 (.seq (.reg [⟨some 10, .load true 7 (.tmp 6), none⟩, ⟨some 11, .mov (.tmp 1), none⟩, ⟨some 12, .call 33 [(.tmp 10), (.tmp 11)], none⟩, ⟨some 7, .mov (.tmp 12), none⟩])
 (.seq (.block 0 (.seq (.reg [⟨some 27, .mov (.tmp 1), none⟩, ⟨some 28, .call 34 [(.tmp 27)], none⟩, ⟨some 29, .un .not (.tmp 28), none⟩, ⟨some 26, .mov (.tmp 29), none⟩])
 (.cond (.tmp 26) (.seq (.reg [⟨some 30, .load true 7 (.tmp 6), none⟩, ⟨none, .store 7 (.tmp 4) (.tmp 30), none⟩, ⟨some 5, .mov (.con (.i .i64 (100))), none⟩])
 .ret) (.seq (.reg [⟨some 32, .mov (.tmp 7), none⟩, ⟨some 33, .bin .geq (.tmp 32) (.con (.i .i64 (0))), none⟩, ⟨some 31, .mov (.tmp 33), none⟩])
 (.cond (.tmp 31) (.draw [⟨some 34, .faddr 0 (.tmp 6), none⟩, ⟨some 35, .faddr 5 (.tmp 34), none⟩, ⟨some 36, .load false 1 (.tmp 35), none⟩, ⟨some 37, .mov (.tmp 7), none⟩, ⟨some 38, .faddr 0 (.tmp 6), none⟩, ⟨some 39, .faddr 0 (.tmp 38), none⟩, ⟨some 40, .load true 4 (.tmp 39), none⟩, ⟨some 41, .call 35 [(.tmp 40)], none⟩, ⟨some 42, .iaddr 5 (.tmp 36) (.tmp 37), none⟩, ⟨some 43, .faddr 1 (.tmp 42), none⟩, ⟨none, .store 4 (.tmp 43) (.tmp 41), none⟩] [(2, 6), (2, 7)]) (.seq (.reg [⟨some 45, .faddr 0 (.tmp 6), none⟩, ⟨some 46, .faddr 5 (.tmp 45), none⟩, ⟨some 47, .load false 1 (.tmp 46), none⟩, ⟨some 48, .len false (.tmp 47), none⟩, ⟨some 49, .bin .geq (.tmp 48) (.con (.i .i64 (32))), none⟩, ⟨some 44, .mov (.tmp 49), none⟩])
 (.cond (.tmp 44) (.seq (.reg [⟨some 50, .load true 7 (.tmp 6), none⟩, ⟨none, .store 7 (.tmp 4) (.tmp 50), none⟩, ⟨some 5, .mov (.con (.i .i64 (3))), none⟩])
 .ret) (.draw [⟨some 13, .faddr 0 (.tmp 6), none⟩, ⟨some 14, .faddr 5 (.tmp 13), none⟩, ⟨some 15, .load false 1 (.tmp 14), none⟩, ⟨some 16, .mov (.tmp 1), none⟩, ⟨some 17, .faddr 0 (.tmp 6), none⟩, ⟨some 18, .faddr 0 (.tmp 17), none⟩, ⟨some 19, .load true 4 (.tmp 18), none⟩, ⟨some 20, .call 35 [(.tmp 19)], none⟩, ⟨some 21, .build [(.str []), (.i .i64 (0)), (.i .i64 (0)), (.str []), (.sl .nil 0 [])] [(0, 1, (.tmp 16)), (1, 4, (.tmp 20))], none⟩, ⟨some 22, .bslice 48 [(.str []), (.i .i64 (0)), (.i .i64 (0)), (.str []), (.sl .nil 0 [])] 1 [(0, (.tmp 21))], none⟩, ⟨some 23, .app 48 5 (.tmp 15) (.tmp 22), none⟩, ⟨some 24, .faddr 0 (.tmp 6), none⟩, ⟨some 25, .faddr 5 (.tmp 24), none⟩, ⟨none, .store 1 (.tmp 25) (.tmp 23), none⟩] [(2, 6), (2, 7), (2, 9)]))))))))
 (.seq (.reg [⟨some 51, .load true 7 (.tmp 6), none⟩, ⟨none, .store 7 (.tmp 4) (.tmp 51), none⟩, ⟨some 5, .mov (.con (.i .i64 (0))), none⟩])
 .ret))))), [.cell 4 true 7, .tmp 5]⟩
theorem c9 : compF Tryd.prog k9 [] Tryd.f9 = some a9 := by kernel_rfl
/-- (ramble/travel.T).To -/
def k10 : Nat → List (Nat × H) := fun _ => []
def a10 : AFun := ⟨2, (.seq (.reg [⟨some 2, .box (.tmp 0), none⟩, ⟨some 3, .box (.tmp 1), none⟩, ⟨some 4, .alloc [(.i .i64 (0)), (.i .i64 (0)), (.str []), (.sl .nil 0 []), (.sl .nil 0 []), (.sl .nil 0 []), (.i .i64 (0))], none⟩, ⟨some 5, .mov (.con (.i .i64 (0))), none⟩])
 (.seq (.reg [⟨some 7, .load true 7 (.tmp 2), none⟩, ⟨some 8, .call 19 [(.tmp 7)], none⟩, ⟨some 6, .alloc [(.i .i64 (0)), (.i .i64 (0)), (.str []), (.sl .nil 0 []), (.sl .nil 0 []), (.sl .nil 0 []), (.i .i64 (0))], none⟩, ⟨none, .store 7 (.tmp 6) (.tmp 8), none⟩])
 (.seq (.seq (.reg [⟨some 9, .faddr 0 (.tmp 6), none⟩, ⟨some 10, .faddr 4 (.tmp 9), none⟩, ⟨some 11, .load false 1 (.tmp 10), none⟩, ⟨some 12, .len false (.tmp 11), none⟩, ⟨some 13, .bin .geq (.tmp 12) (.con (.i .i64 (256))), none⟩])
 (.cond (.tmp 13) (.seq (.reg [⟨some 14, .load true 7 (.tmp 6), none⟩, ⟨none, .store 7 (.tmp 4) (.tmp 14), none⟩, ⟨some 5, .mov (.con (.i .i64 (3))), none⟩])
 .ret) .skip))
 (.seq (.reg [⟨some 15, .load true 4 (.tmp 3), none⟩, ⟨some 16, .call 35 [(.tmp 15)], none⟩, ⟨some 17, .faddr 0 (.tmp 6), none⟩, ⟨some 18, .faddr 0 (.tmp 17), none⟩, ⟨none, .store 4 (.tmp 18) (.tmp 16), none⟩])
 (.seq (.draw [⟨some 19, .faddr 0 (.tmp 6), none⟩, ⟨some 20, .faddr 4 (.tmp 19), none⟩, ⟨some 21, .load false 1 (.tmp 20), none⟩, ⟨some 22, .load true 4 (.tmp 3), none⟩, ⟨some 23, .call 35 [(.tmp 22)], none⟩, ⟨some 24, .bslice 24 [(.i .i64 (0)), (.i .i64 (0)), (.str []), (.sl .nil 0 [])] 1 [(0, (.tmp 23))], none⟩, ⟨some 25, .app 24 4 (.tmp 21) (.tmp 24), none⟩, ⟨some 26, .faddr 0 (.tmp 6), none⟩, ⟨some 27, .faddr 4 (.tmp 26), none⟩, ⟨none, .store 1 (.tmp 27) (.tmp 25), none⟩] [(2, 3), (2, 4), (2, 5)])
 (.seq (.reg [⟨some 28, .load true 7 (.tmp 6), none⟩, ⟨none, .store 7 (.tmp 4) (.tmp 28), none⟩, ⟨some 5, .mov (.con (.i .i64 (0))), none⟩])
 .ret)))))), [.cell 4 true 7, .tmp 5]⟩
theorem c10 : compF Tryd.prog k10 [] Tryd.f10 = some a10 := by kernel_rfl
/-- (ramble/travel.T).At -/
def k11 : Nat → List (Nat × H) := fun _ => []
def a11 : AFun := ⟨2, (.seq (.reg [⟨some 2, .box (.tmp 0), none⟩, ⟨some 3, .box (.tmp 1), none⟩, ⟨some 4, .alloc [(.i .i64 (0)), (.i .i64 (0)), (.str []), (.sl .nil 0 []), (.sl .nil 0 []), (.sl .nil 0 []), (.i .i64 (0))], none⟩])
 (.seq (.reg [⟨some 6, .load true 7 (.tmp 2), none⟩, ⟨some 7, .call 19 [(.tmp 6)], none⟩, ⟨some 5, .alloc [(.i .i64 (0)), (.i .i64 (0)), (.str []), (.sl .nil 0 []), (.sl .nil 0 []), (.sl .nil 0 []), (.i .i64 (0))], none⟩, ⟨none, .store 7 (.tmp 5) (.tmp 7), none⟩])
 (.seq (.reg [⟨some 8, .load true 4 (.tmp 3), none⟩, ⟨some 9, .call 35 [(.tmp 8)], none⟩, ⟨some 10, .faddr 0 (.tmp 5), none⟩, ⟨some 11, .faddr 0 (.tmp 10), none⟩, ⟨none, .store 4 (.tmp 11) (.tmp 9), none⟩])
 (.seq (.reg [⟨some 12, .load true 7 (.tmp 5), none⟩, ⟨none, .store 7 (.tmp 4) (.tmp 12), none⟩])
 .ret)))), [.cell 4 true 7]⟩
theorem c11 : compF Tryd.prog k11 [] Tryd.f11 = some a11 := by kernel_rfl
/-- ramble/rambleref02.SameAll -/
def k12 : Nat → List (Nat × H) := fun r => if r = 4 then [(0, .none), (1, .none), (5, .none)] else []
def a12 : AFun := ⟨2, (.seq (.reg [⟨some 4, .mov (.con (.b false)), none⟩])
 (.seq (.seq (.reg [⟨some 6, .mov (.tmp 0), none⟩, ⟨some 7, .len false (.tmp 6), none⟩, ⟨some 8, .mov (.tmp 1), none⟩, ⟨some 9, .len false (.tmp 8), none⟩, ⟨some 10, .bin .neq (.tmp 7) (.tmp 9), none⟩])
 (.cond (.tmp 10) (.seq (.reg [⟨some 4, .mov (.con (.b false)), none⟩])
 .ret) .skip))
 (.seq (.seq (.reg [⟨some 5, .mov (.con (.i .i64 (0))), none⟩])
 (.block 0 (.loop [(0, .none), (1, .none), (5, .none)] (.seq (.seq (.reg [⟨some 11, .mov (.tmp 5), none⟩, ⟨some 12, .mov (.tmp 0), none⟩, ⟨some 13, .len false (.tmp 12), none⟩, ⟨some 14, .bin .lss (.tmp 11) (.tmp 13), none⟩])
 (.cond (.tmp 14) .skip (.exit 0)))
 (.seq (.block 1 (.seq (.draw [⟨some 17, .mov (.tmp 0), none⟩, ⟨some 18, .mov (.tmp 5), none⟩, ⟨some 19, .iaddr 4 (.tmp 17) (.tmp 18), none⟩, ⟨some 20, .load true 4 (.tmp 19), none⟩, ⟨some 21, .mov (.tmp 1), none⟩, ⟨some 22, .mov (.tmp 5), none⟩, ⟨some 23, .iaddr 4 (.tmp 21) (.tmp 22), none⟩, ⟨some 24, .load true 4 (.tmp 23), none⟩, ⟨some 25, .call 15 [(.tmp 20), (.tmp 24)], none⟩, ⟨some 26, .un .not (.tmp 25), none⟩] [(2, 6), (3, 6), (2, 7), (3, 7)])
 (.cond (.tmp 26) (.seq (.reg [⟨some 4, .mov (.con (.b false)), none⟩])
 .ret) .skip)))
 (.reg [⟨some 15, .mov (.tmp 5), none⟩, ⟨some 16, .bin .add (.tmp 15) (.con (.i .i64 (1))), none⟩, ⟨some 5, .mov (.tmp 16), none⟩]))))))
 (.seq (.reg [⟨some 4, .mov (.con (.b true)), none⟩])
 .ret)))), [.tmp 4]⟩
theorem c12 : compF Tryd.prog k12 [] Tryd.f12 = some a12 := by kernel_rfl
/-- (ramble/travel.T).Round -/
def k13 : Nat → List (Nat × H) := fun _ => []
def a13 : AFun := ⟨1, (.seq (.reg [⟨some 1, .box (.tmp 0), none⟩, ⟨some 2, .alloc [(.i .i64 (0)), (.i .i64 (0)), (.str []), (.sl .nil 0 []), (.sl .nil 0 []), (.sl .nil 0 []), (.i .i64 (0))], none⟩])
 (.seq (.reg [⟨some 4, .load true 7 (.tmp 1), none⟩, ⟨some 5, .call 19 [(.tmp 4)], none⟩, ⟨some 3, .alloc [(.i .i64 (0)), (.i .i64 (0)), (.str []), (.sl .nil 0 []), (.sl .nil 0 []), (.sl .nil 0 []), (.i .i64 (0))], none⟩, ⟨none, .store 7 (.tmp 3) (.tmp 5), none⟩])
 (.seq (.seq (.reg [⟨some 6, .faddr 0 (.tmp 3), none⟩, ⟨some 7, .faddr 6 (.tmp 6), none⟩, ⟨some 8, .load false 1 (.tmp 7), none⟩, ⟨some 9, .bin .lss (.tmp 8) (.con (.i .i64 (9223372036854775807))), none⟩])
 (.cond (.tmp 9) (.reg [⟨some 10, .faddr 0 (.tmp 3), none⟩, ⟨some 11, .faddr 6 (.tmp 10), none⟩, ⟨some 12, .load false 1 (.tmp 11), none⟩, ⟨some 13, .bin .add (.tmp 12) (.con (.i .i64 (1))), none⟩, ⟨some 14, .faddr 0 (.tmp 3), none⟩, ⟨some 15, .faddr 6 (.tmp 14), none⟩, ⟨none, .store 1 (.tmp 15) (.tmp 13), none⟩]) .skip))
 (.seq (.reg [⟨some 16, .load true 7 (.tmp 3), none⟩, ⟨none, .store 7 (.tmp 2) (.tmp 16), none⟩])
 .ret)))), [.cell 2 true 7]⟩
theorem c13 : compF Tryd.prog k13 [] Tryd.f13 = some a13 := by kernel_rfl
/-- (ramble/travel.T).Select -/
def k14 : Nat → List (Nat × H) := fun r => if r = 3 then [(1, .none), (2, .none), (4, .none), (6, .row 24 4), (12, .none), (13, .none), (14, .none)] else []
def a14 : AFun := ⟨2, (.seq (.reg [⟨some 2, .box (.tmp 0), none⟩, ⟨some 4, .alloc [(.i .i64 (0)), (.i .i64 (0)), (.str []), (.sl .nil 0 [])], none⟩, ⟨some 5, .mov (.con (.b false)), none⟩])
 (.seq (.reg [⟨some 6, .mov (.con (.sl .nil 0 [])), none⟩])
 (.seq (.seq (.reg [⟨some 12, .mov (.tmp 1), none⟩, ⟨some 13, .len false (.tmp 12), none⟩, ⟨some 14, .mov (.con (.i .i64 (0))), none⟩])
 (.block 0 (.loop [(1, .none), (2, .none), (4, .none), (6, .row 24 4), (12, .none), (13, .none), (14, .none)] (.seq (.reg [⟨some 15, .bin .lss (.tmp 14) (.tmp 13), none⟩])
 (.seq (.cond (.tmp 15) .skip (.exit 0))
 (.seq (.block 1 (.seq (.reg [⟨some 16, .mov (.tmp 14), none⟩, ⟨some 17, .iaddr 1 (.tmp 12) (.tmp 14), none⟩, ⟨some 18, .load false 1 (.tmp 17), none⟩, ⟨some 7, .mov (.tmp 16), none⟩, ⟨some 8, .mov (.tmp 18), none⟩])
 (.seq (.reg [⟨some 19, .load true 7 (.tmp 2), none⟩, ⟨some 20, .mov (.tmp 8), none⟩, ⟨some 21, .call 33 [(.tmp 19), (.tmp 20)], none⟩, ⟨some 9, .mov (.tmp 21), none⟩])
 (.seq (.seq (.reg [⟨some 22, .mov (.tmp 9), none⟩, ⟨some 23, .bin .lss (.tmp 22) (.con (.i .i64 (0))), none⟩])
 (.cond (.tmp 23) (.seq (.reg [⟨some 24, .build [(.i .i64 (0)), (.i .i64 (0)), (.str []), (.sl .nil 0 [])] [], none⟩, ⟨none, .store 4 (.tmp 4) (.tmp 24), none⟩, ⟨some 5, .mov (.con (.b false)), none⟩])
 .ret) .skip))
 (.seq (.seq (.reg [⟨some 25, .mov (.tmp 1), none⟩, ⟨some 26, .mov (.tmp 7), none⟩, ⟨some 27, .slice 1 (.tmp 25) none (some (.tmp 26)) none, none⟩, ⟨some 28, .mov (.tmp 8), none⟩, ⟨some 29, .call 36 [(.tmp 27), (.tmp 28)], none⟩])
 (.cond (.tmp 29) (.exit 1) .skip))
 (.draw [⟨some 30, .mov (.tmp 6), none⟩, ⟨some 31, .mov (.tmp 8), none⟩, ⟨some 32, .call 37 [(.tmp 31)], none⟩, ⟨some 33, .faddr 0 (.tmp 2), none⟩, ⟨some 34, .faddr 5 (.tmp 33), none⟩, ⟨some 35, .load false 1 (.tmp 34), none⟩, ⟨some 36, .mov (.tmp 9), none⟩, ⟨some 37, .iaddr 5 (.tmp 35) (.tmp 36), none⟩, ⟨some 38, .faddr 1 (.tmp 37), none⟩, ⟨some 39, .load true 4 (.tmp 38), none⟩, ⟨some 40, .call 35 [(.tmp 39)], none⟩, ⟨some 41, .bslice 24 [(.i .i64 (0)), (.i .i64 (0)), (.str []), (.sl .nil 0 [])] 2 [(0, (.tmp 32)), (1, (.tmp 40))], none⟩, ⟨some 42, .app 24 4 (.tmp 30) (.tmp 41), none⟩, ⟨some 6, .mov (.tmp 42), none⟩] [(2, 5), (2, 7), (2, 9)]))))))
 (.reg [⟨some 43, .bin .add (.tmp 14) (.con (.i .i64 (1))), none⟩, ⟨some 14, .mov (.tmp 43), none⟩])))))))
 (.seq (.seq (.reg [⟨some 44, .mov (.tmp 1), none⟩, ⟨some 45, .len false (.tmp 44), none⟩])
 (.block 2 (.seq (.reg [⟨some 47, .bin .eql (.tmp 45) (.con (.i .i64 (0))), none⟩, ⟨some 46, .mov (.tmp 47), none⟩])
 (.cond (.tmp 46) (.seq (.reg [⟨some 48, .build [(.i .i64 (0)), (.i .i64 (0)), (.str []), (.sl .nil 0 [])] [], none⟩, ⟨none, .store 4 (.tmp 4) (.tmp 48), none⟩, ⟨some 5, .mov (.con (.b false)), none⟩])
 .ret) (.seq (.reg [⟨some 50, .bin .eql (.tmp 45) (.con (.i .i64 (1))), none⟩, ⟨some 49, .mov (.tmp 50), none⟩])
 (.cond (.tmp 49) (.seq (.reg [⟨some 51, .mov (.tmp 6), none⟩, ⟨some 52, .iaddr 4 (.tmp 51) (.con (.i .i64 (1))), none⟩, ⟨some 53, .load true 4 (.tmp 52), none⟩, ⟨none, .store 4 (.tmp 4) (.tmp 53), none⟩, ⟨some 5, .mov (.con (.b true)), none⟩])
 .ret) .skip))))))
 (.seq (.reg [⟨some 55, .mov (.tmp 6), none⟩, ⟨some 56, .call 38 [(.tmp 55)], none⟩, ⟨some 54, .mov (.tmp 56), none⟩, ⟨some 57, .ext (.tmp 54) 0, none⟩, ⟨some 58, .ext (.tmp 54) 1, none⟩, ⟨some 10, .alloc [(.i .i64 (0)), (.i .i64 (0)), (.str []), (.sl .nil 0 [])], none⟩, ⟨none, .store 4 (.tmp 10) (.tmp 57), none⟩, ⟨some 11, .mov (.tmp 58), none⟩])
 (.seq (.seq (.reg [⟨some 59, .mov (.tmp 11), none⟩, ⟨some 60, .bin .neq (.tmp 59) (.con (.i .i64 (0))), none⟩])
 (.cond (.tmp 60) (.seq (.reg [⟨some 61, .build [(.i .i64 (0)), (.i .i64 (0)), (.str []), (.sl .nil 0 [])] [], none⟩, ⟨none, .store 4 (.tmp 4) (.tmp 61), none⟩, ⟨some 5, .mov (.con (.b false)), none⟩])
 .ret) .skip))
 (.seq (.reg [⟨some 62, .load true 4 (.tmp 10), none⟩, ⟨none, .store 4 (.tmp 4) (.tmp 62), none⟩, ⟨some 5, .mov (.con (.b true)), none⟩])
 .ret))))))), [.cell 4 true 4, .tmp 5]⟩
theorem c14 : compF Tryd.prog k14 [] Tryd.f14 = some a14 := by kernel_rfl
/-- ramble/rambleref02.Same -/
def k15 : Nat → List (Nat × H) := fun _ => []
def a15 : AFun := ⟨2, (.seq (.reg [⟨some 2, .box (.tmp 0), none⟩, ⟨some 3, .box (.tmp 1), none⟩, ⟨some 4, .mov (.con (.b false)), none⟩])
 (.seq (.reg [⟨some 5, .load true 4 (.tmp 2), none⟩, ⟨some 6, .load true 4 (.tmp 3), none⟩, ⟨some 7, .call 39 [(.tmp 5), (.tmp 6)], none⟩, ⟨some 8, .bin .eql (.tmp 7) (.con (.i .i64 (0))), none⟩, ⟨some 4, .mov (.tmp 8), none⟩])
 .ret)), [.tmp 4]⟩
theorem c15 : compF Tryd.prog k15 [] Tryd.f15 = some a15 := by kernel_rfl
/-- (ramble/travel.T).Clone -/
def k19 : Nat → List (Nat × H) := fun r => if r = 3 then [(1, .none), (2, .none), (3, .cells [.none, .none, .none, .none, .row 24 4]), (19, .none), (20, .none), (21, .none)] else if r = 8 then [(2, .none), (3, .cells [.none, .none, .none, .none, .none, .row 48 5]), (37, .none), (38, .none), (39, .none)] else []
def a19 : AFun := ⟨1, (.seq (.reg [⟨some 1, .box (.tmp 0), none⟩, ⟨some 2, .alloc [(.i .i64 (0)), (.i .i64 (0)), (.str []), (.sl .nil 0 []), (.sl .nil 0 []), (.sl .nil 0 []), (.i .i64 (0))], none⟩])
 (.seq (.draw [⟨some 8, .faddr 0 (.tmp 1), none⟩, ⟨some 9, .faddr 0 (.tmp 8), none⟩, ⟨some 10, .load true 4 (.tmp 9), none⟩, ⟨some 11, .call 35 [(.tmp 10)], none⟩, ⟨some 12, .faddr 0 (.tmp 1), none⟩, ⟨some 13, .faddr 6 (.tmp 12), none⟩, ⟨some 14, .load false 1 (.tmp 13), none⟩, ⟨some 15, .build [(.i .i64 (0)), (.i .i64 (0)), (.str []), (.sl .nil 0 []), (.sl .nil 0 []), (.sl .nil 0 []), (.i .i64 (0))] [(0, 4, (.tmp 11)), (6, 1, (.tmp 14))], none⟩, ⟨some 16, .build [(.i .i64 (0)), (.i .i64 (0)), (.str []), (.sl .nil 0 []), (.sl .nil 0 []), (.sl .nil 0 []), (.i .i64 (0))] [(0, 7, (.tmp 15))], none⟩, ⟨some 3, .alloc [(.i .i64 (0)), (.i .i64 (0)), (.str []), (.sl .nil 0 []), (.sl .nil 0 []), (.sl .nil 0 []), (.i .i64 (0))], none⟩, ⟨none, .store 7 (.tmp 3) (.tmp 16), none⟩] [(2, 6), (3, 6), (2, 9), (3, 9), (6, 9)])
 (.seq (.seq (.reg [⟨some 17, .faddr 0 (.tmp 1), none⟩, ⟨some 18, .faddr 4 (.tmp 17), none⟩, ⟨some 19, .load false 1 (.tmp 18), none⟩, ⟨some 20, .len false (.tmp 19), none⟩, ⟨some 21, .mov (.con (.i .i64 (0))), none⟩])
 (.block 0 (.loop [(1, .none), (2, .none), (3, .cells [.none, .none, .none, .none, .row 24 4]), (19, .none), (20, .none), (21, .none)] (.seq (.reg [⟨some 22, .bin .lss (.tmp 21) (.tmp 20), none⟩])
 (.seq (.cond (.tmp 22) .skip (.exit 0))
 (.seq (.block 1 (.seq (.reg [⟨some 23, .iaddr 4 (.tmp 19) (.tmp 21), none⟩, ⟨some 24, .load true 4 (.tmp 23), none⟩, ⟨some 5, .alloc [(.i .i64 (0)), (.i .i64 (0)), (.str []), (.sl .nil 0 [])], none⟩, ⟨none, .store 4 (.tmp 5) (.tmp 24), none⟩])
 (.draw [⟨some 25, .faddr 0 (.tmp 3), none⟩, ⟨some 26, .faddr 4 (.tmp 25), none⟩, ⟨some 27, .load false 1 (.tmp 26), none⟩, ⟨some 28, .load true 4 (.tmp 5), none⟩, ⟨some 29, .call 35 [(.tmp 28)], none⟩, ⟨some 30, .bslice 24 [(.i .i64 (0)), (.i .i64 (0)), (.str []), (.sl .nil 0 [])] 1 [(0, (.tmp 29))], none⟩, ⟨some 31, .app 24 4 (.tmp 27) (.tmp 30), none⟩, ⟨some 32, .faddr 0 (.tmp 3), none⟩, ⟨some 33, .faddr 4 (.tmp 32), none⟩, ⟨none, .store 1 (.tmp 33) (.tmp 31), none⟩] [(2, 3), (2, 4), (2, 5)])))
 (.reg [⟨some 34, .bin .add (.tmp 21) (.con (.i .i64 (1))), none⟩, ⟨some 21, .mov (.tmp 34), none⟩])))))))
 (.seq (.seq (.reg [⟨some 35, .faddr 0 (.tmp 1), none⟩, ⟨some 36, .faddr 5 (.tmp 35), none⟩, ⟨some 37, .load false 1 (.tmp 36), none⟩, ⟨some 38, .len false (.tmp 37), none⟩, ⟨some 39, .mov (.con (.i .i64 (0))), none⟩])
 (.block 2 (.loop [(2, .none), (3, .cells [.none, .none, .none, .none, .none, .row 48 5]), (37, .none), (38, .none), (39, .none)] (.seq (.reg [⟨some 40, .bin .lss (.tmp 39) (.tmp 38), none⟩])
 (.seq (.cond (.tmp 40) .skip (.exit 2))
 (.seq (.block 3 (.seq (.reg [⟨some 41, .iaddr 5 (.tmp 37) (.tmp 39), none⟩, ⟨some 42, .load true 5 (.tmp 41), none⟩, ⟨some 7, .alloc [(.str []), (.i .i64 (0)), (.i .i64 (0)), (.str []), (.sl .nil 0 [])], none⟩, ⟨none, .store 5 (.tmp 7) (.tmp 42), none⟩])
 (.draw [⟨some 43, .faddr 0 (.tmp 3), none⟩, ⟨some 44, .faddr 5 (.tmp 43), none⟩, ⟨some 45, .load false 1 (.tmp 44), none⟩, ⟨some 46, .faddr 0 (.tmp 7), none⟩, ⟨some 47, .load false 1 (.tmp 46), none⟩, ⟨some 48, .faddr 1 (.tmp 7), none⟩, ⟨some 49, .load true 4 (.tmp 48), none⟩, ⟨some 50, .call 35 [(.tmp 49)], none⟩, ⟨some 51, .build [(.str []), (.i .i64 (0)), (.i .i64 (0)), (.str []), (.sl .nil 0 [])] [(0, 1, (.tmp 47)), (1, 4, (.tmp 50))], none⟩, ⟨some 52, .bslice 48 [(.str []), (.i .i64 (0)), (.i .i64 (0)), (.str []), (.sl .nil 0 [])] 1 [(0, (.tmp 51))], none⟩, ⟨some 53, .app 48 5 (.tmp 45) (.tmp 52), none⟩, ⟨some 54, .faddr 0 (.tmp 3), none⟩, ⟨some 55, .faddr 5 (.tmp 54), none⟩, ⟨none, .store 1 (.tmp 55) (.tmp 53), none⟩] [(2, 4), (2, 6), (4, 6), (2, 7), (4, 7), (2, 9)])))
 (.reg [⟨some 56, .bin .add (.tmp 39) (.con (.i .i64 (1))), none⟩, ⟨some 39, .mov (.tmp 56), none⟩])))))))
 (.seq (.reg [⟨some 57, .load true 7 (.tmp 3), none⟩, ⟨none, .store 7 (.tmp 2) (.tmp 57), none⟩])
 .ret))))), [.cell 2 true 7]⟩
theorem c19 : compF Tryd.prog k19 [] Tryd.f19 = some a19 := by kernel_rfl
/-- ramble/travel.New -/
def k25 : Nat → List (Nat × H) := fun _ => []
def a25 : AFun := ⟨0, (.seq (.reg [⟨some 0, .alloc [(.i .i64 (0)), (.i .i64 (0)), (.str []), (.sl .nil 0 []), (.sl .nil 0 []), (.sl .nil 0 []), (.i .i64 (0))], none⟩])
 (.seq (.reg [⟨some 1, .build [(.i .i64 (0)), (.i .i64 (0)), (.str []), (.sl .nil 0 [])] [(0, 1, (.con (.i .i64 (4))))], none⟩, ⟨some 2, .build [(.i .i64 (0)), (.i .i64 (0)), (.str []), (.sl .nil 0 []), (.sl .nil 0 []), (.sl .nil 0 []), (.i .i64 (0))] [(0, 4, (.tmp 1))], none⟩, ⟨some 3, .build [(.i .i64 (0)), (.i .i64 (0)), (.str []), (.sl .nil 0 []), (.sl .nil 0 []), (.sl .nil 0 []), (.i .i64 (0))] [(0, 7, (.tmp 2))], none⟩, ⟨none, .store 7 (.tmp 0) (.tmp 3), none⟩])
 .ret)), [.cell 0 true 7]⟩
theorem c25 : compF Tryd.prog k25 [] Tryd.f25 = some a25 := by kernel_rfl
/-- ramble/rambleref02.Int -/
def k32 : Nat → List (Nat × H) := fun _ => []
def a32 : AFun := ⟨1, (.seq (.reg [⟨some 2, .alloc [(.i .i64 (0)), (.i .i64 (0)), (.str []), (.sl .nil 0 [])], none⟩])
 (.seq (.reg [⟨some 3, .mov (.tmp 0), none⟩, ⟨some 4, .build [(.i .i64 (0)), (.i .i64 (0)), (.str []), (.sl .nil 0 [])] [(0, 1, (.con (.i .i64 (1)))), (1, 1, (.tmp 3))], none⟩, ⟨none, .store 4 (.tmp 2) (.tmp 4), none⟩])
 .ret)), [.cell 2 true 4]⟩
theorem c32 : compF Tryd.prog k32 [] Tryd.f32 = some a32 := by kernel_rfl
/-- (ramble/travel.T).tag -/
def k33 : Nat → List (Nat × H) := fun _ => []
def a33 : AFun := ⟨2, (.seq (.reg [⟨some 2, .box (.tmp 0), none⟩, ⟨some 3, .box (.tmp 1), none⟩, ⟨some 4, .mov (.con (.i .i64 (0))), none⟩])
 (.seq (.reg [⟨some 5, .faddr 0 (.tmp 2), none⟩, ⟨some 6, .faddr 5 (.tmp 5), none⟩, ⟨some 7, .load false 1 (.tmp 6), none⟩, ⟨some 8, .mkfn 51 [(.tmp 3)], none⟩, ⟨some 9, .call 50 [(.tmp 7), (.tmp 8)], none⟩, ⟨some 4, .mov (.tmp 9), none⟩])
 .ret)), [.tmp 4]⟩
theorem c33 : compF Tryd.prog k33 [] Tryd.f33 = some a33 := by kernel_rfl
/-- ramble/value.Name -/
def k34 : Nat → List (Nat × H) := fun _ => []
def a34 : AFun := ⟨1, (.seq (.reg [⟨some 2, .mov (.con (.b false)), none⟩])
 (.seq (.seq (.reg [⟨some 3, .mov (.tmp 0), none⟩, ⟨some 4, .bin .eql (.tmp 3) (.con (.str [])), none⟩, ⟨some 5, .mov (.tmp 4), none⟩, ⟨some 6, .mov (.tmp 0), some (5, false)⟩, ⟨some 7, .len true (.tmp 6), some (5, false)⟩, ⟨some 8, .bin .gtr (.tmp 7) (.con (.i .i64 (24))), some (5, false)⟩, ⟨some 9, .pick (.tmp 5) (.con (.b true)) (.tmp 8), none⟩, ⟨some 10, .mov (.tmp 9), none⟩, ⟨some 11, .mov (.tmp 0), some (10, false)⟩, ⟨some 12, .idx (.tmp 11) (.con (.i .i64 (0))), some (10, false)⟩, ⟨some 13, .bin .geq (.tmp 12) (.con (.i .u8 (48))), some (10, false)⟩, ⟨some 14, .mov (.tmp 13), some (10, false)⟩, ⟨some 15, .mov (.tmp 0), some (14, true)⟩, ⟨some 16, .idx (.tmp 15) (.con (.i .i64 (0))), some (14, true)⟩, ⟨some 17, .bin .leq (.tmp 16) (.con (.i .u8 (57))), some (14, true)⟩, ⟨some 18, .pick (.tmp 14) (.tmp 17) (.con (.b false)), some (10, false)⟩, ⟨some 19, .pick (.tmp 10) (.con (.b true)) (.tmp 18), none⟩])
 (.cond (.tmp 19) (.seq (.reg [⟨some 2, .mov (.con (.b false)), none⟩])
 .ret) .skip))
 (.seq (.reg [⟨some 20, .mov (.tmp 0), none⟩, ⟨some 21, .call 52 [(.tmp 20), (.con (.str [97, 98, 99, 100, 101, 102, 103, 104, 105, 106, 107, 108, 109, 110, 111, 112, 113, 114, 115, 116, 117, 118, 119, 120, 121, 122, 65, 66, 67, 68, 69, 70, 71, 72, 73, 74, 75, 76, 77, 78, 79, 80, 81, 82, 83, 84, 85, 86, 87, 88, 89, 90, 48, 49, 50, 51, 52, 53, 54, 55, 56, 57, 95]))], none⟩, ⟨some 22, .bin .eql (.tmp 21) (.con (.str [])), none⟩, ⟨some 2, .mov (.tmp 22), none⟩])
 .ret))), [.tmp 2]⟩
theorem c34 : compF Tryd.prog k34 [] Tryd.f34 = some a34 := by kernel_rfl
/-- ramble/value.Clone -/
def k35 : Nat → List (Nat × H) := fun r => if r = 3 then [(1, .none), (2, .none), (10, .none), (11, .none)] else []
def a35 : AFun := ⟨1, (.seq (.reg [⟨some 1, .box (.tmp 0), none⟩, ⟨some 2, .alloc [(.i .i64 (0)), (.i .i64 (0)), (.str []), (.sl .nil 0 [])], none⟩])
 (.seq (.reg [⟨some 4, .faddr 3 (.tmp 1), none⟩, ⟨some 5, .load false 1 (.tmp 4), none⟩, ⟨some 6, .call 53 [(.tmp 5)], none⟩, ⟨some 7, .faddr 3 (.tmp 1), none⟩, ⟨none, .store 1 (.tmp 7) (.tmp 6), none⟩])
 (.seq (.seq (.reg [⟨some 8, .faddr 3 (.tmp 1), none⟩, ⟨some 9, .load false 1 (.tmp 8), none⟩, ⟨some 10, .len false (.tmp 9), none⟩, ⟨some 11, .mov (.con (.i .i64 (0))), none⟩])
 (.block 0 (.loop [(1, .none), (2, .none), (10, .none), (11, .none)] (.seq (.reg [⟨some 12, .bin .lss (.tmp 11) (.tmp 10), none⟩])
 (.seq (.cond (.tmp 12) .skip (.exit 0))
 (.seq (.block 1 (.seq (.reg [⟨some 13, .mov (.tmp 11), none⟩, ⟨some 3, .mov (.tmp 13), none⟩])
 (.draw [⟨some 14, .faddr 3 (.tmp 1), none⟩, ⟨some 15, .load false 1 (.tmp 14), none⟩, ⟨some 16, .mov (.tmp 3), none⟩, ⟨some 17, .faddr 3 (.tmp 1), none⟩, ⟨some 18, .load false 1 (.tmp 17), none⟩, ⟨some 19, .mov (.tmp 3), none⟩, ⟨some 20, .iaddr 4 (.tmp 18) (.tmp 19), none⟩, ⟨some 21, .load true 4 (.tmp 20), none⟩, ⟨some 22, .call 35 [(.tmp 21)], none⟩, ⟨some 23, .iaddr 4 (.tmp 15) (.tmp 16), none⟩, ⟨none, .store 4 (.tmp 23) (.tmp 22), none⟩] [(1, 4), (1, 6), (1, 7), (1, 8)])))
 (.reg [⟨some 24, .bin .add (.tmp 11) (.con (.i .i64 (1))), none⟩, ⟨some 11, .mov (.tmp 24), none⟩])))))))
 (.seq (.reg [⟨some 25, .load true 4 (.tmp 1), none⟩, ⟨none, .store 4 (.tmp 2) (.tmp 25), none⟩])
 .ret)))), [.cell 2 true 4]⟩
theorem c35 : compF Tryd.prog k35 [] Tryd.f35 = some a35 := by kernel_rfl
/-- slices.Contains[[]string,string] -/
def k36 : Nat → List (Nat × H) := fun _ => []
def a36 : AFun := ⟨2, (.seq (.reg [⟨some 4, .mov (.con (.b false)), none⟩])
 (.seq (.reg [⟨some 5, .mov (.tmp 0), none⟩, ⟨some 6, .mov (.tmp 1), none⟩, ⟨some 7, .call 54 [(.tmp 5), (.tmp 6)], none⟩, ⟨some 8, .bin .geq (.tmp 7) (.con (.i .i64 (0))), none⟩, ⟨some 4, .mov (.tmp 8), none⟩])
 .ret)), [.tmp 4]⟩
theorem c36 : compF Tryd.prog k36 [] Tryd.f36 = some a36 := by kernel_rfl
/-- ramble/value.Str -/
def k37 : Nat → List (Nat × H) := fun _ => []
def a37 : AFun := ⟨1, (.seq (.reg [⟨some 2, .alloc [(.i .i64 (0)), (.i .i64 (0)), (.str []), (.sl .nil 0 [])], none⟩])
 (.seq (.reg [⟨some 3, .mov (.tmp 0), none⟩, ⟨some 4, .build [(.i .i64 (0)), (.i .i64 (0)), (.str []), (.sl .nil 0 [])] [(0, 1, (.con (.i .i64 (2)))), (2, 1, (.tmp 3))], none⟩, ⟨none, .store 4 (.tmp 2) (.tmp 4), none⟩])
 .ret)), [.cell 2 true 4]⟩
theorem c37 : compF Tryd.prog k37 [] Tryd.f37 = some a37 := by kernel_rfl
/-- ramble/rambleref02.Compare -/
def k39 : Nat → List (Nat × H) := fun r => if r = 11 then [(2, .none), (3, .none), (8, .none)] else []
def a39 : AFun := ⟨2, (.seq (.reg [⟨some 2, .box (.tmp 0), none⟩, ⟨some 3, .box (.tmp 1), none⟩, ⟨some 4, .mov (.con (.i .i64 (0))), none⟩])
 (.seq (.seq (.reg [⟨some 10, .faddr 0 (.tmp 2), none⟩, ⟨some 11, .load false 1 (.tmp 10), none⟩, ⟨some 12, .faddr 0 (.tmp 3), none⟩, ⟨some 13, .load false 1 (.tmp 12), none⟩, ⟨some 14, .call 62 [(.tmp 11), (.tmp 13)], none⟩, ⟨some 5, .mov (.tmp 14), none⟩])
 (.seq (.reg [⟨some 15, .mov (.tmp 5), none⟩, ⟨some 16, .bin .neq (.tmp 15) (.con (.i .i64 (0))), none⟩])
 (.cond (.tmp 16) (.seq (.reg [⟨some 17, .mov (.tmp 5), none⟩, ⟨some 4, .mov (.tmp 17), none⟩])
 .ret) .skip)))
 (.seq (.seq (.reg [⟨some 18, .faddr 1 (.tmp 2), none⟩, ⟨some 19, .load false 1 (.tmp 18), none⟩, ⟨some 20, .faddr 1 (.tmp 3), none⟩, ⟨some 21, .load false 1 (.tmp 20), none⟩, ⟨some 22, .call 62 [(.tmp 19), (.tmp 21)], none⟩, ⟨some 6, .mov (.tmp 22), none⟩])
 (.seq (.reg [⟨some 23, .mov (.tmp 6), none⟩, ⟨some 24, .bin .neq (.tmp 23) (.con (.i .i64 (0))), none⟩])
 (.cond (.tmp 24) (.seq (.reg [⟨some 25, .mov (.tmp 6), none⟩, ⟨some 4, .mov (.tmp 25), none⟩])
 .ret) .skip)))
 (.seq (.seq (.reg [⟨some 26, .faddr 2 (.tmp 2), none⟩, ⟨some 27, .load false 1 (.tmp 26), none⟩, ⟨some 28, .faddr 2 (.tmp 3), none⟩, ⟨some 29, .load false 1 (.tmp 28), none⟩, ⟨some 30, .call 63 [(.tmp 27), (.tmp 29)], none⟩, ⟨some 7, .mov (.tmp 30), none⟩])
 (.seq (.reg [⟨some 31, .mov (.tmp 7), none⟩, ⟨some 32, .bin .neq (.tmp 31) (.con (.i .i64 (0))), none⟩])
 (.cond (.tmp 32) (.seq (.reg [⟨some 33, .mov (.tmp 7), none⟩, ⟨some 4, .mov (.tmp 33), none⟩])
 .ret) .skip)))
 (.seq (.seq (.reg [⟨some 8, .mov (.con (.i .i64 (0))), none⟩])
 (.block 0 (.loop [(2, .none), (3, .none), (8, .none)] (.seq (.seq (.reg [⟨some 34, .mov (.tmp 8), none⟩, ⟨some 35, .faddr 3 (.tmp 2), none⟩, ⟨some 36, .load false 1 (.tmp 35), none⟩, ⟨some 37, .len false (.tmp 36), none⟩, ⟨some 38, .bin .lss (.tmp 34) (.tmp 37), none⟩, ⟨some 39, .mov (.tmp 38), none⟩, ⟨some 40, .mov (.tmp 8), some (39, true)⟩, ⟨some 41, .faddr 3 (.tmp 3), some (39, true)⟩, ⟨some 42, .load false 1 (.tmp 41), some (39, true)⟩, ⟨some 43, .len false (.tmp 42), some (39, true)⟩, ⟨some 44, .bin .lss (.tmp 40) (.tmp 43), some (39, true)⟩, ⟨some 45, .pick (.tmp 39) (.tmp 44) (.con (.b false)), none⟩])
 (.cond (.tmp 45) .skip (.exit 0)))
 (.seq (.block 1 (.seq (.draw [⟨some 48, .faddr 3 (.tmp 2), none⟩, ⟨some 49, .load false 1 (.tmp 48), none⟩, ⟨some 50, .mov (.tmp 8), none⟩, ⟨some 51, .iaddr 4 (.tmp 49) (.tmp 50), none⟩, ⟨some 52, .load true 4 (.tmp 51), none⟩, ⟨some 53, .faddr 3 (.tmp 3), none⟩, ⟨some 54, .load false 1 (.tmp 53), none⟩, ⟨some 55, .mov (.tmp 8), none⟩, ⟨some 56, .iaddr 4 (.tmp 54) (.tmp 55), none⟩, ⟨some 57, .load true 4 (.tmp 56), none⟩, ⟨some 58, .call 39 [(.tmp 52), (.tmp 57)], none⟩, ⟨some 9, .mov (.tmp 58), none⟩] [(1, 6), (3, 6), (4, 6), (1, 8), (3, 8), (4, 8), (1, 9), (3, 9), (4, 9)])
 (.seq (.reg [⟨some 59, .mov (.tmp 9), none⟩, ⟨some 60, .bin .neq (.tmp 59) (.con (.i .i64 (0))), none⟩])
 (.cond (.tmp 60) (.seq (.reg [⟨some 61, .mov (.tmp 9), none⟩, ⟨some 4, .mov (.tmp 61), none⟩])
 .ret) .skip))))
 (.reg [⟨some 46, .mov (.tmp 8), none⟩, ⟨some 47, .bin .add (.tmp 46) (.con (.i .i64 (1))), none⟩, ⟨some 8, .mov (.tmp 47), none⟩]))))))
 (.seq (.reg [⟨some 62, .faddr 3 (.tmp 2), none⟩, ⟨some 63, .load false 1 (.tmp 62), none⟩, ⟨some 64, .len false (.tmp 63), none⟩, ⟨some 65, .faddr 3 (.tmp 3), none⟩, ⟨some 66, .load false 1 (.tmp 65), none⟩, ⟨some 67, .len false (.tmp 66), none⟩, ⟨some 68, .call 62 [(.tmp 64), (.tmp 67)], none⟩, ⟨some 4, .mov (.tmp 68), none⟩])
 .ret)))))), [.tmp 4]⟩
theorem c39 : compF Tryd.prog k39 [] Tryd.f39 = some a39 := by kernel_rfl
/-- slices.IndexFunc[[]ramble/api.Tag,ramble/api.Tag] -/
def k50 : Nat → List (Nat × H) := fun r => if r = 2 then [(0, .none), (1, .none), (7, .none), (8, .none)] else []
def a50 : AFun := ⟨2, (.seq (.reg [⟨some 4, .mov (.con (.i .i64 (0))), none⟩])
 (.seq (.seq (.reg [⟨some 6, .mov (.tmp 0), none⟩, ⟨some 7, .len false (.tmp 6), none⟩, ⟨some 8, .mov (.con (.i .i64 (0))), none⟩])
 (.block 0 (.loop [(0, .none), (1, .none), (7, .none), (8, .none)] (.seq (.reg [⟨some 9, .bin .lss (.tmp 8) (.tmp 7), none⟩])
 (.seq (.cond (.tmp 9) .skip (.exit 0))
 (.seq (.block 1 (.seq (.reg [⟨some 10, .mov (.tmp 8), none⟩, ⟨some 5, .mov (.tmp 10), none⟩])
 (.seq (.reg [⟨some 11, .mov (.tmp 1), none⟩, ⟨some 12, .mov (.tmp 0), none⟩, ⟨some 13, .mov (.tmp 5), none⟩, ⟨some 14, .iaddr 5 (.tmp 12) (.tmp 13), none⟩, ⟨some 15, .load true 5 (.tmp 14), none⟩, ⟨some 16, .callv (.tmp 11) [(.tmp 15)], none⟩])
 (.cond (.tmp 16) (.seq (.reg [⟨some 17, .mov (.tmp 5), none⟩, ⟨some 4, .mov (.tmp 17), none⟩])
 .ret) .skip))))
 (.reg [⟨some 18, .bin .add (.tmp 8) (.con (.i .i64 (1))), none⟩, ⟨some 8, .mov (.tmp 18), none⟩])))))))
 (.seq (.reg [⟨some 4, .mov (.con (.i .i64 (-1))), none⟩])
 .ret))), [.tmp 4]⟩
theorem c50 : compF Tryd.prog k50 [] Tryd.f50 = some a50 := by kernel_rfl
/-- (ramble/travel.T).tag$1 -/
def k51 : Nat → List (Nat × H) := fun _ => []
def a51 : AFun := ⟨2, (.seq (.reg [⟨some 2, .box (.tmp 0), none⟩, ⟨some 3, .mov (.con (.b false)), none⟩])
 (.seq (.reg [⟨some 4, .faddr 0 (.tmp 2), none⟩, ⟨some 5, .load false 1 (.tmp 4), none⟩, ⟨some 6, .load false 1 (.tmp 1), none⟩, ⟨some 7, .bin .eql (.tmp 5) (.tmp 6), none⟩, ⟨some 3, .mov (.tmp 7), none⟩])
 .ret)), [.tmp 3]⟩
theorem c51 : compF Tryd.prog k51 [] Tryd.f51 = some a51 := by kernel_rfl
/-- slices.Clone[[]ramble/api.Value,ramble/api.Value] -/
def k53 : Nat → List (Nat × H) := fun _ => []
def a53 : AFun := ⟨1, (.seq (.reg [⟨some 2, .mov (.con (.sl .nil 0 [])), none⟩])
 (.seq (.seq (.reg [⟨some 3, .mov (.tmp 0), none⟩, ⟨some 4, .eqnil .sl false (.tmp 3), none⟩])
 (.cond (.tmp 4) (.seq (.reg [⟨some 2, .mov (.con (.sl .nil 0 [])), none⟩])
 .ret) .skip))
 (.seq (.reg [⟨some 5, .bslice 24 [(.i .i64 (0)), (.i .i64 (0)), (.str []), (.sl .nil 0 [])] 0 [], none⟩, ⟨some 6, .mov (.tmp 0), none⟩, ⟨some 7, .app 24 4 (.tmp 5) (.tmp 6), none⟩, ⟨some 2, .mov (.tmp 7), none⟩])
 .ret))), [.tmp 2]⟩
theorem c53 : compF Tryd.prog k53 [] Tryd.f53 = some a53 := by kernel_rfl
/-- slices.Index[[]string,string] -/
def k54 : Nat → List (Nat × H) := fun r => if r = 2 then [(0, .none), (1, .none), (7, .none), (8, .none)] else []
def a54 : AFun := ⟨2, (.seq (.reg [⟨some 4, .mov (.con (.i .i64 (0))), none⟩])
 (.seq (.seq (.reg [⟨some 6, .mov (.tmp 0), none⟩, ⟨some 7, .len false (.tmp 6), none⟩, ⟨some 8, .mov (.con (.i .i64 (0))), none⟩])
 (.block 0 (.loop [(0, .none), (1, .none), (7, .none), (8, .none)] (.seq (.reg [⟨some 9, .bin .lss (.tmp 8) (.tmp 7), none⟩])
 (.seq (.cond (.tmp 9) .skip (.exit 0))
 (.seq (.block 1 (.seq (.reg [⟨some 10, .mov (.tmp 8), none⟩, ⟨some 5, .mov (.tmp 10), none⟩])
 (.seq (.reg [⟨some 11, .mov (.tmp 1), none⟩, ⟨some 12, .mov (.tmp 0), none⟩, ⟨some 13, .mov (.tmp 5), none⟩, ⟨some 14, .iaddr 1 (.tmp 12) (.tmp 13), none⟩, ⟨some 15, .load false 1 (.tmp 14), none⟩, ⟨some 16, .bin .eql (.tmp 11) (.tmp 15), none⟩])
 (.cond (.tmp 16) (.seq (.reg [⟨some 17, .mov (.tmp 5), none⟩, ⟨some 4, .mov (.tmp 17), none⟩])
 .ret) .skip))))
 (.reg [⟨some 18, .bin .add (.tmp 8) (.con (.i .i64 (1))), none⟩, ⟨some 8, .mov (.tmp 18), none⟩])))))))
 (.seq (.reg [⟨some 4, .mov (.con (.i .i64 (-1))), none⟩])
 .ret))), [.tmp 4]⟩
theorem c54 : compF Tryd.prog k54 [] Tryd.f54 = some a54 := by kernel_rfl
/-- ramble/rambleref02.num -/
def k62 : Nat → List (Nat × H) := fun _ => []
def a62 : AFun := ⟨2, (.seq (.reg [⟨some 4, .mov (.con (.i .i64 (0))), none⟩])
 (.seq (.seq (.reg [⟨some 5, .mov (.tmp 0), none⟩, ⟨some 6, .mov (.tmp 1), none⟩, ⟨some 7, .bin .lss (.tmp 5) (.tmp 6), none⟩])
 (.cond (.tmp 7) (.seq (.reg [⟨some 4, .mov (.con (.i .i64 (-1))), none⟩])
 .ret) .skip))
 (.seq (.seq (.reg [⟨some 8, .mov (.tmp 0), none⟩, ⟨some 9, .mov (.tmp 1), none⟩, ⟨some 10, .bin .gtr (.tmp 8) (.tmp 9), none⟩])
 (.cond (.tmp 10) (.seq (.reg [⟨some 4, .mov (.con (.i .i64 (1))), none⟩])
 .ret) .skip))
 (.seq (.reg [⟨some 4, .mov (.con (.i .i64 (0))), none⟩])
 .ret)))), [.tmp 4]⟩
theorem c62 : compF Tryd.prog k62 [] Tryd.f62 = some a62 := by kernel_rfl
/-- ramble/rambleref02.text -/
def k63 : Nat → List (Nat × H) := fun r => if r = 2 then [(0, .none), (1, .none), (5, .none)] else []
def a63 : AFun := ⟨2, (.seq (.reg [⟨some 4, .mov (.con (.i .i64 (0))), none⟩])
 (.seq (.seq (.reg [⟨some 5, .mov (.con (.i .i64 (0))), none⟩])
 (.block 0 (.loop [(0, .none), (1, .none), (5, .none)] (.seq (.seq (.reg [⟨some 6, .mov (.tmp 5), none⟩, ⟨some 7, .mov (.tmp 0), none⟩, ⟨some 8, .len true (.tmp 7), none⟩, ⟨some 9, .bin .lss (.tmp 6) (.tmp 8), none⟩, ⟨some 10, .mov (.tmp 9), none⟩, ⟨some 11, .mov (.tmp 5), some (10, true)⟩, ⟨some 12, .mov (.tmp 1), some (10, true)⟩, ⟨some 13, .len true (.tmp 12), some (10, true)⟩, ⟨some 14, .bin .lss (.tmp 11) (.tmp 13), some (10, true)⟩, ⟨some 15, .pick (.tmp 10) (.tmp 14) (.con (.b false)), none⟩])
 (.cond (.tmp 15) .skip (.exit 0)))
 (.seq (.block 1 (.seq (.draw [⟨some 18, .mov (.tmp 0), none⟩, ⟨some 19, .mov (.tmp 5), none⟩, ⟨some 20, .idx (.tmp 18) (.tmp 19), none⟩, ⟨some 21, .mov (.tmp 1), none⟩, ⟨some 22, .mov (.tmp 5), none⟩, ⟨some 23, .idx (.tmp 21) (.tmp 22), none⟩, ⟨some 24, .bin .neq (.tmp 20) (.tmp 23), none⟩] [])
 (.cond (.tmp 24) (.seq (.draw [⟨some 25, .mov (.tmp 0), none⟩, ⟨some 26, .mov (.tmp 5), none⟩, ⟨some 27, .idx (.tmp 25) (.tmp 26), none⟩, ⟨some 28, .conv (.int .i64) (.tmp 27), none⟩, ⟨some 29, .mov (.tmp 1), none⟩, ⟨some 30, .mov (.tmp 5), none⟩, ⟨some 31, .idx (.tmp 29) (.tmp 30), none⟩, ⟨some 32, .conv (.int .i64) (.tmp 31), none⟩, ⟨some 33, .call 62 [(.tmp 28), (.tmp 32)], none⟩, ⟨some 4, .mov (.tmp 33), none⟩] [])
 .ret) .skip)))
 (.reg [⟨some 16, .mov (.tmp 5), none⟩, ⟨some 17, .bin .add (.tmp 16) (.con (.i .i64 (1))), none⟩, ⟨some 5, .mov (.tmp 17), none⟩]))))))
 (.seq (.reg [⟨some 34, .mov (.tmp 0), none⟩, ⟨some 35, .len true (.tmp 34), none⟩, ⟨some 36, .mov (.tmp 1), none⟩, ⟨some 37, .len true (.tmp 36), none⟩, ⟨some 38, .call 62 [(.tmp 35), (.tmp 37)], none⟩, ⟨some 4, .mov (.tmp 38), none⟩])
 .ret))), [.tmp 4]⟩
theorem c63 : compF Tryd.prog k63 [] Tryd.f63 = some a63 := by kernel_rfl
end Go.Proofs.YtmdbfbcolofelaaDoor
