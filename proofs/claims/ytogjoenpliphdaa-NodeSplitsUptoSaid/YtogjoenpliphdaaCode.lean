/-
  The abstract machine's code of the functions: printed by a program of ours out of the program's own; each is checked against it by the kernel.
-/
import Derived.Test.YtogjoenpliphdaaFa
import Derived.Test.YtogjoenpliphdaaProg
import Derived.KernelRfl
namespace Go.Proofs.Ytogjoenpliphdaa
open Go.Abs
/-- ramble/ramblelaw08.NodeBytes -/
def k3 : Nat → List (Nat × H) := fun _ => []
def a3 : AFun := ⟨1, (.seq (.reg [⟨some 1, .box (.tmp 0), none⟩, ⟨some 2, .mov (.con (.b false)), none⟩])
 (.seq (.reg [⟨some 8, .load true 4 (.tmp 1), none⟩, ⟨some 9, .call 9 [(.tmp 8)], none⟩, ⟨some 7, .mov (.tmp 9), none⟩, ⟨some 10, .ext (.tmp 7) 0, none⟩, ⟨some 11, .ext (.tmp 7) 1, none⟩, ⟨some 3, .mov (.tmp 10), none⟩, ⟨some 4, .mov (.tmp 11), none⟩])
 (.seq (.reg [⟨some 13, .load true 4 (.tmp 1), none⟩, ⟨some 14, .call 10 [(.tmp 13)], none⟩, ⟨some 12, .mov (.tmp 14), none⟩, ⟨some 15, .ext (.tmp 12) 0, none⟩, ⟨some 16, .ext (.tmp 12) 1, none⟩, ⟨some 5, .mov (.tmp 15), none⟩, ⟨some 6, .mov (.tmp 16), none⟩])
 (.seq (.draw [⟨some 17, .call 11 [], none⟩, ⟨some 18, .mov (.tmp 17), none⟩, ⟨some 19, .load true 4 (.tmp 1), some (18, true)⟩, ⟨some 20, .call 12 [(.tmp 19)], some (18, true)⟩, ⟨some 21, .load true 4 (.tmp 1), some (18, true)⟩, ⟨some 22, .call 13 [(.tmp 21)], some (18, true)⟩, ⟨some 23, .bin .eql (.tmp 20) (.tmp 22), some (18, true)⟩, ⟨some 24, .pick (.tmp 18) (.tmp 23) (.con (.b false)), none⟩, ⟨some 25, .mov (.tmp 24), none⟩, ⟨some 26, .load true 4 (.tmp 1), some (25, true)⟩, ⟨some 27, .call 14 [(.tmp 26)], some (25, true)⟩, ⟨some 28, .load true 4 (.tmp 1), some (25, true)⟩, ⟨some 29, .call 15 [(.tmp 28)], some (25, true)⟩, ⟨some 30, .bin .eql (.tmp 27) (.tmp 29), some (25, true)⟩, ⟨some 31, .pick (.tmp 25) (.tmp 30) (.con (.b false)), none⟩, ⟨some 32, .mov (.tmp 31), none⟩, ⟨some 33, .mov (.tmp 3), some (32, true)⟩, ⟨some 34, .mov (.tmp 5), some (32, true)⟩, ⟨some 35, .call 16 [(.tmp 33), (.tmp 34)], some (32, true)⟩, ⟨some 36, .pick (.tmp 32) (.tmp 35) (.con (.b false)), none⟩, ⟨some 37, .mov (.tmp 36), none⟩, ⟨some 38, .mov (.tmp 4), some (37, true)⟩, ⟨some 39, .mov (.tmp 6), some (37, true)⟩, ⟨some 40, .bin .eql (.tmp 38) (.tmp 39), some (37, true)⟩, ⟨some 41, .pick (.tmp 37) (.tmp 40) (.con (.b false)), none⟩, ⟨some 2, .mov (.tmp 41), none⟩] [(2, 4), (3, 4), (9, 11), (10, 11)])
 .ret)))), [.tmp 2]⟩
theorem c3 : compF Try.prog k3 [] Try.f3 = some a3 := by kernel_rfl
/-- ramble/ramblelaw08.NodeSplits -/
def k4 : Nat → List (Nat × H) := fun _ => []
def a4 : AFun := ⟨1, (.seq (.reg [⟨some 1, .box (.tmp 0), none⟩, ⟨some 2, .mov (.con (.b false)), none⟩])
 (.seq (.seq (.reg [⟨some 9, .load true 4 (.tmp 1), none⟩, ⟨some 10, .call 17 [(.tmp 9)], none⟩, ⟨some 11, .un .not (.tmp 10), none⟩])
 (.cond (.tmp 11) (.seq (.reg [⟨some 2, .mov (.con (.b true)), none⟩])
 .ret) .skip))
 (.seq (.reg [⟨some 13, .load true 4 (.tmp 1), none⟩, ⟨some 14, .call 18 [(.tmp 13)], none⟩, ⟨some 12, .mov (.tmp 14), none⟩, ⟨some 15, .ext (.tmp 12) 0, none⟩, ⟨some 16, .ext (.tmp 12) 1, none⟩, ⟨some 17, .ext (.tmp 12) 2, none⟩, ⟨some 3, .alloc [(.b false), (.sl .nil 0 []), (.sl .nil 0 []), (.sl .nil 0 [])], none⟩, ⟨some 5, .alloc [(.b false), (.sl .nil 0 []), (.sl .nil 0 []), (.sl .nil 0 [])], none⟩, ⟨none, .store 4 (.tmp 3) (.tmp 15), none⟩, ⟨some 4, .mov (.tmp 16), none⟩, ⟨none, .store 4 (.tmp 5) (.tmp 17), none⟩])
 (.seq (.reg [⟨some 19, .load true 4 (.tmp 1), none⟩, ⟨some 20, .call 19 [(.tmp 19)], none⟩, ⟨some 18, .mov (.tmp 20), none⟩, ⟨some 21, .ext (.tmp 18) 0, none⟩, ⟨some 22, .ext (.tmp 18) 1, none⟩, ⟨some 23, .ext (.tmp 18) 2, none⟩, ⟨some 6, .alloc [(.b false), (.sl .nil 0 []), (.sl .nil 0 []), (.sl .nil 0 [])], none⟩, ⟨some 8, .alloc [(.b false), (.sl .nil 0 []), (.sl .nil 0 []), (.sl .nil 0 [])], none⟩, ⟨none, .store 4 (.tmp 6) (.tmp 21), none⟩, ⟨some 7, .mov (.tmp 22), none⟩, ⟨none, .store 4 (.tmp 8) (.tmp 23), none⟩])
 (.seq (.reg [⟨some 24, .call 11 [], none⟩, ⟨some 25, .mov (.tmp 24), none⟩, ⟨some 26, .load true 4 (.tmp 3), some (25, true)⟩, ⟨some 27, .load true 4 (.tmp 6), some (25, true)⟩, ⟨some 28, .call 20 [(.tmp 26), (.tmp 27)], some (25, true)⟩, ⟨some 29, .pick (.tmp 25) (.tmp 28) (.con (.b false)), none⟩, ⟨some 30, .mov (.tmp 29), none⟩, ⟨some 31, .mov (.tmp 4), some (30, true)⟩, ⟨some 32, .mov (.tmp 7), some (30, true)⟩, ⟨some 33, .call 16 [(.tmp 31), (.tmp 32)], some (30, true)⟩, ⟨some 34, .pick (.tmp 30) (.tmp 33) (.con (.b false)), none⟩, ⟨some 35, .mov (.tmp 34), none⟩, ⟨some 36, .load true 4 (.tmp 5), some (35, true)⟩, ⟨some 37, .load true 4 (.tmp 8), some (35, true)⟩, ⟨some 38, .call 20 [(.tmp 36), (.tmp 37)], some (35, true)⟩, ⟨some 39, .pick (.tmp 35) (.tmp 38) (.con (.b false)), none⟩, ⟨some 2, .mov (.tmp 39), none⟩])
 .ret))))), [.tmp 2]⟩
theorem c4 : compF Try.prog k4 [] Try.f4 = some a4 := by kernel_rfl
/-- ramble/ramblelaw08.NodeReads -/
def k5 : Nat → List (Nat × H) := fun _ => []
def a5 : AFun := ⟨1, (.seq (.reg [⟨some 2, .mov (.con (.b false)), none⟩])
 (.seq (.reg [⟨some 8, .mov (.tmp 0), none⟩, ⟨some 9, .call 21 [(.tmp 8)], none⟩, ⟨some 7, .mov (.tmp 9), none⟩, ⟨some 10, .ext (.tmp 7) 0, none⟩, ⟨some 11, .ext (.tmp 7) 1, none⟩, ⟨some 3, .alloc [(.b false), (.sl .nil 0 []), (.sl .nil 0 []), (.sl .nil 0 [])], none⟩, ⟨none, .store 4 (.tmp 3) (.tmp 10), none⟩, ⟨some 4, .mov (.tmp 11), none⟩])
 (.seq (.reg [⟨some 13, .mov (.tmp 0), none⟩, ⟨some 14, .call 22 [(.tmp 13)], none⟩, ⟨some 12, .mov (.tmp 14), none⟩, ⟨some 15, .ext (.tmp 12) 0, none⟩, ⟨some 16, .ext (.tmp 12) 1, none⟩, ⟨some 5, .alloc [(.b false), (.sl .nil 0 []), (.sl .nil 0 []), (.sl .nil 0 [])], none⟩, ⟨none, .store 4 (.tmp 5) (.tmp 15), none⟩, ⟨some 6, .mov (.tmp 16), none⟩])
 (.seq (.reg [⟨some 17, .call 11 [], none⟩, ⟨some 18, .mov (.tmp 17), none⟩, ⟨some 19, .load true 4 (.tmp 3), some (18, true)⟩, ⟨some 20, .load true 4 (.tmp 5), some (18, true)⟩, ⟨some 21, .call 20 [(.tmp 19), (.tmp 20)], some (18, true)⟩, ⟨some 22, .pick (.tmp 18) (.tmp 21) (.con (.b false)), none⟩, ⟨some 23, .mov (.tmp 22), none⟩, ⟨some 24, .mov (.tmp 4), some (23, true)⟩, ⟨some 25, .mov (.tmp 6), some (23, true)⟩, ⟨some 26, .bin .eql (.tmp 24) (.tmp 25), some (23, true)⟩, ⟨some 27, .pick (.tmp 23) (.tmp 26) (.con (.b false)), none⟩, ⟨some 2, .mov (.tmp 27), none⟩])
 .ret)))), [.tmp 2]⟩
theorem c5 : compF Try.prog k5 [] Try.f5 = some a5 := by kernel_rfl
/-- ramble/ramblelaw08.NodeBack -/
def k6 : Nat → List (Nat × H) := fun _ => []
def a6 : AFun := ⟨2, (.seq (.reg [⟨some 2, .box (.tmp 0), none⟩, ⟨some 4, .mov (.con (.b false)), none⟩])
 (.seq (.seq (.reg [⟨some 13, .call 11 [], none⟩, ⟨some 14, .un .not (.tmp 13), none⟩])
 (.cond (.tmp 14) (.seq (.reg [⟨some 4, .mov (.con (.b false)), none⟩])
 .ret) .skip))
 (.seq (.seq (.reg [⟨some 16, .load true 4 (.tmp 2), none⟩, ⟨some 17, .call 9 [(.tmp 16)], none⟩, ⟨some 15, .mov (.tmp 17), none⟩, ⟨some 18, .ext (.tmp 15) 0, none⟩, ⟨some 19, .ext (.tmp 15) 1, none⟩, ⟨some 5, .mov (.tmp 18), none⟩, ⟨some 6, .mov (.tmp 19), none⟩])
 (.seq (.reg [⟨some 20, .mov (.tmp 6), none⟩, ⟨some 21, .bin .eql (.tmp 20) (.con (.i .i64 (0))), none⟩])
 (.cond (.tmp 21) (.seq (.reg [⟨some 23, .mov (.tmp 5), none⟩, ⟨some 24, .call 21 [(.tmp 23)], none⟩, ⟨some 22, .mov (.tmp 24), none⟩, ⟨some 25, .ext (.tmp 22) 0, none⟩, ⟨some 26, .ext (.tmp 22) 1, none⟩, ⟨some 7, .alloc [(.b false), (.sl .nil 0 []), (.sl .nil 0 []), (.sl .nil 0 [])], none⟩, ⟨none, .store 4 (.tmp 7) (.tmp 25), none⟩, ⟨some 8, .mov (.tmp 26), none⟩])
 (.seq (.reg [⟨some 27, .mov (.tmp 8), none⟩, ⟨some 28, .bin .neq (.tmp 27) (.con (.i .i64 (0))), none⟩, ⟨some 29, .mov (.tmp 28), none⟩, ⟨some 30, .load true 4 (.tmp 7), some (29, false)⟩, ⟨some 31, .load true 4 (.tmp 2), some (29, false)⟩, ⟨some 32, .call 20 [(.tmp 30), (.tmp 31)], some (29, false)⟩, ⟨some 33, .un .not (.tmp 32), some (29, false)⟩, ⟨some 34, .pick (.tmp 29) (.con (.b true)) (.tmp 33), none⟩, ⟨some 35, .mov (.tmp 34), none⟩, ⟨some 36, .mov (.tmp 5), some (35, false)⟩, ⟨some 37, .len false (.tmp 36), some (35, false)⟩, ⟨some 38, .load true 4 (.tmp 2), some (35, false)⟩, ⟨some 39, .call 14 [(.tmp 38)], some (35, false)⟩, ⟨some 40, .bin .neq (.tmp 37) (.tmp 39), some (35, false)⟩, ⟨some 41, .pick (.tmp 35) (.con (.b true)) (.tmp 40), none⟩])
 (.cond (.tmp 41) (.seq (.reg [⟨some 4, .mov (.con (.b false)), none⟩])
 .ret) .skip))) .skip)))
 (.seq (.reg [⟨some 43, .mov (.tmp 1), none⟩, ⟨some 44, .call 21 [(.tmp 43)], none⟩, ⟨some 42, .mov (.tmp 44), none⟩, ⟨some 45, .ext (.tmp 42) 0, none⟩, ⟨some 46, .ext (.tmp 42) 1, none⟩, ⟨some 9, .alloc [(.b false), (.sl .nil 0 []), (.sl .nil 0 []), (.sl .nil 0 [])], none⟩, ⟨none, .store 4 (.tmp 9) (.tmp 45), none⟩, ⟨some 10, .mov (.tmp 46), none⟩])
 (.seq (.seq (.reg [⟨some 47, .mov (.tmp 10), none⟩, ⟨some 48, .bin .neq (.tmp 47) (.con (.i .i64 (0))), none⟩])
 (.cond (.tmp 48) (.seq (.reg [⟨some 4, .mov (.con (.b true)), none⟩])
 .ret) .skip))
 (.seq (.reg [⟨some 50, .load true 4 (.tmp 9), none⟩, ⟨some 51, .call 9 [(.tmp 50)], none⟩, ⟨some 49, .mov (.tmp 51), none⟩, ⟨some 52, .ext (.tmp 49) 0, none⟩, ⟨some 53, .ext (.tmp 49) 1, none⟩, ⟨some 11, .mov (.tmp 52), none⟩, ⟨some 12, .mov (.tmp 53), none⟩])
 (.seq (.reg [⟨some 54, .mov (.tmp 12), none⟩, ⟨some 55, .bin .eql (.tmp 54) (.con (.i .i64 (0))), none⟩, ⟨some 56, .mov (.tmp 55), none⟩, ⟨some 57, .mov (.tmp 11), some (56, true)⟩, ⟨some 58, .mov (.tmp 1), some (56, true)⟩, ⟨some 59, .call 16 [(.tmp 57), (.tmp 58)], some (56, true)⟩, ⟨some 60, .pick (.tmp 56) (.tmp 59) (.con (.b false)), none⟩, ⟨some 4, .mov (.tmp 60), none⟩])
 .ret))))))), [.tmp 4]⟩
theorem c6 : compF Try.prog k6 [] Try.f6 = some a6 := by kernel_rfl
/-- ramble/node.Bytes -/
def k9 : Nat → List (Nat × H) := fun _ => []
def a9 : AFun := ⟨1, (.seq (.reg [⟨some 1, .box (.tmp 0), none⟩, ⟨some 2, .mov (.con (.sl .nil 0 [])), none⟩, ⟨some 3, .mov (.con (.i .i64 (0))), none⟩])
 (.seq (.seq (.reg [⟨some 6, .load true 4 (.tmp 1), none⟩, ⟨some 7, .call 12 [(.tmp 6)], none⟩, ⟨some 4, .mov (.tmp 7), none⟩])
 (.seq (.reg [⟨some 8, .mov (.tmp 4), none⟩, ⟨some 9, .bin .neq (.tmp 8) (.con (.i .i64 (0))), none⟩])
 (.cond (.tmp 9) (.seq (.reg [⟨some 10, .mov (.tmp 4), none⟩, ⟨some 2, .mov (.con (.sl .nil 0 [])), none⟩, ⟨some 3, .mov (.tmp 10), none⟩])
 .ret) .skip)))
 (.seq (.reg [⟨some 11, .load true 4 (.tmp 1), none⟩, ⟨some 12, .call 30 [(.tmp 11)], none⟩, ⟨some 5, .mov (.tmp 12), none⟩])
 (.seq (.seq (.reg [⟨some 13, .mov (.tmp 5), none⟩, ⟨some 14, .len false (.tmp 13), none⟩, ⟨some 15, .bin .gtr (.tmp 14) (.con (.i .i64 (448))), none⟩])
 (.cond (.tmp 15) (.seq (.reg [⟨some 2, .mov (.con (.sl .nil 0 [])), none⟩, ⟨some 3, .mov (.con (.i .i64 (3))), none⟩])
 .ret) .skip))
 (.seq (.reg [⟨some 16, .mov (.tmp 5), none⟩, ⟨some 2, .mov (.tmp 16), none⟩, ⟨some 3, .mov (.con (.i .i64 (0))), none⟩])
 .ret))))), [.tmp 2, .tmp 3]⟩
theorem c9 : compF Try.prog k9 [] Try.f9 = some a9 := by kernel_rfl
/-- ramble/rambleref08.Bytes -/
def k10 : Nat → List (Nat × H) := fun _ => []
def a10 : AFun := ⟨1, (.seq (.reg [⟨some 1, .box (.tmp 0), none⟩, ⟨some 2, .mov (.con (.sl .nil 0 [])), none⟩, ⟨some 3, .mov (.con (.i .i64 (0))), none⟩])
 (.seq (.seq (.reg [⟨some 5, .load true 4 (.tmp 1), none⟩, ⟨some 6, .call 13 [(.tmp 5)], none⟩, ⟨some 4, .mov (.tmp 6), none⟩])
 (.seq (.reg [⟨some 7, .mov (.tmp 4), none⟩, ⟨some 8, .bin .neq (.tmp 7) (.con (.i .i64 (0))), none⟩])
 (.cond (.tmp 8) (.seq (.reg [⟨some 9, .mov (.tmp 4), none⟩, ⟨some 2, .mov (.con (.sl .nil 0 [])), none⟩, ⟨some 3, .mov (.tmp 9), none⟩])
 .ret) .skip)))
 (.seq (.seq (.reg [⟨some 10, .load true 4 (.tmp 1), none⟩, ⟨some 11, .call 15 [(.tmp 10)], none⟩, ⟨some 12, .bin .gtr (.tmp 11) (.con (.i .i64 (448))), none⟩])
 (.cond (.tmp 12) (.seq (.reg [⟨some 2, .mov (.con (.sl .nil 0 [])), none⟩, ⟨some 3, .mov (.con (.i .i64 (3))), none⟩])
 .ret) .skip))
 (.seq (.reg [⟨some 13, .load true 4 (.tmp 1), none⟩, ⟨some 14, .call 31 [(.tmp 13)], none⟩, ⟨some 2, .mov (.tmp 14), none⟩, ⟨some 3, .mov (.con (.i .i64 (0))), none⟩])
 .ret)))), [.tmp 2, .tmp 3]⟩
theorem c10 : compF Try.prog k10 [] Try.f10 = some a10 := by kernel_rfl
/-- ramble/ramblelaw08.begun -/
def k11 : Nat → List (Nat × H) := fun _ => []
def a11 : AFun := ⟨0, (.seq (.reg [⟨some 0, .mov (.con (.b false)), none⟩])
 (.seq (.reg [⟨some 6, .bslice 5 [(.i .u8 (0))] 1 [(0, (.con (.i .u8 (97))))], none⟩, ⟨some 7, .frz (.tmp 6), none⟩, ⟨some 8, .bslice 5 [(.i .u8 (0))] 1 [(0, (.con (.i .u8 (7))))], none⟩, ⟨some 9, .build [(.sl .nil 0 []), (.sl .nil 0 []), (.i .i64 (0)), (.i .i64 (0))] [(0, 1, (.tmp 7)), (1, 1, (.tmp 8))], none⟩, ⟨some 10, .bslice 44 [(.sl .nil 0 []), (.sl .nil 0 []), (.i .i64 (0)), (.i .i64 (0))] 1 [(0, (.tmp 9))], none⟩, ⟨some 11, .build [(.b false), (.sl .nil 0 []), (.sl .nil 0 []), (.sl .nil 0 [])] [(0, 1, (.con (.b true))), (1, 1, (.tmp 10))], none⟩, ⟨some 12, .call 9 [(.tmp 11)], none⟩, ⟨some 5, .mov (.tmp 12), none⟩, ⟨some 13, .ext (.tmp 5) 0, none⟩, ⟨some 14, .ext (.tmp 5) 1, none⟩, ⟨some 1, .mov (.tmp 13), none⟩, ⟨some 2, .mov (.tmp 14), none⟩])
 (.seq (.reg [⟨some 16, .bslice 5 [(.i .u8 (0))] 1 [(0, (.con (.i .u8 (109))))], none⟩, ⟨some 17, .frz (.tmp 16), none⟩, ⟨some 18, .bslice 27 [(.sl .nil 0 [])] 1 [(0, (.tmp 17))], none⟩, ⟨some 19, .bslice 3 [(.i .i64 (0))] 2 [(0, (.con (.i .i64 (3)))), (1, (.con (.i .i64 (4))))], none⟩, ⟨some 20, .build [(.b false), (.sl .nil 0 []), (.sl .nil 0 []), (.sl .nil 0 [])] [(2, 1, (.tmp 18)), (3, 1, (.tmp 19))], none⟩, ⟨some 21, .call 9 [(.tmp 20)], none⟩, ⟨some 15, .mov (.tmp 21), none⟩, ⟨some 22, .ext (.tmp 15) 0, none⟩, ⟨some 23, .ext (.tmp 15) 1, none⟩, ⟨some 3, .mov (.tmp 22), none⟩, ⟨some 4, .mov (.tmp 23), none⟩])
 (.seq (.reg [⟨some 24, .mov (.tmp 2), none⟩, ⟨some 25, .bin .eql (.tmp 24) (.con (.i .i64 (0))), none⟩, ⟨some 26, .mov (.tmp 25), none⟩, ⟨some 27, .mov (.tmp 4), some (26, true)⟩, ⟨some 28, .bin .eql (.tmp 27) (.con (.i .i64 (0))), some (26, true)⟩, ⟨some 29, .pick (.tmp 26) (.tmp 28) (.con (.b false)), none⟩, ⟨some 30, .mov (.tmp 29), none⟩, ⟨some 31, .mov (.tmp 1), some (30, true)⟩, ⟨some 32, .bslice 5 [(.i .u8 (0))] 7 [(0, (.con (.i .u8 (1)))), (1, (.con (.i .u8 (1)))), (2, (.con (.i .u8 (1)))), (3, (.con (.i .u8 (97)))), (4, (.con (.i .u8 (0)))), (5, (.con (.i .u8 (1)))), (6, (.con (.i .u8 (7))))], some (30, true)⟩, ⟨some 33, .call 16 [(.tmp 31), (.tmp 32)], some (30, true)⟩, ⟨some 34, .pick (.tmp 30) (.tmp 33) (.con (.b false)), none⟩, ⟨some 35, .mov (.tmp 34), none⟩, ⟨some 36, .mov (.tmp 3), some (35, true)⟩, ⟨some 37, .bslice 5 [(.i .u8 (0))] 6 [(0, (.con (.i .u8 (2)))), (1, (.con (.i .u8 (1)))), (2, (.con (.i .u8 (1)))), (3, (.con (.i .u8 (109)))), (4, (.con (.i .u8 (3)))), (5, (.con (.i .u8 (4))))], some (35, true)⟩, ⟨some 38, .call 16 [(.tmp 36), (.tmp 37)], some (35, true)⟩, ⟨some 39, .pick (.tmp 35) (.tmp 38) (.con (.b false)), none⟩, ⟨some 0, .mov (.tmp 39), none⟩])
 .ret)))), [.tmp 0]⟩
theorem c11 : compF Try.prog k11 [] Try.f11 = some a11 := by kernel_rfl
/-- ramble/node.Check -/
def k12 : Nat → List (Nat × H) := fun r => if r = 7 then [(3, .row 27 1), (26, .none), (27, .none), (28, .none)] else if r = 14 then [(3, .none), (57, .none), (58, .none), (59, .none)] else []
def a12 : AFun := ⟨1, (.seq (.reg [⟨some 1, .box (.tmp 0), none⟩, ⟨some 2, .mov (.con (.i .i64 (0))), none⟩])
 (.seq (.reg [⟨some 8, .faddr 2 (.tmp 1), none⟩, ⟨some 9, .load false 1 (.tmp 8), none⟩, ⟨some 3, .mov (.tmp 9), none⟩])
 (.seq (.seq (.reg [⟨some 10, .faddr 0 (.tmp 1), none⟩, ⟨some 11, .load false 1 (.tmp 10), none⟩])
 (.cond (.tmp 11) (.seq (.seq (.reg [⟨some 12, .faddr 2 (.tmp 1), none⟩, ⟨some 13, .load false 1 (.tmp 12), none⟩, ⟨some 14, .len false (.tmp 13), none⟩, ⟨some 15, .faddr 3 (.tmp 1), none⟩, ⟨some 16, .load false 1 (.tmp 15), none⟩, ⟨some 17, .len false (.tmp 16), none⟩, ⟨some 18, .bin .add (.tmp 14) (.tmp 17), none⟩, ⟨some 19, .bin .gtr (.tmp 18) (.con (.i .i64 (0))), none⟩, ⟨some 20, .mov (.tmp 19), none⟩, ⟨some 21, .faddr 1 (.tmp 1), some (20, false)⟩, ⟨some 22, .load false 1 (.tmp 21), some (20, false)⟩, ⟨some 23, .call 32 [(.tmp 22), (.con (.fn 33 []))], some (20, false)⟩, ⟨some 24, .pick (.tmp 20) (.con (.b true)) (.tmp 23), none⟩])
 (.cond (.tmp 24) (.seq (.reg [⟨some 2, .mov (.con (.i .i64 (80))), none⟩])
 .ret) .skip))
 (.seq (.reg [⟨some 3, .mov (.con (.sl .nil 0 [])), none⟩])
 (.seq (.reg [⟨some 25, .faddr 1 (.tmp 1), none⟩, ⟨some 26, .load false 1 (.tmp 25), none⟩, ⟨some 27, .len false (.tmp 26), none⟩, ⟨some 28, .mov (.con (.i .i64 (0))), none⟩])
 (.block 0 (.loop [(3, .row 27 1), (26, .none), (27, .none), (28, .none)] (.seq (.reg [⟨some 29, .bin .lss (.tmp 28) (.tmp 27), none⟩])
 (.seq (.cond (.tmp 29) .skip (.exit 0))
 (.seq (.block 1 (.seq (.reg [⟨some 30, .iaddr 4 (.tmp 26) (.tmp 28), none⟩, ⟨some 31, .load true 4 (.tmp 30), none⟩, ⟨some 5, .alloc [(.sl .nil 0 []), (.sl .nil 0 []), (.i .i64 (0)), (.i .i64 (0))], none⟩, ⟨none, .store 4 (.tmp 5) (.tmp 31), none⟩])
 (.reg [⟨some 32, .mov (.tmp 3), none⟩, ⟨some 33, .faddr 0 (.tmp 5), none⟩, ⟨some 34, .load false 1 (.tmp 33), none⟩, ⟨some 35, .bslice 27 [(.sl .nil 0 [])] 1 [(0, (.tmp 34))], none⟩, ⟨some 36, .app 27 1 (.tmp 32) (.tmp 35), none⟩, ⟨some 3, .mov (.tmp 36), none⟩])))
 (.reg [⟨some 37, .bin .add (.tmp 28) (.con (.i .i64 (1))), none⟩, ⟨some 28, .mov (.tmp 37), none⟩]))))))))) (.seq (.reg [⟨some 38, .faddr 1 (.tmp 1), none⟩, ⟨some 39, .load false 1 (.tmp 38), none⟩, ⟨some 40, .len false (.tmp 39), none⟩, ⟨some 41, .bin .gtr (.tmp 40) (.con (.i .i64 (0))), none⟩, ⟨some 42, .mov (.tmp 41), none⟩, ⟨some 43, .faddr 3 (.tmp 1), some (42, false)⟩, ⟨some 44, .load false 1 (.tmp 43), some (42, false)⟩, ⟨some 45, .len false (.tmp 44), some (42, false)⟩, ⟨some 46, .faddr 2 (.tmp 1), some (42, false)⟩, ⟨some 47, .load false 1 (.tmp 46), some (42, false)⟩, ⟨some 48, .len false (.tmp 47), some (42, false)⟩, ⟨some 49, .bin .add (.tmp 48) (.con (.i .i64 (1))), some (42, false)⟩, ⟨some 50, .bin .neq (.tmp 45) (.tmp 49), some (42, false)⟩, ⟨some 51, .pick (.tmp 42) (.con (.b true)) (.tmp 50), none⟩, ⟨some 52, .mov (.tmp 51), none⟩, ⟨some 53, .faddr 3 (.tmp 1), some (52, false)⟩, ⟨some 54, .load false 1 (.tmp 53), some (52, false)⟩, ⟨some 55, .call 34 [(.tmp 54), (.con (.fn 35 []))], some (52, false)⟩, ⟨some 56, .pick (.tmp 52) (.con (.b true)) (.tmp 55), none⟩])
 (.cond (.tmp 56) (.seq (.reg [⟨some 2, .mov (.con (.i .i64 (80))), none⟩])
 .ret) .skip))))
 (.seq (.seq (.reg [⟨some 57, .mov (.tmp 3), none⟩, ⟨some 58, .len false (.tmp 57), none⟩, ⟨some 59, .mov (.con (.i .i64 (0))), none⟩])
 (.block 2 (.loop [(3, .none), (57, .none), (58, .none), (59, .none)] (.seq (.reg [⟨some 60, .bin .lss (.tmp 59) (.tmp 58), none⟩])
 (.seq (.cond (.tmp 60) .skip (.exit 2))
 (.seq (.block 3 (.seq (.reg [⟨some 61, .mov (.tmp 59), none⟩, ⟨some 62, .iaddr 1 (.tmp 57) (.tmp 59), none⟩, ⟨some 63, .load false 1 (.tmp 62), none⟩, ⟨some 6, .mov (.tmp 61), none⟩, ⟨some 7, .mov (.tmp 63), none⟩])
 (.seq (.reg [⟨some 64, .mov (.tmp 7), none⟩, ⟨some 65, .call 36 [(.tmp 64)], none⟩, ⟨some 66, .mov (.tmp 65), none⟩, ⟨some 67, .mov (.tmp 6), some (66, false)⟩, ⟨some 68, .bin .gtr (.tmp 67) (.con (.i .i64 (0))), some (66, false)⟩, ⟨some 69, .mov (.tmp 68), some (66, false)⟩, ⟨some 70, .mov (.tmp 3), some (69, true)⟩, ⟨some 71, .mov (.tmp 6), some (69, true)⟩, ⟨some 72, .bin .sub (.tmp 71) (.con (.i .i64 (1))), some (69, true)⟩, ⟨some 73, .iaddr 1 (.tmp 70) (.tmp 72), some (69, true)⟩, ⟨some 74, .load false 1 (.tmp 73), some (69, true)⟩, ⟨some 75, .mov (.tmp 7), some (69, true)⟩, ⟨some 76, .call 37 [(.tmp 74), (.tmp 75)], some (69, true)⟩, ⟨some 77, .bin .geq (.tmp 76) (.con (.i .i64 (0))), some (69, true)⟩, ⟨some 78, .pick (.tmp 69) (.tmp 77) (.con (.b false)), some (66, false)⟩, ⟨some 79, .pick (.tmp 66) (.con (.b true)) (.tmp 78), none⟩])
 (.cond (.tmp 79) (.seq (.reg [⟨some 2, .mov (.con (.i .i64 (80))), none⟩])
 .ret) .skip))))
 (.reg [⟨some 80, .bin .add (.tmp 59) (.con (.i .i64 (1))), none⟩, ⟨some 59, .mov (.tmp 80), none⟩])))))))
 (.seq (.reg [⟨some 2, .mov (.con (.i .i64 (0))), none⟩])
 .ret))))), [.tmp 2]⟩
theorem c12 : compF Try.prog k12 [] Try.f12 = some a12 := by kernel_rfl
/-- ramble/rambleref08.Check -/
def k13 : Nat → List (Nat × H) := fun r => if r = 4 then [(1, .none), (3, .none)] else if r = 9 then [(1, .none), (4, .none)] else if r = 14 then [(1, .none), (5, .none)] else []
def a13 : AFun := ⟨1, (.seq (.reg [⟨some 1, .box (.tmp 0), none⟩, ⟨some 2, .mov (.con (.i .i64 (0))), none⟩])
 (.seq (.seq (.reg [⟨some 6, .faddr 0 (.tmp 1), none⟩, ⟨some 7, .load false 1 (.tmp 6), none⟩, ⟨some 8, .mov (.tmp 7), none⟩, ⟨some 9, .faddr 2 (.tmp 1), some (8, true)⟩, ⟨some 10, .load false 1 (.tmp 9), some (8, true)⟩, ⟨some 11, .len false (.tmp 10), some (8, true)⟩, ⟨some 12, .faddr 3 (.tmp 1), some (8, true)⟩, ⟨some 13, .load false 1 (.tmp 12), some (8, true)⟩, ⟨some 14, .len false (.tmp 13), some (8, true)⟩, ⟨some 15, .bin .add (.tmp 11) (.tmp 14), some (8, true)⟩, ⟨some 16, .bin .gtr (.tmp 15) (.con (.i .i64 (0))), some (8, true)⟩, ⟨some 17, .pick (.tmp 8) (.tmp 16) (.con (.b false)), none⟩, ⟨some 18, .mov (.tmp 17), none⟩, ⟨some 19, .faddr 0 (.tmp 1), some (18, false)⟩, ⟨some 20, .load false 1 (.tmp 19), some (18, false)⟩, ⟨some 21, .un .not (.tmp 20), some (18, false)⟩, ⟨some 22, .mov (.tmp 21), some (18, false)⟩, ⟨some 23, .faddr 1 (.tmp 1), some (22, true)⟩, ⟨some 24, .load false 1 (.tmp 23), some (22, true)⟩, ⟨some 25, .len false (.tmp 24), some (22, true)⟩, ⟨some 26, .bin .gtr (.tmp 25) (.con (.i .i64 (0))), some (22, true)⟩, ⟨some 27, .mov (.tmp 26), some (22, true)⟩, ⟨some 28, .faddr 3 (.tmp 1), some (27, false)⟩, ⟨some 29, .load false 1 (.tmp 28), some (27, false)⟩, ⟨some 30, .len false (.tmp 29), some (27, false)⟩, ⟨some 31, .faddr 2 (.tmp 1), some (27, false)⟩, ⟨some 32, .load false 1 (.tmp 31), some (27, false)⟩, ⟨some 33, .len false (.tmp 32), some (27, false)⟩, ⟨some 34, .bin .add (.tmp 33) (.con (.i .i64 (1))), some (27, false)⟩, ⟨some 35, .bin .neq (.tmp 30) (.tmp 34), some (27, false)⟩, ⟨some 36, .pick (.tmp 27) (.con (.b true)) (.tmp 35), some (22, true)⟩, ⟨some 37, .pick (.tmp 22) (.tmp 36) (.con (.b false)), some (18, false)⟩, ⟨some 38, .pick (.tmp 18) (.con (.b true)) (.tmp 37), none⟩])
 (.cond (.tmp 38) (.seq (.reg [⟨some 2, .mov (.con (.i .i64 (80))), none⟩])
 .ret) .skip))
 (.seq (.seq (.reg [⟨some 3, .mov (.con (.i .i64 (0))), none⟩])
 (.block 0 (.loop [(1, .none), (3, .none)] (.seq (.seq (.reg [⟨some 39, .mov (.tmp 3), none⟩, ⟨some 40, .faddr 1 (.tmp 1), none⟩, ⟨some 41, .load false 1 (.tmp 40), none⟩, ⟨some 42, .len false (.tmp 41), none⟩, ⟨some 43, .bin .lss (.tmp 39) (.tmp 42), none⟩])
 (.cond (.tmp 43) .skip (.exit 0)))
 (.seq (.block 1 (.seq (.draw [⟨some 46, .faddr 1 (.tmp 1), none⟩, ⟨some 47, .load false 1 (.tmp 46), none⟩, ⟨some 48, .mov (.tmp 3), none⟩, ⟨some 49, .iaddr 4 (.tmp 47) (.tmp 48), none⟩, ⟨some 50, .load true 4 (.tmp 49), none⟩, ⟨some 51, .call 38 [(.tmp 50)], none⟩, ⟨some 52, .un .not (.tmp 51), none⟩, ⟨some 53, .mov (.tmp 52), none⟩, ⟨some 54, .mov (.tmp 3), some (53, false)⟩, ⟨some 55, .bin .gtr (.tmp 54) (.con (.i .i64 (0))), some (53, false)⟩, ⟨some 56, .mov (.tmp 55), some (53, false)⟩, ⟨some 57, .faddr 1 (.tmp 1), some (56, true)⟩, ⟨some 58, .load false 1 (.tmp 57), some (56, true)⟩, ⟨some 59, .mov (.tmp 3), some (56, true)⟩, ⟨some 60, .iaddr 4 (.tmp 58) (.tmp 59), some (56, true)⟩, ⟨some 61, .faddr 0 (.tmp 60), some (56, true)⟩, ⟨some 62, .load false 1 (.tmp 61), some (56, true)⟩, ⟨some 63, .conv .b2s (.tmp 62), some (56, true)⟩, ⟨some 64, .faddr 1 (.tmp 1), some (56, true)⟩, ⟨some 65, .load false 1 (.tmp 64), some (56, true)⟩, ⟨some 66, .mov (.tmp 3), some (56, true)⟩, ⟨some 67, .bin .sub (.tmp 66) (.con (.i .i64 (1))), some (56, true)⟩, ⟨some 68, .iaddr 4 (.tmp 65) (.tmp 67), some (56, true)⟩, ⟨some 69, .faddr 0 (.tmp 68), some (56, true)⟩, ⟨some 70, .load false 1 (.tmp 69), some (56, true)⟩, ⟨some 71, .conv .b2s (.tmp 70), some (56, true)⟩, ⟨some 72, .bin .leq (.tmp 63) (.tmp 71), some (56, true)⟩, ⟨some 73, .pick (.tmp 56) (.tmp 72) (.con (.b false)), some (53, false)⟩, ⟨some 74, .pick (.tmp 53) (.con (.b true)) (.tmp 73), none⟩] [(12, 19), (14, 19), (16, 19), (17, 19), (12, 22), (14, 22), (16, 22), (17, 22), (12, 24), (14, 24), (16, 24), (17, 24), (12, 25), (14, 25), (16, 25), (17, 25)])
 (.cond (.tmp 74) (.seq (.reg [⟨some 2, .mov (.con (.i .i64 (80))), none⟩])
 .ret) .skip)))
 (.reg [⟨some 44, .mov (.tmp 3), none⟩, ⟨some 45, .bin .add (.tmp 44) (.con (.i .i64 (1))), none⟩, ⟨some 3, .mov (.tmp 45), none⟩]))))))
 (.seq (.seq (.reg [⟨some 4, .mov (.con (.i .i64 (0))), none⟩])
 (.block 2 (.loop [(1, .none), (4, .none)] (.seq (.seq (.reg [⟨some 75, .mov (.tmp 4), none⟩, ⟨some 76, .faddr 2 (.tmp 1), none⟩, ⟨some 77, .load false 1 (.tmp 76), none⟩, ⟨some 78, .len false (.tmp 77), none⟩, ⟨some 79, .bin .lss (.tmp 75) (.tmp 78), none⟩])
 (.cond (.tmp 79) .skip (.exit 2)))
 (.seq (.block 3 (.seq (.draw [⟨some 82, .faddr 2 (.tmp 1), none⟩, ⟨some 83, .load false 1 (.tmp 82), none⟩, ⟨some 84, .mov (.tmp 4), none⟩, ⟨some 85, .iaddr 1 (.tmp 83) (.tmp 84), none⟩, ⟨some 86, .load false 1 (.tmp 85), none⟩, ⟨some 87, .call 39 [(.tmp 86)], none⟩, ⟨some 88, .un .not (.tmp 87), none⟩, ⟨some 89, .mov (.tmp 88), none⟩, ⟨some 90, .mov (.tmp 4), some (89, false)⟩, ⟨some 91, .bin .gtr (.tmp 90) (.con (.i .i64 (0))), some (89, false)⟩, ⟨some 92, .mov (.tmp 91), some (89, false)⟩, ⟨some 93, .faddr 2 (.tmp 1), some (92, true)⟩, ⟨some 94, .load false 1 (.tmp 93), some (92, true)⟩, ⟨some 95, .mov (.tmp 4), some (92, true)⟩, ⟨some 96, .iaddr 1 (.tmp 94) (.tmp 95), some (92, true)⟩, ⟨some 97, .load false 1 (.tmp 96), some (92, true)⟩, ⟨some 98, .conv .b2s (.tmp 97), some (92, true)⟩, ⟨some 99, .faddr 2 (.tmp 1), some (92, true)⟩, ⟨some 100, .load false 1 (.tmp 99), some (92, true)⟩, ⟨some 101, .mov (.tmp 4), some (92, true)⟩, ⟨some 102, .bin .sub (.tmp 101) (.con (.i .i64 (1))), some (92, true)⟩, ⟨some 103, .iaddr 1 (.tmp 100) (.tmp 102), some (92, true)⟩, ⟨some 104, .load false 1 (.tmp 103), some (92, true)⟩, ⟨some 105, .conv .b2s (.tmp 104), some (92, true)⟩, ⟨some 106, .bin .leq (.tmp 98) (.tmp 105), some (92, true)⟩, ⟨some 107, .pick (.tmp 92) (.tmp 106) (.con (.b false)), some (89, false)⟩, ⟨some 108, .pick (.tmp 89) (.con (.b true)) (.tmp 107), none⟩] [(12, 18), (14, 18), (15, 18), (16, 18), (12, 21), (14, 21), (15, 21), (16, 21), (12, 22), (14, 22), (15, 22), (16, 22), (12, 23), (14, 23), (15, 23), (16, 23)])
 (.cond (.tmp 108) (.seq (.reg [⟨some 2, .mov (.con (.i .i64 (80))), none⟩])
 .ret) .skip)))
 (.reg [⟨some 80, .mov (.tmp 4), none⟩, ⟨some 81, .bin .add (.tmp 80) (.con (.i .i64 (1))), none⟩, ⟨some 4, .mov (.tmp 81), none⟩]))))))
 (.seq (.seq (.reg [⟨some 5, .mov (.con (.i .i64 (0))), none⟩])
 (.block 4 (.loop [(1, .none), (5, .none)] (.seq (.seq (.reg [⟨some 109, .mov (.tmp 5), none⟩, ⟨some 110, .faddr 3 (.tmp 1), none⟩, ⟨some 111, .load false 1 (.tmp 110), none⟩, ⟨some 112, .len false (.tmp 111), none⟩, ⟨some 113, .bin .lss (.tmp 109) (.tmp 112), none⟩])
 (.cond (.tmp 113) .skip (.exit 4)))
 (.seq (.block 5 (.seq (.reg [⟨some 116, .faddr 3 (.tmp 1), none⟩, ⟨some 117, .load false 1 (.tmp 116), none⟩, ⟨some 118, .mov (.tmp 5), none⟩, ⟨some 119, .iaddr 1 (.tmp 117) (.tmp 118), none⟩, ⟨some 120, .load false 1 (.tmp 119), none⟩, ⟨some 121, .bin .lss (.tmp 120) (.con (.i .i64 (1))), none⟩, ⟨some 122, .mov (.tmp 121), none⟩, ⟨some 123, .faddr 3 (.tmp 1), some (122, false)⟩, ⟨some 124, .load false 1 (.tmp 123), some (122, false)⟩, ⟨some 125, .mov (.tmp 5), some (122, false)⟩, ⟨some 126, .iaddr 1 (.tmp 124) (.tmp 125), some (122, false)⟩, ⟨some 127, .load false 1 (.tmp 126), some (122, false)⟩, ⟨some 128, .bin .geq (.tmp 127) (.con (.i .i64 (2048))), some (122, false)⟩, ⟨some 129, .pick (.tmp 122) (.con (.b true)) (.tmp 128), none⟩])
 (.cond (.tmp 129) (.seq (.reg [⟨some 2, .mov (.con (.i .i64 (80))), none⟩])
 .ret) .skip)))
 (.reg [⟨some 114, .mov (.tmp 5), none⟩, ⟨some 115, .bin .add (.tmp 114) (.con (.i .i64 (1))), none⟩, ⟨some 5, .mov (.tmp 115), none⟩]))))))
 (.seq (.reg [⟨some 2, .mov (.con (.i .i64 (0))), none⟩])
 .ret)))))), [.tmp 2]⟩
theorem c13 : compF Try.prog k13 [] Try.f13 = some a13 := by kernel_rfl
/-- ramble/node.Size -/
def k14 : Nat → List (Nat × H) := fun _ => []
def a14 : AFun := ⟨1, (.seq (.reg [⟨some 1, .box (.tmp 0), none⟩, ⟨some 2, .mov (.con (.i .i64 (0))), none⟩])
 (.seq (.reg [⟨some 3, .load true 4 (.tmp 1), none⟩, ⟨some 4, .call 30 [(.tmp 3)], none⟩, ⟨some 5, .len false (.tmp 4), none⟩, ⟨some 2, .mov (.tmp 5), none⟩])
 .ret)), [.tmp 2]⟩
theorem c14 : compF Try.prog k14 [] Try.f14 = some a14 := by kernel_rfl
/-- ramble/rambleref08.Size -/
def k15 : Nat → List (Nat × H) := fun _ => []
def a15 : AFun := ⟨1, (.seq (.reg [⟨some 1, .box (.tmp 0), none⟩, ⟨some 2, .mov (.con (.i .i64 (0))), none⟩])
 (.seq (.reg [⟨some 3, .load true 4 (.tmp 1), none⟩, ⟨some 4, .call 31 [(.tmp 3)], none⟩, ⟨some 5, .len false (.tmp 4), none⟩, ⟨some 2, .mov (.tmp 5), none⟩])
 .ret)), [.tmp 2]⟩
theorem c15 : compF Try.prog k15 [] Try.f15 = some a15 := by kernel_rfl
/-- bytes.Equal -/
def k16 : Nat → List (Nat × H) := fun _ => []
def a16 : AFun := ⟨2, (.seq (.reg [⟨some 4, .mov (.con (.b false)), none⟩])
 (.seq (.reg [⟨some 5, .mov (.tmp 0), none⟩, ⟨some 6, .conv .b2s (.tmp 5), none⟩, ⟨some 7, .mov (.tmp 1), none⟩, ⟨some 8, .conv .b2s (.tmp 7), none⟩, ⟨some 9, .bin .eql (.tmp 6) (.tmp 8), none⟩, ⟨some 4, .mov (.tmp 9), none⟩])
 .ret)), [.tmp 4]⟩
theorem c16 : compF Try.prog k16 [] Try.f16 = some a16 := by kernel_rfl
/-- ramble/ramblelaw08.few -/
def k17 : Nat → List (Nat × H) := fun _ => []
def a17 : AFun := ⟨1, (.seq (.reg [⟨some 1, .box (.tmp 0), none⟩, ⟨some 2, .mov (.con (.b false)), none⟩])
 (.seq (.reg [⟨some 3, .faddr 1 (.tmp 1), none⟩, ⟨some 4, .load false 1 (.tmp 3), none⟩, ⟨some 5, .len false (.tmp 4), none⟩, ⟨some 6, .bin .leq (.tmp 5) (.con (.i .i64 (300))), none⟩, ⟨some 7, .mov (.tmp 6), none⟩, ⟨some 8, .faddr 2 (.tmp 1), some (7, true)⟩, ⟨some 9, .load false 1 (.tmp 8), some (7, true)⟩, ⟨some 10, .len false (.tmp 9), some (7, true)⟩, ⟨some 11, .bin .leq (.tmp 10) (.con (.i .i64 (300))), some (7, true)⟩, ⟨some 12, .pick (.tmp 7) (.tmp 11) (.con (.b false)), none⟩, ⟨some 2, .mov (.tmp 12), none⟩])
 .ret)), [.tmp 2]⟩
theorem c17 : compF Try.prog k17 [] Try.f17 = some a17 := by kernel_rfl
/-- ramble/node.Split -/
def k18 : Nat → List (Nat × H) := fun r => if r = 10 then [(1, .none), (2, .none), (4, .none), (5, .none), (6, .none), (7, .none), (8, .none), (9, .none)] else []
def a18 : AFun := ⟨1, (.seq (.reg [⟨some 1, .box (.tmp 0), none⟩, ⟨some 2, .alloc [(.b false), (.sl .nil 0 []), (.sl .nil 0 []), (.sl .nil 0 [])], none⟩, ⟨some 3, .mov (.con (.sl .nil 0 [])), none⟩, ⟨some 4, .alloc [(.b false), (.sl .nil 0 []), (.sl .nil 0 []), (.sl .nil 0 [])], none⟩])
 (.seq (.draw [⟨some 17, .faddr 2 (.tmp 1), none⟩, ⟨some 18, .load false 1 (.tmp 17), none⟩, ⟨some 19, .len false (.tmp 18), none⟩, ⟨some 5, .mov (.con (.i .i64 (0))), none⟩, ⟨some 6, .mov (.tmp 19), none⟩] [])
 (.seq (.seq (.reg [⟨some 20, .faddr 0 (.tmp 1), none⟩, ⟨some 21, .load false 1 (.tmp 20), none⟩])
 (.cond (.tmp 21) (.draw [⟨some 22, .faddr 1 (.tmp 1), none⟩, ⟨some 23, .load false 1 (.tmp 22), none⟩, ⟨some 24, .len false (.tmp 23), none⟩, ⟨some 5, .mov (.con (.i .i64 (1))), none⟩, ⟨some 6, .mov (.tmp 24), none⟩] []) (.seq (.reg [⟨some 25, .faddr 3 (.tmp 1), none⟩, ⟨some 26, .load false 1 (.tmp 25), none⟩, ⟨some 27, .len false (.tmp 26), none⟩, ⟨some 28, .faddr 2 (.tmp 1), none⟩, ⟨some 29, .load false 1 (.tmp 28), none⟩, ⟨some 30, .len false (.tmp 29), none⟩, ⟨some 31, .bin .leq (.tmp 27) (.tmp 30), none⟩])
 (.cond (.tmp 31) (.reg [⟨some 6, .mov (.con (.i .i64 (0))), none⟩]) .skip))))
 (.seq (.seq (.reg [⟨some 32, .mov (.tmp 5), none⟩, ⟨some 33, .mov (.tmp 6), none⟩, ⟨some 34, .bin .geq (.tmp 32) (.tmp 33), none⟩])
 (.cond (.tmp 34) (.seq (.reg [⟨some 35, .load true 4 (.tmp 1), none⟩, ⟨some 36, .call 28 [(.tmp 35)], none⟩, ⟨some 37, .build [(.b false), (.sl .nil 0 []), (.sl .nil 0 []), (.sl .nil 0 [])] [], none⟩, ⟨none, .store 4 (.tmp 2) (.tmp 36), none⟩, ⟨some 3, .mov (.con (.sl .nil 0 [])), none⟩, ⟨none, .store 4 (.tmp 4) (.tmp 37), none⟩])
 .ret) .skip))
 (.seq (.reg [⟨some 38, .mov (.tmp 5), none⟩, ⟨some 7, .mov (.tmp 38), none⟩, ⟨some 8, .mov (.con (.i .i64 (0))), none⟩])
 (.seq (.seq (.reg [⟨some 39, .mov (.tmp 5), none⟩, ⟨some 9, .mov (.tmp 39), none⟩])
 (.block 0 (.loop [(1, .none), (2, .none), (4, .none), (5, .none), (6, .none), (7, .none), (8, .none), (9, .none)] (.seq (.seq (.reg [⟨some 40, .mov (.tmp 9), none⟩, ⟨some 41, .mov (.tmp 6), none⟩, ⟨some 42, .bin .lss (.tmp 40) (.tmp 41), none⟩])
 (.cond (.tmp 42) .skip (.exit 0)))
 (.seq (.block 1 (.seq (.reg [⟨some 46, .load true 4 (.tmp 1), none⟩, ⟨some 47, .mov (.tmp 9), none⟩, ⟨some 48, .call 40 [(.tmp 46), (.tmp 47)], none⟩, ⟨some 45, .mov (.tmp 48), none⟩, ⟨some 49, .ext (.tmp 45) 0, none⟩, ⟨some 50, .ext (.tmp 45) 1, none⟩, ⟨some 51, .ext (.tmp 45) 2, none⟩, ⟨some 10, .alloc [(.b false), (.sl .nil 0 []), (.sl .nil 0 []), (.sl .nil 0 [])], none⟩, ⟨some 12, .alloc [(.b false), (.sl .nil 0 []), (.sl .nil 0 []), (.sl .nil 0 [])], none⟩, ⟨none, .store 4 (.tmp 10) (.tmp 49), none⟩, ⟨some 11, .mov (.tmp 50), none⟩, ⟨none, .store 4 (.tmp 12) (.tmp 51), none⟩])
 (.seq (.draw [⟨some 52, .load true 4 (.tmp 10), none⟩, ⟨some 53, .call 14 [(.tmp 52)], none⟩, ⟨some 54, .load true 4 (.tmp 12), none⟩, ⟨some 55, .call 14 [(.tmp 54)], none⟩, ⟨some 56, .mx [(.tmp 53), (.tmp 55)], none⟩, ⟨some 13, .mov (.tmp 56), none⟩] [(0, 2), (1, 2)])
 (.seq (.reg [⟨some 57, .mov (.tmp 9), none⟩, ⟨some 58, .mov (.tmp 5), none⟩, ⟨some 59, .bin .eql (.tmp 57) (.tmp 58), none⟩, ⟨some 60, .mov (.tmp 59), none⟩, ⟨some 61, .mov (.tmp 13), some (60, false)⟩, ⟨some 62, .mov (.tmp 8), some (60, false)⟩, ⟨some 63, .bin .lss (.tmp 61) (.tmp 62), some (60, false)⟩, ⟨some 64, .pick (.tmp 60) (.con (.b true)) (.tmp 63), none⟩])
 (.cond (.tmp 64) (.reg [⟨some 65, .mov (.tmp 9), none⟩, ⟨some 66, .mov (.tmp 13), none⟩, ⟨some 7, .mov (.tmp 65), none⟩, ⟨some 8, .mov (.tmp 66), none⟩]) .skip)))))
 (.reg [⟨some 43, .mov (.tmp 9), none⟩, ⟨some 44, .bin .add (.tmp 43) (.con (.i .i64 (1))), none⟩, ⟨some 9, .mov (.tmp 44), none⟩]))))))
 (.seq (.reg [⟨some 68, .load true 4 (.tmp 1), none⟩, ⟨some 69, .mov (.tmp 7), none⟩, ⟨some 70, .call 40 [(.tmp 68), (.tmp 69)], none⟩, ⟨some 67, .mov (.tmp 70), none⟩, ⟨some 71, .ext (.tmp 67) 0, none⟩, ⟨some 72, .ext (.tmp 67) 1, none⟩, ⟨some 73, .ext (.tmp 67) 2, none⟩, ⟨some 14, .alloc [(.b false), (.sl .nil 0 []), (.sl .nil 0 []), (.sl .nil 0 [])], none⟩, ⟨some 16, .alloc [(.b false), (.sl .nil 0 []), (.sl .nil 0 []), (.sl .nil 0 [])], none⟩, ⟨none, .store 4 (.tmp 14) (.tmp 71), none⟩, ⟨some 15, .mov (.tmp 72), none⟩, ⟨none, .store 4 (.tmp 16) (.tmp 73), none⟩])
 (.seq (.draw [⟨some 74, .load true 4 (.tmp 14), none⟩, ⟨some 75, .call 28 [(.tmp 74)], none⟩, ⟨some 76, .mov (.tmp 15), none⟩, ⟨some 77, .call 41 [(.tmp 76)], none⟩, ⟨some 78, .load true 4 (.tmp 16), none⟩, ⟨some 79, .call 28 [(.tmp 78)], none⟩, ⟨none, .store 4 (.tmp 2) (.tmp 75), none⟩, ⟨some 3, .mov (.tmp 77), none⟩, ⟨none, .store 4 (.tmp 4) (.tmp 79), none⟩] [(0, 4), (1, 4), (3, 4)])
 .ret)))))))), [.cell 2 true 4, .tmp 3, .cell 4 true 4]⟩
theorem c18 : compF Try.prog k18 [] Try.f18 = some a18 := by kernel_rfl
/-- ramble/rambleref08.Split -/
def k19 : Nat → List (Nat × H) := fun r => if r = 12 then [(1, .none), (2, .none), (4, .none), (5, .none), (6, .none), (7, .none), (8, .none), (9, .none)] else []
def a19 : AFun := ⟨1, (.seq (.reg [⟨some 1, .box (.tmp 0), none⟩, ⟨some 2, .alloc [(.b false), (.sl .nil 0 []), (.sl .nil 0 []), (.sl .nil 0 [])], none⟩, ⟨some 3, .mov (.con (.sl .nil 0 [])), none⟩, ⟨some 4, .alloc [(.b false), (.sl .nil 0 []), (.sl .nil 0 []), (.sl .nil 0 [])], none⟩])
 (.seq (.reg [⟨some 14, .load true 4 (.tmp 1), none⟩, ⟨some 15, .call 26 [(.tmp 14)], none⟩, ⟨none, .store 4 (.tmp 1) (.tmp 15), none⟩])
 (.seq (.reg [⟨some 5, .mov (.con (.i .i64 (0))), none⟩])
 (.seq (.reg [⟨some 16, .faddr 2 (.tmp 1), none⟩, ⟨some 17, .load false 1 (.tmp 16), none⟩, ⟨some 18, .len false (.tmp 17), none⟩, ⟨some 19, .bin .sub (.tmp 18) (.con (.i .i64 (1))), none⟩, ⟨some 6, .mov (.tmp 19), none⟩])
 (.seq (.seq (.reg [⟨some 20, .faddr 0 (.tmp 1), none⟩, ⟨some 21, .load false 1 (.tmp 20), none⟩])
 (.cond (.tmp 21) (.seq (.reg [⟨some 5, .mov (.con (.i .i64 (1))), none⟩])
 (.reg [⟨some 22, .faddr 1 (.tmp 1), none⟩, ⟨some 23, .load false 1 (.tmp 22), none⟩, ⟨some 24, .len false (.tmp 23), none⟩, ⟨some 25, .bin .sub (.tmp 24) (.con (.i .i64 (1))), none⟩, ⟨some 6, .mov (.tmp 25), none⟩])) .skip))
 (.seq (.seq (.reg [⟨some 26, .mov (.tmp 6), none⟩, ⟨some 27, .mov (.tmp 5), none⟩, ⟨some 28, .bin .lss (.tmp 26) (.tmp 27), none⟩, ⟨some 29, .mov (.tmp 28), none⟩, ⟨some 30, .faddr 0 (.tmp 1), some (29, false)⟩, ⟨some 31, .load false 1 (.tmp 30), some (29, false)⟩, ⟨some 32, .un .not (.tmp 31), some (29, false)⟩, ⟨some 33, .mov (.tmp 32), some (29, false)⟩, ⟨some 34, .faddr 3 (.tmp 1), some (33, true)⟩, ⟨some 35, .load false 1 (.tmp 34), some (33, true)⟩, ⟨some 36, .len false (.tmp 35), some (33, true)⟩, ⟨some 37, .faddr 2 (.tmp 1), some (33, true)⟩, ⟨some 38, .load false 1 (.tmp 37), some (33, true)⟩, ⟨some 39, .len false (.tmp 38), some (33, true)⟩, ⟨some 40, .bin .leq (.tmp 36) (.tmp 39), some (33, true)⟩, ⟨some 41, .pick (.tmp 33) (.tmp 40) (.con (.b false)), some (29, false)⟩, ⟨some 42, .pick (.tmp 29) (.con (.b true)) (.tmp 41), none⟩])
 (.cond (.tmp 42) (.seq (.reg [⟨some 43, .load true 4 (.tmp 1), none⟩, ⟨some 44, .build [(.b false), (.sl .nil 0 []), (.sl .nil 0 []), (.sl .nil 0 [])] [], none⟩, ⟨none, .store 4 (.tmp 2) (.tmp 43), none⟩, ⟨some 3, .mov (.con (.sl .nil 0 [])), none⟩, ⟨none, .store 4 (.tmp 4) (.tmp 44), none⟩])
 .ret) .skip))
 (.seq (.reg [⟨some 45, .mov (.tmp 5), none⟩, ⟨some 7, .mov (.tmp 45), none⟩])
 (.seq (.reg [⟨some 8, .mov (.con (.i .i64 (0))), none⟩])
 (.seq (.seq (.reg [⟨some 46, .mov (.tmp 5), none⟩, ⟨some 9, .mov (.tmp 46), none⟩])
 (.block 0 (.loop [(1, .none), (2, .none), (4, .none), (5, .none), (6, .none), (7, .none), (8, .none), (9, .none)] (.seq (.seq (.reg [⟨some 47, .mov (.tmp 9), none⟩, ⟨some 48, .mov (.tmp 6), none⟩, ⟨some 49, .bin .leq (.tmp 47) (.tmp 48), none⟩])
 (.cond (.tmp 49) .skip (.exit 0)))
 (.seq (.block 1 (.seq (.reg [⟨some 53, .load true 4 (.tmp 1), none⟩, ⟨some 54, .mov (.tmp 9), none⟩, ⟨some 55, .call 42 [(.tmp 53), (.tmp 54)], none⟩, ⟨some 52, .mov (.tmp 55), none⟩, ⟨some 56, .ext (.tmp 52) 0, none⟩, ⟨some 57, .ext (.tmp 52) 1, none⟩, ⟨some 58, .ext (.tmp 52) 2, none⟩, ⟨some 10, .alloc [(.b false), (.sl .nil 0 []), (.sl .nil 0 []), (.sl .nil 0 [])], none⟩, ⟨some 12, .alloc [(.b false), (.sl .nil 0 []), (.sl .nil 0 []), (.sl .nil 0 [])], none⟩, ⟨none, .store 4 (.tmp 10) (.tmp 56), none⟩, ⟨some 11, .mov (.tmp 57), none⟩, ⟨none, .store 4 (.tmp 12) (.tmp 58), none⟩])
 (.seq (.draw [⟨some 59, .load true 4 (.tmp 10), none⟩, ⟨some 60, .call 15 [(.tmp 59)], none⟩, ⟨some 61, .load true 4 (.tmp 12), none⟩, ⟨some 62, .call 15 [(.tmp 61)], none⟩, ⟨some 63, .mx [(.tmp 60), (.tmp 62)], none⟩, ⟨some 13, .mov (.tmp 63), none⟩] [(0, 2), (1, 2)])
 (.seq (.reg [⟨some 64, .mov (.tmp 9), none⟩, ⟨some 65, .mov (.tmp 5), none⟩, ⟨some 66, .bin .eql (.tmp 64) (.tmp 65), none⟩, ⟨some 67, .mov (.tmp 66), none⟩, ⟨some 68, .mov (.tmp 13), some (67, false)⟩, ⟨some 69, .mov (.tmp 8), some (67, false)⟩, ⟨some 70, .bin .lss (.tmp 68) (.tmp 69), some (67, false)⟩, ⟨some 71, .pick (.tmp 67) (.con (.b true)) (.tmp 70), none⟩])
 (.cond (.tmp 71) (.seq (.reg [⟨some 72, .mov (.tmp 9), none⟩, ⟨some 7, .mov (.tmp 72), none⟩])
 (.reg [⟨some 73, .mov (.tmp 13), none⟩, ⟨some 8, .mov (.tmp 73), none⟩])) .skip)))))
 (.reg [⟨some 50, .mov (.tmp 9), none⟩, ⟨some 51, .bin .add (.tmp 50) (.con (.i .i64 (1))), none⟩, ⟨some 9, .mov (.tmp 51), none⟩]))))))
 (.seq (.reg [⟨some 74, .load true 4 (.tmp 1), none⟩, ⟨some 75, .mov (.tmp 7), none⟩, ⟨some 76, .call 42 [(.tmp 74), (.tmp 75)], none⟩, ⟨some 77, .ext (.tmp 76) 0, none⟩, ⟨some 78, .ext (.tmp 76) 1, none⟩, ⟨some 79, .ext (.tmp 76) 2, none⟩, ⟨none, .store 4 (.tmp 2) (.tmp 77), none⟩, ⟨some 3, .mov (.tmp 78), none⟩, ⟨none, .store 4 (.tmp 4) (.tmp 79), none⟩])
 .ret)))))))))), [.cell 2 true 4, .tmp 3, .cell 4 true 4]⟩
theorem c19 : compF Try.prog k19 [] Try.f19 = some a19 := by kernel_rfl
/-- ramble/rambleref08.Same -/
def k20 : Nat → List (Nat × H) := fun r => if r = 4 then [(2, .none), (3, .none), (5, .none)] else if r = 11 then [(2, .none), (3, .none), (8, .none)] else if r = 16 then [(2, .none), (3, .none), (9, .none)] else []
def a20 : AFun := ⟨2, (.seq (.reg [⟨some 2, .box (.tmp 0), none⟩, ⟨some 3, .box (.tmp 1), none⟩, ⟨some 4, .mov (.con (.b false)), none⟩])
 (.seq (.seq (.reg [⟨some 10, .faddr 0 (.tmp 2), none⟩, ⟨some 11, .load false 1 (.tmp 10), none⟩, ⟨some 12, .faddr 0 (.tmp 3), none⟩, ⟨some 13, .load false 1 (.tmp 12), none⟩, ⟨some 14, .eqb true (.tmp 11) (.tmp 13), none⟩, ⟨some 15, .mov (.tmp 14), none⟩, ⟨some 16, .faddr 1 (.tmp 2), some (15, false)⟩, ⟨some 17, .load false 1 (.tmp 16), some (15, false)⟩, ⟨some 18, .len false (.tmp 17), some (15, false)⟩, ⟨some 19, .faddr 1 (.tmp 3), some (15, false)⟩, ⟨some 20, .load false 1 (.tmp 19), some (15, false)⟩, ⟨some 21, .len false (.tmp 20), some (15, false)⟩, ⟨some 22, .bin .neq (.tmp 18) (.tmp 21), some (15, false)⟩, ⟨some 23, .pick (.tmp 15) (.con (.b true)) (.tmp 22), none⟩, ⟨some 24, .mov (.tmp 23), none⟩, ⟨some 25, .faddr 2 (.tmp 2), some (24, false)⟩, ⟨some 26, .load false 1 (.tmp 25), some (24, false)⟩, ⟨some 27, .len false (.tmp 26), some (24, false)⟩, ⟨some 28, .faddr 2 (.tmp 3), some (24, false)⟩, ⟨some 29, .load false 1 (.tmp 28), some (24, false)⟩, ⟨some 30, .len false (.tmp 29), some (24, false)⟩, ⟨some 31, .bin .neq (.tmp 27) (.tmp 30), some (24, false)⟩, ⟨some 32, .pick (.tmp 24) (.con (.b true)) (.tmp 31), none⟩, ⟨some 33, .mov (.tmp 32), none⟩, ⟨some 34, .faddr 3 (.tmp 2), some (33, false)⟩, ⟨some 35, .load false 1 (.tmp 34), some (33, false)⟩, ⟨some 36, .len false (.tmp 35), some (33, false)⟩, ⟨some 37, .faddr 3 (.tmp 3), some (33, false)⟩, ⟨some 38, .load false 1 (.tmp 37), some (33, false)⟩, ⟨some 39, .len false (.tmp 38), some (33, false)⟩, ⟨some 40, .bin .neq (.tmp 36) (.tmp 39), some (33, false)⟩, ⟨some 41, .pick (.tmp 33) (.con (.b true)) (.tmp 40), none⟩])
 (.cond (.tmp 41) (.seq (.reg [⟨some 4, .mov (.con (.b false)), none⟩])
 .ret) .skip))
 (.seq (.seq (.reg [⟨some 5, .mov (.con (.i .i64 (0))), none⟩])
 (.block 0 (.loop [(2, .none), (3, .none), (5, .none)] (.seq (.seq (.reg [⟨some 42, .mov (.tmp 5), none⟩, ⟨some 43, .faddr 1 (.tmp 2), none⟩, ⟨some 44, .load false 1 (.tmp 43), none⟩, ⟨some 45, .len false (.tmp 44), none⟩, ⟨some 46, .bin .lss (.tmp 42) (.tmp 45), none⟩])
 (.cond (.tmp 46) .skip (.exit 0)))
 (.seq (.block 1 (.seq (.reg [⟨some 49, .faddr 1 (.tmp 2), none⟩, ⟨some 50, .load false 1 (.tmp 49), none⟩, ⟨some 51, .mov (.tmp 5), none⟩, ⟨some 52, .iaddr 4 (.tmp 50) (.tmp 51), none⟩, ⟨some 53, .load true 4 (.tmp 52), none⟩, ⟨some 6, .alloc [(.sl .nil 0 []), (.sl .nil 0 []), (.i .i64 (0)), (.i .i64 (0))], none⟩, ⟨none, .store 4 (.tmp 6) (.tmp 53), none⟩])
 (.seq (.reg [⟨some 54, .faddr 1 (.tmp 3), none⟩, ⟨some 55, .load false 1 (.tmp 54), none⟩, ⟨some 56, .mov (.tmp 5), none⟩, ⟨some 57, .iaddr 4 (.tmp 55) (.tmp 56), none⟩, ⟨some 58, .load true 4 (.tmp 57), none⟩, ⟨some 7, .alloc [(.sl .nil 0 []), (.sl .nil 0 []), (.i .i64 (0)), (.i .i64 (0))], none⟩, ⟨none, .store 4 (.tmp 7) (.tmp 58), none⟩])
 (.seq (.reg [⟨some 59, .faddr 0 (.tmp 6), none⟩, ⟨some 60, .load false 1 (.tmp 59), none⟩, ⟨some 61, .conv .b2s (.tmp 60), none⟩, ⟨some 62, .faddr 0 (.tmp 7), none⟩, ⟨some 63, .load false 1 (.tmp 62), none⟩, ⟨some 64, .conv .b2s (.tmp 63), none⟩, ⟨some 65, .bin .neq (.tmp 61) (.tmp 64), none⟩, ⟨some 66, .mov (.tmp 65), none⟩, ⟨some 67, .faddr 1 (.tmp 6), some (66, false)⟩, ⟨some 68, .load false 1 (.tmp 67), some (66, false)⟩, ⟨some 69, .conv .b2s (.tmp 68), some (66, false)⟩, ⟨some 70, .faddr 1 (.tmp 7), some (66, false)⟩, ⟨some 71, .load false 1 (.tmp 70), some (66, false)⟩, ⟨some 72, .conv .b2s (.tmp 71), some (66, false)⟩, ⟨some 73, .bin .neq (.tmp 69) (.tmp 72), some (66, false)⟩, ⟨some 74, .pick (.tmp 66) (.con (.b true)) (.tmp 73), none⟩, ⟨some 75, .mov (.tmp 74), none⟩, ⟨some 76, .faddr 2 (.tmp 6), some (75, false)⟩, ⟨some 77, .load false 1 (.tmp 76), some (75, false)⟩, ⟨some 78, .faddr 2 (.tmp 7), some (75, false)⟩, ⟨some 79, .load false 1 (.tmp 78), some (75, false)⟩, ⟨some 80, .bin .neq (.tmp 77) (.tmp 79), some (75, false)⟩, ⟨some 81, .pick (.tmp 75) (.con (.b true)) (.tmp 80), none⟩, ⟨some 82, .mov (.tmp 81), none⟩, ⟨some 83, .faddr 3 (.tmp 6), some (82, false)⟩, ⟨some 84, .load false 1 (.tmp 83), some (82, false)⟩, ⟨some 85, .faddr 3 (.tmp 7), some (82, false)⟩, ⟨some 86, .load false 1 (.tmp 85), some (82, false)⟩, ⟨some 87, .bin .neq (.tmp 84) (.tmp 86), some (82, false)⟩, ⟨some 88, .pick (.tmp 82) (.con (.b true)) (.tmp 87), none⟩])
 (.cond (.tmp 88) (.seq (.reg [⟨some 4, .mov (.con (.b false)), none⟩])
 .ret) .skip)))))
 (.reg [⟨some 47, .mov (.tmp 5), none⟩, ⟨some 48, .bin .add (.tmp 47) (.con (.i .i64 (1))), none⟩, ⟨some 5, .mov (.tmp 48), none⟩]))))))
 (.seq (.seq (.reg [⟨some 8, .mov (.con (.i .i64 (0))), none⟩])
 (.block 2 (.loop [(2, .none), (3, .none), (8, .none)] (.seq (.seq (.reg [⟨some 89, .mov (.tmp 8), none⟩, ⟨some 90, .faddr 2 (.tmp 2), none⟩, ⟨some 91, .load false 1 (.tmp 90), none⟩, ⟨some 92, .len false (.tmp 91), none⟩, ⟨some 93, .bin .lss (.tmp 89) (.tmp 92), none⟩])
 (.cond (.tmp 93) .skip (.exit 2)))
 (.seq (.block 3 (.seq (.draw [⟨some 96, .faddr 2 (.tmp 2), none⟩, ⟨some 97, .load false 1 (.tmp 96), none⟩, ⟨some 98, .mov (.tmp 8), none⟩, ⟨some 99, .iaddr 1 (.tmp 97) (.tmp 98), none⟩, ⟨some 100, .load false 1 (.tmp 99), none⟩, ⟨some 101, .conv .b2s (.tmp 100), none⟩, ⟨some 102, .faddr 2 (.tmp 3), none⟩, ⟨some 103, .load false 1 (.tmp 102), none⟩, ⟨some 104, .mov (.tmp 8), none⟩, ⟨some 105, .iaddr 1 (.tmp 103) (.tmp 104), none⟩, ⟨some 106, .load false 1 (.tmp 105), none⟩, ⟨some 107, .conv .b2s (.tmp 106), none⟩, ⟨some 108, .bin .neq (.tmp 101) (.tmp 107), none⟩] [(1, 7), (3, 7), (4, 7), (5, 7), (1, 9), (3, 9), (4, 9), (5, 9), (1, 10), (3, 10), (4, 10), (5, 10), (1, 11), (3, 11), (4, 11), (5, 11)])
 (.cond (.tmp 108) (.seq (.reg [⟨some 4, .mov (.con (.b false)), none⟩])
 .ret) .skip)))
 (.reg [⟨some 94, .mov (.tmp 8), none⟩, ⟨some 95, .bin .add (.tmp 94) (.con (.i .i64 (1))), none⟩, ⟨some 8, .mov (.tmp 95), none⟩]))))))
 (.seq (.seq (.reg [⟨some 9, .mov (.con (.i .i64 (0))), none⟩])
 (.block 4 (.loop [(2, .none), (3, .none), (9, .none)] (.seq (.seq (.reg [⟨some 109, .mov (.tmp 9), none⟩, ⟨some 110, .faddr 3 (.tmp 2), none⟩, ⟨some 111, .load false 1 (.tmp 110), none⟩, ⟨some 112, .len false (.tmp 111), none⟩, ⟨some 113, .bin .lss (.tmp 109) (.tmp 112), none⟩])
 (.cond (.tmp 113) .skip (.exit 4)))
 (.seq (.block 5 (.seq (.draw [⟨some 116, .faddr 3 (.tmp 2), none⟩, ⟨some 117, .load false 1 (.tmp 116), none⟩, ⟨some 118, .mov (.tmp 9), none⟩, ⟨some 119, .iaddr 1 (.tmp 117) (.tmp 118), none⟩, ⟨some 120, .load false 1 (.tmp 119), none⟩, ⟨some 121, .faddr 3 (.tmp 3), none⟩, ⟨some 122, .load false 1 (.tmp 121), none⟩, ⟨some 123, .mov (.tmp 9), none⟩, ⟨some 124, .iaddr 1 (.tmp 122) (.tmp 123), none⟩, ⟨some 125, .load false 1 (.tmp 124), none⟩, ⟨some 126, .bin .neq (.tmp 120) (.tmp 125), none⟩] [(1, 6), (3, 6), (4, 6), (1, 8), (3, 8), (4, 8), (1, 9), (3, 9), (4, 9)])
 (.cond (.tmp 126) (.seq (.reg [⟨some 4, .mov (.con (.b false)), none⟩])
 .ret) .skip)))
 (.reg [⟨some 114, .mov (.tmp 9), none⟩, ⟨some 115, .bin .add (.tmp 114) (.con (.i .i64 (1))), none⟩, ⟨some 9, .mov (.tmp 115), none⟩]))))))
 (.seq (.reg [⟨some 4, .mov (.con (.b true)), none⟩])
 .ret)))))), [.tmp 4]⟩
theorem c20 : compF Try.prog k20 [] Try.f20 = some a20 := by kernel_rfl
/-- ramble/node.Parse -/
def k21 : Nat → List (Nat × H) := fun r => if r = 10 then [(2, .none), (4, .none), (5, .cells [.none, .row 44 4]), (6, .none)] else if r = 15 then [(2, .none), (4, .none), (5, .cells [.none, .none, .row 27 1]), (7, .none)] else if r = 17 then [(2, .none), (4, .none), (5, .cells [.none, .none, .none, .row 3 1]), (7, .none)] else []
def a21 : AFun := ⟨1, (.seq (.reg [⟨some 2, .alloc [(.b false), (.sl .nil 0 []), (.sl .nil 0 []), (.sl .nil 0 [])], none⟩, ⟨some 3, .mov (.con (.i .i64 (0))), none⟩])
 (.seq (.seq (.reg [⟨some 8, .mov (.tmp 0), none⟩, ⟨some 9, .len false (.tmp 8), none⟩, ⟨some 10, .bin .gtr (.tmp 9) (.con (.i .i64 (448))), none⟩])
 (.cond (.tmp 10) (.seq (.reg [⟨some 11, .build [(.b false), (.sl .nil 0 []), (.sl .nil 0 []), (.sl .nil 0 [])] [], none⟩, ⟨none, .store 4 (.tmp 2) (.tmp 11), none⟩, ⟨some 3, .mov (.con (.i .i64 (80))), none⟩])
 .ret) .skip))
 (.seq (.reg [⟨some 12, .mov (.tmp 0), none⟩, ⟨some 13, .build [(.sl .nil 0 []), (.b false)] [(0, 1, (.tmp 12))], none⟩, ⟨some 14, .box (.tmp 13), none⟩, ⟨some 4, .mov (.tmp 14), none⟩])
 (.seq (.reg [⟨some 5, .alloc [(.b false), (.sl .nil 0 []), (.sl .nil 0 []), (.sl .nil 0 [])], none⟩])
 (.seq (.seq (.reg [⟨some 15, .mov (.tmp 4), none⟩, ⟨some 16, .call 43 [(.tmp 15)], none⟩])
 (.block 0 (.seq (.reg [⟨some 21, .bin .eql (.tmp 16) (.con (.i .u8 (1))), none⟩, ⟨some 20, .mov (.tmp 21), none⟩])
 (.cond (.tmp 20) (.seq (.reg [⟨some 22, .faddr 0 (.tmp 5), none⟩, ⟨none, .store 1 (.tmp 22) (.con (.b true)), none⟩])
 (.seq (.reg [⟨some 23, .mov (.tmp 4), none⟩, ⟨some 24, .call 44 [(.tmp 23), (.con (.i .i64 (448)))], none⟩, ⟨some 6, .mov (.tmp 24), none⟩])
 (.block 1 (.loop [(2, .none), (4, .none), (5, .cells [.none, .row 44 4]), (6, .none)] (.seq (.seq (.reg [⟨some 25, .mov (.tmp 6), none⟩, ⟨some 26, .bin .gtr (.tmp 25) (.con (.i .i64 (0))), none⟩, ⟨some 27, .mov (.tmp 26), none⟩, ⟨some 28, .mov (.tmp 4), some (27, true)⟩, ⟨some 29, .nilck (.tmp 28), some (27, true)⟩, ⟨some 30, .faddr 1 (.tmp 29), some (27, true)⟩, ⟨some 31, .load false 1 (.tmp 30), some (27, true)⟩, ⟨some 32, .un .not (.tmp 31), some (27, true)⟩, ⟨some 33, .pick (.tmp 27) (.tmp 32) (.con (.b false)), none⟩])
 (.cond (.tmp 33) .skip (.exit 1)))
 (.seq (.block 2 (.draw [⟨some 36, .faddr 1 (.tmp 5), none⟩, ⟨some 37, .load false 1 (.tmp 36), none⟩, ⟨some 38, .mov (.tmp 4), none⟩, ⟨some 39, .call 45 [(.tmp 38)], none⟩, ⟨some 40, .bslice 44 [(.sl .nil 0 []), (.sl .nil 0 []), (.i .i64 (0)), (.i .i64 (0))] 1 [(0, (.tmp 39))], none⟩, ⟨some 41, .app 44 4 (.tmp 37) (.tmp 40), none⟩, ⟨some 42, .faddr 1 (.tmp 5), none⟩, ⟨none, .store 1 (.tmp 42) (.tmp 41), none⟩] [(1, 3), (1, 4)]))
 (.reg [⟨some 34, .mov (.tmp 6), none⟩, ⟨some 35, .bin .sub (.tmp 34) (.con (.i .i64 (1))), none⟩, ⟨some 6, .mov (.tmp 35), none⟩]))))))) (.seq (.reg [⟨some 44, .bin .eql (.tmp 16) (.con (.i .u8 (2))), none⟩, ⟨some 43, .mov (.tmp 44), none⟩])
 (.cond (.tmp 43) (.seq (.reg [⟨some 45, .mov (.tmp 4), none⟩, ⟨some 46, .call 44 [(.tmp 45), (.con (.i .i64 (448)))], none⟩, ⟨some 7, .mov (.tmp 46), none⟩])
 (.seq (.block 3 (.loop [(2, .none), (4, .none), (5, .cells [.none, .none, .row 27 1]), (7, .none)] (.seq (.seq (.reg [⟨some 47, .faddr 2 (.tmp 5), none⟩, ⟨some 48, .load false 1 (.tmp 47), none⟩, ⟨some 49, .len false (.tmp 48), none⟩, ⟨some 50, .mov (.tmp 7), none⟩, ⟨some 51, .bin .lss (.tmp 49) (.tmp 50), none⟩, ⟨some 52, .mov (.tmp 51), none⟩, ⟨some 53, .mov (.tmp 4), some (52, true)⟩, ⟨some 54, .nilck (.tmp 53), some (52, true)⟩, ⟨some 55, .faddr 1 (.tmp 54), some (52, true)⟩, ⟨some 56, .load false 1 (.tmp 55), some (52, true)⟩, ⟨some 57, .un .not (.tmp 56), some (52, true)⟩, ⟨some 58, .pick (.tmp 52) (.tmp 57) (.con (.b false)), none⟩])
 (.cond (.tmp 58) .skip (.exit 3)))
 (.block 4 (.draw [⟨some 59, .faddr 2 (.tmp 5), none⟩, ⟨some 60, .load false 1 (.tmp 59), none⟩, ⟨some 61, .mov (.tmp 4), none⟩, ⟨some 62, .call 46 [(.tmp 61)], none⟩, ⟨some 63, .bslice 27 [(.sl .nil 0 [])] 1 [(0, (.tmp 62))], none⟩, ⟨some 64, .app 27 1 (.tmp 60) (.tmp 63), none⟩, ⟨some 65, .faddr 2 (.tmp 5), none⟩, ⟨none, .store 1 (.tmp 65) (.tmp 64), none⟩] [(1, 3), (1, 4)])))))
 (.block 5 (.loop [(2, .none), (4, .none), (5, .cells [.none, .none, .none, .row 3 1]), (7, .none)] (.seq (.seq (.reg [⟨some 66, .faddr 3 (.tmp 5), none⟩, ⟨some 67, .load false 1 (.tmp 66), none⟩, ⟨some 68, .len false (.tmp 67), none⟩, ⟨some 69, .mov (.tmp 7), none⟩, ⟨some 70, .bin .leq (.tmp 68) (.tmp 69), none⟩, ⟨some 71, .mov (.tmp 70), none⟩, ⟨some 72, .mov (.tmp 4), some (71, true)⟩, ⟨some 73, .nilck (.tmp 72), some (71, true)⟩, ⟨some 74, .faddr 1 (.tmp 73), some (71, true)⟩, ⟨some 75, .load false 1 (.tmp 74), some (71, true)⟩, ⟨some 76, .un .not (.tmp 75), some (71, true)⟩, ⟨some 77, .pick (.tmp 71) (.tmp 76) (.con (.b false)), none⟩])
 (.cond (.tmp 77) .skip (.exit 5)))
 (.block 6 (.draw [⟨some 78, .faddr 3 (.tmp 5), none⟩, ⟨some 79, .load false 1 (.tmp 78), none⟩, ⟨some 80, .mov (.tmp 4), none⟩, ⟨some 81, .call 44 [(.tmp 80), (.con (.i .i64 (2048)))], none⟩, ⟨some 82, .bslice 3 [(.i .i64 (0))] 1 [(0, (.tmp 81))], none⟩, ⟨some 83, .app 3 1 (.tmp 79) (.tmp 82), none⟩, ⟨some 84, .faddr 3 (.tmp 5), none⟩, ⟨none, .store 1 (.tmp 84) (.tmp 83), none⟩] [(1, 3), (1, 4)]))))))) (.reg [⟨some 17, .mov (.tmp 4), none⟩, ⟨some 18, .nilck (.tmp 17), none⟩, ⟨some 19, .faddr 1 (.tmp 18), none⟩, ⟨none, .store 1 (.tmp 19) (.con (.b true)), none⟩])))))))
 (.seq (.seq (.reg [⟨some 85, .mov (.tmp 4), none⟩, ⟨some 86, .nilck (.tmp 85), none⟩, ⟨some 87, .faddr 1 (.tmp 86), none⟩, ⟨some 88, .load false 1 (.tmp 87), none⟩, ⟨some 89, .mov (.tmp 88), none⟩, ⟨some 90, .mov (.tmp 4), some (89, false)⟩, ⟨some 91, .nilck (.tmp 90), some (89, false)⟩, ⟨some 92, .faddr 0 (.tmp 91), some (89, false)⟩, ⟨some 93, .load false 1 (.tmp 92), some (89, false)⟩, ⟨some 94, .len false (.tmp 93), some (89, false)⟩, ⟨some 95, .bin .gtr (.tmp 94) (.con (.i .i64 (0))), some (89, false)⟩, ⟨some 96, .pick (.tmp 89) (.con (.b true)) (.tmp 95), none⟩, ⟨some 97, .mov (.tmp 96), none⟩, ⟨some 98, .load true 4 (.tmp 5), some (97, false)⟩, ⟨some 99, .call 12 [(.tmp 98)], some (97, false)⟩, ⟨some 100, .bin .neq (.tmp 99) (.con (.i .i64 (0))), some (97, false)⟩, ⟨some 101, .pick (.tmp 97) (.con (.b true)) (.tmp 100), none⟩])
 (.cond (.tmp 101) (.seq (.reg [⟨some 102, .build [(.b false), (.sl .nil 0 []), (.sl .nil 0 []), (.sl .nil 0 [])] [], none⟩, ⟨none, .store 4 (.tmp 2) (.tmp 102), none⟩, ⟨some 3, .mov (.con (.i .i64 (80))), none⟩])
 .ret) .skip))
 (.seq (.reg [⟨some 103, .load true 4 (.tmp 5), none⟩, ⟨none, .store 4 (.tmp 2) (.tmp 103), none⟩, ⟨some 3, .mov (.con (.i .i64 (0))), none⟩])
 .ret))))))), [.cell 2 true 4, .tmp 3]⟩
theorem c21 : compF Try.prog k21 [] Try.f21 = some a21 := by kernel_rfl
/-- ramble/rambleref08.Parse -/
def k22 : Nat → List (Nat × H) := fun r => if r = 10 then [(2, .none), (4, .none), (5, .cells [.none, .row 44 4]), (6, .none)] else if r = 16 then [(2, .none), (4, .none), (5, .cells [.none, .none, .row 27 1]), (7, .none), (8, .none)] else if r = 20 then [(2, .none), (4, .none), (5, .cells [.none, .none, .none, .row 3 1]), (7, .none), (9, .none)] else []
def a22 : AFun := ⟨1, (.seq (.reg [⟨some 2, .alloc [(.b false), (.sl .nil 0 []), (.sl .nil 0 []), (.sl .nil 0 [])], none⟩, ⟨some 3, .mov (.con (.i .i64 (0))), none⟩])
 (.seq (.seq (.reg [⟨some 10, .mov (.tmp 0), none⟩, ⟨some 11, .len false (.tmp 10), none⟩, ⟨some 12, .bin .gtr (.tmp 11) (.con (.i .i64 (448))), none⟩])
 (.cond (.tmp 12) (.seq (.reg [⟨some 13, .build [(.b false), (.sl .nil 0 []), (.sl .nil 0 []), (.sl .nil 0 [])] [], none⟩, ⟨none, .store 4 (.tmp 2) (.tmp 13), none⟩, ⟨some 3, .mov (.con (.i .i64 (80))), none⟩])
 .ret) .skip))
 (.seq (.reg [⟨some 14, .mov (.tmp 0), none⟩, ⟨some 15, .build [(.sl .nil 0 []), (.b false)] [(0, 1, (.tmp 14))], none⟩, ⟨some 16, .box (.tmp 15), none⟩, ⟨some 4, .mov (.tmp 16), none⟩])
 (.seq (.reg [⟨some 17, .build [(.b false), (.sl .nil 0 []), (.sl .nil 0 []), (.sl .nil 0 [])] [], none⟩, ⟨some 5, .alloc [(.b false), (.sl .nil 0 []), (.sl .nil 0 []), (.sl .nil 0 [])], none⟩, ⟨none, .store 4 (.tmp 5) (.tmp 17), none⟩])
 (.seq (.seq (.reg [⟨some 18, .mov (.tmp 4), none⟩, ⟨some 19, .call 47 [(.tmp 18)], none⟩])
 (.block 0 (.seq (.reg [⟨some 24, .bin .eql (.tmp 19) (.con (.i .u8 (1))), none⟩, ⟨some 23, .mov (.tmp 24), none⟩])
 (.cond (.tmp 23) (.seq (.reg [⟨some 25, .faddr 0 (.tmp 5), none⟩, ⟨none, .store 1 (.tmp 25) (.con (.b true)), none⟩])
 (.seq (.reg [⟨some 26, .mov (.tmp 4), none⟩, ⟨some 27, .call 48 [(.tmp 26), (.con (.i .i64 (448)))], none⟩, ⟨some 6, .mov (.tmp 27), none⟩])
 (.block 1 (.loop [(2, .none), (4, .none), (5, .cells [.none, .row 44 4]), (6, .none)] (.seq (.seq (.reg [⟨some 28, .mov (.tmp 6), none⟩, ⟨some 29, .bin .gtr (.tmp 28) (.con (.i .i64 (0))), none⟩, ⟨some 30, .mov (.tmp 29), none⟩, ⟨some 31, .mov (.tmp 4), some (30, true)⟩, ⟨some 32, .nilck (.tmp 31), some (30, true)⟩, ⟨some 33, .faddr 1 (.tmp 32), some (30, true)⟩, ⟨some 34, .load false 1 (.tmp 33), some (30, true)⟩, ⟨some 35, .un .not (.tmp 34), some (30, true)⟩, ⟨some 36, .pick (.tmp 30) (.tmp 35) (.con (.b false)), none⟩])
 (.cond (.tmp 36) .skip (.exit 1)))
 (.seq (.block 2 (.draw [⟨some 39, .faddr 1 (.tmp 5), none⟩, ⟨some 40, .load false 1 (.tmp 39), none⟩, ⟨some 41, .mov (.tmp 4), none⟩, ⟨some 42, .call 49 [(.tmp 41)], none⟩, ⟨some 43, .bslice 44 [(.sl .nil 0 []), (.sl .nil 0 []), (.i .i64 (0)), (.i .i64 (0))] 1 [(0, (.tmp 42))], none⟩, ⟨some 44, .app 44 4 (.tmp 40) (.tmp 43), none⟩, ⟨some 45, .faddr 1 (.tmp 5), none⟩, ⟨none, .store 1 (.tmp 45) (.tmp 44), none⟩] [(1, 3), (1, 4)]))
 (.reg [⟨some 37, .mov (.tmp 6), none⟩, ⟨some 38, .bin .sub (.tmp 37) (.con (.i .i64 (1))), none⟩, ⟨some 6, .mov (.tmp 38), none⟩]))))))) (.seq (.reg [⟨some 47, .bin .eql (.tmp 19) (.con (.i .u8 (2))), none⟩, ⟨some 46, .mov (.tmp 47), none⟩])
 (.cond (.tmp 46) (.seq (.reg [⟨some 48, .mov (.tmp 4), none⟩, ⟨some 49, .call 48 [(.tmp 48), (.con (.i .i64 (448)))], none⟩, ⟨some 7, .mov (.tmp 49), none⟩])
 (.seq (.seq (.reg [⟨some 8, .mov (.con (.i .i64 (0))), none⟩])
 (.block 3 (.loop [(2, .none), (4, .none), (5, .cells [.none, .none, .row 27 1]), (7, .none), (8, .none)] (.seq (.seq (.reg [⟨some 50, .mov (.tmp 8), none⟩, ⟨some 51, .mov (.tmp 7), none⟩, ⟨some 52, .bin .lss (.tmp 50) (.tmp 51), none⟩, ⟨some 53, .mov (.tmp 52), none⟩, ⟨some 54, .mov (.tmp 4), some (53, true)⟩, ⟨some 55, .nilck (.tmp 54), some (53, true)⟩, ⟨some 56, .faddr 1 (.tmp 55), some (53, true)⟩, ⟨some 57, .load false 1 (.tmp 56), some (53, true)⟩, ⟨some 58, .un .not (.tmp 57), some (53, true)⟩, ⟨some 59, .pick (.tmp 53) (.tmp 58) (.con (.b false)), none⟩])
 (.cond (.tmp 59) .skip (.exit 3)))
 (.seq (.block 4 (.draw [⟨some 62, .faddr 2 (.tmp 5), none⟩, ⟨some 63, .load false 1 (.tmp 62), none⟩, ⟨some 64, .mov (.tmp 4), none⟩, ⟨some 65, .call 50 [(.tmp 64)], none⟩, ⟨some 66, .bslice 27 [(.sl .nil 0 [])] 1 [(0, (.tmp 65))], none⟩, ⟨some 67, .app 27 1 (.tmp 63) (.tmp 66), none⟩, ⟨some 68, .faddr 2 (.tmp 5), none⟩, ⟨none, .store 1 (.tmp 68) (.tmp 67), none⟩] [(1, 3), (1, 4)]))
 (.reg [⟨some 60, .mov (.tmp 8), none⟩, ⟨some 61, .bin .add (.tmp 60) (.con (.i .i64 (1))), none⟩, ⟨some 8, .mov (.tmp 61), none⟩]))))))
 (.seq (.reg [⟨some 9, .mov (.con (.i .i64 (0))), none⟩])
 (.block 5 (.loop [(2, .none), (4, .none), (5, .cells [.none, .none, .none, .row 3 1]), (7, .none), (9, .none)] (.seq (.seq (.reg [⟨some 69, .mov (.tmp 9), none⟩, ⟨some 70, .mov (.tmp 7), none⟩, ⟨some 71, .bin .leq (.tmp 69) (.tmp 70), none⟩, ⟨some 72, .mov (.tmp 71), none⟩, ⟨some 73, .mov (.tmp 4), some (72, true)⟩, ⟨some 74, .nilck (.tmp 73), some (72, true)⟩, ⟨some 75, .faddr 1 (.tmp 74), some (72, true)⟩, ⟨some 76, .load false 1 (.tmp 75), some (72, true)⟩, ⟨some 77, .un .not (.tmp 76), some (72, true)⟩, ⟨some 78, .pick (.tmp 72) (.tmp 77) (.con (.b false)), none⟩])
 (.cond (.tmp 78) .skip (.exit 5)))
 (.seq (.block 6 (.draw [⟨some 81, .faddr 3 (.tmp 5), none⟩, ⟨some 82, .load false 1 (.tmp 81), none⟩, ⟨some 83, .mov (.tmp 4), none⟩, ⟨some 84, .call 48 [(.tmp 83), (.con (.i .i64 (2048)))], none⟩, ⟨some 85, .bslice 3 [(.i .i64 (0))] 1 [(0, (.tmp 84))], none⟩, ⟨some 86, .app 3 1 (.tmp 82) (.tmp 85), none⟩, ⟨some 87, .faddr 3 (.tmp 5), none⟩, ⟨none, .store 1 (.tmp 87) (.tmp 86), none⟩] [(1, 3), (1, 4)]))
 (.reg [⟨some 79, .mov (.tmp 9), none⟩, ⟨some 80, .bin .add (.tmp 79) (.con (.i .i64 (1))), none⟩, ⟨some 9, .mov (.tmp 80), none⟩])))))))) (.reg [⟨some 20, .mov (.tmp 4), none⟩, ⟨some 21, .nilck (.tmp 20), none⟩, ⟨some 22, .faddr 1 (.tmp 21), none⟩, ⟨none, .store 1 (.tmp 22) (.con (.b true)), none⟩])))))))
 (.seq (.seq (.reg [⟨some 88, .mov (.tmp 4), none⟩, ⟨some 89, .nilck (.tmp 88), none⟩, ⟨some 90, .faddr 1 (.tmp 89), none⟩, ⟨some 91, .load false 1 (.tmp 90), none⟩, ⟨some 92, .mov (.tmp 91), none⟩, ⟨some 93, .mov (.tmp 4), some (92, false)⟩, ⟨some 94, .nilck (.tmp 93), some (92, false)⟩, ⟨some 95, .faddr 0 (.tmp 94), some (92, false)⟩, ⟨some 96, .load false 1 (.tmp 95), some (92, false)⟩, ⟨some 97, .len false (.tmp 96), some (92, false)⟩, ⟨some 98, .bin .gtr (.tmp 97) (.con (.i .i64 (0))), some (92, false)⟩, ⟨some 99, .pick (.tmp 92) (.con (.b true)) (.tmp 98), none⟩, ⟨some 100, .mov (.tmp 99), none⟩, ⟨some 101, .load true 4 (.tmp 5), some (100, false)⟩, ⟨some 102, .call 13 [(.tmp 101)], some (100, false)⟩, ⟨some 103, .bin .neq (.tmp 102) (.con (.i .i64 (0))), some (100, false)⟩, ⟨some 104, .pick (.tmp 100) (.con (.b true)) (.tmp 103), none⟩])
 (.cond (.tmp 104) (.seq (.reg [⟨some 105, .build [(.b false), (.sl .nil 0 []), (.sl .nil 0 []), (.sl .nil 0 [])] [], none⟩, ⟨none, .store 4 (.tmp 2) (.tmp 105), none⟩, ⟨some 3, .mov (.con (.i .i64 (80))), none⟩])
 .ret) .skip))
 (.seq (.reg [⟨some 106, .load true 4 (.tmp 5), none⟩, ⟨none, .store 4 (.tmp 2) (.tmp 106), none⟩, ⟨some 3, .mov (.con (.i .i64 (0))), none⟩])
 .ret))))))), [.cell 2 true 4, .tmp 3]⟩
theorem c22 : compF Try.prog k22 [] Try.f22 = some a22 := by kernel_rfl
/-- ramble/node.Find -/
def k23 : Nat → List (Nat × H) := fun _ => []
def a23 : AFun := ⟨2, (.seq (.reg [⟨some 2, .box (.tmp 0), none⟩, ⟨some 3, .box (.tmp 1), none⟩, ⟨some 4, .mov (.con (.i .i64 (0))), none⟩, ⟨some 5, .mov (.con (.b false)), none⟩])
 (.seq (.reg [⟨some 7, .faddr 1 (.tmp 2), none⟩, ⟨some 8, .load false 1 (.tmp 7), none⟩, ⟨some 9, .mkfn 52 [(.tmp 3)], none⟩, ⟨some 10, .call 51 [(.tmp 8), (.tmp 9)], none⟩, ⟨some 6, .mov (.tmp 10), none⟩])
 (.seq (.seq (.reg [⟨some 11, .mov (.tmp 6), none⟩, ⟨some 12, .bin .lss (.tmp 11) (.con (.i .i64 (0))), none⟩])
 (.cond (.tmp 12) (.seq (.reg [⟨some 13, .faddr 1 (.tmp 2), none⟩, ⟨some 14, .load false 1 (.tmp 13), none⟩, ⟨some 15, .len false (.tmp 14), none⟩, ⟨some 4, .mov (.tmp 15), none⟩, ⟨some 5, .mov (.con (.b false)), none⟩])
 .ret) .skip))
 (.seq (.draw [⟨some 16, .mov (.tmp 6), none⟩, ⟨some 17, .faddr 1 (.tmp 2), none⟩, ⟨some 18, .load false 1 (.tmp 17), none⟩, ⟨some 19, .mov (.tmp 6), none⟩, ⟨some 20, .iaddr 4 (.tmp 18) (.tmp 19), none⟩, ⟨some 21, .faddr 0 (.tmp 20), none⟩, ⟨some 22, .load false 1 (.tmp 21), none⟩, ⟨some 23, .load false 1 (.tmp 3), none⟩, ⟨some 24, .call 16 [(.tmp 22), (.tmp 23)], none⟩, ⟨some 4, .mov (.tmp 16), none⟩, ⟨some 5, .mov (.tmp 24), none⟩] [(2, 7), (4, 7), (6, 7)])
 .ret)))), [.tmp 4, .tmp 5]⟩
theorem c23 : compF Try.prog k23 [] Try.f23 = some a23 := by kernel_rfl
/-- ramble/rambleref08.Clone -/
def k26 : Nat → List (Nat × H) := fun r => if r = 3 then [(1, .none), (2, .none), (3, .cells [.none, .row 44 4]), (4, .none)] else if r = 10 then [(1, .none), (2, .none), (3, .cells [.none, .none, .row 27 1]), (6, .none)] else []
def a26 : AFun := ⟨1, (.seq (.reg [⟨some 1, .box (.tmp 0), none⟩, ⟨some 2, .alloc [(.b false), (.sl .nil 0 []), (.sl .nil 0 []), (.sl .nil 0 [])], none⟩])
 (.seq (.draw [⟨some 7, .faddr 0 (.tmp 1), none⟩, ⟨some 8, .load false 1 (.tmp 7), none⟩, ⟨some 9, .faddr 3 (.tmp 1), none⟩, ⟨some 10, .load false 1 (.tmp 9), none⟩, ⟨some 11, .app 3 1 (.con (.sl .nil 0 [])) (.tmp 10), none⟩, ⟨some 12, .build [(.b false), (.sl .nil 0 []), (.sl .nil 0 []), (.sl .nil 0 [])] [(0, 1, (.tmp 8)), (3, 1, (.tmp 11))], none⟩, ⟨some 3, .alloc [(.b false), (.sl .nil 0 []), (.sl .nil 0 []), (.sl .nil 0 [])], none⟩, ⟨none, .store 4 (.tmp 3) (.tmp 12), none⟩] [(1, 3), (1, 4), (1, 6), (3, 6), (4, 6)])
 (.seq (.seq (.reg [⟨some 4, .mov (.con (.i .i64 (0))), none⟩])
 (.block 0 (.loop [(1, .none), (2, .none), (3, .cells [.none, .row 44 4]), (4, .none)] (.seq (.seq (.reg [⟨some 13, .mov (.tmp 4), none⟩, ⟨some 14, .faddr 1 (.tmp 1), none⟩, ⟨some 15, .load false 1 (.tmp 14), none⟩, ⟨some 16, .len false (.tmp 15), none⟩, ⟨some 17, .bin .lss (.tmp 13) (.tmp 16), none⟩])
 (.cond (.tmp 17) .skip (.exit 0)))
 (.seq (.block 1 (.seq (.reg [⟨some 20, .faddr 1 (.tmp 1), none⟩, ⟨some 21, .load false 1 (.tmp 20), none⟩, ⟨some 22, .mov (.tmp 4), none⟩, ⟨some 23, .iaddr 4 (.tmp 21) (.tmp 22), none⟩, ⟨some 24, .load true 4 (.tmp 23), none⟩, ⟨some 5, .alloc [(.sl .nil 0 []), (.sl .nil 0 []), (.i .i64 (0)), (.i .i64 (0))], none⟩, ⟨none, .store 4 (.tmp 5) (.tmp 24), none⟩])
 (.seq (.reg [⟨some 25, .faddr 0 (.tmp 5), none⟩, ⟨some 26, .load false 1 (.tmp 25), none⟩, ⟨some 27, .app 5 1 (.con (.sl .nil 0 [])) (.tmp 26), none⟩, ⟨some 28, .faddr 0 (.tmp 5), none⟩, ⟨none, .store 1 (.tmp 28) (.tmp 27), none⟩])
 (.seq (.reg [⟨some 29, .faddr 1 (.tmp 5), none⟩, ⟨some 30, .load false 1 (.tmp 29), none⟩, ⟨some 31, .app 5 1 (.con (.sl .nil 0 [])) (.tmp 30), none⟩, ⟨some 32, .faddr 1 (.tmp 5), none⟩, ⟨none, .store 1 (.tmp 32) (.tmp 31), none⟩])
 (.reg [⟨some 33, .faddr 1 (.tmp 3), none⟩, ⟨some 34, .load false 1 (.tmp 33), none⟩, ⟨some 35, .load true 4 (.tmp 5), none⟩, ⟨some 36, .bslice 44 [(.sl .nil 0 []), (.sl .nil 0 []), (.i .i64 (0)), (.i .i64 (0))] 1 [(0, (.tmp 35))], none⟩, ⟨some 37, .app 44 4 (.tmp 34) (.tmp 36), none⟩, ⟨some 38, .faddr 1 (.tmp 3), none⟩, ⟨none, .store 1 (.tmp 38) (.tmp 37), none⟩])))))
 (.reg [⟨some 18, .mov (.tmp 4), none⟩, ⟨some 19, .bin .add (.tmp 18) (.con (.i .i64 (1))), none⟩, ⟨some 4, .mov (.tmp 19), none⟩]))))))
 (.seq (.seq (.reg [⟨some 6, .mov (.con (.i .i64 (0))), none⟩])
 (.block 2 (.loop [(1, .none), (2, .none), (3, .cells [.none, .none, .row 27 1]), (6, .none)] (.seq (.seq (.reg [⟨some 39, .mov (.tmp 6), none⟩, ⟨some 40, .faddr 2 (.tmp 1), none⟩, ⟨some 41, .load false 1 (.tmp 40), none⟩, ⟨some 42, .len false (.tmp 41), none⟩, ⟨some 43, .bin .lss (.tmp 39) (.tmp 42), none⟩])
 (.cond (.tmp 43) .skip (.exit 2)))
 (.seq (.block 3 (.draw [⟨some 46, .faddr 2 (.tmp 3), none⟩, ⟨some 47, .load false 1 (.tmp 46), none⟩, ⟨some 48, .faddr 2 (.tmp 1), none⟩, ⟨some 49, .load false 1 (.tmp 48), none⟩, ⟨some 50, .mov (.tmp 6), none⟩, ⟨some 51, .iaddr 1 (.tmp 49) (.tmp 50), none⟩, ⟨some 52, .load false 1 (.tmp 51), none⟩, ⟨some 53, .app 5 1 (.con (.sl .nil 0 [])) (.tmp 52), none⟩, ⟨some 54, .bslice 27 [(.sl .nil 0 [])] 1 [(0, (.tmp 53))], none⟩, ⟨some 55, .app 27 1 (.tmp 47) (.tmp 54), none⟩, ⟨some 56, .faddr 2 (.tmp 3), none⟩, ⟨none, .store 1 (.tmp 56) (.tmp 55), none⟩] [(1, 3), (1, 5), (1, 6), (1, 7), (1, 8)]))
 (.reg [⟨some 44, .mov (.tmp 6), none⟩, ⟨some 45, .bin .add (.tmp 44) (.con (.i .i64 (1))), none⟩, ⟨some 6, .mov (.tmp 45), none⟩]))))))
 (.seq (.reg [⟨some 57, .load true 4 (.tmp 3), none⟩, ⟨none, .store 4 (.tmp 2) (.tmp 57), none⟩])
 .ret))))), [.cell 2 true 4]⟩
theorem c26 : compF Try.prog k26 [] Try.f26 = some a26 := by kernel_rfl
/-- ramble/node.Clone -/
def k28 : Nat → List (Nat × H) := fun r => if r = 6 then [(1, .none), (2, .none), (3, .none), (28, .none), (29, .none)] else if r = 11 then [(2, .none), (3, .cells [.none, .none, .row 27 1]), (58, .none), (59, .none), (60, .none)] else []
def a28 : AFun := ⟨1, (.seq (.reg [⟨some 1, .box (.tmp 0), none⟩, ⟨some 2, .alloc [(.b false), (.sl .nil 0 []), (.sl .nil 0 []), (.sl .nil 0 [])], none⟩])
 (.seq (.draw [⟨some 7, .faddr 0 (.tmp 1), none⟩, ⟨some 8, .load false 1 (.tmp 7), none⟩, ⟨some 9, .faddr 3 (.tmp 1), none⟩, ⟨some 10, .load false 1 (.tmp 9), none⟩, ⟨some 11, .call 59 [(.tmp 10)], none⟩, ⟨some 12, .build [(.b false), (.sl .nil 0 []), (.sl .nil 0 []), (.sl .nil 0 [])] [(0, 1, (.tmp 8)), (3, 1, (.tmp 11))], none⟩, ⟨some 3, .alloc [(.b false), (.sl .nil 0 []), (.sl .nil 0 []), (.sl .nil 0 [])], none⟩, ⟨none, .store 4 (.tmp 3) (.tmp 12), none⟩] [(1, 3), (1, 4), (1, 6), (3, 6), (4, 6)])
 (.seq (.seq (.reg [⟨some 13, .faddr 1 (.tmp 1), none⟩, ⟨some 14, .load false 1 (.tmp 13), none⟩, ⟨some 15, .eqnil .sl true (.tmp 14), none⟩])
 (.cond (.tmp 15) (.seq (.reg [⟨some 16, .faddr 1 (.tmp 1), none⟩, ⟨some 17, .load false 1 (.tmp 16), none⟩, ⟨some 18, .len false (.tmp 17), none⟩, ⟨some 19, .mkslice 44 [(.sl .nil 0 []), (.sl .nil 0 []), (.i .i64 (0)), (.i .i64 (0))] (.tmp 18), none⟩, ⟨some 20, .faddr 1 (.tmp 3), none⟩, ⟨none, .store 1 (.tmp 20) (.tmp 19), none⟩])
 (.reg [⟨some 21, .faddr 1 (.tmp 3), none⟩, ⟨some 22, .load false 1 (.tmp 21), none⟩, ⟨some 23, .faddr 1 (.tmp 1), none⟩, ⟨some 24, .load false 1 (.tmp 23), none⟩, ⟨some 25, .copy 4 (.tmp 22) (.tmp 24), none⟩])) .skip))
 (.seq (.seq (.reg [⟨some 26, .faddr 1 (.tmp 3), none⟩, ⟨some 27, .load false 1 (.tmp 26), none⟩, ⟨some 28, .len false (.tmp 27), none⟩, ⟨some 29, .mov (.con (.i .i64 (0))), none⟩])
 (.block 0 (.loop [(1, .none), (2, .none), (3, .none), (28, .none), (29, .none)] (.seq (.reg [⟨some 30, .bin .lss (.tmp 29) (.tmp 28), none⟩])
 (.seq (.cond (.tmp 30) .skip (.exit 0))
 (.seq (.block 1 (.seq (.reg [⟨some 31, .mov (.tmp 29), none⟩, ⟨some 4, .mov (.tmp 31), none⟩])
 (.draw [⟨some 32, .faddr 1 (.tmp 3), none⟩, ⟨some 33, .load false 1 (.tmp 32), none⟩, ⟨some 34, .mov (.tmp 4), none⟩, ⟨some 35, .faddr 1 (.tmp 3), none⟩, ⟨some 36, .load false 1 (.tmp 35), none⟩, ⟨some 37, .mov (.tmp 4), none⟩, ⟨some 38, .faddr 1 (.tmp 3), none⟩, ⟨some 39, .load false 1 (.tmp 38), none⟩, ⟨some 40, .mov (.tmp 4), none⟩, ⟨some 41, .iaddr 4 (.tmp 39) (.tmp 40), none⟩, ⟨some 42, .faddr 0 (.tmp 41), none⟩, ⟨some 43, .load false 1 (.tmp 42), none⟩, ⟨some 44, .call 41 [(.tmp 43)], none⟩, ⟨some 45, .faddr 1 (.tmp 3), none⟩, ⟨some 46, .load false 1 (.tmp 45), none⟩, ⟨some 47, .mov (.tmp 4), none⟩, ⟨some 48, .iaddr 4 (.tmp 46) (.tmp 47), none⟩, ⟨some 49, .faddr 1 (.tmp 48), none⟩, ⟨some 50, .load false 1 (.tmp 49), none⟩, ⟨some 51, .call 41 [(.tmp 50)], none⟩, ⟨some 52, .iaddr 4 (.tmp 33) (.tmp 34), none⟩, ⟨some 53, .faddr 0 (.tmp 52), none⟩, ⟨none, .store 1 (.tmp 53) (.tmp 44), none⟩, ⟨some 54, .iaddr 4 (.tmp 36) (.tmp 37), none⟩, ⟨some 55, .faddr 1 (.tmp 54), none⟩, ⟨none, .store 1 (.tmp 55) (.tmp 51), none⟩] [(1, 4), (1, 7), (4, 7), (1, 9), (4, 9), (1, 11), (4, 11), (1, 12), (4, 12), (1, 14), (4, 14), (7, 14), (9, 14), (11, 14), (12, 14), (1, 16), (4, 16), (7, 16), (9, 16), (11, 16), (12, 16), (1, 18), (4, 18), (7, 18), (9, 18), (11, 18), (12, 18), (1, 19), (4, 19), (4, 20), (4, 22)])))
 (.reg [⟨some 56, .bin .add (.tmp 29) (.con (.i .i64 (1))), none⟩, ⟨some 29, .mov (.tmp 56), none⟩])))))))
 (.seq (.seq (.reg [⟨some 57, .faddr 2 (.tmp 1), none⟩, ⟨some 58, .load false 1 (.tmp 57), none⟩, ⟨some 59, .len false (.tmp 58), none⟩, ⟨some 60, .mov (.con (.i .i64 (0))), none⟩])
 (.block 2 (.loop [(2, .none), (3, .cells [.none, .none, .row 27 1]), (58, .none), (59, .none), (60, .none)] (.seq (.reg [⟨some 61, .bin .lss (.tmp 60) (.tmp 59), none⟩])
 (.seq (.cond (.tmp 61) .skip (.exit 2))
 (.seq (.block 3 (.seq (.reg [⟨some 62, .iaddr 1 (.tmp 58) (.tmp 60), none⟩, ⟨some 63, .load false 1 (.tmp 62), none⟩, ⟨some 6, .mov (.tmp 63), none⟩])
 (.draw [⟨some 64, .faddr 2 (.tmp 3), none⟩, ⟨some 65, .load false 1 (.tmp 64), none⟩, ⟨some 66, .mov (.tmp 6), none⟩, ⟨some 67, .call 41 [(.tmp 66)], none⟩, ⟨some 68, .bslice 27 [(.sl .nil 0 [])] 1 [(0, (.tmp 67))], none⟩, ⟨some 69, .app 27 1 (.tmp 65) (.tmp 68), none⟩, ⟨some 70, .faddr 2 (.tmp 3), none⟩, ⟨none, .store 1 (.tmp 70) (.tmp 69), none⟩] [(1, 3), (1, 4)])))
 (.reg [⟨some 71, .bin .add (.tmp 60) (.con (.i .i64 (1))), none⟩, ⟨some 60, .mov (.tmp 71), none⟩])))))))
 (.seq (.reg [⟨some 72, .load true 4 (.tmp 3), none⟩, ⟨none, .store 4 (.tmp 2) (.tmp 72), none⟩])
 .ret)))))), [.cell 2 true 4]⟩
theorem c28 : compF Try.prog k28 [] Try.f28 = some a28 := by kernel_rfl
/-- ramble/node.form -/
def k30 : Nat → List (Nat × H) := fun r => if r = 4 then [(1, .none), (3, .row 5 1), (20, .none), (21, .none), (22, .none)] else if r = 9 then [(3, .row 5 1), (31, .none), (32, .none), (33, .none)] else if r = 16 then [(8, .row 5 1), (48, .none), (49, .none), (50, .none)] else []
def a30 : AFun := ⟨1, (.seq (.reg [⟨some 1, .box (.tmp 0), none⟩, ⟨some 2, .mov (.con (.sl .nil 0 [])), none⟩])
 (.seq (.seq (.reg [⟨some 11, .faddr 0 (.tmp 1), none⟩, ⟨some 12, .load false 1 (.tmp 11), none⟩, ⟨some 13, .un .not (.tmp 12), none⟩])
 (.cond (.tmp 13) (.seq (.reg [⟨some 14, .bslice 5 [(.i .u8 (0))] 1 [(0, (.con (.i .u8 (2))))], none⟩, ⟨some 15, .faddr 2 (.tmp 1), none⟩, ⟨some 16, .load false 1 (.tmp 15), none⟩, ⟨some 17, .len false (.tmp 16), none⟩, ⟨some 18, .call 62 [(.tmp 14), (.tmp 17)], none⟩, ⟨some 3, .mov (.tmp 18), none⟩])
 (.seq (.seq (.reg [⟨some 19, .faddr 2 (.tmp 1), none⟩, ⟨some 20, .load false 1 (.tmp 19), none⟩, ⟨some 21, .len false (.tmp 20), none⟩, ⟨some 22, .mov (.con (.i .i64 (0))), none⟩])
 (.block 0 (.loop [(1, .none), (3, .row 5 1), (20, .none), (21, .none), (22, .none)] (.seq (.reg [⟨some 23, .bin .lss (.tmp 22) (.tmp 21), none⟩])
 (.seq (.cond (.tmp 23) .skip (.exit 0))
 (.seq (.block 1 (.seq (.reg [⟨some 24, .iaddr 1 (.tmp 20) (.tmp 22), none⟩, ⟨some 25, .load false 1 (.tmp 24), none⟩, ⟨some 5, .mov (.tmp 25), none⟩])
 (.reg [⟨some 26, .mov (.tmp 3), none⟩, ⟨some 27, .mov (.tmp 5), none⟩, ⟨some 28, .call 63 [(.tmp 26), (.tmp 27)], none⟩, ⟨some 3, .mov (.tmp 28), none⟩])))
 (.reg [⟨some 29, .bin .add (.tmp 22) (.con (.i .i64 (1))), none⟩, ⟨some 22, .mov (.tmp 29), none⟩])))))))
 (.seq (.seq (.reg [⟨some 30, .faddr 3 (.tmp 1), none⟩, ⟨some 31, .load false 1 (.tmp 30), none⟩, ⟨some 32, .len false (.tmp 31), none⟩, ⟨some 33, .mov (.con (.i .i64 (0))), none⟩])
 (.block 2 (.loop [(3, .row 5 1), (31, .none), (32, .none), (33, .none)] (.seq (.reg [⟨some 34, .bin .lss (.tmp 33) (.tmp 32), none⟩])
 (.seq (.cond (.tmp 34) .skip (.exit 2))
 (.seq (.block 3 (.seq (.reg [⟨some 35, .iaddr 1 (.tmp 31) (.tmp 33), none⟩, ⟨some 36, .load false 1 (.tmp 35), none⟩, ⟨some 7, .mov (.tmp 36), none⟩])
 (.reg [⟨some 37, .mov (.tmp 3), none⟩, ⟨some 38, .mov (.tmp 7), none⟩, ⟨some 39, .call 62 [(.tmp 37), (.tmp 38)], none⟩, ⟨some 3, .mov (.tmp 39), none⟩])))
 (.reg [⟨some 40, .bin .add (.tmp 33) (.con (.i .i64 (1))), none⟩, ⟨some 33, .mov (.tmp 40), none⟩])))))))
 (.seq (.reg [⟨some 41, .mov (.tmp 3), none⟩, ⟨some 2, .mov (.tmp 41), none⟩])
 .ret)))) .skip))
 (.seq (.reg [⟨some 42, .bslice 5 [(.i .u8 (0))] 1 [(0, (.con (.i .u8 (1))))], none⟩, ⟨some 43, .faddr 1 (.tmp 1), none⟩, ⟨some 44, .load false 1 (.tmp 43), none⟩, ⟨some 45, .len false (.tmp 44), none⟩, ⟨some 46, .call 62 [(.tmp 42), (.tmp 45)], none⟩, ⟨some 8, .mov (.tmp 46), none⟩])
 (.seq (.seq (.reg [⟨some 47, .faddr 1 (.tmp 1), none⟩, ⟨some 48, .load false 1 (.tmp 47), none⟩, ⟨some 49, .len false (.tmp 48), none⟩, ⟨some 50, .mov (.con (.i .i64 (0))), none⟩])
 (.block 4 (.loop [(8, .row 5 1), (48, .none), (49, .none), (50, .none)] (.seq (.reg [⟨some 51, .bin .lss (.tmp 50) (.tmp 49), none⟩])
 (.seq (.cond (.tmp 51) .skip (.exit 4))
 (.seq (.block 5 (.seq (.reg [⟨some 52, .iaddr 4 (.tmp 48) (.tmp 50), none⟩, ⟨some 53, .load true 4 (.tmp 52), none⟩, ⟨some 10, .alloc [(.sl .nil 0 []), (.sl .nil 0 []), (.i .i64 (0)), (.i .i64 (0))], none⟩, ⟨none, .store 4 (.tmp 10) (.tmp 53), none⟩])
 (.seq (.reg [⟨some 54, .mov (.tmp 8), none⟩, ⟨some 55, .faddr 0 (.tmp 10), none⟩, ⟨some 56, .load false 1 (.tmp 55), none⟩, ⟨some 57, .call 63 [(.tmp 54), (.tmp 56)], none⟩, ⟨some 8, .mov (.tmp 57), none⟩])
 (.seq (.reg [⟨some 58, .faddr 2 (.tmp 10), none⟩, ⟨some 59, .load false 1 (.tmp 58), none⟩, ⟨some 60, .bin .eql (.tmp 59) (.con (.i .i64 (0))), none⟩])
 (.cond (.tmp 60) (.draw [⟨some 61, .mov (.tmp 8), none⟩, ⟨some 62, .bslice 5 [(.i .u8 (0))] 1 [(0, (.con (.i .u8 (0))))], none⟩, ⟨some 63, .app 5 1 (.tmp 61) (.tmp 62), none⟩, ⟨some 64, .faddr 1 (.tmp 10), none⟩, ⟨some 65, .load false 1 (.tmp 64), none⟩, ⟨some 66, .call 63 [(.tmp 63), (.tmp 65)], none⟩, ⟨some 8, .mov (.tmp 66), none⟩] [(1, 4), (2, 4)]) (.draw [⟨some 67, .mov (.tmp 8), none⟩, ⟨some 68, .bslice 5 [(.i .u8 (0))] 1 [(0, (.con (.i .u8 (1))))], none⟩, ⟨some 69, .app 5 1 (.tmp 67) (.tmp 68), none⟩, ⟨some 70, .faddr 3 (.tmp 10), none⟩, ⟨some 71, .load false 1 (.tmp 70), none⟩, ⟨some 72, .call 62 [(.tmp 69), (.tmp 71)], none⟩, ⟨some 73, .faddr 2 (.tmp 10), none⟩, ⟨some 74, .load false 1 (.tmp 73), none⟩, ⟨some 75, .call 62 [(.tmp 72), (.tmp 74)], none⟩, ⟨some 8, .mov (.tmp 75), none⟩] [(1, 4), (2, 4), (1, 7), (2, 7), (4, 7), (5, 7)]))))))
 (.reg [⟨some 76, .bin .add (.tmp 50) (.con (.i .i64 (1))), none⟩, ⟨some 50, .mov (.tmp 76), none⟩])))))))
 (.seq (.reg [⟨some 77, .mov (.tmp 8), none⟩, ⟨some 2, .mov (.tmp 77), none⟩])
 .ret))))), [.tmp 2]⟩
theorem c30 : compF Try.prog k30 [] Try.f30 = some a30 := by kernel_rfl
/-- ramble/rambleref08.Form -/
def k31 : Nat → List (Nat × H) := fun r => if r = 4 then [(1, .none), (3, .row 5 1), (4, .none)] else if r = 14 then [(1, .none), (6, .row 5 1), (7, .none)] else if r = 18 then [(1, .none), (6, .row 5 1), (8, .none)] else []
def a31 : AFun := ⟨1, (.seq (.reg [⟨some 1, .box (.tmp 0), none⟩, ⟨some 2, .mov (.con (.sl .nil 0 [])), none⟩])
 (.seq (.seq (.reg [⟨some 9, .faddr 0 (.tmp 1), none⟩, ⟨some 10, .load false 1 (.tmp 9), none⟩])
 (.cond (.tmp 10) (.seq (.reg [⟨some 11, .bslice 5 [(.i .u8 (0))] 1 [(0, (.con (.i .u8 (1))))], none⟩, ⟨some 12, .faddr 1 (.tmp 1), none⟩, ⟨some 13, .load false 1 (.tmp 12), none⟩, ⟨some 14, .len false (.tmp 13), none⟩, ⟨some 15, .call 64 [(.tmp 11), (.tmp 14)], none⟩, ⟨some 3, .mov (.tmp 15), none⟩])
 (.seq (.seq (.reg [⟨some 4, .mov (.con (.i .i64 (0))), none⟩])
 (.block 0 (.loop [(1, .none), (3, .row 5 1), (4, .none)] (.seq (.seq (.reg [⟨some 16, .mov (.tmp 4), none⟩, ⟨some 17, .faddr 1 (.tmp 1), none⟩, ⟨some 18, .load false 1 (.tmp 17), none⟩, ⟨some 19, .len false (.tmp 18), none⟩, ⟨some 20, .bin .lss (.tmp 16) (.tmp 19), none⟩])
 (.cond (.tmp 20) .skip (.exit 0)))
 (.seq (.block 1 (.seq (.reg [⟨some 23, .faddr 1 (.tmp 1), none⟩, ⟨some 24, .load false 1 (.tmp 23), none⟩, ⟨some 25, .mov (.tmp 4), none⟩, ⟨some 26, .iaddr 4 (.tmp 24) (.tmp 25), none⟩, ⟨some 27, .load true 4 (.tmp 26), none⟩, ⟨some 5, .alloc [(.sl .nil 0 []), (.sl .nil 0 []), (.i .i64 (0)), (.i .i64 (0))], none⟩, ⟨none, .store 4 (.tmp 5) (.tmp 27), none⟩])
 (.seq (.draw [⟨some 28, .mov (.tmp 3), none⟩, ⟨some 29, .faddr 0 (.tmp 5), none⟩, ⟨some 30, .load false 1 (.tmp 29), none⟩, ⟨some 31, .len false (.tmp 30), none⟩, ⟨some 32, .call 64 [(.tmp 28), (.tmp 31)], none⟩, ⟨some 33, .faddr 0 (.tmp 5), none⟩, ⟨some 34, .load false 1 (.tmp 33), none⟩, ⟨some 35, .app 5 1 (.tmp 32) (.tmp 34), none⟩, ⟨some 3, .mov (.tmp 35), none⟩] [(2, 6), (4, 6)])
 (.seq (.reg [⟨some 36, .faddr 2 (.tmp 5), none⟩, ⟨some 37, .load false 1 (.tmp 36), none⟩, ⟨some 38, .bin .eql (.tmp 37) (.con (.i .i64 (0))), none⟩])
 (.cond (.tmp 38) (.draw [⟨some 39, .mov (.tmp 3), none⟩, ⟨some 40, .bslice 5 [(.i .u8 (0))] 1 [(0, (.con (.i .u8 (0))))], none⟩, ⟨some 41, .app 5 1 (.tmp 39) (.tmp 40), none⟩, ⟨some 42, .faddr 1 (.tmp 5), none⟩, ⟨some 43, .load false 1 (.tmp 42), none⟩, ⟨some 44, .len false (.tmp 43), none⟩, ⟨some 45, .call 64 [(.tmp 41), (.tmp 44)], none⟩, ⟨some 46, .faddr 1 (.tmp 5), none⟩, ⟨some 47, .load false 1 (.tmp 46), none⟩, ⟨some 48, .app 5 1 (.tmp 45) (.tmp 47), none⟩, ⟨some 3, .mov (.tmp 48), none⟩] [(1, 4), (2, 4), (1, 8), (2, 8), (4, 8), (6, 8)]) (.draw [⟨some 49, .mov (.tmp 3), none⟩, ⟨some 50, .bslice 5 [(.i .u8 (0))] 1 [(0, (.con (.i .u8 (1))))], none⟩, ⟨some 51, .app 5 1 (.tmp 49) (.tmp 50), none⟩, ⟨some 52, .faddr 3 (.tmp 5), none⟩, ⟨some 53, .load false 1 (.tmp 52), none⟩, ⟨some 54, .call 64 [(.tmp 51), (.tmp 53)], none⟩, ⟨some 55, .faddr 2 (.tmp 5), none⟩, ⟨some 56, .load false 1 (.tmp 55), none⟩, ⟨some 57, .call 64 [(.tmp 54), (.tmp 56)], none⟩, ⟨some 3, .mov (.tmp 57), none⟩] [(1, 4), (2, 4), (1, 7), (2, 7), (4, 7), (5, 7)]))))))
 (.reg [⟨some 21, .mov (.tmp 4), none⟩, ⟨some 22, .bin .add (.tmp 21) (.con (.i .i64 (1))), none⟩, ⟨some 4, .mov (.tmp 22), none⟩]))))))
 (.seq (.reg [⟨some 58, .mov (.tmp 3), none⟩, ⟨some 2, .mov (.tmp 58), none⟩])
 .ret))) .skip))
 (.seq (.reg [⟨some 59, .bslice 5 [(.i .u8 (0))] 1 [(0, (.con (.i .u8 (2))))], none⟩, ⟨some 60, .faddr 2 (.tmp 1), none⟩, ⟨some 61, .load false 1 (.tmp 60), none⟩, ⟨some 62, .len false (.tmp 61), none⟩, ⟨some 63, .call 64 [(.tmp 59), (.tmp 62)], none⟩, ⟨some 6, .mov (.tmp 63), none⟩])
 (.seq (.seq (.reg [⟨some 7, .mov (.con (.i .i64 (0))), none⟩])
 (.block 2 (.loop [(1, .none), (6, .row 5 1), (7, .none)] (.seq (.seq (.reg [⟨some 64, .mov (.tmp 7), none⟩, ⟨some 65, .faddr 2 (.tmp 1), none⟩, ⟨some 66, .load false 1 (.tmp 65), none⟩, ⟨some 67, .len false (.tmp 66), none⟩, ⟨some 68, .bin .lss (.tmp 64) (.tmp 67), none⟩])
 (.cond (.tmp 68) .skip (.exit 2)))
 (.seq (.block 3 (.draw [⟨some 71, .mov (.tmp 6), none⟩, ⟨some 72, .faddr 2 (.tmp 1), none⟩, ⟨some 73, .load false 1 (.tmp 72), none⟩, ⟨some 74, .mov (.tmp 7), none⟩, ⟨some 75, .iaddr 1 (.tmp 73) (.tmp 74), none⟩, ⟨some 76, .load false 1 (.tmp 75), none⟩, ⟨some 77, .len false (.tmp 76), none⟩, ⟨some 78, .call 64 [(.tmp 71), (.tmp 77)], none⟩, ⟨some 79, .faddr 2 (.tmp 1), none⟩, ⟨some 80, .load false 1 (.tmp 79), none⟩, ⟨some 81, .mov (.tmp 7), none⟩, ⟨some 82, .iaddr 1 (.tmp 80) (.tmp 81), none⟩, ⟨some 83, .load false 1 (.tmp 82), none⟩, ⟨some 84, .app 5 1 (.tmp 78) (.tmp 83), none⟩, ⟨some 6, .mov (.tmp 84), none⟩] [(2, 9), (4, 9), (5, 9), (7, 9), (2, 11), (4, 11), (5, 11), (7, 11), (2, 12), (4, 12), (5, 12), (7, 12)]))
 (.reg [⟨some 69, .mov (.tmp 7), none⟩, ⟨some 70, .bin .add (.tmp 69) (.con (.i .i64 (1))), none⟩, ⟨some 7, .mov (.tmp 70), none⟩]))))))
 (.seq (.seq (.reg [⟨some 8, .mov (.con (.i .i64 (0))), none⟩])
 (.block 4 (.loop [(1, .none), (6, .row 5 1), (8, .none)] (.seq (.seq (.reg [⟨some 85, .mov (.tmp 8), none⟩, ⟨some 86, .faddr 3 (.tmp 1), none⟩, ⟨some 87, .load false 1 (.tmp 86), none⟩, ⟨some 88, .len false (.tmp 87), none⟩, ⟨some 89, .bin .lss (.tmp 85) (.tmp 88), none⟩])
 (.cond (.tmp 89) .skip (.exit 4)))
 (.seq (.block 5 (.reg [⟨some 92, .mov (.tmp 6), none⟩, ⟨some 93, .faddr 3 (.tmp 1), none⟩, ⟨some 94, .load false 1 (.tmp 93), none⟩, ⟨some 95, .mov (.tmp 8), none⟩, ⟨some 96, .iaddr 1 (.tmp 94) (.tmp 95), none⟩, ⟨some 97, .load false 1 (.tmp 96), none⟩, ⟨some 98, .call 64 [(.tmp 92), (.tmp 97)], none⟩, ⟨some 6, .mov (.tmp 98), none⟩]))
 (.reg [⟨some 90, .mov (.tmp 8), none⟩, ⟨some 91, .bin .add (.tmp 90) (.con (.i .i64 (1))), none⟩, ⟨some 8, .mov (.tmp 91), none⟩]))))))
 (.seq (.reg [⟨some 99, .mov (.tmp 6), none⟩, ⟨some 2, .mov (.tmp 99), none⟩])
 .ret)))))), [.tmp 2]⟩
theorem c31 : compF Try.prog k31 [] Try.f31 = some a31 := by kernel_rfl
/-- slices.ContainsFunc[[]ramble/api.Cell,ramble/api.Cell] -/
def k32 : Nat → List (Nat × H) := fun _ => []
def a32 : AFun := ⟨2, (.seq (.reg [⟨some 4, .mov (.con (.b false)), none⟩])
 (.seq (.reg [⟨some 5, .mov (.tmp 0), none⟩, ⟨some 6, .mov (.tmp 1), none⟩, ⟨some 7, .call 51 [(.tmp 5), (.tmp 6)], none⟩, ⟨some 8, .bin .geq (.tmp 7) (.con (.i .i64 (0))), none⟩, ⟨some 4, .mov (.tmp 8), none⟩])
 .ret)), [.tmp 4]⟩
theorem c32 : compF Try.prog k32 [] Try.f32 = some a32 := by kernel_rfl
/-- ramble/node.badCell -/
def k33 : Nat → List (Nat × H) := fun _ => []
def a33 : AFun := ⟨1, (.seq (.reg [⟨some 1, .box (.tmp 0), none⟩, ⟨some 2, .mov (.con (.b false)), none⟩])
 (.seq (.seq (.reg [⟨some 3, .faddr 0 (.tmp 1), none⟩, ⟨some 4, .load false 1 (.tmp 3), none⟩, ⟨some 5, .call 36 [(.tmp 4)], none⟩, ⟨some 6, .mov (.tmp 5), none⟩, ⟨some 7, .faddr 2 (.tmp 1), some (6, false)⟩, ⟨some 8, .load false 1 (.tmp 7), some (6, false)⟩, ⟨some 9, .bin .lss (.tmp 8) (.con (.i .i64 (0))), some (6, false)⟩, ⟨some 10, .pick (.tmp 6) (.con (.b true)) (.tmp 9), none⟩, ⟨some 11, .mov (.tmp 10), none⟩, ⟨some 12, .faddr 2 (.tmp 1), some (11, false)⟩, ⟨some 13, .load false 1 (.tmp 12), some (11, false)⟩, ⟨some 14, .bin .geq (.tmp 13) (.con (.i .i64 (2048))), some (11, false)⟩, ⟨some 15, .pick (.tmp 11) (.con (.b true)) (.tmp 14), none⟩, ⟨some 16, .mov (.tmp 15), none⟩, ⟨some 17, .faddr 1 (.tmp 1), some (16, false)⟩, ⟨some 18, .load false 1 (.tmp 17), some (16, false)⟩, ⟨some 19, .len false (.tmp 18), some (16, false)⟩, ⟨some 20, .bin .gtr (.tmp 19) (.con (.i .i64 (64))), some (16, false)⟩, ⟨some 21, .pick (.tmp 16) (.con (.b true)) (.tmp 20), none⟩])
 (.cond (.tmp 21) (.seq (.reg [⟨some 2, .mov (.con (.b true)), none⟩])
 .ret) .skip))
 (.seq (.seq (.reg [⟨some 22, .faddr 2 (.tmp 1), none⟩, ⟨some 23, .load false 1 (.tmp 22), none⟩, ⟨some 24, .bin .eql (.tmp 23) (.con (.i .i64 (0))), none⟩])
 (.cond (.tmp 24) (.seq (.reg [⟨some 25, .faddr 3 (.tmp 1), none⟩, ⟨some 26, .load false 1 (.tmp 25), none⟩, ⟨some 27, .bin .neq (.tmp 26) (.con (.i .i64 (0))), none⟩, ⟨some 2, .mov (.tmp 27), none⟩])
 .ret) .skip))
 (.seq (.reg [⟨some 28, .faddr 1 (.tmp 1), none⟩, ⟨some 29, .load false 1 (.tmp 28), none⟩, ⟨some 30, .len false (.tmp 29), none⟩, ⟨some 31, .bin .gtr (.tmp 30) (.con (.i .i64 (0))), none⟩, ⟨some 32, .mov (.tmp 31), none⟩, ⟨some 33, .faddr 3 (.tmp 1), some (32, false)⟩, ⟨some 34, .load false 1 (.tmp 33), some (32, false)⟩, ⟨some 35, .bin .leq (.tmp 34) (.con (.i .i64 (64))), some (32, false)⟩, ⟨some 36, .pick (.tmp 32) (.con (.b true)) (.tmp 35), none⟩, ⟨some 37, .mov (.tmp 36), none⟩, ⟨some 38, .faddr 3 (.tmp 1), some (37, false)⟩, ⟨some 39, .load false 1 (.tmp 38), some (37, false)⟩, ⟨some 40, .bin .gtr (.tmp 39) (.con (.i .i64 (1099511627776))), some (37, false)⟩, ⟨some 41, .pick (.tmp 37) (.con (.b true)) (.tmp 40), none⟩, ⟨some 2, .mov (.tmp 41), none⟩])
 .ret)))), [.tmp 2]⟩
theorem c33 : compF Try.prog k33 [] Try.f33 = some a33 := by kernel_rfl
/-- slices.ContainsFunc[[]int,int] -/
def k34 : Nat → List (Nat × H) := fun _ => []
def a34 : AFun := ⟨2, (.seq (.reg [⟨some 4, .mov (.con (.b false)), none⟩])
 (.seq (.reg [⟨some 5, .mov (.tmp 0), none⟩, ⟨some 6, .mov (.tmp 1), none⟩, ⟨some 7, .call 65 [(.tmp 5), (.tmp 6)], none⟩, ⟨some 8, .bin .geq (.tmp 7) (.con (.i .i64 (0))), none⟩, ⟨some 4, .mov (.tmp 8), none⟩])
 .ret)), [.tmp 4]⟩
theorem c34 : compF Try.prog k34 [] Try.f34 = some a34 := by kernel_rfl
/-- ramble/node.Check$1 -/
def k35 : Nat → List (Nat × H) := fun _ => []
def a35 : AFun := ⟨1, (.seq (.reg [⟨some 2, .mov (.con (.b false)), none⟩])
 (.seq (.reg [⟨some 3, .mov (.tmp 0), none⟩, ⟨some 4, .bin .lss (.tmp 3) (.con (.i .i64 (1))), none⟩, ⟨some 5, .mov (.tmp 4), none⟩, ⟨some 6, .mov (.tmp 0), some (5, false)⟩, ⟨some 7, .bin .geq (.tmp 6) (.con (.i .i64 (2048))), some (5, false)⟩, ⟨some 8, .pick (.tmp 5) (.con (.b true)) (.tmp 7), none⟩, ⟨some 2, .mov (.tmp 8), none⟩])
 .ret)), [.tmp 2]⟩
theorem c35 : compF Try.prog k35 [] Try.f35 = some a35 := by kernel_rfl
/-- ramble/node.badKey -/
def k36 : Nat → List (Nat × H) := fun _ => []
def a36 : AFun := ⟨1, (.seq (.reg [⟨some 2, .mov (.con (.b false)), none⟩])
 (.seq (.reg [⟨some 3, .mov (.tmp 0), none⟩, ⟨some 4, .len false (.tmp 3), none⟩, ⟨some 5, .bin .lss (.tmp 4) (.con (.i .i64 (1))), none⟩, ⟨some 6, .mov (.tmp 5), none⟩, ⟨some 7, .mov (.tmp 0), some (6, false)⟩, ⟨some 8, .len false (.tmp 7), some (6, false)⟩, ⟨some 9, .bin .gtr (.tmp 8) (.con (.i .i64 (96))), some (6, false)⟩, ⟨some 10, .pick (.tmp 6) (.con (.b true)) (.tmp 9), none⟩, ⟨some 2, .mov (.tmp 10), none⟩])
 .ret)), [.tmp 2]⟩
theorem c36 : compF Try.prog k36 [] Try.f36 = some a36 := by kernel_rfl
/-- bytes.Compare -/
def k37 : Nat → List (Nat × H) := fun _ => []
def a37 : AFun := ⟨2, (.seq (.reg [⟨some 4, .mov (.con (.i .i64 (0))), none⟩])
 (.seq (.reg [⟨some 5, .mov (.tmp 0), none⟩, ⟨some 6, .mov (.tmp 1), none⟩, ⟨some 7, .call 66 [(.tmp 5), (.tmp 6)], none⟩, ⟨some 4, .mov (.tmp 7), none⟩])
 .ret)), [.tmp 4]⟩
theorem c37 : compF Try.prog k37 [] Try.f37 = some a37 := by kernel_rfl
/-- ramble/rambleref08.cell -/
def k38 : Nat → List (Nat × H) := fun _ => []
def a38 : AFun := ⟨1, (.seq (.reg [⟨some 1, .box (.tmp 0), none⟩, ⟨some 2, .mov (.con (.b false)), none⟩])
 (.seq (.seq (.reg [⟨some 3, .faddr 0 (.tmp 1), none⟩, ⟨some 4, .load false 1 (.tmp 3), none⟩, ⟨some 5, .call 39 [(.tmp 4)], none⟩, ⟨some 6, .un .not (.tmp 5), none⟩, ⟨some 7, .mov (.tmp 6), none⟩, ⟨some 8, .faddr 2 (.tmp 1), some (7, false)⟩, ⟨some 9, .load false 1 (.tmp 8), some (7, false)⟩, ⟨some 10, .bin .lss (.tmp 9) (.con (.i .i64 (0))), some (7, false)⟩, ⟨some 11, .pick (.tmp 7) (.con (.b true)) (.tmp 10), none⟩, ⟨some 12, .mov (.tmp 11), none⟩, ⟨some 13, .faddr 2 (.tmp 1), some (12, false)⟩, ⟨some 14, .load false 1 (.tmp 13), some (12, false)⟩, ⟨some 15, .bin .geq (.tmp 14) (.con (.i .i64 (2048))), some (12, false)⟩, ⟨some 16, .pick (.tmp 12) (.con (.b true)) (.tmp 15), none⟩, ⟨some 17, .mov (.tmp 16), none⟩, ⟨some 18, .faddr 1 (.tmp 1), some (17, false)⟩, ⟨some 19, .load false 1 (.tmp 18), some (17, false)⟩, ⟨some 20, .len false (.tmp 19), some (17, false)⟩, ⟨some 21, .bin .gtr (.tmp 20) (.con (.i .i64 (64))), some (17, false)⟩, ⟨some 22, .pick (.tmp 17) (.con (.b true)) (.tmp 21), none⟩])
 (.cond (.tmp 22) (.seq (.reg [⟨some 2, .mov (.con (.b false)), none⟩])
 .ret) .skip))
 (.seq (.seq (.reg [⟨some 23, .faddr 2 (.tmp 1), none⟩, ⟨some 24, .load false 1 (.tmp 23), none⟩, ⟨some 25, .bin .eql (.tmp 24) (.con (.i .i64 (0))), none⟩])
 (.cond (.tmp 25) (.seq (.reg [⟨some 26, .faddr 3 (.tmp 1), none⟩, ⟨some 27, .load false 1 (.tmp 26), none⟩, ⟨some 28, .bin .eql (.tmp 27) (.con (.i .i64 (0))), none⟩, ⟨some 2, .mov (.tmp 28), none⟩])
 .ret) .skip))
 (.seq (.reg [⟨some 29, .faddr 1 (.tmp 1), none⟩, ⟨some 30, .load false 1 (.tmp 29), none⟩, ⟨some 31, .len false (.tmp 30), none⟩, ⟨some 32, .bin .eql (.tmp 31) (.con (.i .i64 (0))), none⟩, ⟨some 33, .mov (.tmp 32), none⟩, ⟨some 34, .faddr 3 (.tmp 1), some (33, true)⟩, ⟨some 35, .load false 1 (.tmp 34), some (33, true)⟩, ⟨some 36, .bin .gtr (.tmp 35) (.con (.i .i64 (64))), some (33, true)⟩, ⟨some 37, .pick (.tmp 33) (.tmp 36) (.con (.b false)), none⟩, ⟨some 38, .mov (.tmp 37), none⟩, ⟨some 39, .faddr 3 (.tmp 1), some (38, true)⟩, ⟨some 40, .load false 1 (.tmp 39), some (38, true)⟩, ⟨some 41, .bin .leq (.tmp 40) (.con (.i .i64 (1099511627776))), some (38, true)⟩, ⟨some 42, .pick (.tmp 38) (.tmp 41) (.con (.b false)), none⟩, ⟨some 2, .mov (.tmp 42), none⟩])
 .ret)))), [.tmp 2]⟩
theorem c38 : compF Try.prog k38 [] Try.f38 = some a38 := by kernel_rfl
/-- ramble/rambleref08.key -/
def k39 : Nat → List (Nat × H) := fun _ => []
def a39 : AFun := ⟨1, (.seq (.reg [⟨some 2, .mov (.con (.b false)), none⟩])
 (.seq (.reg [⟨some 3, .mov (.tmp 0), none⟩, ⟨some 4, .len false (.tmp 3), none⟩, ⟨some 5, .bin .geq (.tmp 4) (.con (.i .i64 (1))), none⟩, ⟨some 6, .mov (.tmp 5), none⟩, ⟨some 7, .mov (.tmp 0), some (6, true)⟩, ⟨some 8, .len false (.tmp 7), some (6, true)⟩, ⟨some 9, .bin .leq (.tmp 8) (.con (.i .i64 (96))), some (6, true)⟩, ⟨some 10, .pick (.tmp 6) (.tmp 9) (.con (.b false)), none⟩, ⟨some 2, .mov (.tmp 10), none⟩])
 .ret)), [.tmp 2]⟩
theorem c39 : compF Try.prog k39 [] Try.f39 = some a39 := by kernel_rfl
/-- ramble/node.part -/
def k40 : Nat → List (Nat × H) := fun _ => []
def a40 : AFun := ⟨2, (.seq (.reg [⟨some 2, .box (.tmp 0), none⟩, ⟨some 4, .alloc [(.b false), (.sl .nil 0 []), (.sl .nil 0 []), (.sl .nil 0 [])], none⟩, ⟨some 5, .mov (.con (.sl .nil 0 [])), none⟩, ⟨some 6, .alloc [(.b false), (.sl .nil 0 []), (.sl .nil 0 []), (.sl .nil 0 [])], none⟩])
 (.seq (.seq (.reg [⟨some 7, .faddr 0 (.tmp 2), none⟩, ⟨some 8, .load false 1 (.tmp 7), none⟩])
 (.cond (.tmp 8) (.seq (.draw [⟨some 9, .faddr 1 (.tmp 2), none⟩, ⟨some 10, .load false 1 (.tmp 9), none⟩, ⟨some 11, .mov (.tmp 1), none⟩, ⟨some 12, .mov (.tmp 1), none⟩, ⟨some 13, .slice 4 (.tmp 10) none (some (.tmp 11)) (some (.tmp 12)), none⟩, ⟨some 14, .build [(.b false), (.sl .nil 0 []), (.sl .nil 0 []), (.sl .nil 0 [])] [(0, 1, (.con (.b true))), (1, 1, (.tmp 13))], none⟩, ⟨some 15, .faddr 1 (.tmp 2), none⟩, ⟨some 16, .load false 1 (.tmp 15), none⟩, ⟨some 17, .mov (.tmp 1), none⟩, ⟨some 18, .iaddr 4 (.tmp 16) (.tmp 17), none⟩, ⟨some 19, .faddr 0 (.tmp 18), none⟩, ⟨some 20, .load false 1 (.tmp 19), none⟩, ⟨some 21, .faddr 1 (.tmp 2), none⟩, ⟨some 22, .load false 1 (.tmp 21), none⟩, ⟨some 23, .mov (.tmp 1), none⟩, ⟨some 24, .slice 4 (.tmp 22) (some (.tmp 23)) none none, none⟩, ⟨some 25, .build [(.b false), (.sl .nil 0 []), (.sl .nil 0 []), (.sl .nil 0 [])] [(0, 1, (.con (.b true))), (1, 1, (.tmp 24))], none⟩, ⟨none, .store 4 (.tmp 4) (.tmp 14), none⟩, ⟨some 5, .mov (.tmp 20), none⟩, ⟨none, .store 4 (.tmp 6) (.tmp 25), none⟩] [(1, 7), (4, 7), (1, 9), (4, 9), (1, 11), (4, 11), (1, 13), (4, 13), (7, 13), (9, 13), (11, 13), (1, 15), (4, 15), (7, 15), (9, 15), (11, 15), (7, 17), (9, 17), (11, 17), (13, 17), (15, 17)])
 .ret) .skip))
 (.seq (.draw [⟨some 26, .faddr 2 (.tmp 2), none⟩, ⟨some 27, .load false 1 (.tmp 26), none⟩, ⟨some 28, .mov (.tmp 1), none⟩, ⟨some 29, .mov (.tmp 1), none⟩, ⟨some 30, .slice 1 (.tmp 27) none (some (.tmp 28)) (some (.tmp 29)), none⟩, ⟨some 31, .faddr 3 (.tmp 2), none⟩, ⟨some 32, .load false 1 (.tmp 31), none⟩, ⟨some 33, .mov (.tmp 1), none⟩, ⟨some 34, .bin .add (.tmp 33) (.con (.i .i64 (1))), none⟩, ⟨some 35, .mov (.tmp 1), none⟩, ⟨some 36, .bin .add (.tmp 35) (.con (.i .i64 (1))), none⟩, ⟨some 37, .slice 1 (.tmp 32) none (some (.tmp 34)) (some (.tmp 36)), none⟩, ⟨some 38, .build [(.b false), (.sl .nil 0 []), (.sl .nil 0 []), (.sl .nil 0 [])] [(2, 1, (.tmp 30)), (3, 1, (.tmp 37))], none⟩, ⟨some 39, .faddr 2 (.tmp 2), none⟩, ⟨some 40, .load false 1 (.tmp 39), none⟩, ⟨some 41, .mov (.tmp 1), none⟩, ⟨some 42, .iaddr 1 (.tmp 40) (.tmp 41), none⟩, ⟨some 43, .load false 1 (.tmp 42), none⟩, ⟨some 44, .faddr 2 (.tmp 2), none⟩, ⟨some 45, .load false 1 (.tmp 44), none⟩, ⟨some 46, .mov (.tmp 1), none⟩, ⟨some 47, .bin .add (.tmp 46) (.con (.i .i64 (1))), none⟩, ⟨some 48, .slice 1 (.tmp 45) (some (.tmp 47)) none none, none⟩, ⟨some 49, .faddr 3 (.tmp 2), none⟩, ⟨some 50, .load false 1 (.tmp 49), none⟩, ⟨some 51, .mov (.tmp 1), none⟩, ⟨some 52, .bin .add (.tmp 51) (.con (.i .i64 (1))), none⟩, ⟨some 53, .slice 1 (.tmp 50) (some (.tmp 52)) none none, none⟩, ⟨some 54, .build [(.b false), (.sl .nil 0 []), (.sl .nil 0 []), (.sl .nil 0 [])] [(2, 1, (.tmp 48)), (3, 1, (.tmp 53))], none⟩, ⟨none, .store 4 (.tmp 4) (.tmp 38), none⟩, ⟨some 5, .mov (.tmp 43), none⟩, ⟨none, .store 4 (.tmp 6) (.tmp 54), none⟩] [(1, 6), (4, 6), (1, 11), (4, 11), (1, 14), (4, 14), (6, 14), (11, 14), (1, 16), (4, 16), (6, 16), (11, 16), (1, 17), (4, 17), (6, 17), (11, 17), (1, 19), (4, 19), (6, 19), (11, 19), (14, 19), (16, 19), (17, 19), (1, 22), (4, 22), (6, 22), (11, 22), (14, 22), (16, 22), (17, 22), (1, 24), (4, 24), (6, 24), (11, 24), (14, 24), (16, 24), (17, 24), (19, 24), (22, 24), (1, 27), (4, 27), (6, 27), (11, 27), (14, 27), (16, 27), (17, 27), (19, 27), (22, 27), (14, 29), (16, 29), (17, 29), (19, 29), (22, 29), (24, 29), (27, 29)])
 .ret))), [.cell 4 true 4, .tmp 5, .cell 6 true 4]⟩
theorem c40 : compF Try.prog k40 [] Try.f40 = some a40 := by kernel_rfl
/-- bytes.Clone -/
def k41 : Nat → List (Nat × H) := fun _ => []
def a41 : AFun := ⟨1, (.seq (.reg [⟨some 2, .mov (.con (.sl .nil 0 [])), none⟩])
 (.seq (.seq (.reg [⟨some 3, .mov (.tmp 0), none⟩, ⟨some 4, .eqnil .sl false (.tmp 3), none⟩])
 (.cond (.tmp 4) (.seq (.reg [⟨some 2, .mov (.con (.sl .nil 0 [])), none⟩])
 .ret) .skip))
 (.seq (.reg [⟨some 5, .bslice 5 [(.i .u8 (0))] 0 [], none⟩, ⟨some 6, .mov (.tmp 0), none⟩, ⟨some 7, .app 5 1 (.tmp 5) (.tmp 6), none⟩, ⟨some 2, .mov (.tmp 7), none⟩])
 .ret))), [.tmp 2]⟩
theorem c41 : compF Try.prog k41 [] Try.f41 = some a41 := by kernel_rfl
/-- ramble/rambleref08.halves -/
def k42 : Nat → List (Nat × H) := fun _ => []
def a42 : AFun := ⟨2, (.seq (.reg [⟨some 2, .box (.tmp 0), none⟩, ⟨some 4, .alloc [(.b false), (.sl .nil 0 []), (.sl .nil 0 []), (.sl .nil 0 [])], none⟩, ⟨some 5, .mov (.con (.sl .nil 0 [])), none⟩, ⟨some 6, .alloc [(.b false), (.sl .nil 0 []), (.sl .nil 0 []), (.sl .nil 0 [])], none⟩])
 (.seq (.seq (.reg [⟨some 7, .faddr 0 (.tmp 2), none⟩, ⟨some 8, .load false 1 (.tmp 7), none⟩])
 (.cond (.tmp 8) (.seq (.draw [⟨some 9, .faddr 1 (.tmp 2), none⟩, ⟨some 10, .load false 1 (.tmp 9), none⟩, ⟨some 11, .mov (.tmp 1), none⟩, ⟨some 12, .mov (.tmp 1), none⟩, ⟨some 13, .slice 4 (.tmp 10) none (some (.tmp 11)) (some (.tmp 12)), none⟩, ⟨some 14, .build [(.b false), (.sl .nil 0 []), (.sl .nil 0 []), (.sl .nil 0 [])] [(0, 1, (.con (.b true))), (1, 1, (.tmp 13))], none⟩, ⟨some 15, .faddr 1 (.tmp 2), none⟩, ⟨some 16, .load false 1 (.tmp 15), none⟩, ⟨some 17, .mov (.tmp 1), none⟩, ⟨some 18, .iaddr 4 (.tmp 16) (.tmp 17), none⟩, ⟨some 19, .faddr 0 (.tmp 18), none⟩, ⟨some 20, .load false 1 (.tmp 19), none⟩, ⟨some 21, .app 5 1 (.con (.sl .nil 0 [])) (.tmp 20), none⟩, ⟨some 22, .faddr 1 (.tmp 2), none⟩, ⟨some 23, .load false 1 (.tmp 22), none⟩, ⟨some 24, .mov (.tmp 1), none⟩, ⟨some 25, .slice 4 (.tmp 23) (some (.tmp 24)) none none, none⟩, ⟨some 26, .build [(.b false), (.sl .nil 0 []), (.sl .nil 0 []), (.sl .nil 0 [])] [(0, 1, (.con (.b true))), (1, 1, (.tmp 25))], none⟩, ⟨none, .store 4 (.tmp 4) (.tmp 14), none⟩, ⟨some 5, .mov (.tmp 21), none⟩, ⟨none, .store 4 (.tmp 6) (.tmp 26), none⟩] [(1, 7), (4, 7), (1, 9), (4, 9), (1, 11), (4, 11), (1, 12), (4, 12), (1, 14), (4, 14), (7, 14), (9, 14), (11, 14), (12, 14), (1, 16), (4, 16), (7, 16), (9, 16), (11, 16), (12, 16), (14, 18), (16, 18)])
 .ret) .skip))
 (.seq (.draw [⟨some 27, .faddr 2 (.tmp 2), none⟩, ⟨some 28, .load false 1 (.tmp 27), none⟩, ⟨some 29, .mov (.tmp 1), none⟩, ⟨some 30, .mov (.tmp 1), none⟩, ⟨some 31, .slice 1 (.tmp 28) none (some (.tmp 29)) (some (.tmp 30)), none⟩, ⟨some 32, .faddr 3 (.tmp 2), none⟩, ⟨some 33, .load false 1 (.tmp 32), none⟩, ⟨some 34, .mov (.tmp 1), none⟩, ⟨some 35, .bin .add (.tmp 34) (.con (.i .i64 (1))), none⟩, ⟨some 36, .mov (.tmp 1), none⟩, ⟨some 37, .bin .add (.tmp 36) (.con (.i .i64 (1))), none⟩, ⟨some 38, .slice 1 (.tmp 33) none (some (.tmp 35)) (some (.tmp 37)), none⟩, ⟨some 39, .build [(.b false), (.sl .nil 0 []), (.sl .nil 0 []), (.sl .nil 0 [])] [(2, 1, (.tmp 31)), (3, 1, (.tmp 38))], none⟩, ⟨some 40, .faddr 2 (.tmp 2), none⟩, ⟨some 41, .load false 1 (.tmp 40), none⟩, ⟨some 42, .mov (.tmp 1), none⟩, ⟨some 43, .iaddr 1 (.tmp 41) (.tmp 42), none⟩, ⟨some 44, .load false 1 (.tmp 43), none⟩, ⟨some 45, .faddr 2 (.tmp 2), none⟩, ⟨some 46, .load false 1 (.tmp 45), none⟩, ⟨some 47, .mov (.tmp 1), none⟩, ⟨some 48, .bin .add (.tmp 47) (.con (.i .i64 (1))), none⟩, ⟨some 49, .slice 1 (.tmp 46) (some (.tmp 48)) none none, none⟩, ⟨some 50, .faddr 3 (.tmp 2), none⟩, ⟨some 51, .load false 1 (.tmp 50), none⟩, ⟨some 52, .mov (.tmp 1), none⟩, ⟨some 53, .bin .add (.tmp 52) (.con (.i .i64 (1))), none⟩, ⟨some 54, .slice 1 (.tmp 51) (some (.tmp 53)) none none, none⟩, ⟨some 55, .build [(.b false), (.sl .nil 0 []), (.sl .nil 0 []), (.sl .nil 0 [])] [(2, 1, (.tmp 49)), (3, 1, (.tmp 54))], none⟩, ⟨none, .store 4 (.tmp 4) (.tmp 39), none⟩, ⟨some 5, .mov (.tmp 44), none⟩, ⟨none, .store 4 (.tmp 6) (.tmp 55), none⟩] [(1, 6), (4, 6), (1, 11), (4, 11), (1, 14), (4, 14), (6, 14), (11, 14), (1, 16), (4, 16), (6, 16), (11, 16), (1, 17), (4, 17), (6, 17), (11, 17), (1, 19), (4, 19), (6, 19), (11, 19), (14, 19), (16, 19), (17, 19), (1, 22), (4, 22), (6, 22), (11, 22), (14, 22), (16, 22), (17, 22), (1, 24), (4, 24), (6, 24), (11, 24), (14, 24), (16, 24), (17, 24), (19, 24), (22, 24), (1, 27), (4, 27), (6, 27), (11, 27), (14, 27), (16, 27), (17, 27), (19, 27), (22, 27), (14, 29), (16, 29), (17, 29), (19, 29), (22, 29), (24, 29), (27, 29)])
 .ret))), [.cell 4 true 4, .tmp 5, .cell 6 true 4]⟩
theorem c42 : compF Try.prog k42 [] Try.f42 = some a42 := by kernel_rfl
/-- (*ramble/node.reader).flag -/
def k43 : Nat → List (Nat × H) := fun _ => []
def a43 : AFun := ⟨1, (.seq (.reg [⟨some 2, .mov (.con (.i .u8 (0))), none⟩])
 (.seq (.seq (.reg [⟨some 4, .mov (.tmp 0), none⟩, ⟨some 5, .nilck (.tmp 4), none⟩, ⟨some 6, .faddr 1 (.tmp 5), none⟩, ⟨some 7, .load false 1 (.tmp 6), none⟩, ⟨some 8, .mov (.tmp 7), none⟩, ⟨some 9, .mov (.tmp 0), some (8, false)⟩, ⟨some 10, .nilck (.tmp 9), some (8, false)⟩, ⟨some 11, .faddr 0 (.tmp 10), some (8, false)⟩, ⟨some 12, .load false 1 (.tmp 11), some (8, false)⟩, ⟨some 13, .len false (.tmp 12), some (8, false)⟩, ⟨some 14, .bin .eql (.tmp 13) (.con (.i .i64 (0))), some (8, false)⟩, ⟨some 15, .pick (.tmp 8) (.con (.b true)) (.tmp 14), none⟩])
 (.cond (.tmp 15) (.seq (.reg [⟨some 16, .mov (.tmp 0), none⟩, ⟨some 17, .nilck (.tmp 16), none⟩, ⟨some 18, .faddr 1 (.tmp 17), none⟩, ⟨none, .store 1 (.tmp 18) (.con (.b true)), none⟩])
 (.seq (.reg [⟨some 2, .mov (.con (.i .u8 (0))), none⟩])
 .ret)) .skip))
 (.seq (.reg [⟨some 19, .mov (.tmp 0), none⟩, ⟨some 20, .nilck (.tmp 19), none⟩, ⟨some 21, .faddr 0 (.tmp 20), none⟩, ⟨some 22, .load false 1 (.tmp 21), none⟩, ⟨some 23, .iaddr 1 (.tmp 22) (.con (.i .i64 (0))), none⟩, ⟨some 24, .load false 1 (.tmp 23), none⟩, ⟨some 3, .mov (.tmp 24), none⟩])
 (.seq (.reg [⟨some 25, .mov (.tmp 0), none⟩, ⟨some 26, .mov (.tmp 0), none⟩, ⟨some 27, .nilck (.tmp 26), none⟩, ⟨some 28, .faddr 0 (.tmp 27), none⟩, ⟨some 29, .load false 1 (.tmp 28), none⟩, ⟨some 30, .slice 1 (.tmp 29) (some (.con (.i .i64 (1)))) none none, none⟩, ⟨some 31, .nilck (.tmp 25), none⟩, ⟨some 32, .faddr 0 (.tmp 31), none⟩, ⟨none, .store 1 (.tmp 32) (.tmp 30), none⟩])
 (.seq (.reg [⟨some 33, .mov (.tmp 3), none⟩, ⟨some 2, .mov (.tmp 33), none⟩])
 .ret))))), [.tmp 2]⟩
theorem c43 : compF Try.prog k43 [.inout (.none)] Try.f43 = some a43 := by kernel_rfl
/-- (*ramble/node.reader).num -/
def k44 : Nat → List (Nat × H) := fun _ => []
def a44 : AFun := ⟨2, (.seq (.reg [⟨some 4, .mov (.con (.i .i64 (0))), none⟩])
 (.seq (.reg [⟨some 9, .mov (.tmp 0), none⟩, ⟨some 10, .nilck (.tmp 9), none⟩, ⟨some 11, .faddr 0 (.tmp 10), none⟩, ⟨some 12, .load false 1 (.tmp 11), none⟩, ⟨some 13, .call 67 [(.tmp 12)], none⟩, ⟨some 8, .mov (.tmp 13), none⟩, ⟨some 14, .ext (.tmp 8) 0, none⟩, ⟨some 15, .ext (.tmp 8) 1, none⟩, ⟨some 16, .ext (.tmp 8) 2, none⟩, ⟨some 5, .mov (.tmp 14), none⟩, ⟨some 6, .mov (.tmp 15), none⟩, ⟨some 7, .mov (.tmp 16), none⟩])
 (.seq (.seq (.reg [⟨some 17, .mov (.tmp 0), none⟩, ⟨some 18, .nilck (.tmp 17), none⟩, ⟨some 19, .faddr 1 (.tmp 18), none⟩, ⟨some 20, .load false 1 (.tmp 19), none⟩, ⟨some 21, .mov (.tmp 20), none⟩, ⟨some 22, .mov (.tmp 7), some (21, false)⟩, ⟨some 23, .bin .neq (.tmp 22) (.con (.i .i64 (0))), some (21, false)⟩, ⟨some 24, .pick (.tmp 21) (.con (.b true)) (.tmp 23), none⟩, ⟨some 25, .mov (.tmp 24), none⟩, ⟨some 26, .mov (.tmp 5), some (25, false)⟩, ⟨some 27, .mov (.tmp 1), some (25, false)⟩, ⟨some 28, .conv (.int .u64) (.tmp 27), some (25, false)⟩, ⟨some 29, .bin .gtr (.tmp 26) (.tmp 28), some (25, false)⟩, ⟨some 30, .pick (.tmp 25) (.con (.b true)) (.tmp 29), none⟩])
 (.cond (.tmp 30) (.seq (.reg [⟨some 31, .mov (.tmp 0), none⟩, ⟨some 32, .nilck (.tmp 31), none⟩, ⟨some 33, .faddr 1 (.tmp 32), none⟩, ⟨none, .store 1 (.tmp 33) (.con (.b true)), none⟩])
 (.seq (.reg [⟨some 4, .mov (.con (.i .i64 (0))), none⟩])
 .ret)) .skip))
 (.seq (.reg [⟨some 34, .mov (.tmp 0), none⟩, ⟨some 35, .mov (.tmp 0), none⟩, ⟨some 36, .nilck (.tmp 35), none⟩, ⟨some 37, .faddr 0 (.tmp 36), none⟩, ⟨some 38, .load false 1 (.tmp 37), none⟩, ⟨some 39, .mov (.tmp 6), none⟩, ⟨some 40, .slice 1 (.tmp 38) (some (.tmp 39)) none none, none⟩, ⟨some 41, .nilck (.tmp 34), none⟩, ⟨some 42, .faddr 0 (.tmp 41), none⟩, ⟨none, .store 1 (.tmp 42) (.tmp 40), none⟩])
 (.seq (.reg [⟨some 43, .mov (.tmp 5), none⟩, ⟨some 44, .conv (.int .i64) (.tmp 43), none⟩, ⟨some 4, .mov (.tmp 44), none⟩])
 .ret))))), [.tmp 4]⟩
theorem c44 : compF Try.prog k44 [.inout (.none)] Try.f44 = some a44 := by kernel_rfl
/-- (*ramble/node.reader).cell -/
def k45 : Nat → List (Nat × H) := fun _ => []
def a45 : AFun := ⟨1, (.seq (.reg [⟨some 2, .alloc [(.sl .nil 0 []), (.sl .nil 0 []), (.i .i64 (0)), (.i .i64 (0))], none⟩])
 (.seq (.reg [⟨some 4, .mov (.tmp 0), none⟩, ⟨some 5, .call 46 [(.tmp 4)], none⟩, ⟨some 6, .build [(.sl .nil 0 []), (.sl .nil 0 []), (.i .i64 (0)), (.i .i64 (0))] [(0, 1, (.tmp 5))], none⟩, ⟨some 3, .alloc [(.sl .nil 0 []), (.sl .nil 0 []), (.i .i64 (0)), (.i .i64 (0))], none⟩, ⟨none, .store 4 (.tmp 3) (.tmp 6), none⟩])
 (.seq (.seq (.reg [⟨some 7, .mov (.tmp 0), none⟩, ⟨some 8, .call 43 [(.tmp 7)], none⟩])
 (.block 0 (.seq (.reg [⟨some 13, .bin .eql (.tmp 8) (.con (.i .u8 (0))), none⟩, ⟨some 12, .mov (.tmp 13), none⟩])
 (.cond (.tmp 12) (.reg [⟨some 14, .mov (.tmp 0), none⟩, ⟨some 15, .call 46 [(.tmp 14)], none⟩, ⟨some 16, .faddr 1 (.tmp 3), none⟩, ⟨none, .store 1 (.tmp 16) (.tmp 15), none⟩]) (.seq (.reg [⟨some 18, .bin .eql (.tmp 8) (.con (.i .u8 (1))), none⟩, ⟨some 17, .mov (.tmp 18), none⟩])
 (.cond (.tmp 17) (.seq (.reg [⟨some 19, .mov (.tmp 0), none⟩, ⟨some 20, .call 44 [(.tmp 19), (.con (.i .i64 (1099511627776)))], none⟩, ⟨some 21, .faddr 3 (.tmp 3), none⟩, ⟨none, .store 1 (.tmp 21) (.tmp 20), none⟩])
 (.seq (.reg [⟨some 22, .mov (.tmp 0), none⟩, ⟨some 23, .call 44 [(.tmp 22), (.con (.i .i64 (2048)))], none⟩, ⟨some 24, .faddr 2 (.tmp 3), none⟩, ⟨none, .store 1 (.tmp 24) (.tmp 23), none⟩])
 (.reg [⟨some 25, .mov (.tmp 0), none⟩, ⟨some 26, .mov (.tmp 0), none⟩, ⟨some 27, .nilck (.tmp 26), none⟩, ⟨some 28, .faddr 1 (.tmp 27), none⟩, ⟨some 29, .load false 1 (.tmp 28), none⟩, ⟨some 30, .mov (.tmp 29), none⟩, ⟨some 31, .faddr 2 (.tmp 3), some (30, false)⟩, ⟨some 32, .load false 1 (.tmp 31), some (30, false)⟩, ⟨some 33, .bin .eql (.tmp 32) (.con (.i .i64 (0))), some (30, false)⟩, ⟨some 34, .pick (.tmp 30) (.con (.b true)) (.tmp 33), none⟩, ⟨some 35, .nilck (.tmp 25), none⟩, ⟨some 36, .faddr 1 (.tmp 35), none⟩, ⟨none, .store 1 (.tmp 36) (.tmp 34), none⟩]))) (.reg [⟨some 9, .mov (.tmp 0), none⟩, ⟨some 10, .nilck (.tmp 9), none⟩, ⟨some 11, .faddr 1 (.tmp 10), none⟩, ⟨none, .store 1 (.tmp 11) (.con (.b true)), none⟩])))))))
 (.seq (.reg [⟨some 37, .load true 4 (.tmp 3), none⟩, ⟨none, .store 4 (.tmp 2) (.tmp 37), none⟩])
 .ret)))), [.cell 2 true 4]⟩
theorem c45 : compF Try.prog k45 [.inout (.none)] Try.f45 = some a45 := by kernel_rfl
/-- (*ramble/node.reader).bytes -/
def k46 : Nat → List (Nat × H) := fun _ => []
def a46 : AFun := ⟨1, (.seq (.reg [⟨some 2, .mov (.con (.sl .nil 0 [])), none⟩])
 (.seq (.reg [⟨some 5, .mov (.tmp 0), none⟩, ⟨some 6, .call 44 [(.tmp 5), (.con (.i .i64 (448)))], none⟩, ⟨some 3, .mov (.tmp 6), none⟩])
 (.seq (.seq (.reg [⟨some 7, .mov (.tmp 0), none⟩, ⟨some 8, .nilck (.tmp 7), none⟩, ⟨some 9, .faddr 1 (.tmp 8), none⟩, ⟨some 10, .load false 1 (.tmp 9), none⟩, ⟨some 11, .mov (.tmp 10), none⟩, ⟨some 12, .mov (.tmp 3), some (11, false)⟩, ⟨some 13, .mov (.tmp 0), some (11, false)⟩, ⟨some 14, .nilck (.tmp 13), some (11, false)⟩, ⟨some 15, .faddr 0 (.tmp 14), some (11, false)⟩, ⟨some 16, .load false 1 (.tmp 15), some (11, false)⟩, ⟨some 17, .len false (.tmp 16), some (11, false)⟩, ⟨some 18, .bin .gtr (.tmp 12) (.tmp 17), some (11, false)⟩, ⟨some 19, .pick (.tmp 11) (.con (.b true)) (.tmp 18), none⟩])
 (.cond (.tmp 19) (.seq (.reg [⟨some 20, .mov (.tmp 0), none⟩, ⟨some 21, .nilck (.tmp 20), none⟩, ⟨some 22, .faddr 1 (.tmp 21), none⟩, ⟨none, .store 1 (.tmp 22) (.con (.b true)), none⟩])
 (.seq (.reg [⟨some 2, .mov (.con (.sl .nil 0 [])), none⟩])
 .ret)) .skip))
 (.seq (.reg [⟨some 23, .mov (.tmp 0), none⟩, ⟨some 24, .nilck (.tmp 23), none⟩, ⟨some 25, .faddr 0 (.tmp 24), none⟩, ⟨some 26, .load false 1 (.tmp 25), none⟩, ⟨some 27, .mov (.tmp 3), none⟩, ⟨some 28, .mov (.tmp 3), none⟩, ⟨some 29, .slice 1 (.tmp 26) none (some (.tmp 27)) (some (.tmp 28)), none⟩, ⟨some 30, .call 68 [(.tmp 29)], none⟩, ⟨some 4, .mov (.tmp 30), none⟩])
 (.seq (.reg [⟨some 31, .mov (.tmp 0), none⟩, ⟨some 32, .mov (.tmp 0), none⟩, ⟨some 33, .nilck (.tmp 32), none⟩, ⟨some 34, .faddr 0 (.tmp 33), none⟩, ⟨some 35, .load false 1 (.tmp 34), none⟩, ⟨some 36, .mov (.tmp 3), none⟩, ⟨some 37, .slice 1 (.tmp 35) (some (.tmp 36)) none none, none⟩, ⟨some 38, .nilck (.tmp 31), none⟩, ⟨some 39, .faddr 0 (.tmp 38), none⟩, ⟨none, .store 1 (.tmp 39) (.tmp 37), none⟩])
 (.seq (.reg [⟨some 40, .mov (.tmp 4), none⟩, ⟨some 2, .mov (.tmp 40), none⟩])
 .ret)))))), [.tmp 2]⟩
theorem c46 : compF Try.prog k46 [.inout (.none)] Try.f46 = some a46 := by kernel_rfl
/-- (*ramble/rambleref08.reader).one -/
def k47 : Nat → List (Nat × H) := fun _ => []
def a47 : AFun := ⟨1, (.seq (.reg [⟨some 2, .mov (.con (.i .u8 (0))), none⟩])
 (.seq (.reg [⟨some 4, .mov (.tmp 0), none⟩, ⟨some 5, .call 69 [(.tmp 4), (.con (.i .i64 (1)))], none⟩, ⟨some 3, .mov (.tmp 5), none⟩])
 (.seq (.seq (.reg [⟨some 6, .mov (.tmp 0), none⟩, ⟨some 7, .nilck (.tmp 6), none⟩, ⟨some 8, .faddr 1 (.tmp 7), none⟩, ⟨some 9, .load false 1 (.tmp 8), none⟩])
 (.cond (.tmp 9) (.seq (.reg [⟨some 2, .mov (.con (.i .u8 (0))), none⟩])
 .ret) .skip))
 (.seq (.reg [⟨some 10, .mov (.tmp 3), none⟩, ⟨some 11, .iaddr 1 (.tmp 10) (.con (.i .i64 (0))), none⟩, ⟨some 12, .load false 1 (.tmp 11), none⟩, ⟨some 2, .mov (.tmp 12), none⟩])
 .ret)))), [.tmp 2]⟩
theorem c47 : compF Try.prog k47 [.inout (.none)] Try.f47 = some a47 := by kernel_rfl
/-- (*ramble/rambleref08.reader).num -/
def k48 : Nat → List (Nat × H) := fun _ => []
def a48 : AFun := ⟨2, (.seq (.reg [⟨some 4, .mov (.con (.i .i64 (0))), none⟩])
 (.seq (.seq (.reg [⟨some 8, .mov (.tmp 0), none⟩, ⟨some 9, .nilck (.tmp 8), none⟩, ⟨some 10, .faddr 1 (.tmp 9), none⟩, ⟨some 11, .load false 1 (.tmp 10), none⟩])
 (.cond (.tmp 11) (.seq (.reg [⟨some 4, .mov (.con (.i .i64 (0))), none⟩])
 .ret) .skip))
 (.seq (.reg [⟨some 13, .mov (.tmp 0), none⟩, ⟨some 14, .nilck (.tmp 13), none⟩, ⟨some 15, .faddr 0 (.tmp 14), none⟩, ⟨some 16, .load false 1 (.tmp 15), none⟩, ⟨some 17, .call 70 [(.tmp 16)], none⟩, ⟨some 12, .mov (.tmp 17), none⟩, ⟨some 18, .ext (.tmp 12) 0, none⟩, ⟨some 19, .ext (.tmp 12) 1, none⟩, ⟨some 20, .ext (.tmp 12) 2, none⟩, ⟨some 5, .mov (.tmp 18), none⟩, ⟨some 6, .mov (.tmp 19), none⟩, ⟨some 7, .mov (.tmp 20), none⟩])
 (.seq (.seq (.reg [⟨some 21, .mov (.tmp 7), none⟩, ⟨some 22, .bin .neq (.tmp 21) (.con (.i .i64 (0))), none⟩, ⟨some 23, .mov (.tmp 22), none⟩, ⟨some 24, .mov (.tmp 5), some (23, false)⟩, ⟨some 25, .mov (.tmp 1), some (23, false)⟩, ⟨some 26, .conv (.int .u64) (.tmp 25), some (23, false)⟩, ⟨some 27, .bin .gtr (.tmp 24) (.tmp 26), some (23, false)⟩, ⟨some 28, .pick (.tmp 23) (.con (.b true)) (.tmp 27), none⟩])
 (.cond (.tmp 28) (.seq (.reg [⟨some 29, .mov (.tmp 0), none⟩, ⟨some 30, .nilck (.tmp 29), none⟩, ⟨some 31, .faddr 1 (.tmp 30), none⟩, ⟨none, .store 1 (.tmp 31) (.con (.b true)), none⟩])
 (.seq (.reg [⟨some 4, .mov (.con (.i .i64 (0))), none⟩])
 .ret)) .skip))
 (.seq (.reg [⟨some 32, .mov (.tmp 0), none⟩, ⟨some 33, .mov (.tmp 0), none⟩, ⟨some 34, .nilck (.tmp 33), none⟩, ⟨some 35, .faddr 0 (.tmp 34), none⟩, ⟨some 36, .load false 1 (.tmp 35), none⟩, ⟨some 37, .mov (.tmp 6), none⟩, ⟨some 38, .slice 1 (.tmp 36) (some (.tmp 37)) none none, none⟩, ⟨some 39, .nilck (.tmp 32), none⟩, ⟨some 40, .faddr 0 (.tmp 39), none⟩, ⟨none, .store 1 (.tmp 40) (.tmp 38), none⟩])
 (.seq (.reg [⟨some 41, .mov (.tmp 5), none⟩, ⟨some 42, .conv (.int .i64) (.tmp 41), none⟩, ⟨some 4, .mov (.tmp 42), none⟩])
 .ret)))))), [.tmp 4]⟩
theorem c48 : compF Try.prog k48 [.inout (.none)] Try.f48 = some a48 := by kernel_rfl
/-- ramble/rambleref08.readCell -/
def k49 : Nat → List (Nat × H) := fun _ => []
def a49 : AFun := ⟨1, (.seq (.reg [⟨some 2, .alloc [(.sl .nil 0 []), (.sl .nil 0 []), (.i .i64 (0)), (.i .i64 (0))], none⟩])
 (.seq (.reg [⟨some 4, .mov (.tmp 0), none⟩, ⟨some 5, .call 50 [(.tmp 4)], none⟩, ⟨some 6, .build [(.sl .nil 0 []), (.sl .nil 0 []), (.i .i64 (0)), (.i .i64 (0))] [(0, 1, (.tmp 5))], none⟩, ⟨some 3, .alloc [(.sl .nil 0 []), (.sl .nil 0 []), (.i .i64 (0)), (.i .i64 (0))], none⟩, ⟨none, .store 4 (.tmp 3) (.tmp 6), none⟩])
 (.seq (.seq (.reg [⟨some 7, .mov (.tmp 0), none⟩, ⟨some 8, .call 47 [(.tmp 7)], none⟩])
 (.block 0 (.seq (.reg [⟨some 13, .bin .eql (.tmp 8) (.con (.i .u8 (0))), none⟩, ⟨some 12, .mov (.tmp 13), none⟩])
 (.cond (.tmp 12) (.reg [⟨some 14, .mov (.tmp 0), none⟩, ⟨some 15, .call 50 [(.tmp 14)], none⟩, ⟨some 16, .faddr 1 (.tmp 3), none⟩, ⟨none, .store 1 (.tmp 16) (.tmp 15), none⟩]) (.seq (.reg [⟨some 18, .bin .eql (.tmp 8) (.con (.i .u8 (1))), none⟩, ⟨some 17, .mov (.tmp 18), none⟩])
 (.cond (.tmp 17) (.seq (.reg [⟨some 19, .mov (.tmp 0), none⟩, ⟨some 20, .call 48 [(.tmp 19), (.con (.i .i64 (1099511627776)))], none⟩, ⟨some 21, .faddr 3 (.tmp 3), none⟩, ⟨none, .store 1 (.tmp 21) (.tmp 20), none⟩])
 (.seq (.reg [⟨some 22, .mov (.tmp 0), none⟩, ⟨some 23, .call 48 [(.tmp 22), (.con (.i .i64 (2048)))], none⟩, ⟨some 24, .faddr 2 (.tmp 3), none⟩, ⟨none, .store 1 (.tmp 24) (.tmp 23), none⟩])
 (.seq (.reg [⟨some 25, .faddr 2 (.tmp 3), none⟩, ⟨some 26, .load false 1 (.tmp 25), none⟩, ⟨some 27, .bin .eql (.tmp 26) (.con (.i .i64 (0))), none⟩])
 (.cond (.tmp 27) (.reg [⟨some 28, .mov (.tmp 0), none⟩, ⟨some 29, .nilck (.tmp 28), none⟩, ⟨some 30, .faddr 1 (.tmp 29), none⟩, ⟨none, .store 1 (.tmp 30) (.con (.b true)), none⟩]) .skip)))) (.reg [⟨some 9, .mov (.tmp 0), none⟩, ⟨some 10, .nilck (.tmp 9), none⟩, ⟨some 11, .faddr 1 (.tmp 10), none⟩, ⟨none, .store 1 (.tmp 11) (.con (.b true)), none⟩])))))))
 (.seq (.reg [⟨some 31, .load true 4 (.tmp 3), none⟩, ⟨none, .store 4 (.tmp 2) (.tmp 31), none⟩])
 .ret)))), [.cell 2 true 4]⟩
theorem c49 : compF Try.prog k49 [.inout (.none)] Try.f49 = some a49 := by kernel_rfl
/-- (*ramble/rambleref08.reader).bytes -/
def k50 : Nat → List (Nat × H) := fun _ => []
def a50 : AFun := ⟨1, (.seq (.reg [⟨some 2, .mov (.con (.sl .nil 0 [])), none⟩])
 (.seq (.reg [⟨some 3, .mov (.tmp 0), none⟩, ⟨some 4, .mov (.tmp 0), none⟩, ⟨some 5, .call 48 [(.tmp 4), (.con (.i .i64 (448)))], none⟩, ⟨some 6, .call 69 [(.tmp 3), (.tmp 5)], none⟩, ⟨some 2, .mov (.tmp 6), none⟩])
 .ret)), [.tmp 2]⟩
theorem c50 : compF Try.prog k50 [.inout (.none)] Try.f50 = some a50 := by kernel_rfl
/-- slices.IndexFunc[[]ramble/api.Cell,ramble/api.Cell] -/
def k51 : Nat → List (Nat × H) := fun r => if r = 2 then [(0, .none), (1, .none), (7, .none), (8, .none)] else []
def a51 : AFun := ⟨2, (.seq (.reg [⟨some 4, .mov (.con (.i .i64 (0))), none⟩])
 (.seq (.seq (.reg [⟨some 6, .mov (.tmp 0), none⟩, ⟨some 7, .len false (.tmp 6), none⟩, ⟨some 8, .mov (.con (.i .i64 (0))), none⟩])
 (.block 0 (.loop [(0, .none), (1, .none), (7, .none), (8, .none)] (.seq (.reg [⟨some 9, .bin .lss (.tmp 8) (.tmp 7), none⟩])
 (.seq (.cond (.tmp 9) .skip (.exit 0))
 (.seq (.block 1 (.seq (.reg [⟨some 10, .mov (.tmp 8), none⟩, ⟨some 5, .mov (.tmp 10), none⟩])
 (.seq (.reg [⟨some 11, .mov (.tmp 1), none⟩, ⟨some 12, .mov (.tmp 0), none⟩, ⟨some 13, .mov (.tmp 5), none⟩, ⟨some 14, .iaddr 4 (.tmp 12) (.tmp 13), none⟩, ⟨some 15, .load true 4 (.tmp 14), none⟩, ⟨some 16, .callv (.tmp 11) [(.tmp 15)], none⟩])
 (.cond (.tmp 16) (.seq (.reg [⟨some 17, .mov (.tmp 5), none⟩, ⟨some 4, .mov (.tmp 17), none⟩])
 .ret) .skip))))
 (.reg [⟨some 18, .bin .add (.tmp 8) (.con (.i .i64 (1))), none⟩, ⟨some 8, .mov (.tmp 18), none⟩])))))))
 (.seq (.reg [⟨some 4, .mov (.con (.i .i64 (-1))), none⟩])
 .ret))), [.tmp 4]⟩
theorem c51 : compF Try.prog k51 [] Try.f51 = some a51 := by kernel_rfl
/-- ramble/node.Find$1 -/
def k52 : Nat → List (Nat × H) := fun _ => []
def a52 : AFun := ⟨2, (.seq (.reg [⟨some 2, .box (.tmp 0), none⟩, ⟨some 3, .mov (.con (.b false)), none⟩])
 (.seq (.reg [⟨some 4, .faddr 0 (.tmp 2), none⟩, ⟨some 5, .load false 1 (.tmp 4), none⟩, ⟨some 6, .load false 1 (.tmp 1), none⟩, ⟨some 7, .call 37 [(.tmp 5), (.tmp 6)], none⟩, ⟨some 8, .bin .geq (.tmp 7) (.con (.i .i64 (0))), none⟩, ⟨some 3, .mov (.tmp 8), none⟩])
 .ret)), [.tmp 3]⟩
theorem c52 : compF Try.prog k52 [] Try.f52 = some a52 := by kernel_rfl
/-- slices.Equal[[]int,int] -/
def k55 : Nat → List (Nat × H) := fun r => if r = 4 then [(0, .none), (1, .none), (12, .none), (13, .none)] else []
def a55 : AFun := ⟨2, (.seq (.reg [⟨some 4, .mov (.con (.b false)), none⟩])
 (.seq (.seq (.reg [⟨some 6, .mov (.tmp 0), none⟩, ⟨some 7, .len false (.tmp 6), none⟩, ⟨some 8, .mov (.tmp 1), none⟩, ⟨some 9, .len false (.tmp 8), none⟩, ⟨some 10, .bin .neq (.tmp 7) (.tmp 9), none⟩])
 (.cond (.tmp 10) (.seq (.reg [⟨some 4, .mov (.con (.b false)), none⟩])
 .ret) .skip))
 (.seq (.seq (.reg [⟨some 11, .mov (.tmp 0), none⟩, ⟨some 12, .len false (.tmp 11), none⟩, ⟨some 13, .mov (.con (.i .i64 (0))), none⟩])
 (.block 0 (.loop [(0, .none), (1, .none), (12, .none), (13, .none)] (.seq (.reg [⟨some 14, .bin .lss (.tmp 13) (.tmp 12), none⟩])
 (.seq (.cond (.tmp 14) .skip (.exit 0))
 (.seq (.block 1 (.seq (.reg [⟨some 15, .mov (.tmp 13), none⟩, ⟨some 5, .mov (.tmp 15), none⟩])
 (.seq (.draw [⟨some 16, .mov (.tmp 0), none⟩, ⟨some 17, .mov (.tmp 5), none⟩, ⟨some 18, .iaddr 1 (.tmp 16) (.tmp 17), none⟩, ⟨some 19, .load false 1 (.tmp 18), none⟩, ⟨some 20, .mov (.tmp 1), none⟩, ⟨some 21, .mov (.tmp 5), none⟩, ⟨some 22, .iaddr 1 (.tmp 20) (.tmp 21), none⟩, ⟨some 23, .load false 1 (.tmp 22), none⟩, ⟨some 24, .bin .neq (.tmp 19) (.tmp 23), none⟩] [(2, 6), (3, 6), (2, 7), (3, 7)])
 (.cond (.tmp 24) (.seq (.reg [⟨some 4, .mov (.con (.b false)), none⟩])
 .ret) .skip))))
 (.reg [⟨some 25, .bin .add (.tmp 13) (.con (.i .i64 (1))), none⟩, ⟨some 13, .mov (.tmp 25), none⟩])))))))
 (.seq (.reg [⟨some 4, .mov (.con (.b true)), none⟩])
 .ret)))), [.tmp 4]⟩
theorem c55 : compF Try.prog k55 [] Try.f55 = some a55 := by kernel_rfl
/-- slices.EqualFunc[[][]byte,[][]byte,[]byte,[]byte] -/
def k56 : Nat → List (Nat × H) := fun r => if r = 4 then [(1, .none), (2, .none), (15, .none), (16, .none), (17, .none)] else []
def a56 : AFun := ⟨3, (.seq (.reg [⟨some 6, .mov (.con (.b false)), none⟩])
 (.seq (.seq (.reg [⟨some 10, .mov (.tmp 0), none⟩, ⟨some 11, .len false (.tmp 10), none⟩, ⟨some 12, .mov (.tmp 1), none⟩, ⟨some 13, .len false (.tmp 12), none⟩, ⟨some 14, .bin .neq (.tmp 11) (.tmp 13), none⟩])
 (.cond (.tmp 14) (.seq (.reg [⟨some 6, .mov (.con (.b false)), none⟩])
 .ret) .skip))
 (.seq (.seq (.reg [⟨some 15, .mov (.tmp 0), none⟩, ⟨some 16, .len false (.tmp 15), none⟩, ⟨some 17, .mov (.con (.i .i64 (0))), none⟩])
 (.block 0 (.loop [(1, .none), (2, .none), (15, .none), (16, .none), (17, .none)] (.seq (.reg [⟨some 18, .bin .lss (.tmp 17) (.tmp 16), none⟩])
 (.seq (.cond (.tmp 18) .skip (.exit 0))
 (.seq (.block 1 (.seq (.reg [⟨some 19, .mov (.tmp 17), none⟩, ⟨some 20, .iaddr 1 (.tmp 15) (.tmp 17), none⟩, ⟨some 21, .load false 1 (.tmp 20), none⟩, ⟨some 7, .mov (.tmp 19), none⟩, ⟨some 8, .mov (.tmp 21), none⟩])
 (.seq (.reg [⟨some 22, .mov (.tmp 1), none⟩, ⟨some 23, .mov (.tmp 7), none⟩, ⟨some 24, .iaddr 1 (.tmp 22) (.tmp 23), none⟩, ⟨some 25, .load false 1 (.tmp 24), none⟩, ⟨some 9, .mov (.tmp 25), none⟩])
 (.seq (.reg [⟨some 26, .mov (.tmp 2), none⟩, ⟨some 27, .mov (.tmp 8), none⟩, ⟨some 28, .mov (.tmp 9), none⟩, ⟨some 29, .callv (.tmp 26) [(.tmp 27), (.tmp 28)], none⟩, ⟨some 30, .un .not (.tmp 29), none⟩])
 (.cond (.tmp 30) (.seq (.reg [⟨some 6, .mov (.con (.b false)), none⟩])
 .ret) .skip)))))
 (.reg [⟨some 31, .bin .add (.tmp 17) (.con (.i .i64 (1))), none⟩, ⟨some 17, .mov (.tmp 31), none⟩])))))))
 (.seq (.reg [⟨some 6, .mov (.con (.b true)), none⟩])
 .ret)))), [.tmp 6]⟩
theorem c56 : compF Try.prog k56 [] Try.f56 = some a56 := by kernel_rfl
/-- slices.EqualFunc[[]ramble/api.Cell,[]ramble/api.Cell,ramble/api.Cell,ramble/api.Cell] -/
def k57 : Nat → List (Nat × H) := fun r => if r = 4 then [(1, .none), (2, .none), (15, .none), (16, .none), (17, .none)] else []
def a57 : AFun := ⟨3, (.seq (.reg [⟨some 6, .mov (.con (.b false)), none⟩])
 (.seq (.seq (.reg [⟨some 10, .mov (.tmp 0), none⟩, ⟨some 11, .len false (.tmp 10), none⟩, ⟨some 12, .mov (.tmp 1), none⟩, ⟨some 13, .len false (.tmp 12), none⟩, ⟨some 14, .bin .neq (.tmp 11) (.tmp 13), none⟩])
 (.cond (.tmp 14) (.seq (.reg [⟨some 6, .mov (.con (.b false)), none⟩])
 .ret) .skip))
 (.seq (.seq (.reg [⟨some 15, .mov (.tmp 0), none⟩, ⟨some 16, .len false (.tmp 15), none⟩, ⟨some 17, .mov (.con (.i .i64 (0))), none⟩])
 (.block 0 (.loop [(1, .none), (2, .none), (15, .none), (16, .none), (17, .none)] (.seq (.reg [⟨some 18, .bin .lss (.tmp 17) (.tmp 16), none⟩])
 (.seq (.cond (.tmp 18) .skip (.exit 0))
 (.seq (.block 1 (.seq (.reg [⟨some 19, .mov (.tmp 17), none⟩, ⟨some 20, .iaddr 4 (.tmp 15) (.tmp 17), none⟩, ⟨some 21, .load true 4 (.tmp 20), none⟩, ⟨some 8, .alloc [(.sl .nil 0 []), (.sl .nil 0 []), (.i .i64 (0)), (.i .i64 (0))], none⟩, ⟨some 7, .mov (.tmp 19), none⟩, ⟨none, .store 4 (.tmp 8) (.tmp 21), none⟩])
 (.seq (.reg [⟨some 22, .mov (.tmp 1), none⟩, ⟨some 23, .mov (.tmp 7), none⟩, ⟨some 24, .iaddr 4 (.tmp 22) (.tmp 23), none⟩, ⟨some 25, .load true 4 (.tmp 24), none⟩, ⟨some 9, .alloc [(.sl .nil 0 []), (.sl .nil 0 []), (.i .i64 (0)), (.i .i64 (0))], none⟩, ⟨none, .store 4 (.tmp 9) (.tmp 25), none⟩])
 (.seq (.reg [⟨some 26, .mov (.tmp 2), none⟩, ⟨some 27, .load true 4 (.tmp 8), none⟩, ⟨some 28, .load true 4 (.tmp 9), none⟩, ⟨some 29, .callv (.tmp 26) [(.tmp 27), (.tmp 28)], none⟩, ⟨some 30, .un .not (.tmp 29), none⟩])
 (.cond (.tmp 30) (.seq (.reg [⟨some 6, .mov (.con (.b false)), none⟩])
 .ret) .skip)))))
 (.reg [⟨some 31, .bin .add (.tmp 17) (.con (.i .i64 (1))), none⟩, ⟨some 17, .mov (.tmp 31), none⟩])))))))
 (.seq (.reg [⟨some 6, .mov (.con (.b true)), none⟩])
 .ret)))), [.tmp 6]⟩
theorem c57 : compF Try.prog k57 [] Try.f57 = some a57 := by kernel_rfl
/-- ramble/node.Same$1 -/
def k58 : Nat → List (Nat × H) := fun _ => []
def a58 : AFun := ⟨2, (.seq (.reg [⟨some 2, .box (.tmp 0), none⟩, ⟨some 3, .box (.tmp 1), none⟩, ⟨some 4, .mov (.con (.b false)), none⟩])
 (.seq (.reg [⟨some 5, .faddr 0 (.tmp 2), none⟩, ⟨some 6, .load false 1 (.tmp 5), none⟩, ⟨some 7, .faddr 0 (.tmp 3), none⟩, ⟨some 8, .load false 1 (.tmp 7), none⟩, ⟨some 9, .call 16 [(.tmp 6), (.tmp 8)], none⟩, ⟨some 10, .mov (.tmp 9), none⟩, ⟨some 11, .faddr 1 (.tmp 2), some (10, true)⟩, ⟨some 12, .load false 1 (.tmp 11), some (10, true)⟩, ⟨some 13, .faddr 1 (.tmp 3), some (10, true)⟩, ⟨some 14, .load false 1 (.tmp 13), some (10, true)⟩, ⟨some 15, .call 16 [(.tmp 12), (.tmp 14)], some (10, true)⟩, ⟨some 16, .pick (.tmp 10) (.tmp 15) (.con (.b false)), none⟩, ⟨some 17, .mov (.tmp 16), none⟩, ⟨some 18, .faddr 2 (.tmp 2), some (17, true)⟩, ⟨some 19, .load false 1 (.tmp 18), some (17, true)⟩, ⟨some 20, .faddr 2 (.tmp 3), some (17, true)⟩, ⟨some 21, .load false 1 (.tmp 20), some (17, true)⟩, ⟨some 22, .bin .eql (.tmp 19) (.tmp 21), some (17, true)⟩, ⟨some 23, .pick (.tmp 17) (.tmp 22) (.con (.b false)), none⟩, ⟨some 24, .mov (.tmp 23), none⟩, ⟨some 25, .faddr 3 (.tmp 2), some (24, true)⟩, ⟨some 26, .load false 1 (.tmp 25), some (24, true)⟩, ⟨some 27, .faddr 3 (.tmp 3), some (24, true)⟩, ⟨some 28, .load false 1 (.tmp 27), some (24, true)⟩, ⟨some 29, .bin .eql (.tmp 26) (.tmp 28), some (24, true)⟩, ⟨some 30, .pick (.tmp 24) (.tmp 29) (.con (.b false)), none⟩, ⟨some 4, .mov (.tmp 30), none⟩])
 .ret)), [.tmp 4]⟩
theorem c58 : compF Try.prog k58 [] Try.f58 = some a58 := by kernel_rfl
/-- slices.Clone[[]int,int] -/
def k59 : Nat → List (Nat × H) := fun _ => []
def a59 : AFun := ⟨1, (.seq (.reg [⟨some 2, .mov (.con (.sl .nil 0 [])), none⟩])
 (.seq (.seq (.reg [⟨some 3, .mov (.tmp 0), none⟩, ⟨some 4, .eqnil .sl false (.tmp 3), none⟩])
 (.cond (.tmp 4) (.seq (.reg [⟨some 2, .mov (.con (.sl .nil 0 [])), none⟩])
 .ret) .skip))
 (.seq (.reg [⟨some 5, .bslice 3 [(.i .i64 (0))] 0 [], none⟩, ⟨some 6, .mov (.tmp 0), none⟩, ⟨some 7, .app 3 1 (.tmp 5) (.tmp 6), none⟩, ⟨some 2, .mov (.tmp 7), none⟩])
 .ret))), [.tmp 2]⟩
theorem c59 : compF Try.prog k59 [] Try.f59 = some a59 := by kernel_rfl
/-- ramble/node.putNum -/
def k62 : Nat → List (Nat × H) := fun _ => []
def a62 : AFun := ⟨2, (.seq (.reg [⟨some 4, .mov (.con (.sl .nil 0 [])), none⟩])
 (.seq (.reg [⟨some 5, .mov (.tmp 0), none⟩, ⟨some 6, .mov (.tmp 1), none⟩, ⟨some 7, .conv (.int .u64) (.tmp 6), none⟩, ⟨some 8, .call 77 [(.tmp 5), (.tmp 7)], none⟩, ⟨some 4, .mov (.tmp 8), none⟩])
 .ret)), [.tmp 4]⟩
theorem c62 : compF Try.prog k62 [] Try.f62 = some a62 := by kernel_rfl
/-- ramble/node.putBytes -/
def k63 : Nat → List (Nat × H) := fun _ => []
def a63 : AFun := ⟨2, (.seq (.reg [⟨some 4, .mov (.con (.sl .nil 0 [])), none⟩])
 (.seq (.reg [⟨some 5, .mov (.tmp 0), none⟩, ⟨some 6, .mov (.tmp 1), none⟩, ⟨some 7, .len false (.tmp 6), none⟩, ⟨some 8, .call 62 [(.tmp 5), (.tmp 7)], none⟩, ⟨some 9, .mov (.tmp 1), none⟩, ⟨some 10, .app 5 1 (.tmp 8) (.tmp 9), none⟩, ⟨some 4, .mov (.tmp 10), none⟩])
 .ret)), [.tmp 4]⟩
theorem c63 : compF Try.prog k63 [] Try.f63 = some a63 := by kernel_rfl
/-- ramble/rambleref08.put -/
def k64 : Nat → List (Nat × H) := fun _ => []
def a64 : AFun := ⟨2, (.seq (.reg [⟨some 4, .mov (.con (.sl .nil 0 [])), none⟩])
 (.seq (.reg [⟨some 5, .mov (.tmp 0), none⟩, ⟨some 6, .mov (.tmp 1), none⟩, ⟨some 7, .conv (.int .u64) (.tmp 6), none⟩, ⟨some 8, .call 78 [(.tmp 5), (.tmp 7)], none⟩, ⟨some 4, .mov (.tmp 8), none⟩])
 .ret)), [.tmp 4]⟩
theorem c64 : compF Try.prog k64 [] Try.f64 = some a64 := by kernel_rfl
/-- slices.IndexFunc[[]int,int] -/
def k65 : Nat → List (Nat × H) := fun r => if r = 2 then [(0, .none), (1, .none), (7, .none), (8, .none)] else []
def a65 : AFun := ⟨2, (.seq (.reg [⟨some 4, .mov (.con (.i .i64 (0))), none⟩])
 (.seq (.seq (.reg [⟨some 6, .mov (.tmp 0), none⟩, ⟨some 7, .len false (.tmp 6), none⟩, ⟨some 8, .mov (.con (.i .i64 (0))), none⟩])
 (.block 0 (.loop [(0, .none), (1, .none), (7, .none), (8, .none)] (.seq (.reg [⟨some 9, .bin .lss (.tmp 8) (.tmp 7), none⟩])
 (.seq (.cond (.tmp 9) .skip (.exit 0))
 (.seq (.block 1 (.seq (.reg [⟨some 10, .mov (.tmp 8), none⟩, ⟨some 5, .mov (.tmp 10), none⟩])
 (.seq (.reg [⟨some 11, .mov (.tmp 1), none⟩, ⟨some 12, .mov (.tmp 0), none⟩, ⟨some 13, .mov (.tmp 5), none⟩, ⟨some 14, .iaddr 1 (.tmp 12) (.tmp 13), none⟩, ⟨some 15, .load false 1 (.tmp 14), none⟩, ⟨some 16, .callv (.tmp 11) [(.tmp 15)], none⟩])
 (.cond (.tmp 16) (.seq (.reg [⟨some 17, .mov (.tmp 5), none⟩, ⟨some 4, .mov (.tmp 17), none⟩])
 .ret) .skip))))
 (.reg [⟨some 18, .bin .add (.tmp 8) (.con (.i .i64 (1))), none⟩, ⟨some 8, .mov (.tmp 18), none⟩])))))))
 (.seq (.reg [⟨some 4, .mov (.con (.i .i64 (-1))), none⟩])
 .ret))), [.tmp 4]⟩
theorem c65 : compF Try.prog k65 [] Try.f65 = some a65 := by kernel_rfl
/-- ramble/num.Take -/
def k67 : Nat → List (Nat × H) := fun r => if r = 3 then [(0, .none), (5, .none), (7, .none)] else []
def a67 : AFun := ⟨1, (.seq (.reg [⟨some 2, .mov (.con (.i .u64 (0))), none⟩, ⟨some 3, .mov (.con (.i .i64 (0))), none⟩, ⟨some 4, .mov (.con (.i .i64 (0))), none⟩])
 (.seq (.reg [⟨some 5, .mov (.con (.i .u64 (0))), none⟩])
 (.seq (.seq (.reg [⟨some 7, .mov (.con (.i .i64 (0))), none⟩])
 (.block 0 (.loop [(0, .none), (5, .none), (7, .none)] (.seq (.reg [⟨some 8, .bin .lss (.tmp 7) (.con (.i .i64 (10))), none⟩])
 (.seq (.cond (.tmp 8) .skip (.exit 0))
 (.seq (.block 1 (.seq (.reg [⟨some 9, .mov (.tmp 7), none⟩, ⟨some 6, .mov (.tmp 9), none⟩])
 (.seq (.seq (.reg [⟨some 10, .mov (.tmp 6), none⟩, ⟨some 11, .mov (.tmp 0), none⟩, ⟨some 12, .len false (.tmp 11), none⟩, ⟨some 13, .bin .eql (.tmp 10) (.tmp 12), none⟩])
 (.cond (.tmp 13) (.seq (.reg [⟨some 2, .mov (.con (.i .u64 (0))), none⟩, ⟨some 3, .mov (.con (.i .i64 (0))), none⟩, ⟨some 4, .mov (.con (.i .i64 (11))), none⟩])
 .ret) .skip))
 (.seq (.reg [⟨some 14, .mov (.tmp 5), none⟩, ⟨some 15, .mov (.tmp 0), none⟩, ⟨some 16, .mov (.tmp 6), none⟩, ⟨some 17, .iaddr 1 (.tmp 15) (.tmp 16), none⟩, ⟨some 18, .load false 1 (.tmp 17), none⟩, ⟨some 19, .bin .and (.tmp 18) (.con (.i .u8 (127))), none⟩, ⟨some 20, .conv (.int .u64) (.tmp 19), none⟩, ⟨some 21, .mov (.tmp 6), none⟩, ⟨some 22, .bin .mul (.con (.i .i64 (7))) (.tmp 21), none⟩, ⟨some 23, .bin .shl (.tmp 20) (.tmp 22), none⟩, ⟨some 24, .bin .or (.tmp 14) (.tmp 23), none⟩, ⟨some 5, .mov (.tmp 24), none⟩])
 (.seq (.seq (.reg [⟨some 25, .mov (.tmp 0), none⟩, ⟨some 26, .mov (.tmp 6), none⟩, ⟨some 27, .iaddr 1 (.tmp 25) (.tmp 26), none⟩, ⟨some 28, .load false 1 (.tmp 27), none⟩, ⟨some 29, .bin .gtr (.tmp 28) (.con (.i .u8 (127))), none⟩])
 (.cond (.tmp 29) (.exit 1) .skip))
 (.seq (.seq (.reg [⟨some 30, .mov (.tmp 6), none⟩, ⟨some 31, .bin .gtr (.tmp 30) (.con (.i .i64 (0))), none⟩, ⟨some 32, .mov (.tmp 31), none⟩, ⟨some 33, .mov (.tmp 0), some (32, true)⟩, ⟨some 34, .mov (.tmp 6), some (32, true)⟩, ⟨some 35, .iaddr 1 (.tmp 33) (.tmp 34), some (32, true)⟩, ⟨some 36, .load false 1 (.tmp 35), some (32, true)⟩, ⟨some 37, .bin .eql (.tmp 36) (.con (.i .u8 (0))), some (32, true)⟩, ⟨some 38, .pick (.tmp 32) (.tmp 37) (.con (.b false)), none⟩, ⟨some 39, .mov (.tmp 38), none⟩, ⟨some 40, .mov (.tmp 6), some (39, false)⟩, ⟨some 41, .bin .eql (.tmp 40) (.con (.i .i64 (9))), some (39, false)⟩, ⟨some 42, .mov (.tmp 41), some (39, false)⟩, ⟨some 43, .mov (.tmp 0), some (42, true)⟩, ⟨some 44, .mov (.tmp 6), some (42, true)⟩, ⟨some 45, .iaddr 1 (.tmp 43) (.tmp 44), some (42, true)⟩, ⟨some 46, .load false 1 (.tmp 45), some (42, true)⟩, ⟨some 47, .bin .gtr (.tmp 46) (.con (.i .u8 (1))), some (42, true)⟩, ⟨some 48, .pick (.tmp 42) (.tmp 47) (.con (.b false)), some (39, false)⟩, ⟨some 49, .pick (.tmp 39) (.con (.b true)) (.tmp 48), none⟩])
 (.cond (.tmp 49) (.exit 0) .skip))
 (.seq (.reg [⟨some 50, .mov (.tmp 5), none⟩, ⟨some 51, .mov (.tmp 6), none⟩, ⟨some 52, .bin .add (.tmp 51) (.con (.i .i64 (1))), none⟩, ⟨some 2, .mov (.tmp 50), none⟩, ⟨some 3, .mov (.tmp 52), none⟩, ⟨some 4, .mov (.con (.i .i64 (0))), none⟩])
 .ret)))))))
 (.reg [⟨some 53, .bin .add (.tmp 7) (.con (.i .i64 (1))), none⟩, ⟨some 7, .mov (.tmp 53), none⟩])))))))
 (.seq (.reg [⟨some 2, .mov (.con (.i .u64 (0))), none⟩, ⟨some 3, .mov (.con (.i .i64 (0))), none⟩, ⟨some 4, .mov (.con (.i .i64 (12))), none⟩])
 .ret)))), [.tmp 2, .tmp 3, .tmp 4]⟩
theorem c67 : compF Try.prog k67 [] Try.f67 = some a67 := by kernel_rfl
/-- slices.Clone[[]byte,byte] -/
def k68 : Nat → List (Nat × H) := fun _ => []
def a68 : AFun := ⟨1, (.seq (.reg [⟨some 2, .mov (.con (.sl .nil 0 [])), none⟩])
 (.seq (.seq (.reg [⟨some 3, .mov (.tmp 0), none⟩, ⟨some 4, .eqnil .sl false (.tmp 3), none⟩])
 (.cond (.tmp 4) (.seq (.reg [⟨some 2, .mov (.con (.sl .nil 0 [])), none⟩])
 .ret) .skip))
 (.seq (.reg [⟨some 5, .bslice 5 [(.i .u8 (0))] 0 [], none⟩, ⟨some 6, .mov (.tmp 0), none⟩, ⟨some 7, .app 5 1 (.tmp 5) (.tmp 6), none⟩, ⟨some 2, .mov (.tmp 7), none⟩])
 .ret))), [.tmp 2]⟩
theorem c68 : compF Try.prog k68 [] Try.f68 = some a68 := by kernel_rfl
/-- (*ramble/rambleref08.reader).take -/
def k69 : Nat → List (Nat × H) := fun _ => []
def a69 : AFun := ⟨2, (.seq (.reg [⟨some 4, .mov (.con (.sl .nil 0 [])), none⟩])
 (.seq (.seq (.reg [⟨some 6, .mov (.tmp 0), none⟩, ⟨some 7, .nilck (.tmp 6), none⟩, ⟨some 8, .faddr 1 (.tmp 7), none⟩, ⟨some 9, .load false 1 (.tmp 8), none⟩, ⟨some 10, .mov (.tmp 9), none⟩, ⟨some 11, .mov (.tmp 1), some (10, false)⟩, ⟨some 12, .mov (.tmp 0), some (10, false)⟩, ⟨some 13, .nilck (.tmp 12), some (10, false)⟩, ⟨some 14, .faddr 0 (.tmp 13), some (10, false)⟩, ⟨some 15, .load false 1 (.tmp 14), some (10, false)⟩, ⟨some 16, .len false (.tmp 15), some (10, false)⟩, ⟨some 17, .bin .gtr (.tmp 11) (.tmp 16), some (10, false)⟩, ⟨some 18, .pick (.tmp 10) (.con (.b true)) (.tmp 17), none⟩])
 (.cond (.tmp 18) (.seq (.reg [⟨some 19, .mov (.tmp 0), none⟩, ⟨some 20, .nilck (.tmp 19), none⟩, ⟨some 21, .faddr 1 (.tmp 20), none⟩, ⟨none, .store 1 (.tmp 21) (.con (.b true)), none⟩])
 (.seq (.reg [⟨some 4, .mov (.con (.sl .nil 0 [])), none⟩])
 .ret)) .skip))
 (.seq (.reg [⟨some 22, .mov (.tmp 0), none⟩, ⟨some 23, .nilck (.tmp 22), none⟩, ⟨some 24, .faddr 0 (.tmp 23), none⟩, ⟨some 25, .load false 1 (.tmp 24), none⟩, ⟨some 26, .mov (.tmp 1), none⟩, ⟨some 27, .slice 1 (.tmp 25) none (some (.tmp 26)) none, none⟩, ⟨some 28, .app 5 1 (.con (.sl .nil 0 [])) (.tmp 27), none⟩, ⟨some 5, .mov (.tmp 28), none⟩])
 (.seq (.reg [⟨some 29, .mov (.tmp 0), none⟩, ⟨some 30, .mov (.tmp 0), none⟩, ⟨some 31, .nilck (.tmp 30), none⟩, ⟨some 32, .faddr 0 (.tmp 31), none⟩, ⟨some 33, .load false 1 (.tmp 32), none⟩, ⟨some 34, .mov (.tmp 1), none⟩, ⟨some 35, .slice 1 (.tmp 33) (some (.tmp 34)) none none, none⟩, ⟨some 36, .nilck (.tmp 29), none⟩, ⟨some 37, .faddr 0 (.tmp 36), none⟩, ⟨none, .store 1 (.tmp 37) (.tmp 35), none⟩])
 (.seq (.reg [⟨some 38, .mov (.tmp 5), none⟩, ⟨some 4, .mov (.tmp 38), none⟩])
 .ret))))), [.tmp 4]⟩
theorem c69 : compF Try.prog k69 [.inout (.none)] Try.f69 = some a69 := by kernel_rfl
/-- ramble/rambleref01.Take -/
def k70 : Nat → List (Nat × H) := fun r => if r = 2 then [(0, .none), (5, .none)] else if r = 11 then [(0, .none), (5, .none), (6, .none), (7, .none)] else []
def a70 : AFun := ⟨1, (.seq (.reg [⟨some 2, .mov (.con (.i .u64 (0))), none⟩, ⟨some 3, .mov (.con (.i .i64 (0))), none⟩, ⟨some 4, .mov (.con (.i .i64 (0))), none⟩])
 (.seq (.seq (.reg [⟨some 5, .mov (.con (.i .i64 (0))), none⟩])
 (.block 0 (.loop [(0, .none), (5, .none)] (.seq (.seq (.reg [⟨some 8, .mov (.tmp 5), none⟩, ⟨some 9, .bin .lss (.tmp 8) (.con (.i .i64 (10))), none⟩])
 (.cond (.tmp 9) .skip (.exit 0)))
 (.seq (.block 1 (.seq (.seq (.reg [⟨some 12, .mov (.tmp 5), none⟩, ⟨some 13, .mov (.tmp 0), none⟩, ⟨some 14, .len false (.tmp 13), none⟩, ⟨some 15, .bin .geq (.tmp 12) (.tmp 14), none⟩])
 (.cond (.tmp 15) (.seq (.reg [⟨some 2, .mov (.con (.i .u64 (0))), none⟩, ⟨some 3, .mov (.con (.i .i64 (0))), none⟩, ⟨some 4, .mov (.con (.i .i64 (11))), none⟩])
 .ret) .skip))
 (.seq (.seq (.reg [⟨some 16, .mov (.tmp 0), none⟩, ⟨some 17, .mov (.tmp 5), none⟩, ⟨some 18, .iaddr 1 (.tmp 16) (.tmp 17), none⟩, ⟨some 19, .load false 1 (.tmp 18), none⟩, ⟨some 20, .bin .geq (.tmp 19) (.con (.i .u8 (128))), none⟩])
 (.cond (.tmp 20) (.exit 1) .skip))
 (.seq (.seq (.reg [⟨some 21, .mov (.tmp 5), none⟩, ⟨some 22, .bin .gtr (.tmp 21) (.con (.i .i64 (0))), none⟩, ⟨some 23, .mov (.tmp 22), none⟩, ⟨some 24, .mov (.tmp 0), some (23, true)⟩, ⟨some 25, .mov (.tmp 5), some (23, true)⟩, ⟨some 26, .iaddr 1 (.tmp 24) (.tmp 25), some (23, true)⟩, ⟨some 27, .load false 1 (.tmp 26), some (23, true)⟩, ⟨some 28, .bin .eql (.tmp 27) (.con (.i .u8 (0))), some (23, true)⟩, ⟨some 29, .pick (.tmp 23) (.tmp 28) (.con (.b false)), none⟩, ⟨some 30, .mov (.tmp 29), none⟩, ⟨some 31, .mov (.tmp 5), some (30, false)⟩, ⟨some 32, .bin .eql (.tmp 31) (.con (.i .i64 (9))), some (30, false)⟩, ⟨some 33, .mov (.tmp 32), some (30, false)⟩, ⟨some 34, .mov (.tmp 0), some (33, true)⟩, ⟨some 35, .mov (.tmp 5), some (33, true)⟩, ⟨some 36, .iaddr 1 (.tmp 34) (.tmp 35), some (33, true)⟩, ⟨some 37, .load false 1 (.tmp 36), some (33, true)⟩, ⟨some 38, .bin .gtr (.tmp 37) (.con (.i .u8 (1))), some (33, true)⟩, ⟨some 39, .pick (.tmp 33) (.tmp 38) (.con (.b false)), some (30, false)⟩, ⟨some 40, .pick (.tmp 30) (.con (.b true)) (.tmp 39), none⟩])
 (.cond (.tmp 40) (.seq (.reg [⟨some 2, .mov (.con (.i .u64 (0))), none⟩, ⟨some 3, .mov (.con (.i .i64 (0))), none⟩, ⟨some 4, .mov (.con (.i .i64 (12))), none⟩])
 .ret) .skip))
 (.seq (.reg [⟨some 6, .mov (.con (.i .u64 (0))), none⟩])
 (.seq (.seq (.reg [⟨some 41, .mov (.tmp 5), none⟩, ⟨some 7, .mov (.tmp 41), none⟩])
 (.block 2 (.loop [(0, .none), (5, .none), (6, .none), (7, .none)] (.seq (.seq (.reg [⟨some 42, .mov (.tmp 7), none⟩, ⟨some 43, .bin .geq (.tmp 42) (.con (.i .i64 (0))), none⟩])
 (.cond (.tmp 43) .skip (.exit 2)))
 (.seq (.block 3 (.reg [⟨some 46, .mov (.tmp 6), none⟩, ⟨some 47, .bin .mul (.tmp 46) (.con (.i .u64 (128))), none⟩, ⟨some 48, .mov (.tmp 0), none⟩, ⟨some 49, .mov (.tmp 7), none⟩, ⟨some 50, .iaddr 1 (.tmp 48) (.tmp 49), none⟩, ⟨some 51, .load false 1 (.tmp 50), none⟩, ⟨some 52, .bin .rem (.tmp 51) (.con (.i .u8 (128))), none⟩, ⟨some 53, .conv (.int .u64) (.tmp 52), none⟩, ⟨some 54, .bin .add (.tmp 47) (.tmp 53), none⟩, ⟨some 6, .mov (.tmp 54), none⟩]))
 (.reg [⟨some 44, .mov (.tmp 7), none⟩, ⟨some 45, .bin .sub (.tmp 44) (.con (.i .i64 (1))), none⟩, ⟨some 7, .mov (.tmp 45), none⟩]))))))
 (.seq (.reg [⟨some 55, .mov (.tmp 6), none⟩, ⟨some 56, .mov (.tmp 5), none⟩, ⟨some 57, .bin .add (.tmp 56) (.con (.i .i64 (1))), none⟩, ⟨some 2, .mov (.tmp 55), none⟩, ⟨some 3, .mov (.tmp 57), none⟩, ⟨some 4, .mov (.con (.i .i64 (0))), none⟩])
 .ret)))))))
 (.reg [⟨some 10, .mov (.tmp 5), none⟩, ⟨some 11, .bin .add (.tmp 10) (.con (.i .i64 (1))), none⟩, ⟨some 5, .mov (.tmp 11), none⟩]))))))
 (.seq (.reg [⟨some 2, .mov (.con (.i .u64 (0))), none⟩, ⟨some 3, .mov (.con (.i .i64 (0))), none⟩, ⟨some 4, .mov (.con (.i .i64 (12))), none⟩])
 .ret))), [.tmp 2, .tmp 3, .tmp 4]⟩
theorem c70 : compF Try.prog k70 [] Try.f70 = some a70 := by kernel_rfl
/-- ramble/num.Put -/
def k77 : Nat → List (Nat × H) := fun r => if r = 2 then [(1, .none), (5, .row 5 1)] else []
def a77 : AFun := ⟨2, (.seq (.reg [⟨some 4, .mov (.con (.sl .nil 0 [])), none⟩])
 (.seq (.reg [⟨some 6, .mov (.tmp 0), none⟩, ⟨some 7, .call 68 [(.tmp 6)], none⟩, ⟨some 5, .mov (.tmp 7), none⟩])
 (.seq (.block 0 (.loop [(1, .none), (5, .row 5 1)] (.seq (.seq (.reg [⟨some 8, .mov (.tmp 1), none⟩, ⟨some 9, .bin .gtr (.tmp 8) (.con (.i .u64 (127))), none⟩])
 (.cond (.tmp 9) .skip (.exit 0)))
 (.seq (.block 1 (.reg [⟨some 12, .mov (.tmp 5), none⟩, ⟨some 13, .mov (.tmp 1), none⟩, ⟨some 14, .conv (.int .u8) (.tmp 13), none⟩, ⟨some 15, .bin .or (.tmp 14) (.con (.i .u8 (128))), none⟩, ⟨some 16, .bslice 5 [(.i .u8 (0))] 1 [(0, (.tmp 15))], none⟩, ⟨some 17, .app 5 1 (.tmp 12) (.tmp 16), none⟩, ⟨some 5, .mov (.tmp 17), none⟩]))
 (.reg [⟨some 10, .mov (.tmp 1), none⟩, ⟨some 11, .bin .shr (.tmp 10) (.con (.i .u64 (7))), none⟩, ⟨some 1, .mov (.tmp 11), none⟩])))))
 (.seq (.reg [⟨some 18, .mov (.tmp 5), none⟩, ⟨some 19, .mov (.tmp 1), none⟩, ⟨some 20, .conv (.int .u8) (.tmp 19), none⟩, ⟨some 21, .bslice 5 [(.i .u8 (0))] 1 [(0, (.tmp 20))], none⟩, ⟨some 22, .app 5 1 (.tmp 18) (.tmp 21), none⟩, ⟨some 4, .mov (.tmp 22), none⟩])
 .ret)))), [.tmp 4]⟩
theorem c77 : compF Try.prog k77 [] Try.f77 = some a77 := by kernel_rfl
/-- ramble/rambleref01.Put -/
def k78 : Nat → List (Nat × H) := fun r => if r = 2 then [(1, .none), (5, .row 5 1)] else []
def a78 : AFun := ⟨2, (.seq (.reg [⟨some 4, .mov (.con (.sl .nil 0 [])), none⟩])
 (.seq (.reg [⟨some 6, .mov (.tmp 0), none⟩, ⟨some 7, .app 5 1 (.con (.sl .nil 0 [])) (.tmp 6), none⟩, ⟨some 5, .mov (.tmp 7), none⟩])
 (.seq (.block 0 (.loop [(1, .none), (5, .row 5 1)] (.seq (.seq (.reg [⟨some 8, .mov (.tmp 1), none⟩, ⟨some 9, .bin .geq (.tmp 8) (.con (.i .u64 (128))), none⟩])
 (.cond (.tmp 9) .skip (.exit 0)))
 (.block 1 (.seq (.reg [⟨some 10, .mov (.tmp 5), none⟩, ⟨some 11, .mov (.tmp 1), none⟩, ⟨some 12, .bin .rem (.tmp 11) (.con (.i .u64 (128))), none⟩, ⟨some 13, .conv (.int .u8) (.tmp 12), none⟩, ⟨some 14, .bin .add (.tmp 13) (.con (.i .u8 (128))), none⟩, ⟨some 15, .bslice 5 [(.i .u8 (0))] 1 [(0, (.tmp 14))], none⟩, ⟨some 16, .app 5 1 (.tmp 10) (.tmp 15), none⟩, ⟨some 5, .mov (.tmp 16), none⟩])
 (.reg [⟨some 17, .mov (.tmp 1), none⟩, ⟨some 18, .bin .quo (.tmp 17) (.con (.i .u64 (128))), none⟩, ⟨some 1, .mov (.tmp 18), none⟩]))))))
 (.seq (.reg [⟨some 19, .mov (.tmp 5), none⟩, ⟨some 20, .mov (.tmp 1), none⟩, ⟨some 21, .conv (.int .u8) (.tmp 20), none⟩, ⟨some 22, .bslice 5 [(.i .u8 (0))] 1 [(0, (.tmp 21))], none⟩, ⟨some 23, .app 5 1 (.tmp 19) (.tmp 22), none⟩, ⟨some 4, .mov (.tmp 23), none⟩])
 .ret)))), [.tmp 4]⟩
theorem c78 : compF Try.prog k78 [] Try.f78 = some a78 := by kernel_rfl
end Go.Proofs.Ytogjoenpliphdaa
