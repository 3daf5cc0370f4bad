/-
  The functions' code for the abstract machine, printed by a program of ours; each checked against the loaded program.
-/
import Derived.Test.YtabbjdclfmeipaaFa
import Derived.Test.YtabbjdclfmeipaaProg
import Derived.KernelRfl
set_option maxRecDepth 100000
namespace Go.Proofs.Ytabbjdclfmeipaa
open Go.Abs
/-- ramble/ramblelaw21.BulkAlgebra -/
def k3 : Nat → List (Nat × H) := fun _ => []
def a3 : AFun := ⟨5, (.seq (.reg [⟨some 10, .mov (.con (.b false)), none⟩])
 (.seq (.seq (.reg [⟨some 27, .mov (.tmp 0), none⟩, ⟨some 28, .call 7 [(.tmp 27)], none⟩, ⟨some 29, .un .not (.tmp 28), none⟩, ⟨some 30, .mov (.tmp 29), none⟩, ⟨some 31, .mov (.tmp 1), some (30, false)⟩, ⟨some 32, .call 7 [(.tmp 31)], some (30, false)⟩, ⟨some 33, .un .not (.tmp 32), some (30, false)⟩, ⟨some 34, .pick (.tmp 30) (.con (.b true)) (.tmp 33), none⟩, ⟨some 35, .mov (.tmp 34), none⟩, ⟨some 36, .mov (.tmp 2), some (35, false)⟩, ⟨some 37, .call 7 [(.tmp 36)], some (35, false)⟩, ⟨some 38, .un .not (.tmp 37), some (35, false)⟩, ⟨some 39, .pick (.tmp 35) (.con (.b true)) (.tmp 38), none⟩])
 (.cond (.tmp 39) (.seq (.reg [⟨some 10, .mov (.con (.b true)), none⟩])
 .ret) .skip))
 (.seq (.reg [⟨some 40, .mov (.tmp 0), none⟩, ⟨some 41, .mov (.tmp 1), none⟩, ⟨some 42, .mov (.tmp 2), none⟩, ⟨some 11, .mov (.tmp 40), none⟩, ⟨some 12, .mov (.tmp 41), none⟩, ⟨some 13, .mov (.tmp 42), none⟩])
 (.seq (.reg [⟨some 44, .mov (.tmp 11), none⟩, ⟨some 45, .mov (.tmp 12), none⟩, ⟨some 46, .bslice 24 [(.sl .nil 0 [])] 1 [(0, (.tmp 45))], none⟩, ⟨some 47, .call 8 [(.tmp 44), (.tmp 46)], none⟩, ⟨some 43, .mov (.tmp 47), none⟩, ⟨some 48, .ext (.tmp 43) 0, none⟩, ⟨some 49, .ext (.tmp 43) 1, none⟩, ⟨some 14, .mov (.tmp 48), none⟩, ⟨some 15, .mov (.tmp 49), none⟩])
 (.seq (.reg [⟨some 51, .mov (.tmp 12), none⟩, ⟨some 52, .mov (.tmp 11), none⟩, ⟨some 53, .bslice 24 [(.sl .nil 0 [])] 1 [(0, (.tmp 52))], none⟩, ⟨some 54, .call 8 [(.tmp 51), (.tmp 53)], none⟩, ⟨some 50, .mov (.tmp 54), none⟩, ⟨some 55, .ext (.tmp 50) 0, none⟩, ⟨some 56, .ext (.tmp 50) 1, none⟩, ⟨some 16, .mov (.tmp 55), none⟩, ⟨some 17, .mov (.tmp 56), none⟩])
 (.seq (.seq (.reg [⟨some 57, .call 9 [], none⟩, ⟨some 58, .un .not (.tmp 57), none⟩, ⟨some 59, .mov (.tmp 58), none⟩, ⟨some 60, .mov (.tmp 15), some (59, false)⟩, ⟨some 61, .mov (.tmp 17), some (59, false)⟩, ⟨some 62, .bin .neq (.tmp 60) (.tmp 61), some (59, false)⟩, ⟨some 63, .pick (.tmp 59) (.con (.b true)) (.tmp 62), none⟩, ⟨some 64, .mov (.tmp 63), none⟩, ⟨some 65, .mov (.tmp 14), some (64, false)⟩, ⟨some 66, .mov (.tmp 16), some (64, false)⟩, ⟨some 67, .call 10 [(.tmp 65), (.tmp 66)], some (64, false)⟩, ⟨some 68, .un .not (.tmp 67), some (64, false)⟩, ⟨some 69, .pick (.tmp 64) (.con (.b true)) (.tmp 68), none⟩])
 (.cond (.tmp 69) (.seq (.reg [⟨some 10, .mov (.con (.b false)), none⟩])
 .ret) .skip))
 (.seq (.seq (.reg [⟨some 70, .mov (.tmp 15), none⟩, ⟨some 71, .bin .neq (.tmp 70) (.con (.i .i64 (0))), none⟩])
 (.cond (.tmp 71) (.seq (.reg [⟨some 10, .mov (.con (.b true)), none⟩])
 .ret) .skip))
 (.seq (.reg [⟨some 73, .mov (.tmp 14), none⟩, ⟨some 74, .mov (.tmp 13), none⟩, ⟨some 75, .bslice 24 [(.sl .nil 0 [])] 1 [(0, (.tmp 74))], none⟩, ⟨some 76, .call 8 [(.tmp 73), (.tmp 75)], none⟩, ⟨some 72, .mov (.tmp 76), none⟩, ⟨some 77, .ext (.tmp 72) 0, none⟩, ⟨some 78, .ext (.tmp 72) 1, none⟩, ⟨some 18, .mov (.tmp 77), none⟩, ⟨some 15, .mov (.tmp 78), none⟩])
 (.seq (.reg [⟨some 80, .mov (.tmp 11), none⟩, ⟨some 81, .mov (.tmp 12), none⟩, ⟨some 82, .mov (.tmp 13), none⟩, ⟨some 83, .bslice 24 [(.sl .nil 0 [])] 2 [(0, (.tmp 81)), (1, (.tmp 82))], none⟩, ⟨some 84, .call 8 [(.tmp 80), (.tmp 83)], none⟩, ⟨some 79, .mov (.tmp 84), none⟩, ⟨some 85, .ext (.tmp 79) 0, none⟩, ⟨some 86, .ext (.tmp 79) 1, none⟩, ⟨some 19, .mov (.tmp 85), none⟩, ⟨some 17, .mov (.tmp 86), none⟩])
 (.seq (.seq (.reg [⟨some 87, .mov (.tmp 15), none⟩, ⟨some 88, .mov (.tmp 17), none⟩, ⟨some 89, .bin .neq (.tmp 87) (.tmp 88), none⟩, ⟨some 90, .mov (.tmp 89), none⟩, ⟨some 91, .mov (.tmp 18), some (90, false)⟩, ⟨some 92, .mov (.tmp 19), some (90, false)⟩, ⟨some 93, .call 10 [(.tmp 91), (.tmp 92)], some (90, false)⟩, ⟨some 94, .un .not (.tmp 93), some (90, false)⟩, ⟨some 95, .pick (.tmp 90) (.con (.b true)) (.tmp 94), none⟩])
 (.cond (.tmp 95) (.seq (.reg [⟨some 10, .mov (.con (.b false)), none⟩])
 .ret) .skip))
 (.seq (.reg [⟨some 97, .mov (.tmp 14), none⟩, ⟨some 98, .mov (.tmp 3), none⟩, ⟨some 99, .conv (.int .i64) (.tmp 98), none⟩, ⟨some 100, .call 11 [(.tmp 97), (.tmp 99)], none⟩, ⟨some 96, .mov (.tmp 100), none⟩, ⟨some 101, .ext (.tmp 96) 0, none⟩, ⟨some 102, .ext (.tmp 96) 1, none⟩, ⟨some 20, .mov (.tmp 101), none⟩, ⟨some 15, .mov (.tmp 102), none⟩])
 (.seq (.seq (.reg [⟨some 103, .mov (.tmp 15), none⟩, ⟨some 104, .bin .neq (.tmp 103) (.con (.i .i64 (0))), none⟩])
 (.cond (.tmp 104) (.seq (.reg [⟨some 10, .mov (.con (.b true)), none⟩])
 .ret) .skip))
 (.seq (.reg [⟨some 106, .mov (.tmp 11), none⟩, ⟨some 107, .mov (.tmp 3), none⟩, ⟨some 108, .conv (.int .i64) (.tmp 107), none⟩, ⟨some 109, .call 11 [(.tmp 106), (.tmp 108)], none⟩, ⟨some 105, .mov (.tmp 109), none⟩, ⟨some 110, .ext (.tmp 105) 0, none⟩, ⟨some 111, .ext (.tmp 105) 1, none⟩, ⟨some 21, .mov (.tmp 110), none⟩, ⟨some 15, .mov (.tmp 111), none⟩])
 (.seq (.reg [⟨some 113, .mov (.tmp 12), none⟩, ⟨some 114, .mov (.tmp 3), none⟩, ⟨some 115, .conv (.int .i64) (.tmp 114), none⟩, ⟨some 116, .call 11 [(.tmp 113), (.tmp 115)], none⟩, ⟨some 112, .mov (.tmp 116), none⟩, ⟨some 117, .ext (.tmp 112) 0, none⟩, ⟨some 118, .ext (.tmp 112) 1, none⟩, ⟨some 22, .mov (.tmp 117), none⟩, ⟨some 17, .mov (.tmp 118), none⟩])
 (.seq (.reg [⟨some 120, .mov (.tmp 21), none⟩, ⟨some 121, .mov (.tmp 22), none⟩, ⟨some 122, .bslice 24 [(.sl .nil 0 [])] 1 [(0, (.tmp 121))], none⟩, ⟨some 123, .call 8 [(.tmp 120), (.tmp 122)], none⟩, ⟨some 119, .mov (.tmp 123), none⟩, ⟨some 124, .ext (.tmp 119) 0, none⟩, ⟨some 125, .ext (.tmp 119) 1, none⟩, ⟨some 23, .mov (.tmp 124), none⟩, ⟨some 24, .mov (.tmp 125), none⟩])
 (.seq (.seq (.reg [⟨some 126, .mov (.tmp 15), none⟩, ⟨some 127, .bin .neq (.tmp 126) (.con (.i .i64 (0))), none⟩, ⟨some 128, .mov (.tmp 127), none⟩, ⟨some 129, .mov (.tmp 17), some (128, false)⟩, ⟨some 130, .bin .neq (.tmp 129) (.con (.i .i64 (0))), some (128, false)⟩, ⟨some 131, .pick (.tmp 128) (.con (.b true)) (.tmp 130), none⟩, ⟨some 132, .mov (.tmp 131), none⟩, ⟨some 133, .mov (.tmp 24), some (132, false)⟩, ⟨some 134, .bin .neq (.tmp 133) (.con (.i .i64 (0))), some (132, false)⟩, ⟨some 135, .pick (.tmp 132) (.con (.b true)) (.tmp 134), none⟩, ⟨some 136, .mov (.tmp 135), none⟩, ⟨some 137, .mov (.tmp 20), some (136, false)⟩, ⟨some 138, .mov (.tmp 23), some (136, false)⟩, ⟨some 139, .call 10 [(.tmp 137), (.tmp 138)], some (136, false)⟩, ⟨some 140, .un .not (.tmp 139), some (136, false)⟩, ⟨some 141, .pick (.tmp 136) (.con (.b true)) (.tmp 140), none⟩])
 (.cond (.tmp 141) (.seq (.reg [⟨some 10, .mov (.con (.b false)), none⟩])
 .ret) .skip))
 (.seq (.reg [⟨some 143, .mov (.tmp 20), none⟩, ⟨some 144, .mov (.tmp 4), none⟩, ⟨some 145, .conv (.int .i64) (.tmp 144), none⟩, ⟨some 146, .call 11 [(.tmp 143), (.tmp 145)], none⟩, ⟨some 142, .mov (.tmp 146), none⟩, ⟨some 147, .ext (.tmp 142) 0, none⟩, ⟨some 148, .ext (.tmp 142) 1, none⟩, ⟨some 25, .mov (.tmp 147), none⟩, ⟨some 15, .mov (.tmp 148), none⟩])
 (.seq (.reg [⟨some 150, .mov (.tmp 14), none⟩, ⟨some 151, .mov (.tmp 3), none⟩, ⟨some 152, .conv (.int .i64) (.tmp 151), none⟩, ⟨some 153, .mov (.tmp 4), none⟩, ⟨some 154, .conv (.int .i64) (.tmp 153), none⟩, ⟨some 155, .bin .mul (.tmp 152) (.tmp 154), none⟩, ⟨some 156, .call 11 [(.tmp 150), (.tmp 155)], none⟩, ⟨some 149, .mov (.tmp 156), none⟩, ⟨some 157, .ext (.tmp 149) 0, none⟩, ⟨some 158, .ext (.tmp 149) 1, none⟩, ⟨some 26, .mov (.tmp 157), none⟩, ⟨some 17, .mov (.tmp 158), none⟩])
 (.seq (.reg [⟨some 159, .mov (.tmp 15), none⟩, ⟨some 160, .mov (.tmp 17), none⟩, ⟨some 161, .bin .eql (.tmp 159) (.tmp 160), none⟩, ⟨some 162, .mov (.tmp 161), none⟩, ⟨some 163, .mov (.tmp 25), some (162, true)⟩, ⟨some 164, .mov (.tmp 26), some (162, true)⟩, ⟨some 165, .call 10 [(.tmp 163), (.tmp 164)], some (162, true)⟩, ⟨some 166, .pick (.tmp 162) (.tmp 165) (.con (.b false)), none⟩, ⟨some 10, .mov (.tmp 166), none⟩])
 .ret))))))))))))))))))), [.tmp 10]⟩
theorem c3 : compF Try.prog k3 [] Try.f3 = some a3 := by kernel_rfl
/-- ramble/ramblelaw21.BulkMakes -/
def k4 : Nat → List (Nat × H) := fun _ => []
def a4 : AFun := ⟨5, (.seq (.reg [⟨some 8, .box (.tmp 3), none⟩, ⟨some 10, .mov (.con (.b false)), none⟩])
 (.seq (.seq (.reg [⟨some 16, .mov (.tmp 0), none⟩, ⟨some 17, .call 7 [(.tmp 16)], none⟩, ⟨some 18, .un .not (.tmp 17), none⟩, ⟨some 19, .mov (.tmp 18), none⟩, ⟨some 20, .mov (.tmp 1), some (19, false)⟩, ⟨some 21, .call 7 [(.tmp 20)], some (19, false)⟩, ⟨some 22, .un .not (.tmp 21), some (19, false)⟩, ⟨some 23, .pick (.tmp 19) (.con (.b true)) (.tmp 22), none⟩, ⟨some 24, .mov (.tmp 23), none⟩, ⟨some 25, .mov (.tmp 2), some (24, false)⟩, ⟨some 26, .len false (.tmp 25), some (24, false)⟩, ⟨some 27, .bin .gtr (.tmp 26) (.con (.i .i64 (60))), some (24, false)⟩, ⟨some 28, .pick (.tmp 24) (.con (.b true)) (.tmp 27), none⟩])
 (.cond (.tmp 28) (.seq (.reg [⟨some 10, .mov (.con (.b true)), none⟩])
 .ret) .skip))
 (.seq (.reg [⟨some 29, .mov (.tmp 0), none⟩, ⟨some 11, .mov (.tmp 29), none⟩])
 (.seq (.seq (.reg [⟨some 30, .call 9 [], none⟩, ⟨some 31, .un .not (.tmp 30), none⟩, ⟨some 32, .mov (.tmp 31), none⟩, ⟨some 33, .mov (.tmp 11), some (32, false)⟩, ⟨some 34, .call 12 [(.tmp 33)], some (32, false)⟩, ⟨some 35, .mov (.tmp 0), some (32, false)⟩, ⟨some 36, .call 13 [(.tmp 35)], some (32, false)⟩, ⟨some 37, .bin .neq (.tmp 34) (.tmp 36), some (32, false)⟩, ⟨some 38, .pick (.tmp 32) (.con (.b true)) (.tmp 37), none⟩, ⟨some 39, .mov (.tmp 38), none⟩, ⟨some 40, .mov (.tmp 2), some (39, false)⟩, ⟨some 41, .call 14 [(.tmp 40)], some (39, false)⟩, ⟨some 42, .mov (.tmp 2), some (39, false)⟩, ⟨some 43, .call 15 [(.tmp 42)], some (39, false)⟩, ⟨some 44, .call 10 [(.tmp 41), (.tmp 43)], some (39, false)⟩, ⟨some 45, .un .not (.tmp 44), some (39, false)⟩, ⟨some 46, .pick (.tmp 39) (.con (.b true)) (.tmp 45), none⟩, ⟨some 47, .mov (.tmp 46), none⟩, ⟨some 48, .mov (.tmp 11), some (47, false)⟩, ⟨some 49, .mov (.tmp 1), some (47, false)⟩, ⟨some 50, .call 16 [(.tmp 48), (.tmp 49)], some (47, false)⟩, ⟨some 51, .mov (.tmp 0), some (47, false)⟩, ⟨some 52, .mov (.tmp 1), some (47, false)⟩, ⟨some 53, .call 10 [(.tmp 51), (.tmp 52)], some (47, false)⟩, ⟨some 54, .eqb true (.tmp 50) (.tmp 53), some (47, false)⟩, ⟨some 55, .pick (.tmp 47) (.con (.b true)) (.tmp 54), none⟩, ⟨some 56, .mov (.tmp 55), none⟩, ⟨some 57, .mov (.tmp 11), some (56, false)⟩, ⟨some 58, .call 17 [(.tmp 57)], some (56, false)⟩, ⟨some 59, .mov (.tmp 0), some (56, false)⟩, ⟨some 60, .call 18 [(.tmp 59)], some (56, false)⟩, ⟨some 61, .call 10 [(.tmp 58), (.tmp 60)], some (56, false)⟩, ⟨some 62, .un .not (.tmp 61), some (56, false)⟩, ⟨some 63, .pick (.tmp 56) (.con (.b true)) (.tmp 62), none⟩])
 (.cond (.tmp 63) (.seq (.reg [⟨some 10, .mov (.con (.b false)), none⟩])
 .ret) .skip))
 (.seq (.reg [⟨some 65, .mov (.tmp 11), none⟩, ⟨some 66, .load true 4 (.tmp 8), none⟩, ⟨some 67, .mov (.tmp 4), none⟩, ⟨some 68, .call 19 [(.tmp 65), (.tmp 66), (.tmp 67)], none⟩, ⟨some 64, .mov (.tmp 68), none⟩, ⟨some 69, .ext (.tmp 64) 0, none⟩, ⟨some 70, .ext (.tmp 64) 1, none⟩, ⟨some 12, .mov (.tmp 69), none⟩, ⟨some 13, .mov (.tmp 70), none⟩])
 (.seq (.reg [⟨some 72, .mov (.tmp 0), none⟩, ⟨some 73, .load true 4 (.tmp 8), none⟩, ⟨some 74, .mov (.tmp 4), none⟩, ⟨some 75, .call 20 [(.tmp 72), (.tmp 73), (.tmp 74)], none⟩, ⟨some 71, .mov (.tmp 75), none⟩, ⟨some 76, .ext (.tmp 71) 0, none⟩, ⟨some 77, .ext (.tmp 71) 1, none⟩, ⟨some 14, .mov (.tmp 76), none⟩, ⟨some 15, .mov (.tmp 77), none⟩])
 (.seq (.seq (.reg [⟨some 78, .mov (.tmp 12), none⟩, ⟨some 79, .mov (.tmp 14), none⟩, ⟨some 80, .call 10 [(.tmp 78), (.tmp 79)], none⟩, ⟨some 81, .un .not (.tmp 80), none⟩, ⟨some 82, .mov (.tmp 81), none⟩, ⟨some 83, .mov (.tmp 13), some (82, false)⟩, ⟨some 84, .mov (.tmp 15), some (82, false)⟩, ⟨some 85, .bin .neq (.tmp 83) (.tmp 84), some (82, false)⟩, ⟨some 86, .pick (.tmp 82) (.con (.b true)) (.tmp 85), none⟩])
 (.cond (.tmp 86) (.seq (.reg [⟨some 10, .mov (.con (.b false)), none⟩])
 .ret) .skip))
 (.seq (.reg [⟨some 88, .mov (.tmp 11), none⟩, ⟨some 89, .mov (.tmp 1), none⟩, ⟨some 90, .mov (.tmp 0), none⟩, ⟨some 91, .bslice 24 [(.sl .nil 0 [])] 2 [(0, (.tmp 89)), (1, (.tmp 90))], none⟩, ⟨some 92, .call 8 [(.tmp 88), (.tmp 91)], none⟩, ⟨some 87, .mov (.tmp 92), none⟩, ⟨some 93, .ext (.tmp 87) 0, none⟩, ⟨some 94, .ext (.tmp 87) 1, none⟩, ⟨some 12, .mov (.tmp 93), none⟩, ⟨some 13, .mov (.tmp 94), none⟩])
 (.seq (.reg [⟨some 96, .mov (.tmp 0), none⟩, ⟨some 97, .mov (.tmp 1), none⟩, ⟨some 98, .mov (.tmp 0), none⟩, ⟨some 99, .bslice 22 [(.sl .nil 0 [])] 2 [(0, (.tmp 97)), (1, (.tmp 98))], none⟩, ⟨some 100, .call 21 [(.tmp 96), (.tmp 99)], none⟩, ⟨some 95, .mov (.tmp 100), none⟩, ⟨some 101, .ext (.tmp 95) 0, none⟩, ⟨some 102, .ext (.tmp 95) 1, none⟩, ⟨some 14, .mov (.tmp 101), none⟩, ⟨some 15, .mov (.tmp 102), none⟩])
 (.seq (.seq (.reg [⟨some 103, .mov (.tmp 12), none⟩, ⟨some 104, .mov (.tmp 14), none⟩, ⟨some 105, .call 10 [(.tmp 103), (.tmp 104)], none⟩, ⟨some 106, .un .not (.tmp 105), none⟩, ⟨some 107, .mov (.tmp 106), none⟩, ⟨some 108, .mov (.tmp 13), some (107, false)⟩, ⟨some 109, .mov (.tmp 15), some (107, false)⟩, ⟨some 110, .bin .neq (.tmp 108) (.tmp 109), some (107, false)⟩, ⟨some 111, .pick (.tmp 107) (.con (.b true)) (.tmp 110), none⟩])
 (.cond (.tmp 111) (.seq (.reg [⟨some 10, .mov (.con (.b false)), none⟩])
 .ret) .skip))
 (.seq (.reg [⟨some 113, .mov (.tmp 11), none⟩, ⟨some 114, .mov (.tmp 4), none⟩, ⟨some 115, .call 11 [(.tmp 113), (.tmp 114)], none⟩, ⟨some 112, .mov (.tmp 115), none⟩, ⟨some 116, .ext (.tmp 112) 0, none⟩, ⟨some 117, .ext (.tmp 112) 1, none⟩, ⟨some 12, .mov (.tmp 116), none⟩, ⟨some 13, .mov (.tmp 117), none⟩])
 (.seq (.reg [⟨some 119, .mov (.tmp 0), none⟩, ⟨some 120, .mov (.tmp 4), none⟩, ⟨some 121, .call 22 [(.tmp 119), (.tmp 120)], none⟩, ⟨some 118, .mov (.tmp 121), none⟩, ⟨some 122, .ext (.tmp 118) 0, none⟩, ⟨some 123, .ext (.tmp 118) 1, none⟩, ⟨some 14, .mov (.tmp 122), none⟩, ⟨some 15, .mov (.tmp 123), none⟩])
 (.seq (.reg [⟨some 124, .mov (.tmp 12), none⟩, ⟨some 125, .mov (.tmp 14), none⟩, ⟨some 126, .call 10 [(.tmp 124), (.tmp 125)], none⟩, ⟨some 127, .mov (.tmp 126), none⟩, ⟨some 128, .mov (.tmp 13), some (127, true)⟩, ⟨some 129, .mov (.tmp 15), some (127, true)⟩, ⟨some 130, .bin .eql (.tmp 128) (.tmp 129), some (127, true)⟩, ⟨some 131, .pick (.tmp 127) (.tmp 130) (.con (.b false)), none⟩, ⟨some 10, .mov (.tmp 131), none⟩])
 .ret))))))))))))), [.tmp 10]⟩
theorem c4 : compF Try.prog k4 [] Try.f4 = some a4 := by kernel_rfl
/-- ramble/ramblelaw21.few -/
def k7 : Nat → List (Nat × H) := fun _ => []
def a7 : AFun := ⟨1, (.seq (.reg [⟨some 2, .mov (.con (.b false)), none⟩])
 (.seq (.reg [⟨some 3, .mov (.tmp 0), none⟩, ⟨some 4, .len false (.tmp 3), none⟩, ⟨some 5, .bin .leq (.tmp 4) (.con (.i .i64 (60))), none⟩, ⟨some 2, .mov (.tmp 5), none⟩])
 .ret)), [.tmp 2]⟩
theorem c7 : compF Try.prog k7 [] Try.f7 = some a7 := by kernel_rfl
/-- (ramble/bulk.Bag).Add -/
def k8 : Nat → List (Nat × H) := fun r => if r = 3 then [(0, .row 67 5), (12, .none), (13, .none), (14, .none)] else if r = 9 then [(0, .row 67 5), (12, .none), (13, .none), (14, .none), (26, .row 67 5), (27, .none), (28, .none)] else []
def a8 : AFun := ⟨2, (.seq (.reg [⟨some 4, .mov (.con (.sl .nil 0 [])), none⟩, ⟨some 5, .mov (.con (.i .i64 (0))), none⟩])
 (.seq (.reg [⟨some 10, .mov (.tmp 0), none⟩, ⟨some 11, .call 44 [(.tmp 10)], none⟩, ⟨some 0, .mov (.tmp 11), none⟩])
 (.seq (.seq (.reg [⟨some 12, .mov (.tmp 1), none⟩, ⟨some 13, .len false (.tmp 12), none⟩, ⟨some 14, .mov (.con (.i .i64 (0))), none⟩])
 (.block 0 (.loop [(0, .row 67 5), (12, .none), (13, .none), (14, .none)] (.seq (.reg [⟨some 15, .bin .lss (.tmp 14) (.tmp 13), none⟩])
 (.seq (.cond (.tmp 15) .skip (.exit 0))
 (.seq (.block 1 (.seq (.reg [⟨some 16, .iaddr 1 (.tmp 12) (.tmp 14), none⟩, ⟨some 17, .load false 1 (.tmp 16), none⟩, ⟨some 7, .mov (.tmp 17), none⟩])
 (.seq (.reg [⟨some 18, .mov (.tmp 7), none⟩, ⟨some 19, .call 44 [(.tmp 18)], none⟩, ⟨some 7, .mov (.tmp 19), none⟩])
 (.seq (.seq (.reg [⟨some 20, .mov (.tmp 7), none⟩, ⟨some 21, .call 45 [(.tmp 20)], none⟩, ⟨some 22, .mov (.tmp 0), none⟩, ⟨some 23, .call 45 [(.tmp 22)], none⟩, ⟨some 24, .bin .sub (.con (.i .i64 (9007199254740992))) (.tmp 23), none⟩, ⟨some 25, .bin .gtr (.tmp 21) (.tmp 24), none⟩])
 (.cond (.tmp 25) (.seq (.reg [⟨some 4, .mov (.con (.sl .nil 0 [])), none⟩, ⟨some 5, .mov (.con (.i .i64 (7))), none⟩])
 .ret) .skip))
 (.seq (.reg [⟨some 26, .mov (.tmp 7), none⟩, ⟨some 27, .len false (.tmp 26), none⟩, ⟨some 28, .mov (.con (.i .i64 (0))), none⟩])
 (.block 2 (.loop [(0, .row 67 5), (12, .none), (13, .none), (14, .none), (26, .row 67 5), (27, .none), (28, .none)] (.seq (.reg [⟨some 29, .bin .lss (.tmp 28) (.tmp 27), none⟩])
 (.seq (.cond (.tmp 29) .skip (.exit 2))
 (.seq (.block 3 (.seq (.reg [⟨some 30, .iaddr 5 (.tmp 26) (.tmp 28), none⟩, ⟨some 31, .load true 5 (.tmp 30), none⟩, ⟨some 9, .alloc [(.i .i64 (0)), (.i .i64 (0)), (.str []), (.sl .nil 0 []), (.i .i64 (0))], none⟩, ⟨none, .store 5 (.tmp 9) (.tmp 31), none⟩])
 (.reg [⟨some 32, .mov (.tmp 0), none⟩, ⟨some 33, .faddr 0 (.tmp 9), none⟩, ⟨some 34, .load true 4 (.tmp 33), none⟩, ⟨some 35, .faddr 4 (.tmp 9), none⟩, ⟨some 36, .load false 1 (.tmp 35), none⟩, ⟨some 37, .call 46 [(.tmp 32), (.tmp 34), (.tmp 36)], none⟩, ⟨some 0, .mov (.tmp 37), none⟩])))
 (.reg [⟨some 38, .bin .add (.tmp 28) (.con (.i .i64 (1))), none⟩, ⟨some 28, .mov (.tmp 38), none⟩])))))))))))
 (.reg [⟨some 39, .bin .add (.tmp 14) (.con (.i .i64 (1))), none⟩, ⟨some 14, .mov (.tmp 39), none⟩])))))))
 (.seq (.reg [⟨some 40, .mov (.tmp 0), none⟩, ⟨some 4, .mov (.tmp 40), none⟩, ⟨some 5, .mov (.con (.i .i64 (0))), none⟩])
 .ret)))), [.tmp 4, .tmp 5]⟩
theorem c8 : compF Try.prog k8 [] Try.f8 = some a8 := by kernel_rfl
/-- ramble/ramblelaw21.begun -/
def k9 : Nat → List (Nat × H) := fun _ => []
def a9 : AFun := ⟨0, (.seq (.reg [⟨some 0, .mov (.con (.b false)), none⟩])
 (.seq (.reg [⟨some 6, .call 47 [(.con (.i .i64 (3)))], none⟩, ⟨some 7, .call 47 [(.con (.i .i64 (1)))], none⟩, ⟨some 8, .call 47 [(.con (.i .i64 (3)))], none⟩, ⟨some 9, .bslice 34 [(.i .i64 (0)), (.i .i64 (0)), (.str []), (.sl .nil 0 [])] 3 [(0, (.tmp 6)), (1, (.tmp 7)), (2, (.tmp 8))], none⟩, ⟨some 10, .call 14 [(.tmp 9)], none⟩, ⟨some 1, .mov (.tmp 10), none⟩])
 (.seq (.reg [⟨some 12, .mov (.tmp 1), none⟩, ⟨some 13, .call 23 [(.tmp 12)], none⟩, ⟨some 11, .mov (.tmp 13), none⟩, ⟨some 14, .ext (.tmp 11) 0, none⟩, ⟨some 15, .ext (.tmp 11) 1, none⟩, ⟨some 2, .alloc [(.i .i64 (0)), (.i .i64 (0)), (.str []), (.sl .nil 0 [])], none⟩, ⟨none, .store 4 (.tmp 2) (.tmp 14), none⟩, ⟨some 3, .mov (.tmp 15), none⟩])
 (.seq (.reg [⟨some 17, .mov (.tmp 1), none⟩, ⟨some 18, .call 11 [(.tmp 17), (.con (.i .i64 (10)))], none⟩, ⟨some 16, .mov (.tmp 18), none⟩, ⟨some 19, .ext (.tmp 16) 0, none⟩, ⟨some 20, .ext (.tmp 16) 1, none⟩, ⟨some 4, .mov (.tmp 19), none⟩, ⟨some 5, .mov (.tmp 20), none⟩])
 (.seq (.reg [⟨some 21, .mov (.tmp 1), none⟩, ⟨some 22, .len false (.tmp 21), none⟩, ⟨some 23, .bin .eql (.tmp 22) (.con (.i .i64 (2))), none⟩, ⟨some 24, .mov (.tmp 23), none⟩, ⟨some 25, .mov (.tmp 1), some (24, true)⟩, ⟨some 26, .iaddr 5 (.tmp 25) (.con (.i .i64 (1))), some (24, true)⟩, ⟨some 27, .faddr 4 (.tmp 26), some (24, true)⟩, ⟨some 28, .load false 1 (.tmp 27), some (24, true)⟩, ⟨some 29, .bin .eql (.tmp 28) (.con (.i .i64 (2))), some (24, true)⟩, ⟨some 30, .pick (.tmp 24) (.tmp 29) (.con (.b false)), none⟩, ⟨some 31, .mov (.tmp 30), none⟩, ⟨some 32, .mov (.tmp 3), some (31, true)⟩, ⟨some 33, .bin .eql (.tmp 32) (.con (.i .i64 (0))), some (31, true)⟩, ⟨some 34, .pick (.tmp 31) (.tmp 33) (.con (.b false)), none⟩, ⟨some 35, .mov (.tmp 34), none⟩, ⟨some 36, .faddr 1 (.tmp 2), some (35, true)⟩, ⟨some 37, .load false 1 (.tmp 36), some (35, true)⟩, ⟨some 38, .bin .eql (.tmp 37) (.con (.i .i64 (7))), some (35, true)⟩, ⟨some 39, .pick (.tmp 35) (.tmp 38) (.con (.b false)), none⟩, ⟨some 40, .mov (.tmp 39), none⟩, ⟨some 41, .mov (.tmp 5), some (40, true)⟩, ⟨some 42, .bin .eql (.tmp 41) (.con (.i .i64 (0))), some (40, true)⟩, ⟨some 43, .pick (.tmp 40) (.tmp 42) (.con (.b false)), none⟩, ⟨some 44, .mov (.tmp 43), none⟩, ⟨some 45, .mov (.tmp 4), some (44, true)⟩, ⟨some 46, .call 27 [(.tmp 45)], some (44, true)⟩, ⟨some 47, .bin .eql (.tmp 46) (.con (.i .i64 (30))), some (44, true)⟩, ⟨some 48, .pick (.tmp 44) (.tmp 47) (.con (.b false)), none⟩, ⟨some 0, .mov (.tmp 48), none⟩])
 .ret))))), [.tmp 0]⟩
theorem c9 : compF Try.prog k9 [] Try.f9 = some a9 := by kernel_rfl
/-- ramble/rambleref21.Same -/
def k10 : Nat → List (Nat × H) := fun r => if r = 4 then [(0, .none), (1, .none), (5, .none)] else []
def a10 : AFun := ⟨2, (.seq (.reg [⟨some 4, .mov (.con (.b false)), none⟩])
 (.seq (.seq (.reg [⟨some 6, .mov (.tmp 0), none⟩, ⟨some 7, .len false (.tmp 6), none⟩, ⟨some 8, .mov (.tmp 1), none⟩, ⟨some 9, .len false (.tmp 8), none⟩, ⟨some 10, .bin .neq (.tmp 7) (.tmp 9), none⟩])
 (.cond (.tmp 10) (.seq (.reg [⟨some 4, .mov (.con (.b false)), none⟩])
 .ret) .skip))
 (.seq (.seq (.reg [⟨some 5, .mov (.con (.i .i64 (0))), none⟩])
 (.block 0 (.loop [(0, .none), (1, .none), (5, .none)] (.seq (.seq (.reg [⟨some 11, .mov (.tmp 5), none⟩, ⟨some 12, .mov (.tmp 0), none⟩, ⟨some 13, .len false (.tmp 12), none⟩, ⟨some 14, .bin .lss (.tmp 11) (.tmp 13), none⟩])
 (.cond (.tmp 14) .skip (.exit 0)))
 (.seq (.block 1 (.seq (.draw [⟨some 17, .mov (.tmp 0), none⟩, ⟨some 18, .mov (.tmp 5), none⟩, ⟨some 19, .iaddr 5 (.tmp 17) (.tmp 18), none⟩, ⟨some 20, .faddr 4 (.tmp 19), none⟩, ⟨some 21, .load false 1 (.tmp 20), none⟩, ⟨some 22, .mov (.tmp 1), none⟩, ⟨some 23, .mov (.tmp 5), none⟩, ⟨some 24, .iaddr 5 (.tmp 22) (.tmp 23), none⟩, ⟨some 25, .faddr 4 (.tmp 24), none⟩, ⟨some 26, .load false 1 (.tmp 25), none⟩, ⟨some 27, .bin .neq (.tmp 21) (.tmp 26), none⟩, ⟨some 28, .mov (.tmp 27), none⟩, ⟨some 29, .mov (.tmp 0), some (28, false)⟩, ⟨some 30, .mov (.tmp 5), some (28, false)⟩, ⟨some 31, .iaddr 5 (.tmp 29) (.tmp 30), some (28, false)⟩, ⟨some 32, .faddr 0 (.tmp 31), some (28, false)⟩, ⟨some 33, .load true 4 (.tmp 32), some (28, false)⟩, ⟨some 34, .mov (.tmp 1), some (28, false)⟩, ⟨some 35, .mov (.tmp 5), some (28, false)⟩, ⟨some 36, .iaddr 5 (.tmp 34) (.tmp 35), some (28, false)⟩, ⟨some 37, .faddr 0 (.tmp 36), some (28, false)⟩, ⟨some 38, .load true 4 (.tmp 37), some (28, false)⟩, ⟨some 39, .call 31 [(.tmp 33), (.tmp 38)], some (28, false)⟩, ⟨some 40, .un .not (.tmp 39), some (28, false)⟩, ⟨some 41, .pick (.tmp 28) (.con (.b true)) (.tmp 40), none⟩] [(2, 7), (4, 7), (2, 9), (4, 9), (14, 19), (16, 19), (14, 21), (16, 21)])
 (.cond (.tmp 41) (.seq (.reg [⟨some 4, .mov (.con (.b false)), none⟩])
 .ret) .skip)))
 (.reg [⟨some 15, .mov (.tmp 5), none⟩, ⟨some 16, .bin .add (.tmp 15) (.con (.i .i64 (1))), none⟩, ⟨some 5, .mov (.tmp 16), none⟩]))))))
 (.seq (.reg [⟨some 4, .mov (.con (.b true)), none⟩])
 .ret)))), [.tmp 4]⟩
theorem c10 : compF Try.prog k10 [] Try.f10 = some a10 := by kernel_rfl
/-- (ramble/bulk.Bag).Scale -/
def k11 : Nat → List (Nat × H) := fun r => if r = 9 then [(0, .row 67 5), (1, .none), (27, .none), (28, .none)] else []
def a11 : AFun := ⟨2, (.seq (.reg [⟨some 4, .mov (.con (.sl .nil 0 [])), none⟩, ⟨some 5, .mov (.con (.i .i64 (0))), none⟩])
 (.seq (.reg [⟨some 7, .mov (.tmp 0), none⟩, ⟨some 8, .call 44 [(.tmp 7)], none⟩, ⟨some 0, .mov (.tmp 8), none⟩])
 (.seq (.block 0 (.seq (.reg [⟨some 10, .mov (.tmp 1), none⟩, ⟨some 11, .bin .lss (.tmp 10) (.con (.i .i64 (0))), none⟩, ⟨some 9, .mov (.tmp 11), none⟩])
 (.cond (.tmp 9) (.seq (.reg [⟨some 4, .mov (.con (.sl .nil 0 [])), none⟩, ⟨some 5, .mov (.con (.i .i64 (1))), none⟩])
 .ret) (.seq (.reg [⟨some 13, .mov (.tmp 1), none⟩, ⟨some 14, .bin .eql (.tmp 13) (.con (.i .i64 (0))), none⟩, ⟨some 15, .mov (.tmp 14), none⟩, ⟨some 16, .mov (.tmp 0), some (15, false)⟩, ⟨some 17, .len false (.tmp 16), some (15, false)⟩, ⟨some 18, .bin .eql (.tmp 17) (.con (.i .i64 (0))), some (15, false)⟩, ⟨some 19, .pick (.tmp 15) (.con (.b true)) (.tmp 18), none⟩, ⟨some 12, .mov (.tmp 19), none⟩])
 (.cond (.tmp 12) (.seq (.reg [⟨some 4, .mov (.con (.sl .nil 0 [])), none⟩, ⟨some 5, .mov (.con (.i .i64 (0))), none⟩])
 .ret) (.seq (.reg [⟨some 21, .mov (.tmp 1), none⟩, ⟨some 22, .mov (.tmp 0), none⟩, ⟨some 23, .call 45 [(.tmp 22)], none⟩, ⟨some 24, .bin .quo (.con (.i .i64 (9007199254740992))) (.tmp 23), none⟩, ⟨some 25, .bin .gtr (.tmp 21) (.tmp 24), none⟩, ⟨some 20, .mov (.tmp 25), none⟩])
 (.cond (.tmp 20) (.seq (.reg [⟨some 4, .mov (.con (.sl .nil 0 [])), none⟩, ⟨some 5, .mov (.con (.i .i64 (7))), none⟩])
 .ret) .skip)))))))
 (.seq (.seq (.reg [⟨some 26, .mov (.tmp 0), none⟩, ⟨some 27, .len false (.tmp 26), none⟩, ⟨some 28, .mov (.con (.i .i64 (0))), none⟩])
 (.block 1 (.loop [(0, .row 67 5), (1, .none), (27, .none), (28, .none)] (.seq (.reg [⟨some 29, .bin .lss (.tmp 28) (.tmp 27), none⟩])
 (.seq (.cond (.tmp 29) .skip (.exit 1))
 (.seq (.block 2 (.seq (.reg [⟨some 30, .mov (.tmp 28), none⟩, ⟨some 6, .mov (.tmp 30), none⟩])
 (.reg [⟨some 31, .mov (.tmp 0), none⟩, ⟨some 32, .mov (.tmp 6), none⟩, ⟨some 33, .iaddr 5 (.tmp 31) (.tmp 32), none⟩, ⟨some 34, .faddr 4 (.tmp 33), none⟩, ⟨some 35, .load false 1 (.tmp 34), none⟩, ⟨some 36, .mov (.tmp 1), none⟩, ⟨some 37, .bin .mul (.tmp 35) (.tmp 36), none⟩, ⟨some 38, .iaddr 5 (.tmp 31) (.tmp 32), none⟩, ⟨some 39, .faddr 4 (.tmp 38), none⟩, ⟨none, .store 1 (.tmp 39) (.tmp 37), none⟩])))
 (.reg [⟨some 40, .bin .add (.tmp 28) (.con (.i .i64 (1))), none⟩, ⟨some 28, .mov (.tmp 40), none⟩])))))))
 (.seq (.reg [⟨some 41, .mov (.tmp 0), none⟩, ⟨some 4, .mov (.tmp 41), none⟩, ⟨some 5, .mov (.con (.i .i64 (0))), none⟩])
 .ret))))), [.tmp 4, .tmp 5]⟩
theorem c11 : compF Try.prog k11 [] Try.f11 = some a11 := by kernel_rfl
/-- (ramble/bulk.Bag).Check -/
def k12 : Nat → List (Nat × H) := fun r => if r = 3 then [(0, .none), (3, .none), (6, .none), (7, .none), (8, .none)] else []
def a12 : AFun := ⟨1, (.seq (.reg [⟨some 2, .mov (.con (.i .i64 (0))), none⟩])
 (.seq (.reg [⟨some 3, .mov (.con (.i .i64 (9007199254740992))), none⟩])
 (.seq (.seq (.reg [⟨some 6, .mov (.tmp 0), none⟩, ⟨some 7, .len false (.tmp 6), none⟩, ⟨some 8, .mov (.con (.i .i64 (0))), none⟩])
 (.block 0 (.loop [(0, .none), (3, .none), (6, .none), (7, .none), (8, .none)] (.seq (.reg [⟨some 9, .bin .lss (.tmp 8) (.tmp 7), none⟩])
 (.seq (.cond (.tmp 9) .skip (.exit 0))
 (.seq (.block 1 (.seq (.reg [⟨some 10, .mov (.tmp 8), none⟩, ⟨some 11, .iaddr 5 (.tmp 6) (.tmp 8), none⟩, ⟨some 12, .load true 5 (.tmp 11), none⟩, ⟨some 5, .alloc [(.i .i64 (0)), (.i .i64 (0)), (.str []), (.sl .nil 0 []), (.i .i64 (0))], none⟩, ⟨some 4, .mov (.tmp 10), none⟩, ⟨none, .store 5 (.tmp 5) (.tmp 12), none⟩])
 (.seq (.block 2 (.seq (.reg [⟨some 14, .faddr 4 (.tmp 5), none⟩, ⟨some 15, .load false 1 (.tmp 14), none⟩, ⟨some 16, .bin .lss (.tmp 15) (.con (.i .i64 (1))), none⟩, ⟨some 17, .mov (.tmp 16), none⟩, ⟨some 18, .faddr 4 (.tmp 5), some (17, false)⟩, ⟨some 19, .load false 1 (.tmp 18), some (17, false)⟩, ⟨some 20, .mov (.tmp 3), some (17, false)⟩, ⟨some 21, .bin .gtr (.tmp 19) (.tmp 20), some (17, false)⟩, ⟨some 22, .pick (.tmp 17) (.con (.b true)) (.tmp 21), none⟩, ⟨some 13, .mov (.tmp 22), none⟩])
 (.cond (.tmp 13) (.seq (.reg [⟨some 2, .mov (.con (.i .i64 (210))), none⟩])
 .ret) (.seq (.reg [⟨some 24, .faddr 0 (.tmp 5), none⟩, ⟨some 25, .load true 4 (.tmp 24), none⟩, ⟨some 26, .call 48 [(.tmp 25)], none⟩, ⟨some 27, .bin .neq (.tmp 26) (.con (.i .i64 (0))), none⟩, ⟨some 23, .mov (.tmp 27), none⟩])
 (.cond (.tmp 23) (.seq (.reg [⟨some 2, .mov (.con (.i .i64 (210))), none⟩])
 .ret) (.seq (.draw [⟨some 29, .mov (.tmp 4), none⟩, ⟨some 30, .bin .gtr (.tmp 29) (.con (.i .i64 (0))), none⟩, ⟨some 31, .mov (.tmp 30), none⟩, ⟨some 32, .mov (.tmp 0), some (31, true)⟩, ⟨some 33, .mov (.tmp 4), some (31, true)⟩, ⟨some 34, .bin .sub (.tmp 33) (.con (.i .i64 (1))), some (31, true)⟩, ⟨some 35, .iaddr 5 (.tmp 32) (.tmp 34), some (31, true)⟩, ⟨some 36, .faddr 0 (.tmp 35), some (31, true)⟩, ⟨some 37, .load true 4 (.tmp 36), some (31, true)⟩, ⟨some 38, .faddr 0 (.tmp 5), some (31, true)⟩, ⟨some 39, .load true 4 (.tmp 38), some (31, true)⟩, ⟨some 40, .call 49 [(.tmp 37), (.tmp 39)], some (31, true)⟩, ⟨some 41, .bin .geq (.tmp 40) (.con (.i .i64 (0))), some (31, true)⟩, ⟨some 42, .pick (.tmp 31) (.tmp 41) (.con (.b false)), none⟩, ⟨some 28, .mov (.tmp 42), none⟩] [(6, 10), (8, 10)])
 (.cond (.tmp 28) (.seq (.reg [⟨some 2, .mov (.con (.i .i64 (210))), none⟩])
 .ret) .skip)))))))
 (.reg [⟨some 43, .mov (.tmp 3), none⟩, ⟨some 44, .faddr 4 (.tmp 5), none⟩, ⟨some 45, .load false 1 (.tmp 44), none⟩, ⟨some 46, .bin .sub (.tmp 43) (.tmp 45), none⟩, ⟨some 3, .mov (.tmp 46), none⟩]))))
 (.reg [⟨some 47, .bin .add (.tmp 8) (.con (.i .i64 (1))), none⟩, ⟨some 8, .mov (.tmp 47), none⟩])))))))
 (.seq (.reg [⟨some 2, .mov (.con (.i .i64 (0))), none⟩])
 .ret)))), [.tmp 2]⟩
theorem c12 : compF Try.prog k12 [] Try.f12 = some a12 := by kernel_rfl
/-- ramble/rambleref21.Check -/
def k13 : Nat → List (Nat × H) := fun r => if r = 3 then [(0, .none), (3, .none), (4, .none)] else []
def a13 : AFun := ⟨1, (.seq (.reg [⟨some 2, .mov (.con (.i .i64 (0))), none⟩])
 (.seq (.reg [⟨some 3, .mov (.con (.i .i64 (9007199254740992))), none⟩])
 (.seq (.seq (.reg [⟨some 4, .mov (.con (.i .i64 (0))), none⟩])
 (.block 0 (.loop [(0, .none), (3, .none), (4, .none)] (.seq (.seq (.reg [⟨some 5, .mov (.tmp 4), none⟩, ⟨some 6, .mov (.tmp 0), none⟩, ⟨some 7, .len false (.tmp 6), none⟩, ⟨some 8, .bin .lss (.tmp 5) (.tmp 7), none⟩])
 (.cond (.tmp 8) .skip (.exit 0)))
 (.seq (.block 1 (.seq (.seq (.draw [⟨some 11, .mov (.tmp 0), none⟩, ⟨some 12, .mov (.tmp 4), none⟩, ⟨some 13, .iaddr 5 (.tmp 11) (.tmp 12), none⟩, ⟨some 14, .faddr 4 (.tmp 13), none⟩, ⟨some 15, .load false 1 (.tmp 14), none⟩, ⟨some 16, .bin .lss (.tmp 15) (.con (.i .i64 (1))), none⟩, ⟨some 17, .mov (.tmp 16), none⟩, ⟨some 18, .mov (.tmp 0), some (17, false)⟩, ⟨some 19, .mov (.tmp 4), some (17, false)⟩, ⟨some 20, .iaddr 5 (.tmp 18) (.tmp 19), some (17, false)⟩, ⟨some 21, .faddr 4 (.tmp 20), some (17, false)⟩, ⟨some 22, .load false 1 (.tmp 21), some (17, false)⟩, ⟨some 23, .mov (.tmp 3), some (17, false)⟩, ⟨some 24, .bin .gtr (.tmp 22) (.tmp 23), some (17, false)⟩, ⟨some 25, .pick (.tmp 17) (.con (.b true)) (.tmp 24), none⟩, ⟨some 26, .mov (.tmp 25), none⟩, ⟨some 27, .mov (.tmp 0), some (26, false)⟩, ⟨some 28, .mov (.tmp 4), some (26, false)⟩, ⟨some 29, .iaddr 5 (.tmp 27) (.tmp 28), some (26, false)⟩, ⟨some 30, .faddr 0 (.tmp 29), some (26, false)⟩, ⟨some 31, .load true 4 (.tmp 30), some (26, false)⟩, ⟨some 32, .call 39 [(.tmp 31)], some (26, false)⟩, ⟨some 33, .bin .neq (.tmp 32) (.con (.i .i64 (0))), some (26, false)⟩, ⟨some 34, .pick (.tmp 26) (.con (.b true)) (.tmp 33), none⟩, ⟨some 35, .mov (.tmp 34), none⟩, ⟨some 36, .mov (.tmp 4), some (35, false)⟩, ⟨some 37, .bin .gtr (.tmp 36) (.con (.i .i64 (0))), some (35, false)⟩, ⟨some 38, .mov (.tmp 37), some (35, false)⟩, ⟨some 39, .mov (.tmp 0), some (38, true)⟩, ⟨some 40, .mov (.tmp 4), some (38, true)⟩, ⟨some 41, .bin .sub (.tmp 40) (.con (.i .i64 (1))), some (38, true)⟩, ⟨some 42, .iaddr 5 (.tmp 39) (.tmp 41), some (38, true)⟩, ⟨some 43, .faddr 0 (.tmp 42), some (38, true)⟩, ⟨some 44, .load true 4 (.tmp 43), some (38, true)⟩, ⟨some 45, .mov (.tmp 0), some (38, true)⟩, ⟨some 46, .mov (.tmp 4), some (38, true)⟩, ⟨some 47, .iaddr 5 (.tmp 45) (.tmp 46), some (38, true)⟩, ⟨some 48, .faddr 0 (.tmp 47), some (38, true)⟩, ⟨some 49, .load true 4 (.tmp 48), some (38, true)⟩, ⟨some 50, .call 43 [(.tmp 44), (.tmp 49)], some (38, true)⟩, ⟨some 51, .bin .geq (.tmp 50) (.con (.i .i64 (0))), some (38, true)⟩, ⟨some 52, .pick (.tmp 38) (.tmp 51) (.con (.b false)), some (35, false)⟩, ⟨some 53, .pick (.tmp 35) (.con (.b true)) (.tmp 52), none⟩] [(31, 36), (33, 36), (31, 38), (33, 38)])
 (.cond (.tmp 53) (.seq (.reg [⟨some 2, .mov (.con (.i .i64 (210))), none⟩])
 .ret) .skip))
 (.reg [⟨some 54, .mov (.tmp 3), none⟩, ⟨some 55, .mov (.tmp 0), none⟩, ⟨some 56, .mov (.tmp 4), none⟩, ⟨some 57, .iaddr 5 (.tmp 55) (.tmp 56), none⟩, ⟨some 58, .faddr 4 (.tmp 57), none⟩, ⟨some 59, .load false 1 (.tmp 58), none⟩, ⟨some 60, .bin .sub (.tmp 54) (.tmp 59), none⟩, ⟨some 3, .mov (.tmp 60), none⟩])))
 (.reg [⟨some 9, .mov (.tmp 4), none⟩, ⟨some 10, .bin .add (.tmp 9) (.con (.i .i64 (1))), none⟩, ⟨some 4, .mov (.tmp 10), none⟩]))))))
 (.seq (.reg [⟨some 2, .mov (.con (.i .i64 (0))), none⟩])
 .ret)))), [.tmp 2]⟩
theorem c13 : compF Try.prog k13 [] Try.f13 = some a13 := by kernel_rfl
/-- ramble/bulk.Of -/
def k14 : Nat → List (Nat × H) := fun r => if r = 3 then [(3, .row 67 5), (6, .none), (7, .none), (8, .none)] else []
def a14 : AFun := ⟨1, (.seq (.reg [⟨some 2, .mov (.con (.sl .nil 0 [])), none⟩])
 (.seq (.reg [⟨some 3, .mov (.con (.sl .nil 0 [])), none⟩])
 (.seq (.seq (.reg [⟨some 6, .mov (.tmp 0), none⟩, ⟨some 7, .len false (.tmp 6), none⟩, ⟨some 8, .mov (.con (.i .i64 (0))), none⟩])
 (.block 0 (.loop [(3, .row 67 5), (6, .none), (7, .none), (8, .none)] (.seq (.reg [⟨some 9, .bin .lss (.tmp 8) (.tmp 7), none⟩])
 (.seq (.cond (.tmp 9) .skip (.exit 0))
 (.seq (.block 1 (.seq (.reg [⟨some 10, .iaddr 4 (.tmp 6) (.tmp 8), none⟩, ⟨some 11, .load true 4 (.tmp 10), none⟩, ⟨some 5, .alloc [(.i .i64 (0)), (.i .i64 (0)), (.str []), (.sl .nil 0 [])], none⟩, ⟨none, .store 4 (.tmp 5) (.tmp 11), none⟩])
 (.seq (.reg [⟨some 12, .load true 4 (.tmp 5), none⟩, ⟨some 13, .call 48 [(.tmp 12)], none⟩, ⟨some 14, .bin .eql (.tmp 13) (.con (.i .i64 (0))), none⟩])
 (.cond (.tmp 14) (.reg [⟨some 15, .mov (.tmp 3), none⟩, ⟨some 16, .load true 4 (.tmp 5), none⟩, ⟨some 17, .call 46 [(.tmp 15), (.tmp 16), (.con (.i .i64 (1)))], none⟩, ⟨some 3, .mov (.tmp 17), none⟩]) .skip))))
 (.reg [⟨some 18, .bin .add (.tmp 8) (.con (.i .i64 (1))), none⟩, ⟨some 8, .mov (.tmp 18), none⟩])))))))
 (.seq (.reg [⟨some 19, .mov (.tmp 3), none⟩, ⟨some 2, .mov (.tmp 19), none⟩])
 .ret)))), [.tmp 2]⟩
theorem c14 : compF Try.prog k14 [] Try.f14 = some a14 := by kernel_rfl
/-- ramble/rambleref21.Of -/
def k15 : Nat → List (Nat × H) := fun r => if r = 3 then [(0, .none), (3, .none), (4, .none)] else []
def a15 : AFun := ⟨1, (.seq (.reg [⟨some 2, .mov (.con (.sl .nil 0 [])), none⟩])
 (.seq (.reg [⟨some 3, .mov (.con (.sl .nil 0 [])), none⟩])
 (.seq (.seq (.reg [⟨some 4, .mov (.con (.i .i64 (0))), none⟩])
 (.block 0 (.loop [(0, .none), (3, .none), (4, .none)] (.seq (.seq (.reg [⟨some 5, .mov (.tmp 4), none⟩, ⟨some 6, .mov (.tmp 0), none⟩, ⟨some 7, .len false (.tmp 6), none⟩, ⟨some 8, .bin .lss (.tmp 5) (.tmp 7), none⟩])
 (.cond (.tmp 8) .skip (.exit 0)))
 (.seq (.block 1 (.seq (.reg [⟨some 11, .mov (.tmp 0), none⟩, ⟨some 12, .mov (.tmp 4), none⟩, ⟨some 13, .iaddr 4 (.tmp 11) (.tmp 12), none⟩, ⟨some 14, .load true 4 (.tmp 13), none⟩, ⟨some 15, .call 39 [(.tmp 14)], none⟩, ⟨some 16, .bin .eql (.tmp 15) (.con (.i .i64 (0))), none⟩])
 (.cond (.tmp 16) (.reg [⟨some 17, .mov (.tmp 3), none⟩, ⟨some 18, .mov (.tmp 0), none⟩, ⟨some 19, .mov (.tmp 4), none⟩, ⟨some 20, .iaddr 4 (.tmp 18) (.tmp 19), none⟩, ⟨some 21, .load true 4 (.tmp 20), none⟩, ⟨some 22, .call 50 [(.tmp 17), (.tmp 21), (.con (.i .i64 (1)))], none⟩, ⟨some 3, .mov (.tmp 22), none⟩]) .skip)))
 (.reg [⟨some 9, .mov (.tmp 4), none⟩, ⟨some 10, .bin .add (.tmp 9) (.con (.i .i64 (1))), none⟩, ⟨some 4, .mov (.tmp 10), none⟩]))))))
 (.seq (.reg [⟨some 23, .mov (.tmp 3), none⟩, ⟨some 2, .mov (.tmp 23), none⟩])
 .ret)))), [.tmp 2]⟩
theorem c15 : compF Try.prog k15 [] Try.f15 = some a15 := by kernel_rfl
/-- (ramble/bulk.Bag).Same -/
def k16 : Nat → List (Nat × H) := fun _ => []
def a16 : AFun := ⟨2, (.seq (.reg [⟨some 4, .mov (.con (.b false)), none⟩])
 (.seq (.reg [⟨some 5, .mov (.tmp 0), none⟩, ⟨some 6, .mov (.tmp 1), none⟩, ⟨some 7, .call 51 [(.tmp 5), (.tmp 6), (.con (.fn 52 []))], none⟩, ⟨some 4, .mov (.tmp 7), none⟩])
 .ret)), [.tmp 4]⟩
theorem c16 : compF Try.prog k16 [] Try.f16 = some a16 := by kernel_rfl
/-- (ramble/bulk.Bag).Distinct -/
def k17 : Nat → List (Nat × H) := fun r => if r = 3 then [(0, .row 67 5), (7, .none), (8, .none)] else []
def a17 : AFun := ⟨1, (.seq (.reg [⟨some 2, .mov (.con (.sl .nil 0 [])), none⟩])
 (.seq (.reg [⟨some 4, .mov (.tmp 0), none⟩, ⟨some 5, .call 44 [(.tmp 4)], none⟩, ⟨some 0, .mov (.tmp 5), none⟩])
 (.seq (.seq (.reg [⟨some 6, .mov (.tmp 0), none⟩, ⟨some 7, .len false (.tmp 6), none⟩, ⟨some 8, .mov (.con (.i .i64 (0))), none⟩])
 (.block 0 (.loop [(0, .row 67 5), (7, .none), (8, .none)] (.seq (.reg [⟨some 9, .bin .lss (.tmp 8) (.tmp 7), none⟩])
 (.seq (.cond (.tmp 9) .skip (.exit 0))
 (.seq (.block 1 (.seq (.reg [⟨some 10, .mov (.tmp 8), none⟩, ⟨some 3, .mov (.tmp 10), none⟩])
 (.reg [⟨some 11, .mov (.tmp 0), none⟩, ⟨some 12, .mov (.tmp 3), none⟩, ⟨some 13, .iaddr 5 (.tmp 11) (.tmp 12), none⟩, ⟨some 14, .faddr 4 (.tmp 13), none⟩, ⟨none, .store 1 (.tmp 14) (.con (.i .i64 (1))), none⟩])))
 (.reg [⟨some 15, .bin .add (.tmp 8) (.con (.i .i64 (1))), none⟩, ⟨some 8, .mov (.tmp 15), none⟩])))))))
 (.seq (.reg [⟨some 16, .mov (.tmp 0), none⟩, ⟨some 2, .mov (.tmp 16), none⟩])
 .ret)))), [.tmp 2]⟩
theorem c17 : compF Try.prog k17 [] Try.f17 = some a17 := by kernel_rfl
/-- ramble/rambleref21.Distinct -/
def k18 : Nat → List (Nat × H) := fun r => if r = 3 then [(0, .row 67 5), (3, .none)] else []
def a18 : AFun := ⟨1, (.seq (.reg [⟨some 2, .mov (.con (.sl .nil 0 [])), none⟩])
 (.seq (.reg [⟨some 4, .mov (.tmp 0), none⟩, ⟨some 5, .call 38 [(.tmp 4)], none⟩, ⟨some 0, .mov (.tmp 5), none⟩])
 (.seq (.seq (.reg [⟨some 3, .mov (.con (.i .i64 (0))), none⟩])
 (.block 0 (.loop [(0, .row 67 5), (3, .none)] (.seq (.seq (.reg [⟨some 6, .mov (.tmp 3), none⟩, ⟨some 7, .mov (.tmp 0), none⟩, ⟨some 8, .len false (.tmp 7), none⟩, ⟨some 9, .bin .lss (.tmp 6) (.tmp 8), none⟩])
 (.cond (.tmp 9) .skip (.exit 0)))
 (.seq (.block 1 (.reg [⟨some 12, .mov (.tmp 0), none⟩, ⟨some 13, .mov (.tmp 3), none⟩, ⟨some 14, .iaddr 5 (.tmp 12) (.tmp 13), none⟩, ⟨some 15, .faddr 4 (.tmp 14), none⟩, ⟨none, .store 1 (.tmp 15) (.con (.i .i64 (1))), none⟩]))
 (.reg [⟨some 10, .mov (.tmp 3), none⟩, ⟨some 11, .bin .add (.tmp 10) (.con (.i .i64 (1))), none⟩, ⟨some 3, .mov (.tmp 11), none⟩]))))))
 (.seq (.reg [⟨some 16, .mov (.tmp 0), none⟩, ⟨some 2, .mov (.tmp 16), none⟩])
 .ret)))), [.tmp 2]⟩
theorem c18 : compF Try.prog k18 [] Try.f18 = some a18 := by kernel_rfl
/-- (ramble/bulk.Bag).Put -/
def k19 : Nat → List (Nat × H) := fun _ => []
def a19 : AFun := ⟨3, (.seq (.reg [⟨some 4, .box (.tmp 1), none⟩, ⟨some 6, .mov (.con (.sl .nil 0 [])), none⟩, ⟨some 7, .mov (.con (.i .i64 (0))), none⟩])
 (.seq (.reg [⟨some 8, .mov (.tmp 0), none⟩, ⟨some 9, .call 44 [(.tmp 8)], none⟩, ⟨some 0, .mov (.tmp 9), none⟩])
 (.seq (.block 0 (.seq (.reg [⟨some 11, .load true 4 (.tmp 4), none⟩, ⟨some 12, .call 48 [(.tmp 11)], none⟩, ⟨some 13, .bin .neq (.tmp 12) (.con (.i .i64 (0))), none⟩, ⟨some 14, .mov (.tmp 13), none⟩, ⟨some 15, .mov (.tmp 2), some (14, false)⟩, ⟨some 16, .bin .lss (.tmp 15) (.con (.i .i64 (0))), some (14, false)⟩, ⟨some 17, .pick (.tmp 14) (.con (.b true)) (.tmp 16), none⟩, ⟨some 10, .mov (.tmp 17), none⟩])
 (.cond (.tmp 10) (.seq (.reg [⟨some 6, .mov (.con (.sl .nil 0 [])), none⟩, ⟨some 7, .mov (.con (.i .i64 (1))), none⟩])
 .ret) (.seq (.reg [⟨some 19, .mov (.tmp 2), none⟩, ⟨some 20, .mov (.tmp 0), none⟩, ⟨some 21, .call 45 [(.tmp 20)], none⟩, ⟨some 22, .bin .sub (.con (.i .i64 (9007199254740992))) (.tmp 21), none⟩, ⟨some 23, .bin .gtr (.tmp 19) (.tmp 22), none⟩, ⟨some 18, .mov (.tmp 23), none⟩])
 (.cond (.tmp 18) (.seq (.reg [⟨some 6, .mov (.con (.sl .nil 0 [])), none⟩, ⟨some 7, .mov (.con (.i .i64 (7))), none⟩])
 .ret) (.seq (.reg [⟨some 25, .mov (.tmp 2), none⟩, ⟨some 26, .bin .eql (.tmp 25) (.con (.i .i64 (0))), none⟩, ⟨some 24, .mov (.tmp 26), none⟩])
 (.cond (.tmp 24) (.seq (.reg [⟨some 27, .mov (.tmp 0), none⟩, ⟨some 6, .mov (.tmp 27), none⟩, ⟨some 7, .mov (.con (.i .i64 (0))), none⟩])
 .ret) .skip)))))))
 (.seq (.reg [⟨some 28, .mov (.tmp 0), none⟩, ⟨some 29, .load true 4 (.tmp 4), none⟩, ⟨some 30, .mov (.tmp 2), none⟩, ⟨some 31, .call 46 [(.tmp 28), (.tmp 29), (.tmp 30)], none⟩, ⟨some 6, .mov (.tmp 31), none⟩, ⟨some 7, .mov (.con (.i .i64 (0))), none⟩])
 .ret)))), [.tmp 6, .tmp 7]⟩
theorem c19 : compF Try.prog k19 [] Try.f19 = some a19 := by kernel_rfl
/-- ramble/rambleref21.Put -/
def k20 : Nat → List (Nat × H) := fun _ => []
def a20 : AFun := ⟨3, (.seq (.reg [⟨some 4, .box (.tmp 1), none⟩, ⟨some 6, .mov (.con (.sl .nil 0 [])), none⟩, ⟨some 7, .mov (.con (.i .i64 (0))), none⟩])
 (.seq (.reg [⟨some 8, .mov (.tmp 0), none⟩, ⟨some 9, .call 38 [(.tmp 8)], none⟩, ⟨some 0, .mov (.tmp 9), none⟩])
 (.seq (.seq (.reg [⟨some 10, .load true 4 (.tmp 4), none⟩, ⟨some 11, .call 39 [(.tmp 10)], none⟩, ⟨some 12, .bin .neq (.tmp 11) (.con (.i .i64 (0))), none⟩, ⟨some 13, .mov (.tmp 12), none⟩, ⟨some 14, .mov (.tmp 2), some (13, false)⟩, ⟨some 15, .bin .lss (.tmp 14) (.con (.i .i64 (0))), some (13, false)⟩, ⟨some 16, .pick (.tmp 13) (.con (.b true)) (.tmp 15), none⟩])
 (.cond (.tmp 16) (.seq (.reg [⟨some 6, .mov (.con (.sl .nil 0 [])), none⟩, ⟨some 7, .mov (.con (.i .i64 (1))), none⟩])
 .ret) .skip))
 (.seq (.seq (.reg [⟨some 17, .mov (.tmp 2), none⟩, ⟨some 18, .mov (.tmp 0), none⟩, ⟨some 19, .call 28 [(.tmp 18)], none⟩, ⟨some 20, .bin .sub (.con (.i .i64 (9007199254740992))) (.tmp 19), none⟩, ⟨some 21, .bin .gtr (.tmp 17) (.tmp 20), none⟩])
 (.cond (.tmp 21) (.seq (.reg [⟨some 6, .mov (.con (.sl .nil 0 [])), none⟩, ⟨some 7, .mov (.con (.i .i64 (7))), none⟩])
 .ret) .skip))
 (.seq (.seq (.reg [⟨some 22, .mov (.tmp 2), none⟩, ⟨some 23, .bin .eql (.tmp 22) (.con (.i .i64 (0))), none⟩])
 (.cond (.tmp 23) (.seq (.reg [⟨some 24, .mov (.tmp 0), none⟩, ⟨some 6, .mov (.tmp 24), none⟩, ⟨some 7, .mov (.con (.i .i64 (0))), none⟩])
 .ret) .skip))
 (.seq (.reg [⟨some 25, .mov (.tmp 0), none⟩, ⟨some 26, .load true 4 (.tmp 4), none⟩, ⟨some 27, .mov (.tmp 2), none⟩, ⟨some 28, .call 50 [(.tmp 25), (.tmp 26), (.tmp 27)], none⟩, ⟨some 6, .mov (.tmp 28), none⟩, ⟨some 7, .mov (.con (.i .i64 (0))), none⟩])
 .ret)))))), [.tmp 6, .tmp 7]⟩
theorem c20 : compF Try.prog k20 [] Try.f20 = some a20 := by kernel_rfl
/-- ramble/rambleref21.Add -/
def k21 : Nat → List (Nat × H) := fun r => if r = 3 then [(0, .row 67 5), (1, .none), (6, .none)] else if r = 9 then [(0, .row 67 5), (1, .none), (6, .none), (7, .row 67 5), (8, .none)] else []
def a21 : AFun := ⟨2, (.seq (.reg [⟨some 4, .mov (.con (.sl .nil 0 [])), none⟩, ⟨some 5, .mov (.con (.i .i64 (0))), none⟩])
 (.seq (.reg [⟨some 9, .mov (.tmp 0), none⟩, ⟨some 10, .call 38 [(.tmp 9)], none⟩, ⟨some 0, .mov (.tmp 10), none⟩])
 (.seq (.seq (.reg [⟨some 6, .mov (.con (.i .i64 (0))), none⟩])
 (.block 0 (.loop [(0, .row 67 5), (1, .none), (6, .none)] (.seq (.seq (.reg [⟨some 11, .mov (.tmp 6), none⟩, ⟨some 12, .mov (.tmp 1), none⟩, ⟨some 13, .len false (.tmp 12), none⟩, ⟨some 14, .bin .lss (.tmp 11) (.tmp 13), none⟩])
 (.cond (.tmp 14) .skip (.exit 0)))
 (.seq (.block 1 (.seq (.reg [⟨some 17, .mov (.tmp 1), none⟩, ⟨some 18, .mov (.tmp 6), none⟩, ⟨some 19, .iaddr 1 (.tmp 17) (.tmp 18), none⟩, ⟨some 20, .load false 1 (.tmp 19), none⟩, ⟨some 21, .call 38 [(.tmp 20)], none⟩, ⟨some 7, .mov (.tmp 21), none⟩])
 (.seq (.seq (.reg [⟨some 22, .mov (.tmp 7), none⟩, ⟨some 23, .call 28 [(.tmp 22)], none⟩, ⟨some 24, .mov (.tmp 0), none⟩, ⟨some 25, .call 28 [(.tmp 24)], none⟩, ⟨some 26, .bin .sub (.con (.i .i64 (9007199254740992))) (.tmp 25), none⟩, ⟨some 27, .bin .gtr (.tmp 23) (.tmp 26), none⟩])
 (.cond (.tmp 27) (.seq (.reg [⟨some 4, .mov (.con (.sl .nil 0 [])), none⟩, ⟨some 5, .mov (.con (.i .i64 (7))), none⟩])
 .ret) .skip))
 (.seq (.reg [⟨some 8, .mov (.con (.i .i64 (0))), none⟩])
 (.block 2 (.loop [(0, .row 67 5), (1, .none), (6, .none), (7, .row 67 5), (8, .none)] (.seq (.seq (.reg [⟨some 28, .mov (.tmp 8), none⟩, ⟨some 29, .mov (.tmp 7), none⟩, ⟨some 30, .len false (.tmp 29), none⟩, ⟨some 31, .bin .lss (.tmp 28) (.tmp 30), none⟩])
 (.cond (.tmp 31) .skip (.exit 2)))
 (.seq (.block 3 (.draw [⟨some 34, .mov (.tmp 0), none⟩, ⟨some 35, .mov (.tmp 7), none⟩, ⟨some 36, .mov (.tmp 8), none⟩, ⟨some 37, .iaddr 5 (.tmp 35) (.tmp 36), none⟩, ⟨some 38, .faddr 0 (.tmp 37), none⟩, ⟨some 39, .load true 4 (.tmp 38), none⟩, ⟨some 40, .mov (.tmp 7), none⟩, ⟨some 41, .mov (.tmp 8), none⟩, ⟨some 42, .iaddr 5 (.tmp 40) (.tmp 41), none⟩, ⟨some 43, .faddr 4 (.tmp 42), none⟩, ⟨some 44, .load false 1 (.tmp 43), none⟩, ⟨some 45, .call 50 [(.tmp 34), (.tmp 39), (.tmp 44)], none⟩, ⟨some 0, .mov (.tmp 45), none⟩] [(3, 8), (5, 8), (3, 10), (5, 10)]))
 (.reg [⟨some 32, .mov (.tmp 8), none⟩, ⟨some 33, .bin .add (.tmp 32) (.con (.i .i64 (1))), none⟩, ⟨some 8, .mov (.tmp 33), none⟩])))))))))
 (.reg [⟨some 15, .mov (.tmp 6), none⟩, ⟨some 16, .bin .add (.tmp 15) (.con (.i .i64 (1))), none⟩, ⟨some 6, .mov (.tmp 16), none⟩]))))))
 (.seq (.reg [⟨some 46, .mov (.tmp 0), none⟩, ⟨some 4, .mov (.tmp 46), none⟩, ⟨some 5, .mov (.con (.i .i64 (0))), none⟩])
 .ret)))), [.tmp 4, .tmp 5]⟩
theorem c21 : compF Try.prog k21 [] Try.f21 = some a21 := by kernel_rfl
/-- ramble/rambleref21.Scale -/
def k22 : Nat → List (Nat × H) := fun r => if r = 9 then [(0, .row 67 5), (1, .none), (6, .none)] else []
def a22 : AFun := ⟨2, (.seq (.reg [⟨some 4, .mov (.con (.sl .nil 0 [])), none⟩, ⟨some 5, .mov (.con (.i .i64 (0))), none⟩])
 (.seq (.reg [⟨some 7, .mov (.tmp 0), none⟩, ⟨some 8, .call 38 [(.tmp 7)], none⟩, ⟨some 0, .mov (.tmp 8), none⟩])
 (.seq (.seq (.reg [⟨some 9, .mov (.tmp 1), none⟩, ⟨some 10, .bin .lss (.tmp 9) (.con (.i .i64 (0))), none⟩])
 (.cond (.tmp 10) (.seq (.reg [⟨some 4, .mov (.con (.sl .nil 0 [])), none⟩, ⟨some 5, .mov (.con (.i .i64 (1))), none⟩])
 .ret) .skip))
 (.seq (.seq (.reg [⟨some 11, .mov (.tmp 1), none⟩, ⟨some 12, .bin .eql (.tmp 11) (.con (.i .i64 (0))), none⟩, ⟨some 13, .mov (.tmp 12), none⟩, ⟨some 14, .mov (.tmp 0), some (13, false)⟩, ⟨some 15, .len false (.tmp 14), some (13, false)⟩, ⟨some 16, .bin .eql (.tmp 15) (.con (.i .i64 (0))), some (13, false)⟩, ⟨some 17, .pick (.tmp 13) (.con (.b true)) (.tmp 16), none⟩])
 (.cond (.tmp 17) (.seq (.reg [⟨some 4, .mov (.con (.sl .nil 0 [])), none⟩, ⟨some 5, .mov (.con (.i .i64 (0))), none⟩])
 .ret) .skip))
 (.seq (.seq (.reg [⟨some 18, .mov (.tmp 1), none⟩, ⟨some 19, .mov (.tmp 0), none⟩, ⟨some 20, .call 28 [(.tmp 19)], none⟩, ⟨some 21, .bin .quo (.con (.i .i64 (9007199254740992))) (.tmp 20), none⟩, ⟨some 22, .bin .gtr (.tmp 18) (.tmp 21), none⟩])
 (.cond (.tmp 22) (.seq (.reg [⟨some 4, .mov (.con (.sl .nil 0 [])), none⟩, ⟨some 5, .mov (.con (.i .i64 (7))), none⟩])
 .ret) .skip))
 (.seq (.seq (.reg [⟨some 6, .mov (.con (.i .i64 (0))), none⟩])
 (.block 0 (.loop [(0, .row 67 5), (1, .none), (6, .none)] (.seq (.seq (.reg [⟨some 23, .mov (.tmp 6), none⟩, ⟨some 24, .mov (.tmp 0), none⟩, ⟨some 25, .len false (.tmp 24), none⟩, ⟨some 26, .bin .lss (.tmp 23) (.tmp 25), none⟩])
 (.cond (.tmp 26) .skip (.exit 0)))
 (.seq (.block 1 (.reg [⟨some 29, .mov (.tmp 0), none⟩, ⟨some 30, .mov (.tmp 6), none⟩, ⟨some 31, .iaddr 5 (.tmp 29) (.tmp 30), none⟩, ⟨some 32, .faddr 4 (.tmp 31), none⟩, ⟨some 33, .load false 1 (.tmp 32), none⟩, ⟨some 34, .mov (.tmp 1), none⟩, ⟨some 35, .bin .mul (.tmp 33) (.tmp 34), none⟩, ⟨some 36, .iaddr 5 (.tmp 29) (.tmp 30), none⟩, ⟨some 37, .faddr 4 (.tmp 36), none⟩, ⟨none, .store 1 (.tmp 37) (.tmp 35), none⟩]))
 (.reg [⟨some 27, .mov (.tmp 6), none⟩, ⟨some 28, .bin .add (.tmp 27) (.con (.i .i64 (1))), none⟩, ⟨some 6, .mov (.tmp 28), none⟩]))))))
 (.seq (.reg [⟨some 38, .mov (.tmp 0), none⟩, ⟨some 4, .mov (.tmp 38), none⟩, ⟨some 5, .mov (.con (.i .i64 (0))), none⟩])
 .ret))))))), [.tmp 4, .tmp 5]⟩
theorem c22 : compF Try.prog k22 [] Try.f22 = some a22 := by kernel_rfl
/-- (ramble/bulk.Bag).Sum -/
def k23 : Nat → List (Nat × H) := fun r => if r = 3 then [(2, .none), (4, .none), (5, .none), (13, .row 67 5), (14, .none), (15, .none)] else []
def a23 : AFun := ⟨1, (.seq (.reg [⟨some 2, .alloc [(.i .i64 (0)), (.i .i64 (0)), (.str []), (.sl .nil 0 [])], none⟩, ⟨some 3, .mov (.con (.i .i64 (0))), none⟩])
 (.seq (.reg [⟨some 4, .alloc [(.i .u64 (0)), (.i .u64 (0))], none⟩, ⟨some 5, .alloc [(.i .u64 (0)), (.i .u64 (0))], none⟩])
 (.seq (.seq (.reg [⟨some 12, .mov (.tmp 0), none⟩, ⟨some 13, .call 44 [(.tmp 12)], none⟩, ⟨some 14, .len false (.tmp 13), none⟩, ⟨some 15, .mov (.con (.i .i64 (0))), none⟩])
 (.block 0 (.loop [(2, .none), (4, .none), (5, .none), (13, .row 67 5), (14, .none), (15, .none)] (.seq (.reg [⟨some 16, .bin .lss (.tmp 15) (.tmp 14), none⟩])
 (.seq (.cond (.tmp 16) .skip (.exit 0))
 (.seq (.block 1 (.seq (.reg [⟨some 17, .iaddr 5 (.tmp 13) (.tmp 15), none⟩, ⟨some 18, .load true 5 (.tmp 17), none⟩, ⟨some 7, .alloc [(.i .i64 (0)), (.i .i64 (0)), (.str []), (.sl .nil 0 []), (.i .i64 (0))], none⟩, ⟨none, .store 5 (.tmp 7) (.tmp 18), none⟩])
 (.block 2 (.seq (.reg [⟨some 29, .faddr 0 (.tmp 7), none⟩, ⟨some 30, .faddr 0 (.tmp 29), none⟩, ⟨some 31, .load false 1 (.tmp 30), none⟩, ⟨some 32, .bin .neq (.tmp 31) (.con (.i .i64 (1))), none⟩, ⟨some 28, .mov (.tmp 32), none⟩])
 (.cond (.tmp 28) (.seq (.reg [⟨some 33, .build [(.i .i64 (0)), (.i .i64 (0)), (.str []), (.sl .nil 0 [])] [], none⟩, ⟨none, .store 4 (.tmp 2) (.tmp 33), none⟩, ⟨some 3, .mov (.con (.i .i64 (21))), none⟩])
 .ret) (.seq (.reg [⟨some 35, .faddr 0 (.tmp 7), none⟩, ⟨some 36, .faddr 1 (.tmp 35), none⟩, ⟨some 37, .load false 1 (.tmp 36), none⟩, ⟨some 38, .bin .lss (.tmp 37) (.con (.i .i64 (0))), none⟩, ⟨some 34, .mov (.tmp 38), none⟩])
 (.cond (.tmp 34) (.reg [⟨some 39, .load true 2 (.tmp 5), none⟩, ⟨some 40, .faddr 0 (.tmp 7), none⟩, ⟨some 41, .faddr 1 (.tmp 40), none⟩, ⟨some 42, .load false 1 (.tmp 41), none⟩, ⟨some 43, .conv (.int .u64) (.tmp 42), none⟩, ⟨some 44, .un .neg (.tmp 43), none⟩, ⟨some 45, .faddr 4 (.tmp 7), none⟩, ⟨some 46, .load false 1 (.tmp 45), none⟩, ⟨some 47, .conv (.int .u64) (.tmp 46), none⟩, ⟨some 48, .call 54 [(.tmp 39), (.tmp 44), (.tmp 47)], none⟩, ⟨none, .store 2 (.tmp 5) (.tmp 48), none⟩]) (.reg [⟨some 19, .load true 2 (.tmp 4), none⟩, ⟨some 20, .faddr 0 (.tmp 7), none⟩, ⟨some 21, .faddr 1 (.tmp 20), none⟩, ⟨some 22, .load false 1 (.tmp 21), none⟩, ⟨some 23, .conv (.int .u64) (.tmp 22), none⟩, ⟨some 24, .faddr 4 (.tmp 7), none⟩, ⟨some 25, .load false 1 (.tmp 24), none⟩, ⟨some 26, .conv (.int .u64) (.tmp 25), none⟩, ⟨some 27, .call 54 [(.tmp 19), (.tmp 23), (.tmp 26)], none⟩, ⟨none, .store 2 (.tmp 4) (.tmp 27), none⟩]))))))))
 (.reg [⟨some 49, .bin .add (.tmp 15) (.con (.i .i64 (1))), none⟩, ⟨some 15, .mov (.tmp 49), none⟩])))))))
 (.seq (.reg [⟨some 51, .faddr 1 (.tmp 4), none⟩, ⟨some 52, .load false 1 (.tmp 51), none⟩, ⟨some 53, .faddr 1 (.tmp 5), none⟩, ⟨some 54, .load false 1 (.tmp 53), none⟩, ⟨some 55, .call 55 [(.tmp 52), (.tmp 54), (.con (.i .u64 (0)))], none⟩, ⟨some 50, .mov (.tmp 55), none⟩, ⟨some 56, .ext (.tmp 50) 0, none⟩, ⟨some 57, .ext (.tmp 50) 1, none⟩, ⟨some 8, .mov (.tmp 56), none⟩, ⟨some 9, .mov (.tmp 57), none⟩])
 (.seq (.reg [⟨some 59, .faddr 0 (.tmp 4), none⟩, ⟨some 60, .load false 1 (.tmp 59), none⟩, ⟨some 61, .faddr 0 (.tmp 5), none⟩, ⟨some 62, .load false 1 (.tmp 61), none⟩, ⟨some 63, .mov (.tmp 9), none⟩, ⟨some 64, .call 55 [(.tmp 60), (.tmp 62), (.tmp 63)], none⟩, ⟨some 58, .mov (.tmp 64), none⟩, ⟨some 65, .ext (.tmp 58) 0, none⟩, ⟨some 66, .ext (.tmp 58) 1, none⟩, ⟨some 10, .mov (.tmp 65), none⟩, ⟨some 11, .mov (.tmp 66), none⟩])
 (.seq (.seq (.reg [⟨some 67, .mov (.tmp 10), none⟩, ⟨some 68, .mov (.tmp 8), none⟩, ⟨some 69, .conv (.int .i64) (.tmp 68), none⟩, ⟨some 70, .bin .shr (.tmp 69) (.con (.i .u64 (63))), none⟩, ⟨some 71, .conv (.int .u64) (.tmp 70), none⟩, ⟨some 72, .bin .neq (.tmp 67) (.tmp 71), none⟩])
 (.cond (.tmp 72) (.seq (.reg [⟨some 73, .build [(.i .i64 (0)), (.i .i64 (0)), (.str []), (.sl .nil 0 [])] [], none⟩, ⟨none, .store 4 (.tmp 2) (.tmp 73), none⟩, ⟨some 3, .mov (.con (.i .i64 (7))), none⟩])
 .ret) .skip))
 (.seq (.reg [⟨some 74, .mov (.tmp 8), none⟩, ⟨some 75, .conv (.int .i64) (.tmp 74), none⟩, ⟨some 76, .call 56 [(.tmp 75)], none⟩, ⟨none, .store 4 (.tmp 2) (.tmp 76), none⟩, ⟨some 3, .mov (.con (.i .i64 (0))), none⟩])
 .ret))))))), [.cell 2 true 4, .tmp 3]⟩
theorem c23 : compF Try.prog k23 [] Try.f23 = some a23 := by kernel_rfl
/-- (ramble/bulk.Bag).Total -/
def k27 : Nat → List (Nat × H) := fun _ => []
def a27 : AFun := ⟨1, (.seq (.reg [⟨some 2, .mov (.con (.i .i64 (0))), none⟩])
 (.seq (.seq (.reg [⟨some 3, .mov (.tmp 0), none⟩, ⟨some 4, .call 12 [(.tmp 3)], none⟩, ⟨some 5, .bin .neq (.tmp 4) (.con (.i .i64 (0))), none⟩])
 (.cond (.tmp 5) (.seq (.reg [⟨some 2, .mov (.con (.i .i64 (0))), none⟩])
 .ret) .skip))
 (.seq (.reg [⟨some 6, .mov (.tmp 0), none⟩, ⟨some 7, .call 45 [(.tmp 6)], none⟩, ⟨some 2, .mov (.tmp 7), none⟩])
 .ret))), [.tmp 2]⟩
theorem c27 : compF Try.prog k27 [] Try.f27 = some a27 := by kernel_rfl
/-- ramble/rambleref21.Total -/
def k28 : Nat → List (Nat × H) := fun r => if r = 4 then [(0, .row 67 5), (3, .none), (4, .none)] else []
def a28 : AFun := ⟨1, (.seq (.reg [⟨some 2, .mov (.con (.i .i64 (0))), none⟩])
 (.seq (.reg [⟨some 3, .mov (.con (.i .i64 (0))), none⟩])
 (.seq (.reg [⟨some 5, .mov (.tmp 0), none⟩, ⟨some 6, .call 38 [(.tmp 5)], none⟩, ⟨some 0, .mov (.tmp 6), none⟩])
 (.seq (.seq (.reg [⟨some 4, .mov (.con (.i .i64 (0))), none⟩])
 (.block 0 (.loop [(0, .row 67 5), (3, .none), (4, .none)] (.seq (.seq (.reg [⟨some 7, .mov (.tmp 4), none⟩, ⟨some 8, .mov (.tmp 0), none⟩, ⟨some 9, .len false (.tmp 8), none⟩, ⟨some 10, .bin .lss (.tmp 7) (.tmp 9), none⟩])
 (.cond (.tmp 10) .skip (.exit 0)))
 (.seq (.block 1 (.reg [⟨some 13, .mov (.tmp 3), none⟩, ⟨some 14, .mov (.tmp 0), none⟩, ⟨some 15, .mov (.tmp 4), none⟩, ⟨some 16, .iaddr 5 (.tmp 14) (.tmp 15), none⟩, ⟨some 17, .faddr 4 (.tmp 16), none⟩, ⟨some 18, .load false 1 (.tmp 17), none⟩, ⟨some 19, .bin .add (.tmp 13) (.tmp 18), none⟩, ⟨some 3, .mov (.tmp 19), none⟩]))
 (.reg [⟨some 11, .mov (.tmp 4), none⟩, ⟨some 12, .bin .add (.tmp 11) (.con (.i .i64 (1))), none⟩, ⟨some 4, .mov (.tmp 12), none⟩]))))))
 (.seq (.reg [⟨some 20, .mov (.tmp 3), none⟩, ⟨some 2, .mov (.tmp 20), none⟩])
 .ret))))), [.tmp 2]⟩
theorem c28 : compF Try.prog k28 [] Try.f28 = some a28 := by kernel_rfl
/-- ramble/rambleref02.Same -/
def k31 : Nat → List (Nat × H) := fun _ => []
def a31 : AFun := ⟨2, (.seq (.reg [⟨some 2, .box (.tmp 0), none⟩, ⟨some 3, .box (.tmp 1), none⟩, ⟨some 4, .mov (.con (.b false)), none⟩])
 (.seq (.reg [⟨some 5, .load true 4 (.tmp 2), none⟩, ⟨some 6, .load true 4 (.tmp 3), none⟩, ⟨some 7, .call 43 [(.tmp 5), (.tmp 6)], none⟩, ⟨some 8, .bin .eql (.tmp 7) (.con (.i .i64 (0))), none⟩, ⟨some 4, .mov (.tmp 8), none⟩])
 .ret)), [.tmp 4]⟩
theorem c31 : compF Try.prog k31 [] Try.f31 = some a31 := by kernel_rfl
/-- ramble/rambleref21.May -/
def k38 : Nat → List (Nat × H) := fun r => if r = 5 then [(0, .none), (3, .row 67 5), (4, .none)] else []
def a38 : AFun := ⟨1, (.seq (.reg [⟨some 2, .mov (.con (.sl .nil 0 [])), none⟩])
 (.seq (.seq (.reg [⟨some 5, .mov (.tmp 0), none⟩, ⟨some 6, .call 13 [(.tmp 5)], none⟩, ⟨some 7, .bin .neq (.tmp 6) (.con (.i .i64 (0))), none⟩])
 (.cond (.tmp 7) (.seq (.reg [⟨some 2, .mov (.con (.sl .nil 0 [])), none⟩])
 .ret) .skip))
 (.seq (.reg [⟨some 3, .mov (.con (.sl .nil 0 [])), none⟩])
 (.seq (.seq (.reg [⟨some 4, .mov (.con (.i .i64 (0))), none⟩])
 (.block 0 (.loop [(0, .none), (3, .row 67 5), (4, .none)] (.seq (.seq (.reg [⟨some 8, .mov (.tmp 4), none⟩, ⟨some 9, .mov (.tmp 0), none⟩, ⟨some 10, .len false (.tmp 9), none⟩, ⟨some 11, .bin .lss (.tmp 8) (.tmp 10), none⟩])
 (.cond (.tmp 11) .skip (.exit 0)))
 (.seq (.block 1 (.draw [⟨some 14, .mov (.tmp 3), none⟩, ⟨some 15, .mov (.tmp 0), none⟩, ⟨some 16, .mov (.tmp 4), none⟩, ⟨some 17, .iaddr 5 (.tmp 15) (.tmp 16), none⟩, ⟨some 18, .faddr 0 (.tmp 17), none⟩, ⟨some 19, .load true 4 (.tmp 18), none⟩, ⟨some 20, .call 65 [(.tmp 19)], none⟩, ⟨some 21, .mov (.tmp 0), none⟩, ⟨some 22, .mov (.tmp 4), none⟩, ⟨some 23, .iaddr 5 (.tmp 21) (.tmp 22), none⟩, ⟨some 24, .faddr 4 (.tmp 23), none⟩, ⟨some 25, .load false 1 (.tmp 24), none⟩, ⟨some 26, .build [(.i .i64 (0)), (.i .i64 (0)), (.str []), (.sl .nil 0 []), (.i .i64 (0))] [(0, 4, (.tmp 20)), (4, 1, (.tmp 25))], none⟩, ⟨some 27, .bslice 67 [(.i .i64 (0)), (.i .i64 (0)), (.str []), (.sl .nil 0 []), (.i .i64 (0))] 1 [(0, (.tmp 26))], none⟩, ⟨some 28, .app 67 5 (.tmp 14) (.tmp 27), none⟩, ⟨some 3, .mov (.tmp 28), none⟩] [(3, 9), (5, 9), (6, 9), (3, 11), (5, 11), (6, 11)]))
 (.reg [⟨some 12, .mov (.tmp 4), none⟩, ⟨some 13, .bin .add (.tmp 12) (.con (.i .i64 (1))), none⟩, ⟨some 4, .mov (.tmp 13), none⟩]))))))
 (.seq (.reg [⟨some 29, .mov (.tmp 3), none⟩, ⟨some 2, .mov (.tmp 29), none⟩])
 .ret))))), [.tmp 2]⟩
theorem c38 : compF Try.prog k38 [] Try.f38 = some a38 := by kernel_rfl
/-- ramble/rambleref02.Check -/
def k39 : Nat → List (Nat × H) := fun _ => []
def a39 : AFun := ⟨1, (.seq (.reg [⟨some 1, .box (.tmp 0), none⟩, ⟨some 2, .mov (.con (.i .i64 (0))), none⟩])
 (.seq (.seq (.reg [⟨some 3, .load true 4 (.tmp 1), none⟩, ⟨some 4, .call 66 [(.tmp 3), (.con (.i .i64 (0)))], none⟩, ⟨some 5, .un .not (.tmp 4), none⟩])
 (.cond (.tmp 5) (.seq (.reg [⟨some 2, .mov (.con (.i .i64 (20))), none⟩])
 .ret) .skip))
 (.seq (.reg [⟨some 2, .mov (.con (.i .i64 (0))), none⟩])
 .ret))), [.tmp 2]⟩
theorem c39 : compF Try.prog k39 [] Try.f39 = some a39 := by kernel_rfl
/-- slices.Clone[[]ramble/api.Value,ramble/api.Value] -/
def k41 : Nat → List (Nat × H) := fun _ => []
def a41 : AFun := ⟨1, (.seq (.reg [⟨some 2, .mov (.con (.sl .nil 0 [])), none⟩])
 (.seq (.seq (.reg [⟨some 3, .mov (.tmp 0), none⟩, ⟨some 4, .eqnil .sl false (.tmp 3), none⟩])
 (.cond (.tmp 4) (.seq (.reg [⟨some 2, .mov (.con (.sl .nil 0 [])), none⟩])
 .ret) .skip))
 (.seq (.reg [⟨some 5, .bslice 34 [(.i .i64 (0)), (.i .i64 (0)), (.str []), (.sl .nil 0 [])] 0 [], none⟩, ⟨some 6, .mov (.tmp 0), none⟩, ⟨some 7, .app 34 4 (.tmp 5) (.tmp 6), none⟩, ⟨some 2, .mov (.tmp 7), none⟩])
 .ret))), [.tmp 2]⟩
theorem c41 : compF Try.prog k41 [] Try.f41 = some a41 := by kernel_rfl
/-- ramble/rambleref02.Compare -/
def k43 : Nat → List (Nat × H) := fun r => if r = 11 then [(2, .none), (3, .none), (8, .none)] else []
def a43 : AFun := ⟨2, (.seq (.reg [⟨some 2, .box (.tmp 0), none⟩, ⟨some 3, .box (.tmp 1), none⟩, ⟨some 4, .mov (.con (.i .i64 (0))), none⟩])
 (.seq (.seq (.reg [⟨some 10, .faddr 0 (.tmp 2), none⟩, ⟨some 11, .load false 1 (.tmp 10), none⟩, ⟨some 12, .faddr 0 (.tmp 3), none⟩, ⟨some 13, .load false 1 (.tmp 12), none⟩, ⟨some 14, .call 70 [(.tmp 11), (.tmp 13)], none⟩, ⟨some 5, .mov (.tmp 14), none⟩])
 (.seq (.reg [⟨some 15, .mov (.tmp 5), none⟩, ⟨some 16, .bin .neq (.tmp 15) (.con (.i .i64 (0))), none⟩])
 (.cond (.tmp 16) (.seq (.reg [⟨some 17, .mov (.tmp 5), none⟩, ⟨some 4, .mov (.tmp 17), none⟩])
 .ret) .skip)))
 (.seq (.seq (.reg [⟨some 18, .faddr 1 (.tmp 2), none⟩, ⟨some 19, .load false 1 (.tmp 18), none⟩, ⟨some 20, .faddr 1 (.tmp 3), none⟩, ⟨some 21, .load false 1 (.tmp 20), none⟩, ⟨some 22, .call 70 [(.tmp 19), (.tmp 21)], none⟩, ⟨some 6, .mov (.tmp 22), none⟩])
 (.seq (.reg [⟨some 23, .mov (.tmp 6), none⟩, ⟨some 24, .bin .neq (.tmp 23) (.con (.i .i64 (0))), none⟩])
 (.cond (.tmp 24) (.seq (.reg [⟨some 25, .mov (.tmp 6), none⟩, ⟨some 4, .mov (.tmp 25), none⟩])
 .ret) .skip)))
 (.seq (.seq (.reg [⟨some 26, .faddr 2 (.tmp 2), none⟩, ⟨some 27, .load false 1 (.tmp 26), none⟩, ⟨some 28, .faddr 2 (.tmp 3), none⟩, ⟨some 29, .load false 1 (.tmp 28), none⟩, ⟨some 30, .call 71 [(.tmp 27), (.tmp 29)], none⟩, ⟨some 7, .mov (.tmp 30), none⟩])
 (.seq (.reg [⟨some 31, .mov (.tmp 7), none⟩, ⟨some 32, .bin .neq (.tmp 31) (.con (.i .i64 (0))), none⟩])
 (.cond (.tmp 32) (.seq (.reg [⟨some 33, .mov (.tmp 7), none⟩, ⟨some 4, .mov (.tmp 33), none⟩])
 .ret) .skip)))
 (.seq (.seq (.reg [⟨some 8, .mov (.con (.i .i64 (0))), none⟩])
 (.block 0 (.loop [(2, .none), (3, .none), (8, .none)] (.seq (.seq (.reg [⟨some 34, .mov (.tmp 8), none⟩, ⟨some 35, .faddr 3 (.tmp 2), none⟩, ⟨some 36, .load false 1 (.tmp 35), none⟩, ⟨some 37, .len false (.tmp 36), none⟩, ⟨some 38, .bin .lss (.tmp 34) (.tmp 37), none⟩, ⟨some 39, .mov (.tmp 38), none⟩, ⟨some 40, .mov (.tmp 8), some (39, true)⟩, ⟨some 41, .faddr 3 (.tmp 3), some (39, true)⟩, ⟨some 42, .load false 1 (.tmp 41), some (39, true)⟩, ⟨some 43, .len false (.tmp 42), some (39, true)⟩, ⟨some 44, .bin .lss (.tmp 40) (.tmp 43), some (39, true)⟩, ⟨some 45, .pick (.tmp 39) (.tmp 44) (.con (.b false)), none⟩])
 (.cond (.tmp 45) .skip (.exit 0)))
 (.seq (.block 1 (.seq (.draw [⟨some 48, .faddr 3 (.tmp 2), none⟩, ⟨some 49, .load false 1 (.tmp 48), none⟩, ⟨some 50, .mov (.tmp 8), none⟩, ⟨some 51, .iaddr 4 (.tmp 49) (.tmp 50), none⟩, ⟨some 52, .load true 4 (.tmp 51), none⟩, ⟨some 53, .faddr 3 (.tmp 3), none⟩, ⟨some 54, .load false 1 (.tmp 53), none⟩, ⟨some 55, .mov (.tmp 8), none⟩, ⟨some 56, .iaddr 4 (.tmp 54) (.tmp 55), none⟩, ⟨some 57, .load true 4 (.tmp 56), none⟩, ⟨some 58, .call 43 [(.tmp 52), (.tmp 57)], none⟩, ⟨some 9, .mov (.tmp 58), none⟩] [(1, 6), (3, 6), (4, 6), (1, 8), (3, 8), (4, 8), (1, 9), (3, 9), (4, 9)])
 (.seq (.reg [⟨some 59, .mov (.tmp 9), none⟩, ⟨some 60, .bin .neq (.tmp 59) (.con (.i .i64 (0))), none⟩])
 (.cond (.tmp 60) (.seq (.reg [⟨some 61, .mov (.tmp 9), none⟩, ⟨some 4, .mov (.tmp 61), none⟩])
 .ret) .skip))))
 (.reg [⟨some 46, .mov (.tmp 8), none⟩, ⟨some 47, .bin .add (.tmp 46) (.con (.i .i64 (1))), none⟩, ⟨some 8, .mov (.tmp 47), none⟩]))))))
 (.seq (.reg [⟨some 62, .faddr 3 (.tmp 2), none⟩, ⟨some 63, .load false 1 (.tmp 62), none⟩, ⟨some 64, .len false (.tmp 63), none⟩, ⟨some 65, .faddr 3 (.tmp 3), none⟩, ⟨some 66, .load false 1 (.tmp 65), none⟩, ⟨some 67, .len false (.tmp 66), none⟩, ⟨some 68, .call 70 [(.tmp 64), (.tmp 67)], none⟩, ⟨some 4, .mov (.tmp 68), none⟩])
 .ret)))))), [.tmp 4]⟩
theorem c43 : compF Try.prog k43 [] Try.f43 = some a43 := by kernel_rfl
/-- (ramble/bulk.Bag).may -/
def k44 : Nat → List (Nat × H) := fun r => if r = 5 then [(3, .row 67 5), (9, .none), (10, .none), (11, .none)] else []
def a44 : AFun := ⟨1, (.seq (.reg [⟨some 2, .mov (.con (.sl .nil 0 [])), none⟩])
 (.seq (.seq (.reg [⟨some 6, .mov (.tmp 0), none⟩, ⟨some 7, .call 12 [(.tmp 6)], none⟩, ⟨some 8, .bin .neq (.tmp 7) (.con (.i .i64 (0))), none⟩])
 (.cond (.tmp 8) (.seq (.reg [⟨some 2, .mov (.con (.sl .nil 0 [])), none⟩])
 .ret) .skip))
 (.seq (.reg [⟨some 3, .mov (.con (.sl .nil 0 [])), none⟩])
 (.seq (.seq (.reg [⟨some 9, .mov (.tmp 0), none⟩, ⟨some 10, .len false (.tmp 9), none⟩, ⟨some 11, .mov (.con (.i .i64 (0))), none⟩])
 (.block 0 (.loop [(3, .row 67 5), (9, .none), (10, .none), (11, .none)] (.seq (.reg [⟨some 12, .bin .lss (.tmp 11) (.tmp 10), none⟩])
 (.seq (.cond (.tmp 12) .skip (.exit 0))
 (.seq (.block 1 (.seq (.reg [⟨some 13, .iaddr 5 (.tmp 9) (.tmp 11), none⟩, ⟨some 14, .load true 5 (.tmp 13), none⟩, ⟨some 5, .alloc [(.i .i64 (0)), (.i .i64 (0)), (.str []), (.sl .nil 0 []), (.i .i64 (0))], none⟩, ⟨none, .store 5 (.tmp 5) (.tmp 14), none⟩])
 (.draw [⟨some 15, .mov (.tmp 3), none⟩, ⟨some 16, .faddr 0 (.tmp 5), none⟩, ⟨some 17, .load true 4 (.tmp 16), none⟩, ⟨some 18, .call 64 [(.tmp 17)], none⟩, ⟨some 19, .faddr 4 (.tmp 5), none⟩, ⟨some 20, .load false 1 (.tmp 19), none⟩, ⟨some 21, .build [(.i .i64 (0)), (.i .i64 (0)), (.str []), (.sl .nil 0 []), (.i .i64 (0))] [(0, 4, (.tmp 18)), (4, 1, (.tmp 20))], none⟩, ⟨some 22, .bslice 67 [(.i .i64 (0)), (.i .i64 (0)), (.str []), (.sl .nil 0 []), (.i .i64 (0))] 1 [(0, (.tmp 21))], none⟩, ⟨some 23, .app 67 5 (.tmp 15) (.tmp 22), none⟩, ⟨some 3, .mov (.tmp 23), none⟩] [(2, 5), (3, 5)])))
 (.reg [⟨some 24, .bin .add (.tmp 11) (.con (.i .i64 (1))), none⟩, ⟨some 11, .mov (.tmp 24), none⟩])))))))
 (.seq (.reg [⟨some 25, .mov (.tmp 3), none⟩, ⟨some 2, .mov (.tmp 25), none⟩])
 .ret))))), [.tmp 2]⟩
theorem c44 : compF Try.prog k44 [] Try.f44 = some a44 := by kernel_rfl
/-- (ramble/bulk.Bag).total -/
def k45 : Nat → List (Nat × H) := fun r => if r = 1000003 then [(3, .none), (7, .none)] else []
def a45 : AFun := ⟨1, (.seq (.reg [⟨some 2, .mov (.con (.i .i64 (0))), none⟩])
 (.seq (.reg [⟨some 3, .alloc [(.i .i64 (0))], none⟩, ⟨none, .store 1 (.tmp 3) (.con (.i .i64 (0))), none⟩])
 (.seq (.seq (.reg [⟨some 6, .mov (.tmp 0), none⟩, ⟨some 7, .call 59 [(.tmp 6)], none⟩])
 (.block 0 (.rangef 7 [8, 9] [(3, .none), (7, .none)]
 (.reg [⟨some 5, .mov (.tmp 9), none⟩])
 (.block 1 (.reg [⟨some 10, .load false 1 (.tmp 3), none⟩, ⟨some 11, .mov (.tmp 5), none⟩, ⟨some 12, .bin .add (.tmp 10) (.tmp 11), none⟩, ⟨none, .store 1 (.tmp 3) (.tmp 12), none⟩])))))
 (.seq (.reg [⟨some 13, .load false 1 (.tmp 3), none⟩, ⟨some 2, .mov (.tmp 13), none⟩])
 .ret)))), [.tmp 2]⟩
theorem c45 : compF Try.prog k45 [] Try.f45 = some a45 := by kernel_rfl
/-- (ramble/bulk.Bag).with -/
def k46 : Nat → List (Nat × H) := fun _ => []
def a46 : AFun := ⟨3, (.seq (.reg [⟨some 4, .box (.tmp 1), none⟩, ⟨some 6, .mov (.con (.sl .nil 0 [])), none⟩])
 (.seq (.reg [⟨some 10, .mov (.tmp 0), none⟩, ⟨some 11, .load true 4 (.tmp 4), none⟩, ⟨some 12, .call 62 [(.tmp 10), (.tmp 11)], none⟩, ⟨some 9, .mov (.tmp 12), none⟩, ⟨some 13, .ext (.tmp 9) 0, none⟩, ⟨some 14, .ext (.tmp 9) 1, none⟩, ⟨some 7, .mov (.tmp 13), none⟩, ⟨some 8, .mov (.tmp 14), none⟩])
 (.seq (.seq (.reg [⟨some 15, .mov (.tmp 8), none⟩])
 (.cond (.tmp 15) (.seq (.reg [⟨some 16, .mov (.tmp 0), none⟩, ⟨some 17, .mov (.tmp 7), none⟩, ⟨some 18, .iaddr 5 (.tmp 16) (.tmp 17), none⟩, ⟨some 19, .faddr 4 (.tmp 18), none⟩, ⟨some 20, .load false 1 (.tmp 19), none⟩, ⟨some 21, .mov (.tmp 2), none⟩, ⟨some 22, .bin .add (.tmp 20) (.tmp 21), none⟩, ⟨some 23, .iaddr 5 (.tmp 16) (.tmp 17), none⟩, ⟨some 24, .faddr 4 (.tmp 23), none⟩, ⟨none, .store 1 (.tmp 24) (.tmp 22), none⟩])
 (.seq (.reg [⟨some 25, .mov (.tmp 0), none⟩, ⟨some 6, .mov (.tmp 25), none⟩])
 .ret)) .skip))
 (.seq (.reg [⟨some 26, .mov (.tmp 0), none⟩, ⟨some 27, .mov (.tmp 7), none⟩, ⟨some 28, .load true 4 (.tmp 4), none⟩, ⟨some 29, .call 64 [(.tmp 28)], none⟩, ⟨some 30, .mov (.tmp 2), none⟩, ⟨some 31, .build [(.i .i64 (0)), (.i .i64 (0)), (.str []), (.sl .nil 0 []), (.i .i64 (0))] [(0, 4, (.tmp 29)), (4, 1, (.tmp 30))], none⟩, ⟨some 32, .bslice 67 [(.i .i64 (0)), (.i .i64 (0)), (.str []), (.sl .nil 0 []), (.i .i64 (0))] 1 [(0, (.tmp 31))], none⟩, ⟨some 33, .call 72 [(.tmp 26), (.tmp 27), (.tmp 32)], none⟩, ⟨some 6, .mov (.tmp 33), none⟩])
 .ret)))), [.tmp 6]⟩
theorem c46 : compF Try.prog k46 [.give (.row 67 5), .borrow, .borrow] Try.f46 = some a46 := by kernel_rfl
/-- ramble/rambleref02.Int -/
def k47 : Nat → List (Nat × H) := fun _ => []
def a47 : AFun := ⟨1, (.seq (.reg [⟨some 2, .alloc [(.i .i64 (0)), (.i .i64 (0)), (.str []), (.sl .nil 0 [])], none⟩])
 (.seq (.reg [⟨some 3, .mov (.tmp 0), none⟩, ⟨some 4, .build [(.i .i64 (0)), (.i .i64 (0)), (.str []), (.sl .nil 0 [])] [(0, 1, (.con (.i .i64 (1)))), (1, 1, (.tmp 3))], none⟩, ⟨none, .store 4 (.tmp 2) (.tmp 4), none⟩])
 .ret)), [.cell 2 true 4]⟩
theorem c47 : compF Try.prog k47 [] Try.f47 = some a47 := by kernel_rfl
/-- ramble/value.Check -/
def k48 : Nat → List (Nat × H) := fun _ => []
def a48 : AFun := ⟨1, (.seq (.reg [⟨some 1, .box (.tmp 0), none⟩, ⟨some 2, .mov (.con (.i .i64 (0))), none⟩])
 (.seq (.seq (.reg [⟨some 3, .load true 4 (.tmp 1), none⟩, ⟨some 4, .call 73 [(.tmp 3), (.con (.i .i64 (1)))], none⟩, ⟨some 5, .un .not (.tmp 4), none⟩])
 (.cond (.tmp 5) (.seq (.reg [⟨some 2, .mov (.con (.i .i64 (20))), none⟩])
 .ret) .skip))
 (.seq (.reg [⟨some 2, .mov (.con (.i .i64 (0))), none⟩])
 .ret))), [.tmp 2]⟩
theorem c48 : compF Try.prog k48 [] Try.f48 = some a48 := by kernel_rfl
/-- ramble/value.Compare -/
def k49 : Nat → List (Nat × H) := fun _ => []
def a49 : AFun := ⟨2, (.seq (.reg [⟨some 2, .box (.tmp 0), none⟩, ⟨some 3, .box (.tmp 1), none⟩, ⟨some 4, .mov (.con (.i .i64 (0))), none⟩])
 (.seq (.draw [⟨some 5, .faddr 0 (.tmp 2), none⟩, ⟨some 6, .load false 1 (.tmp 5), none⟩, ⟨some 7, .faddr 0 (.tmp 3), none⟩, ⟨some 8, .load false 1 (.tmp 7), none⟩, ⟨some 9, .call 75 [(.tmp 6), (.tmp 8)], none⟩, ⟨some 10, .faddr 1 (.tmp 2), none⟩, ⟨some 11, .load false 1 (.tmp 10), none⟩, ⟨some 12, .faddr 1 (.tmp 3), none⟩, ⟨some 13, .load false 1 (.tmp 12), none⟩, ⟨some 14, .call 76 [(.tmp 11), (.tmp 13)], none⟩, ⟨some 15, .faddr 2 (.tmp 2), none⟩, ⟨some 16, .load false 1 (.tmp 15), none⟩, ⟨some 17, .faddr 2 (.tmp 3), none⟩, ⟨some 18, .load false 1 (.tmp 17), none⟩, ⟨some 19, .call 77 [(.tmp 16), (.tmp 18)], none⟩, ⟨some 20, .faddr 3 (.tmp 2), none⟩, ⟨some 21, .load false 1 (.tmp 20), none⟩, ⟨some 22, .faddr 3 (.tmp 3), none⟩, ⟨some 23, .load false 1 (.tmp 22), none⟩, ⟨some 24, .call 78 [(.tmp 21), (.tmp 23), (.con (.fn 49 []))], none⟩, ⟨some 25, .bslice 3 [(.i .i64 (0))] 4 [(0, (.tmp 9)), (1, (.tmp 14)), (2, (.tmp 19)), (3, (.tmp 24))], none⟩, ⟨some 26, .call 74 [(.tmp 25)], none⟩, ⟨some 4, .mov (.tmp 26), none⟩] [(1, 3), (1, 6), (3, 6), (4, 6), (1, 8), (3, 8), (4, 8), (6, 8), (1, 11), (3, 11), (4, 11), (6, 11), (8, 11), (9, 11), (1, 13), (3, 13), (4, 13), (6, 13), (8, 13), (9, 13), (11, 13), (1, 16), (3, 16), (4, 16), (6, 16), (8, 16), (9, 16), (11, 16), (13, 16), (14, 16), (1, 18), (3, 18), (4, 18), (6, 18), (8, 18), (9, 18), (11, 18), (13, 18), (14, 18), (16, 18)])
 .ret)), [.tmp 4]⟩
theorem c49 : compF Try.prog k49 [] Try.f49 = some a49 := by kernel_rfl
/-- ramble/rambleref21.put -/
def k50 : Nat → List (Nat × H) := fun r => if r = 2 then [(0, .none), (2, .none), (4, .none), (7, .none)] else []
def a50 : AFun := ⟨3, (.seq (.reg [⟨some 4, .box (.tmp 1), none⟩, ⟨some 6, .mov (.con (.sl .nil 0 [])), none⟩])
 (.seq (.reg [⟨some 7, .mov (.con (.i .i64 (0))), none⟩])
 (.seq (.block 0 (.loop [(0, .none), (2, .none), (4, .none), (7, .none)] (.seq (.seq (.draw [⟨some 10, .mov (.tmp 7), none⟩, ⟨some 11, .mov (.tmp 0), none⟩, ⟨some 12, .len false (.tmp 11), none⟩, ⟨some 13, .bin .lss (.tmp 10) (.tmp 12), none⟩, ⟨some 14, .mov (.tmp 13), none⟩, ⟨some 15, .mov (.tmp 0), some (14, true)⟩, ⟨some 16, .mov (.tmp 7), some (14, true)⟩, ⟨some 17, .iaddr 5 (.tmp 15) (.tmp 16), some (14, true)⟩, ⟨some 18, .faddr 0 (.tmp 17), some (14, true)⟩, ⟨some 19, .load true 4 (.tmp 18), some (14, true)⟩, ⟨some 20, .load true 4 (.tmp 4), some (14, true)⟩, ⟨some 21, .call 43 [(.tmp 19), (.tmp 20)], some (14, true)⟩, ⟨some 22, .bin .lss (.tmp 21) (.con (.i .i64 (0))), some (14, true)⟩, ⟨some 23, .pick (.tmp 14) (.tmp 22) (.con (.b false)), none⟩] [(7, 10), (9, 10)])
 (.cond (.tmp 23) .skip (.exit 0)))
 (.block 1 (.reg [⟨some 24, .mov (.tmp 7), none⟩, ⟨some 25, .bin .add (.tmp 24) (.con (.i .i64 (1))), none⟩, ⟨some 7, .mov (.tmp 25), none⟩])))))
 (.seq (.reg [⟨some 26, .mov (.tmp 0), none⟩, ⟨some 27, .mov (.tmp 7), none⟩, ⟨some 28, .slice 5 (.tmp 26) (some (.tmp 27)) none none, none⟩, ⟨some 8, .mov (.tmp 28), none⟩])
 (.seq (.seq (.draw [⟨some 29, .mov (.tmp 7), none⟩, ⟨some 30, .mov (.tmp 0), none⟩, ⟨some 31, .len false (.tmp 30), none⟩, ⟨some 32, .bin .lss (.tmp 29) (.tmp 31), none⟩, ⟨some 33, .mov (.tmp 32), none⟩, ⟨some 34, .mov (.tmp 0), some (33, true)⟩, ⟨some 35, .mov (.tmp 7), some (33, true)⟩, ⟨some 36, .iaddr 5 (.tmp 34) (.tmp 35), some (33, true)⟩, ⟨some 37, .faddr 0 (.tmp 36), some (33, true)⟩, ⟨some 38, .load true 4 (.tmp 37), some (33, true)⟩, ⟨some 39, .load true 4 (.tmp 4), some (33, true)⟩, ⟨some 40, .call 31 [(.tmp 38), (.tmp 39)], some (33, true)⟩, ⟨some 41, .pick (.tmp 33) (.tmp 40) (.con (.b false)), none⟩] [(7, 10), (9, 10)])
 (.cond (.tmp 41) (.seq (.reg [⟨some 42, .mov (.tmp 2), none⟩, ⟨some 43, .mov (.tmp 0), none⟩, ⟨some 44, .mov (.tmp 7), none⟩, ⟨some 45, .iaddr 5 (.tmp 43) (.tmp 44), none⟩, ⟨some 46, .faddr 4 (.tmp 45), none⟩, ⟨some 47, .load false 1 (.tmp 46), none⟩, ⟨some 48, .bin .add (.tmp 42) (.tmp 47), none⟩, ⟨some 2, .mov (.tmp 48), none⟩])
 (.reg [⟨some 49, .mov (.tmp 8), none⟩, ⟨some 50, .slice 5 (.tmp 49) (some (.con (.i .i64 (1)))) none none, none⟩, ⟨some 8, .mov (.tmp 50), none⟩])) .skip))
 (.seq (.reg [⟨some 51, .mov (.tmp 0), none⟩, ⟨some 52, .mov (.tmp 7), none⟩, ⟨some 53, .slice 5 (.tmp 51) none (some (.tmp 52)) none, none⟩, ⟨some 54, .app 67 5 (.con (.sl .nil 0 [])) (.tmp 53), none⟩, ⟨some 9, .mov (.tmp 54), none⟩])
 (.seq (.reg [⟨some 55, .mov (.tmp 9), none⟩, ⟨some 56, .load true 4 (.tmp 4), none⟩, ⟨some 57, .call 65 [(.tmp 56)], none⟩, ⟨some 58, .mov (.tmp 2), none⟩, ⟨some 59, .build [(.i .i64 (0)), (.i .i64 (0)), (.str []), (.sl .nil 0 []), (.i .i64 (0))] [(0, 4, (.tmp 57)), (4, 1, (.tmp 58))], none⟩, ⟨some 60, .bslice 67 [(.i .i64 (0)), (.i .i64 (0)), (.str []), (.sl .nil 0 []), (.i .i64 (0))] 1 [(0, (.tmp 59))], none⟩, ⟨some 61, .app 67 5 (.tmp 55) (.tmp 60), none⟩, ⟨some 9, .mov (.tmp 61), none⟩])
 (.seq (.reg [⟨some 62, .mov (.tmp 9), none⟩, ⟨some 63, .mov (.tmp 8), none⟩, ⟨some 64, .app 67 5 (.tmp 62) (.tmp 63), none⟩, ⟨some 6, .mov (.tmp 64), none⟩])
 .ret)))))))), [.tmp 6]⟩
theorem c50 : compF Try.prog k50 [] Try.f50 = some a50 := by kernel_rfl
/-- slices.EqualFunc[ramble/bulk.Bag,ramble/bulk.Bag,ramble/api.Count,ramble/api.Count] -/
def k51 : Nat → List (Nat × H) := fun r => if r = 4 then [(1, .none), (2, .none), (15, .none), (16, .none), (17, .none)] else []
def a51 : AFun := ⟨3, (.seq (.reg [⟨some 6, .mov (.con (.b false)), none⟩])
 (.seq (.seq (.reg [⟨some 10, .mov (.tmp 0), none⟩, ⟨some 11, .len false (.tmp 10), none⟩, ⟨some 12, .mov (.tmp 1), none⟩, ⟨some 13, .len false (.tmp 12), none⟩, ⟨some 14, .bin .neq (.tmp 11) (.tmp 13), none⟩])
 (.cond (.tmp 14) (.seq (.reg [⟨some 6, .mov (.con (.b false)), none⟩])
 .ret) .skip))
 (.seq (.seq (.reg [⟨some 15, .mov (.tmp 0), none⟩, ⟨some 16, .len false (.tmp 15), none⟩, ⟨some 17, .mov (.con (.i .i64 (0))), none⟩])
 (.block 0 (.loop [(1, .none), (2, .none), (15, .none), (16, .none), (17, .none)] (.seq (.reg [⟨some 18, .bin .lss (.tmp 17) (.tmp 16), none⟩])
 (.seq (.cond (.tmp 18) .skip (.exit 0))
 (.seq (.block 1 (.seq (.reg [⟨some 19, .mov (.tmp 17), none⟩, ⟨some 20, .iaddr 5 (.tmp 15) (.tmp 17), none⟩, ⟨some 21, .load true 5 (.tmp 20), none⟩, ⟨some 8, .alloc [(.i .i64 (0)), (.i .i64 (0)), (.str []), (.sl .nil 0 []), (.i .i64 (0))], none⟩, ⟨some 7, .mov (.tmp 19), none⟩, ⟨none, .store 5 (.tmp 8) (.tmp 21), none⟩])
 (.seq (.reg [⟨some 22, .mov (.tmp 1), none⟩, ⟨some 23, .mov (.tmp 7), none⟩, ⟨some 24, .iaddr 5 (.tmp 22) (.tmp 23), none⟩, ⟨some 25, .load true 5 (.tmp 24), none⟩, ⟨some 9, .alloc [(.i .i64 (0)), (.i .i64 (0)), (.str []), (.sl .nil 0 []), (.i .i64 (0))], none⟩, ⟨none, .store 5 (.tmp 9) (.tmp 25), none⟩])
 (.seq (.reg [⟨some 26, .mov (.tmp 2), none⟩, ⟨some 27, .load true 5 (.tmp 8), none⟩, ⟨some 28, .load true 5 (.tmp 9), none⟩, ⟨some 29, .callv (.tmp 26) [(.tmp 27), (.tmp 28)], none⟩, ⟨some 30, .un .not (.tmp 29), none⟩])
 (.cond (.tmp 30) (.seq (.reg [⟨some 6, .mov (.con (.b false)), none⟩])
 .ret) .skip)))))
 (.reg [⟨some 31, .bin .add (.tmp 17) (.con (.i .i64 (1))), none⟩, ⟨some 17, .mov (.tmp 31), none⟩])))))))
 (.seq (.reg [⟨some 6, .mov (.con (.b true)), none⟩])
 .ret)))), [.tmp 6]⟩
theorem c51 : compF Try.prog k51 [] Try.f51 = some a51 := by kernel_rfl
/-- (ramble/bulk.Bag).Same$1 -/
def k52 : Nat → List (Nat × H) := fun _ => []
def a52 : AFun := ⟨2, (.seq (.reg [⟨some 2, .box (.tmp 0), none⟩, ⟨some 3, .box (.tmp 1), none⟩, ⟨some 4, .mov (.con (.b false)), none⟩])
 (.seq (.reg [⟨some 5, .faddr 4 (.tmp 2), none⟩, ⟨some 6, .load false 1 (.tmp 5), none⟩, ⟨some 7, .faddr 4 (.tmp 3), none⟩, ⟨some 8, .load false 1 (.tmp 7), none⟩, ⟨some 9, .bin .eql (.tmp 6) (.tmp 8), none⟩, ⟨some 10, .mov (.tmp 9), none⟩, ⟨some 11, .faddr 0 (.tmp 2), some (10, true)⟩, ⟨some 12, .load true 4 (.tmp 11), some (10, true)⟩, ⟨some 13, .faddr 0 (.tmp 3), some (10, true)⟩, ⟨some 14, .load true 4 (.tmp 13), some (10, true)⟩, ⟨some 15, .call 53 [(.tmp 12), (.tmp 14)], some (10, true)⟩, ⟨some 16, .pick (.tmp 10) (.tmp 15) (.con (.b false)), none⟩, ⟨some 4, .mov (.tmp 16), none⟩])
 .ret)), [.tmp 4]⟩
theorem c52 : compF Try.prog k52 [] Try.f52 = some a52 := by kernel_rfl
/-- ramble/value.Same -/
def k53 : Nat → List (Nat × H) := fun _ => []
def a53 : AFun := ⟨2, (.seq (.reg [⟨some 2, .box (.tmp 0), none⟩, ⟨some 3, .box (.tmp 1), none⟩, ⟨some 4, .mov (.con (.b false)), none⟩])
 (.seq (.reg [⟨some 5, .load true 4 (.tmp 2), none⟩, ⟨some 6, .load true 4 (.tmp 3), none⟩, ⟨some 7, .call 49 [(.tmp 5), (.tmp 6)], none⟩, ⟨some 8, .bin .eql (.tmp 7) (.con (.i .i64 (0))), none⟩, ⟨some 4, .mov (.tmp 8), none⟩])
 .ret)), [.tmp 4]⟩
theorem c53 : compF Try.prog k53 [] Try.f53 = some a53 := by kernel_rfl
/-- (ramble/bulk.wide).plus -/
def k54 : Nat → List (Nat × H) := fun _ => []
def a54 : AFun := ⟨3, (.seq (.reg [⟨some 3, .box (.tmp 0), none⟩, ⟨some 6, .alloc [(.i .u64 (0)), (.i .u64 (0))], none⟩])
 (.seq (.reg [⟨some 14, .mov (.tmp 1), none⟩, ⟨some 15, .mov (.tmp 2), none⟩, ⟨some 16, .call 57 [(.tmp 14), (.tmp 15)], none⟩, ⟨some 13, .mov (.tmp 16), none⟩, ⟨some 17, .ext (.tmp 13) 0, none⟩, ⟨some 18, .ext (.tmp 13) 1, none⟩, ⟨some 7, .mov (.tmp 17), none⟩, ⟨some 8, .mov (.tmp 18), none⟩])
 (.seq (.reg [⟨some 20, .faddr 1 (.tmp 3), none⟩, ⟨some 21, .load false 1 (.tmp 20), none⟩, ⟨some 22, .mov (.tmp 8), none⟩, ⟨some 23, .call 58 [(.tmp 21), (.tmp 22), (.con (.i .u64 (0)))], none⟩, ⟨some 19, .mov (.tmp 23), none⟩, ⟨some 24, .ext (.tmp 19) 0, none⟩, ⟨some 25, .ext (.tmp 19) 1, none⟩, ⟨some 9, .mov (.tmp 24), none⟩, ⟨some 10, .mov (.tmp 25), none⟩])
 (.seq (.reg [⟨some 27, .faddr 0 (.tmp 3), none⟩, ⟨some 28, .load false 1 (.tmp 27), none⟩, ⟨some 29, .mov (.tmp 7), none⟩, ⟨some 30, .mov (.tmp 10), none⟩, ⟨some 31, .call 58 [(.tmp 28), (.tmp 29), (.tmp 30)], none⟩, ⟨some 26, .mov (.tmp 31), none⟩, ⟨some 32, .ext (.tmp 26) 0, none⟩, ⟨some 33, .ext (.tmp 26) 1, none⟩, ⟨some 11, .mov (.tmp 32), none⟩, ⟨some 12, .mov (.tmp 33), none⟩])
 (.seq (.reg [⟨some 34, .mov (.tmp 11), none⟩, ⟨some 35, .mov (.tmp 9), none⟩, ⟨some 36, .build [(.i .u64 (0)), (.i .u64 (0))] [(0, 1, (.tmp 34)), (1, 1, (.tmp 35))], none⟩, ⟨none, .store 2 (.tmp 6) (.tmp 36), none⟩])
 .ret))))), [.cell 6 true 2]⟩
theorem c54 : compF Try.prog k54 [] Try.f54 = some a54 := by kernel_rfl
/-- ramble/value.Int -/
def k56 : Nat → List (Nat × H) := fun _ => []
def a56 : AFun := ⟨1, (.seq (.reg [⟨some 2, .alloc [(.i .i64 (0)), (.i .i64 (0)), (.str []), (.sl .nil 0 [])], none⟩])
 (.seq (.reg [⟨some 3, .mov (.tmp 0), none⟩, ⟨some 4, .build [(.i .i64 (0)), (.i .i64 (0)), (.str []), (.sl .nil 0 [])] [(0, 1, (.con (.i .i64 (1)))), (1, 1, (.tmp 3))], none⟩, ⟨none, .store 4 (.tmp 2) (.tmp 4), none⟩])
 .ret)), [.cell 2 true 4]⟩
theorem c56 : compF Try.prog k56 [] Try.f56 = some a56 := by kernel_rfl
/-- math/bits.Mul64 -/
def k57 : Nat → List (Nat × H) := fun _ => []
def a57 : AFun := ⟨2, (.seq (.reg [⟨some 4, .mov (.con (.i .u64 (0))), none⟩, ⟨some 5, .mov (.con (.i .u64 (0))), none⟩])
 (.seq (.reg [⟨some 14, .mov (.tmp 0), none⟩, ⟨some 15, .bin .and (.tmp 14) (.con (.i .u64 (4294967295))), none⟩, ⟨some 6, .mov (.tmp 15), none⟩])
 (.seq (.reg [⟨some 16, .mov (.tmp 0), none⟩, ⟨some 17, .bin .shr (.tmp 16) (.con (.i .u64 (32))), none⟩, ⟨some 7, .mov (.tmp 17), none⟩])
 (.seq (.reg [⟨some 18, .mov (.tmp 1), none⟩, ⟨some 19, .bin .and (.tmp 18) (.con (.i .u64 (4294967295))), none⟩, ⟨some 8, .mov (.tmp 19), none⟩])
 (.seq (.reg [⟨some 20, .mov (.tmp 1), none⟩, ⟨some 21, .bin .shr (.tmp 20) (.con (.i .u64 (32))), none⟩, ⟨some 9, .mov (.tmp 21), none⟩])
 (.seq (.reg [⟨some 22, .mov (.tmp 6), none⟩, ⟨some 23, .mov (.tmp 8), none⟩, ⟨some 24, .bin .mul (.tmp 22) (.tmp 23), none⟩, ⟨some 10, .mov (.tmp 24), none⟩])
 (.seq (.reg [⟨some 25, .mov (.tmp 7), none⟩, ⟨some 26, .mov (.tmp 8), none⟩, ⟨some 27, .bin .mul (.tmp 25) (.tmp 26), none⟩, ⟨some 28, .mov (.tmp 10), none⟩, ⟨some 29, .bin .shr (.tmp 28) (.con (.i .u64 (32))), none⟩, ⟨some 30, .bin .add (.tmp 27) (.tmp 29), none⟩, ⟨some 11, .mov (.tmp 30), none⟩])
 (.seq (.reg [⟨some 31, .mov (.tmp 11), none⟩, ⟨some 32, .bin .and (.tmp 31) (.con (.i .u64 (4294967295))), none⟩, ⟨some 12, .mov (.tmp 32), none⟩])
 (.seq (.reg [⟨some 33, .mov (.tmp 11), none⟩, ⟨some 34, .bin .shr (.tmp 33) (.con (.i .u64 (32))), none⟩, ⟨some 13, .mov (.tmp 34), none⟩])
 (.seq (.reg [⟨some 35, .mov (.tmp 12), none⟩, ⟨some 36, .mov (.tmp 6), none⟩, ⟨some 37, .mov (.tmp 9), none⟩, ⟨some 38, .bin .mul (.tmp 36) (.tmp 37), none⟩, ⟨some 39, .bin .add (.tmp 35) (.tmp 38), none⟩, ⟨some 12, .mov (.tmp 39), none⟩])
 (.seq (.reg [⟨some 40, .mov (.tmp 7), none⟩, ⟨some 41, .mov (.tmp 9), none⟩, ⟨some 42, .bin .mul (.tmp 40) (.tmp 41), none⟩, ⟨some 43, .mov (.tmp 13), none⟩, ⟨some 44, .bin .add (.tmp 42) (.tmp 43), none⟩, ⟨some 45, .mov (.tmp 12), none⟩, ⟨some 46, .bin .shr (.tmp 45) (.con (.i .u64 (32))), none⟩, ⟨some 47, .bin .add (.tmp 44) (.tmp 46), none⟩, ⟨some 4, .mov (.tmp 47), none⟩])
 (.seq (.reg [⟨some 48, .mov (.tmp 0), none⟩, ⟨some 49, .mov (.tmp 1), none⟩, ⟨some 50, .bin .mul (.tmp 48) (.tmp 49), none⟩, ⟨some 5, .mov (.tmp 50), none⟩])
 .ret)))))))))))), [.tmp 4, .tmp 5]⟩
theorem c57 : compF Try.prog k57 [] Try.f57 = some a57 := by kernel_rfl
/-- (ramble/bulk.Bag).each -/
def k59 : Nat → List (Nat × H) := fun _ => []
def a59 : AFun := ⟨1, (.seq (.reg [⟨some 1, .box (.tmp 0), none⟩, ⟨some 2, .mov (.con .nilf), none⟩])
 (.seq (.reg [⟨some 3, .mkfn 79 [(.tmp 1)], none⟩, ⟨some 2, .mov (.tmp 3), none⟩])
 .ret)), [.tmp 2]⟩
theorem c59 : compF Try.prog k59 [] Try.f59 = some a59 := by kernel_rfl
/-- (ramble/bulk.Bag).find -/
def k62 : Nat → List (Nat × H) := fun _ => []
def a62 : AFun := ⟨2, (.seq (.reg [⟨some 3, .box (.tmp 1), none⟩, ⟨some 4, .mov (.con (.i .i64 (0))), none⟩, ⟨some 5, .mov (.con (.b false)), none⟩])
 (.seq (.reg [⟨some 6, .mov (.tmp 0), none⟩, ⟨some 7, .load true 4 (.tmp 3), none⟩, ⟨some 8, .call 87 [(.tmp 6), (.tmp 7), (.con (.fn 88 []))], none⟩, ⟨some 9, .ext (.tmp 8) 0, none⟩, ⟨some 10, .ext (.tmp 8) 1, none⟩, ⟨some 4, .mov (.tmp 9), none⟩, ⟨some 5, .mov (.tmp 10), none⟩])
 .ret)), [.tmp 4, .tmp 5]⟩
theorem c62 : compF Try.prog k62 [] Try.f62 = some a62 := by kernel_rfl
/-- ramble/value.Clone -/
def k64 : Nat → List (Nat × H) := fun r => if r = 3 then [(1, .none), (2, .none), (10, .none), (11, .none)] else []
def a64 : AFun := ⟨1, (.seq (.reg [⟨some 1, .box (.tmp 0), none⟩, ⟨some 2, .alloc [(.i .i64 (0)), (.i .i64 (0)), (.str []), (.sl .nil 0 [])], none⟩])
 (.seq (.reg [⟨some 4, .faddr 3 (.tmp 1), none⟩, ⟨some 5, .load false 1 (.tmp 4), none⟩, ⟨some 6, .call 41 [(.tmp 5)], none⟩, ⟨some 7, .faddr 3 (.tmp 1), none⟩, ⟨none, .store 1 (.tmp 7) (.tmp 6), none⟩])
 (.seq (.seq (.reg [⟨some 8, .faddr 3 (.tmp 1), none⟩, ⟨some 9, .load false 1 (.tmp 8), none⟩, ⟨some 10, .len false (.tmp 9), none⟩, ⟨some 11, .mov (.con (.i .i64 (0))), none⟩])
 (.block 0 (.loop [(1, .none), (2, .none), (10, .none), (11, .none)] (.seq (.reg [⟨some 12, .bin .lss (.tmp 11) (.tmp 10), none⟩])
 (.seq (.cond (.tmp 12) .skip (.exit 0))
 (.seq (.block 1 (.seq (.reg [⟨some 13, .mov (.tmp 11), none⟩, ⟨some 3, .mov (.tmp 13), none⟩])
 (.draw [⟨some 14, .faddr 3 (.tmp 1), none⟩, ⟨some 15, .load false 1 (.tmp 14), none⟩, ⟨some 16, .mov (.tmp 3), none⟩, ⟨some 17, .faddr 3 (.tmp 1), none⟩, ⟨some 18, .load false 1 (.tmp 17), none⟩, ⟨some 19, .mov (.tmp 3), none⟩, ⟨some 20, .iaddr 4 (.tmp 18) (.tmp 19), none⟩, ⟨some 21, .load true 4 (.tmp 20), none⟩, ⟨some 22, .call 64 [(.tmp 21)], none⟩, ⟨some 23, .iaddr 4 (.tmp 15) (.tmp 16), none⟩, ⟨none, .store 4 (.tmp 23) (.tmp 22), none⟩] [(1, 4), (1, 6), (1, 7), (1, 8)])))
 (.reg [⟨some 24, .bin .add (.tmp 11) (.con (.i .i64 (1))), none⟩, ⟨some 11, .mov (.tmp 24), none⟩])))))))
 (.seq (.reg [⟨some 25, .load true 4 (.tmp 1), none⟩, ⟨none, .store 4 (.tmp 2) (.tmp 25), none⟩])
 .ret)))), [.cell 2 true 4]⟩
theorem c64 : compF Try.prog k64 [] Try.f64 = some a64 := by kernel_rfl
/-- ramble/rambleref10.CloneValue -/
def k65 : Nat → List (Nat × H) := fun r => if r = 3 then [(1, .none), (2, .none), (3, .row 34 4), (4, .none)] else []
def a65 : AFun := ⟨1, (.seq (.reg [⟨some 1, .box (.tmp 0), none⟩, ⟨some 2, .alloc [(.i .i64 (0)), (.i .i64 (0)), (.str []), (.sl .nil 0 [])], none⟩])
 (.seq (.reg [⟨some 3, .mov (.con (.sl .nil 0 [])), none⟩])
 (.seq (.seq (.reg [⟨some 4, .mov (.con (.i .i64 (0))), none⟩])
 (.block 0 (.loop [(1, .none), (2, .none), (3, .row 34 4), (4, .none)] (.seq (.seq (.reg [⟨some 5, .mov (.tmp 4), none⟩, ⟨some 6, .faddr 3 (.tmp 1), none⟩, ⟨some 7, .load false 1 (.tmp 6), none⟩, ⟨some 8, .len false (.tmp 7), none⟩, ⟨some 9, .bin .lss (.tmp 5) (.tmp 8), none⟩])
 (.cond (.tmp 9) .skip (.exit 0)))
 (.seq (.block 1 (.reg [⟨some 12, .mov (.tmp 3), none⟩, ⟨some 13, .faddr 3 (.tmp 1), none⟩, ⟨some 14, .load false 1 (.tmp 13), none⟩, ⟨some 15, .mov (.tmp 4), none⟩, ⟨some 16, .iaddr 4 (.tmp 14) (.tmp 15), none⟩, ⟨some 17, .load true 4 (.tmp 16), none⟩, ⟨some 18, .call 65 [(.tmp 17)], none⟩, ⟨some 19, .bslice 34 [(.i .i64 (0)), (.i .i64 (0)), (.str []), (.sl .nil 0 [])] 1 [(0, (.tmp 18))], none⟩, ⟨some 20, .app 34 4 (.tmp 12) (.tmp 19), none⟩, ⟨some 3, .mov (.tmp 20), none⟩]))
 (.reg [⟨some 10, .mov (.tmp 4), none⟩, ⟨some 11, .bin .add (.tmp 10) (.con (.i .i64 (1))), none⟩, ⟨some 4, .mov (.tmp 11), none⟩]))))))
 (.seq (.reg [⟨some 21, .mov (.tmp 3), none⟩, ⟨some 22, .faddr 3 (.tmp 1), none⟩, ⟨none, .store 1 (.tmp 22) (.tmp 21), none⟩])
 (.seq (.reg [⟨some 23, .load true 4 (.tmp 1), none⟩, ⟨none, .store 4 (.tmp 2) (.tmp 23), none⟩])
 .ret))))), [.cell 2 true 4]⟩
theorem c65 : compF Try.prog k65 [] Try.f65 = some a65 := by kernel_rfl
/-- ramble/rambleref02.may -/
def k66 : Nat → List (Nat × H) := fun _ => []
def a66 : AFun := ⟨2, (.seq (.reg [⟨some 2, .box (.tmp 0), none⟩, ⟨some 4, .mov (.con (.b false)), none⟩])
 (.seq (.seq (.reg [⟨some 5, .mov (.tmp 1), none⟩, ⟨some 6, .bin .geq (.tmp 5) (.con (.i .i64 (8))), none⟩])
 (.cond (.tmp 6) (.seq (.reg [⟨some 4, .mov (.con (.b false)), none⟩])
 .ret) .skip))
 (.seq (.seq (.reg [⟨some 7, .faddr 0 (.tmp 2), none⟩, ⟨some 8, .load false 1 (.tmp 7), none⟩])
 (.block 0 (.seq (.reg [⟨some 10, .bin .eql (.tmp 8) (.con (.i .i64 (1))), none⟩, ⟨some 9, .mov (.tmp 10), none⟩])
 (.cond (.tmp 9) (.seq (.reg [⟨some 11, .faddr 2 (.tmp 2), none⟩, ⟨some 12, .load false 1 (.tmp 11), none⟩, ⟨some 13, .bin .eql (.tmp 12) (.con (.str [])), none⟩, ⟨some 14, .mov (.tmp 13), none⟩, ⟨some 15, .faddr 3 (.tmp 2), some (14, true)⟩, ⟨some 16, .load false 1 (.tmp 15), some (14, true)⟩, ⟨some 17, .len false (.tmp 16), some (14, true)⟩, ⟨some 18, .bin .eql (.tmp 17) (.con (.i .i64 (0))), some (14, true)⟩, ⟨some 19, .pick (.tmp 14) (.tmp 18) (.con (.b false)), none⟩, ⟨some 4, .mov (.tmp 19), none⟩])
 .ret) (.seq (.reg [⟨some 21, .bin .eql (.tmp 8) (.con (.i .i64 (3))), none⟩, ⟨some 20, .mov (.tmp 21), none⟩])
 (.cond (.tmp 20) (.seq (.reg [⟨some 22, .faddr 2 (.tmp 2), none⟩, ⟨some 23, .load false 1 (.tmp 22), none⟩, ⟨some 24, .bin .eql (.tmp 23) (.con (.str [])), none⟩, ⟨some 25, .mov (.tmp 24), none⟩, ⟨some 26, .faddr 3 (.tmp 2), some (25, true)⟩, ⟨some 27, .load false 1 (.tmp 26), some (25, true)⟩, ⟨some 28, .len false (.tmp 27), some (25, true)⟩, ⟨some 29, .bin .eql (.tmp 28) (.con (.i .i64 (0))), some (25, true)⟩, ⟨some 30, .pick (.tmp 25) (.tmp 29) (.con (.b false)), none⟩, ⟨some 31, .mov (.tmp 30), none⟩, ⟨some 32, .faddr 1 (.tmp 2), some (31, true)⟩, ⟨some 33, .load false 1 (.tmp 32), some (31, true)⟩, ⟨some 34, .bin .eql (.tmp 33) (.con (.i .i64 (0))), some (31, true)⟩, ⟨some 35, .mov (.tmp 34), some (31, true)⟩, ⟨some 36, .faddr 1 (.tmp 2), some (35, false)⟩, ⟨some 37, .load false 1 (.tmp 36), some (35, false)⟩, ⟨some 38, .bin .eql (.tmp 37) (.con (.i .i64 (1))), some (35, false)⟩, ⟨some 39, .pick (.tmp 35) (.con (.b true)) (.tmp 38), some (31, true)⟩, ⟨some 40, .pick (.tmp 31) (.tmp 39) (.con (.b false)), none⟩, ⟨some 4, .mov (.tmp 40), none⟩])
 .ret) (.seq (.seq (.reg [⟨some 42, .bin .eql (.tmp 8) (.con (.i .i64 (6))), none⟩, ⟨some 41, .mov (.tmp 42), none⟩])
 (.cond (.tmp 41) .skip (.reg [⟨some 43, .bin .eql (.tmp 8) (.con (.i .i64 (7))), none⟩, ⟨some 41, .mov (.tmp 43), none⟩])))
 (.cond (.tmp 41) (.seq (.reg [⟨some 44, .faddr 2 (.tmp 2), none⟩, ⟨some 45, .load false 1 (.tmp 44), none⟩, ⟨some 46, .bin .eql (.tmp 45) (.con (.str [])), none⟩, ⟨some 47, .mov (.tmp 46), none⟩, ⟨some 48, .faddr 3 (.tmp 2), some (47, true)⟩, ⟨some 49, .load false 1 (.tmp 48), some (47, true)⟩, ⟨some 50, .len false (.tmp 49), some (47, true)⟩, ⟨some 51, .bin .eql (.tmp 50) (.con (.i .i64 (0))), some (47, true)⟩, ⟨some 52, .pick (.tmp 47) (.tmp 51) (.con (.b false)), none⟩, ⟨some 53, .mov (.tmp 52), none⟩, ⟨some 54, .faddr 1 (.tmp 2), some (53, true)⟩, ⟨some 55, .load false 1 (.tmp 54), some (53, true)⟩, ⟨some 56, .bin .geq (.tmp 55) (.con (.i .i64 (1))), some (53, true)⟩, ⟨some 57, .pick (.tmp 53) (.tmp 56) (.con (.b false)), none⟩, ⟨some 58, .mov (.tmp 57), none⟩, ⟨some 59, .faddr 1 (.tmp 2), some (58, true)⟩, ⟨some 60, .load false 1 (.tmp 59), some (58, true)⟩, ⟨some 61, .bin .leq (.tmp 60) (.con (.i .i64 (281474976710656))), some (58, true)⟩, ⟨some 62, .pick (.tmp 58) (.tmp 61) (.con (.b false)), none⟩, ⟨some 4, .mov (.tmp 62), none⟩])
 .ret) (.seq (.reg [⟨some 64, .bin .eql (.tmp 8) (.con (.i .i64 (2))), none⟩, ⟨some 63, .mov (.tmp 64), none⟩])
 (.cond (.tmp 63) (.seq (.reg [⟨some 65, .faddr 1 (.tmp 2), none⟩, ⟨some 66, .load false 1 (.tmp 65), none⟩, ⟨some 67, .bin .eql (.tmp 66) (.con (.i .i64 (0))), none⟩, ⟨some 68, .mov (.tmp 67), none⟩, ⟨some 69, .faddr 3 (.tmp 2), some (68, true)⟩, ⟨some 70, .load false 1 (.tmp 69), some (68, true)⟩, ⟨some 71, .len false (.tmp 70), some (68, true)⟩, ⟨some 72, .bin .eql (.tmp 71) (.con (.i .i64 (0))), some (68, true)⟩, ⟨some 73, .pick (.tmp 68) (.tmp 72) (.con (.b false)), none⟩, ⟨some 74, .mov (.tmp 73), none⟩, ⟨some 75, .faddr 2 (.tmp 2), some (74, true)⟩, ⟨some 76, .load false 1 (.tmp 75), some (74, true)⟩, ⟨some 77, .len true (.tmp 76), some (74, true)⟩, ⟨some 78, .bin .leq (.tmp 77) (.con (.i .i64 (128))), some (74, true)⟩, ⟨some 79, .pick (.tmp 74) (.tmp 78) (.con (.b false)), none⟩, ⟨some 4, .mov (.tmp 79), none⟩])
 .ret) (.seq (.reg [⟨some 81, .bin .eql (.tmp 8) (.con (.i .i64 (4))), none⟩, ⟨some 80, .mov (.tmp 81), none⟩])
 (.cond (.tmp 80) (.seq (.reg [⟨some 82, .faddr 1 (.tmp 2), none⟩, ⟨some 83, .load false 1 (.tmp 82), none⟩, ⟨some 84, .bin .eql (.tmp 83) (.con (.i .i64 (0))), none⟩, ⟨some 85, .mov (.tmp 84), none⟩, ⟨some 86, .faddr 2 (.tmp 2), some (85, true)⟩, ⟨some 87, .load false 1 (.tmp 86), some (85, true)⟩, ⟨some 88, .bin .eql (.tmp 87) (.con (.str [])), some (85, true)⟩, ⟨some 89, .pick (.tmp 85) (.tmp 88) (.con (.b false)), none⟩, ⟨some 90, .mov (.tmp 89), none⟩, ⟨some 91, .faddr 3 (.tmp 2), some (90, true)⟩, ⟨some 92, .load false 1 (.tmp 91), some (90, true)⟩, ⟨some 93, .len false (.tmp 92), some (90, true)⟩, ⟨some 94, .bin .leq (.tmp 93) (.con (.i .i64 (256))), some (90, true)⟩, ⟨some 95, .pick (.tmp 90) (.tmp 94) (.con (.b false)), none⟩, ⟨some 96, .mov (.tmp 95), none⟩, ⟨some 97, .faddr 3 (.tmp 2), some (96, true)⟩, ⟨some 98, .load false 1 (.tmp 97), some (96, true)⟩, ⟨some 99, .mov (.tmp 1), some (96, true)⟩, ⟨some 100, .call 89 [(.tmp 98), (.tmp 99)], some (96, true)⟩, ⟨some 101, .pick (.tmp 96) (.tmp 100) (.con (.b false)), none⟩, ⟨some 4, .mov (.tmp 101), none⟩])
 .ret) (.seq (.reg [⟨some 103, .bin .eql (.tmp 8) (.con (.i .i64 (5))), none⟩, ⟨some 102, .mov (.tmp 103), none⟩])
 (.cond (.tmp 102) (.seq (.reg [⟨some 104, .faddr 1 (.tmp 2), none⟩, ⟨some 105, .load false 1 (.tmp 104), none⟩, ⟨some 106, .bin .eql (.tmp 105) (.con (.i .i64 (0))), none⟩, ⟨some 107, .mov (.tmp 106), none⟩, ⟨some 108, .faddr 2 (.tmp 2), some (107, true)⟩, ⟨some 109, .load false 1 (.tmp 108), some (107, true)⟩, ⟨some 110, .bin .eql (.tmp 109) (.con (.str [])), some (107, true)⟩, ⟨some 111, .pick (.tmp 107) (.tmp 110) (.con (.b false)), none⟩, ⟨some 112, .mov (.tmp 111), none⟩, ⟨some 113, .faddr 3 (.tmp 2), some (112, true)⟩, ⟨some 114, .load false 1 (.tmp 113), some (112, true)⟩, ⟨some 115, .len false (.tmp 114), some (112, true)⟩, ⟨some 116, .bin .leq (.tmp 115) (.con (.i .i64 (512))), some (112, true)⟩, ⟨some 117, .pick (.tmp 112) (.tmp 116) (.con (.b false)), none⟩, ⟨some 118, .mov (.tmp 117), none⟩, ⟨some 119, .faddr 3 (.tmp 2), some (118, true)⟩, ⟨some 120, .load false 1 (.tmp 119), some (118, true)⟩, ⟨some 121, .len false (.tmp 120), some (118, true)⟩, ⟨some 122, .bin .rem (.tmp 121) (.con (.i .i64 (2))), some (118, true)⟩, ⟨some 123, .bin .eql (.tmp 122) (.con (.i .i64 (0))), some (118, true)⟩, ⟨some 124, .pick (.tmp 118) (.tmp 123) (.con (.b false)), none⟩, ⟨some 125, .mov (.tmp 124), none⟩, ⟨some 126, .faddr 3 (.tmp 2), some (125, true)⟩, ⟨some 127, .load false 1 (.tmp 126), some (125, true)⟩, ⟨some 128, .mov (.tmp 1), some (125, true)⟩, ⟨some 129, .call 89 [(.tmp 127), (.tmp 128)], some (125, true)⟩, ⟨some 130, .pick (.tmp 125) (.tmp 129) (.con (.b false)), none⟩, ⟨some 131, .mov (.tmp 130), none⟩, ⟨some 132, .faddr 3 (.tmp 2), some (131, true)⟩, ⟨some 133, .load false 1 (.tmp 132), some (131, true)⟩, ⟨some 134, .call 90 [(.tmp 133)], some (131, true)⟩, ⟨some 135, .pick (.tmp 131) (.tmp 134) (.con (.b false)), none⟩, ⟨some 4, .mov (.tmp 135), none⟩])
 .ret) .skip))))))))))))))
 (.seq (.reg [⟨some 4, .mov (.con (.b false)), none⟩])
 .ret)))), [.tmp 4]⟩
theorem c66 : compF Try.prog k66 [] Try.f66 = some a66 := by kernel_rfl
/-- ramble/rambleref02.num -/
def k70 : Nat → List (Nat × H) := fun _ => []
def a70 : AFun := ⟨2, (.seq (.reg [⟨some 4, .mov (.con (.i .i64 (0))), none⟩])
 (.seq (.seq (.reg [⟨some 5, .mov (.tmp 0), none⟩, ⟨some 6, .mov (.tmp 1), none⟩, ⟨some 7, .bin .lss (.tmp 5) (.tmp 6), none⟩])
 (.cond (.tmp 7) (.seq (.reg [⟨some 4, .mov (.con (.i .i64 (-1))), none⟩])
 .ret) .skip))
 (.seq (.seq (.reg [⟨some 8, .mov (.tmp 0), none⟩, ⟨some 9, .mov (.tmp 1), none⟩, ⟨some 10, .bin .gtr (.tmp 8) (.tmp 9), none⟩])
 (.cond (.tmp 10) (.seq (.reg [⟨some 4, .mov (.con (.i .i64 (1))), none⟩])
 .ret) .skip))
 (.seq (.reg [⟨some 4, .mov (.con (.i .i64 (0))), none⟩])
 .ret)))), [.tmp 4]⟩
theorem c70 : compF Try.prog k70 [] Try.f70 = some a70 := by kernel_rfl
/-- ramble/rambleref02.text -/
def k71 : Nat → List (Nat × H) := fun r => if r = 2 then [(0, .none), (1, .none), (5, .none)] else []
def a71 : AFun := ⟨2, (.seq (.reg [⟨some 4, .mov (.con (.i .i64 (0))), none⟩])
 (.seq (.seq (.reg [⟨some 5, .mov (.con (.i .i64 (0))), none⟩])
 (.block 0 (.loop [(0, .none), (1, .none), (5, .none)] (.seq (.seq (.reg [⟨some 6, .mov (.tmp 5), none⟩, ⟨some 7, .mov (.tmp 0), none⟩, ⟨some 8, .len true (.tmp 7), none⟩, ⟨some 9, .bin .lss (.tmp 6) (.tmp 8), none⟩, ⟨some 10, .mov (.tmp 9), none⟩, ⟨some 11, .mov (.tmp 5), some (10, true)⟩, ⟨some 12, .mov (.tmp 1), some (10, true)⟩, ⟨some 13, .len true (.tmp 12), some (10, true)⟩, ⟨some 14, .bin .lss (.tmp 11) (.tmp 13), some (10, true)⟩, ⟨some 15, .pick (.tmp 10) (.tmp 14) (.con (.b false)), none⟩])
 (.cond (.tmp 15) .skip (.exit 0)))
 (.seq (.block 1 (.seq (.draw [⟨some 18, .mov (.tmp 0), none⟩, ⟨some 19, .mov (.tmp 5), none⟩, ⟨some 20, .idx (.tmp 18) (.tmp 19), none⟩, ⟨some 21, .mov (.tmp 1), none⟩, ⟨some 22, .mov (.tmp 5), none⟩, ⟨some 23, .idx (.tmp 21) (.tmp 22), none⟩, ⟨some 24, .bin .neq (.tmp 20) (.tmp 23), none⟩] [])
 (.cond (.tmp 24) (.seq (.draw [⟨some 25, .mov (.tmp 0), none⟩, ⟨some 26, .mov (.tmp 5), none⟩, ⟨some 27, .idx (.tmp 25) (.tmp 26), none⟩, ⟨some 28, .conv (.int .i64) (.tmp 27), none⟩, ⟨some 29, .mov (.tmp 1), none⟩, ⟨some 30, .mov (.tmp 5), none⟩, ⟨some 31, .idx (.tmp 29) (.tmp 30), none⟩, ⟨some 32, .conv (.int .i64) (.tmp 31), none⟩, ⟨some 33, .call 70 [(.tmp 28), (.tmp 32)], none⟩, ⟨some 4, .mov (.tmp 33), none⟩] [])
 .ret) .skip)))
 (.reg [⟨some 16, .mov (.tmp 5), none⟩, ⟨some 17, .bin .add (.tmp 16) (.con (.i .i64 (1))), none⟩, ⟨some 5, .mov (.tmp 17), none⟩]))))))
 (.seq (.reg [⟨some 34, .mov (.tmp 0), none⟩, ⟨some 35, .len true (.tmp 34), none⟩, ⟨some 36, .mov (.tmp 1), none⟩, ⟨some 37, .len true (.tmp 36), none⟩, ⟨some 38, .call 70 [(.tmp 35), (.tmp 37)], none⟩, ⟨some 4, .mov (.tmp 38), none⟩])
 .ret))), [.tmp 4]⟩
theorem c71 : compF Try.prog k71 [] Try.f71 = some a71 := by kernel_rfl
/-- ramble/value.may -/
def k73 : Nat → List (Nat × H) := fun r => if r = 22 then [(2, .none), (3, .none), (6, .none)] else []
def a73 : AFun := ⟨2, (.seq (.reg [⟨some 2, .box (.tmp 0), none⟩, ⟨some 3, .box (.tmp 1), none⟩, ⟨some 4, .mov (.con (.b false)), none⟩])
 (.seq (.seq (.reg [⟨some 7, .load false 1 (.tmp 3), none⟩, ⟨some 8, .bin .gtr (.tmp 7) (.con (.i .i64 (8))), none⟩])
 (.cond (.tmp 8) (.seq (.reg [⟨some 4, .mov (.con (.b false)), none⟩])
 .ret) .skip))
 (.seq (.reg [⟨some 9, .faddr 2 (.tmp 2), none⟩, ⟨some 10, .load false 1 (.tmp 9), none⟩, ⟨some 11, .bin .eql (.tmp 10) (.con (.str [])), none⟩, ⟨some 12, .mov (.tmp 11), none⟩, ⟨some 13, .faddr 3 (.tmp 2), some (12, true)⟩, ⟨some 14, .load false 1 (.tmp 13), some (12, true)⟩, ⟨some 15, .len false (.tmp 14), some (12, true)⟩, ⟨some 16, .bin .eql (.tmp 15) (.con (.i .i64 (0))), some (12, true)⟩, ⟨some 17, .pick (.tmp 12) (.tmp 16) (.con (.b false)), none⟩, ⟨some 5, .mov (.tmp 17), none⟩])
 (.seq (.seq (.reg [⟨some 18, .faddr 0 (.tmp 2), none⟩, ⟨some 19, .load false 1 (.tmp 18), none⟩])
 (.block 0 (.seq (.reg [⟨some 21, .bin .eql (.tmp 19) (.con (.i .i64 (1))), none⟩, ⟨some 20, .mov (.tmp 21), none⟩])
 (.cond (.tmp 20) (.seq (.reg [⟨some 22, .mov (.tmp 5), none⟩, ⟨some 4, .mov (.tmp 22), none⟩])
 .ret) (.seq (.reg [⟨some 24, .bin .eql (.tmp 19) (.con (.i .i64 (3))), none⟩, ⟨some 23, .mov (.tmp 24), none⟩])
 (.cond (.tmp 23) (.seq (.reg [⟨some 25, .mov (.tmp 5), none⟩, ⟨some 26, .mov (.tmp 25), none⟩, ⟨some 27, .faddr 1 (.tmp 2), some (26, true)⟩, ⟨some 28, .load false 1 (.tmp 27), some (26, true)⟩, ⟨some 29, .bin .eql (.tmp 28) (.con (.i .i64 (0))), some (26, true)⟩, ⟨some 30, .mov (.tmp 29), some (26, true)⟩, ⟨some 31, .faddr 1 (.tmp 2), some (30, false)⟩, ⟨some 32, .load false 1 (.tmp 31), some (30, false)⟩, ⟨some 33, .bin .eql (.tmp 32) (.con (.i .i64 (1))), some (30, false)⟩, ⟨some 34, .pick (.tmp 30) (.con (.b true)) (.tmp 33), some (26, true)⟩, ⟨some 35, .pick (.tmp 26) (.tmp 34) (.con (.b false)), none⟩, ⟨some 4, .mov (.tmp 35), none⟩])
 .ret) (.seq (.seq (.reg [⟨some 37, .bin .eql (.tmp 19) (.con (.i .i64 (6))), none⟩, ⟨some 36, .mov (.tmp 37), none⟩])
 (.cond (.tmp 36) .skip (.reg [⟨some 38, .bin .eql (.tmp 19) (.con (.i .i64 (7))), none⟩, ⟨some 36, .mov (.tmp 38), none⟩])))
 (.cond (.tmp 36) (.seq (.reg [⟨some 39, .mov (.tmp 5), none⟩, ⟨some 40, .mov (.tmp 39), none⟩, ⟨some 41, .faddr 1 (.tmp 2), some (40, true)⟩, ⟨some 42, .load false 1 (.tmp 41), some (40, true)⟩, ⟨some 43, .bin .geq (.tmp 42) (.con (.i .i64 (1))), some (40, true)⟩, ⟨some 44, .pick (.tmp 40) (.tmp 43) (.con (.b false)), none⟩, ⟨some 45, .mov (.tmp 44), none⟩, ⟨some 46, .faddr 1 (.tmp 2), some (45, true)⟩, ⟨some 47, .load false 1 (.tmp 46), some (45, true)⟩, ⟨some 48, .bin .leq (.tmp 47) (.con (.i .i64 (281474976710656))), some (45, true)⟩, ⟨some 49, .pick (.tmp 45) (.tmp 48) (.con (.b false)), none⟩, ⟨some 4, .mov (.tmp 49), none⟩])
 .ret) (.seq (.reg [⟨some 51, .bin .eql (.tmp 19) (.con (.i .i64 (2))), none⟩, ⟨some 50, .mov (.tmp 51), none⟩])
 (.cond (.tmp 50) (.seq (.reg [⟨some 52, .faddr 1 (.tmp 2), none⟩, ⟨some 53, .load false 1 (.tmp 52), none⟩, ⟨some 54, .bin .eql (.tmp 53) (.con (.i .i64 (0))), none⟩, ⟨some 55, .mov (.tmp 54), none⟩, ⟨some 56, .faddr 3 (.tmp 2), some (55, true)⟩, ⟨some 57, .load false 1 (.tmp 56), some (55, true)⟩, ⟨some 58, .len false (.tmp 57), some (55, true)⟩, ⟨some 59, .bin .eql (.tmp 58) (.con (.i .i64 (0))), some (55, true)⟩, ⟨some 60, .pick (.tmp 55) (.tmp 59) (.con (.b false)), none⟩, ⟨some 61, .mov (.tmp 60), none⟩, ⟨some 62, .faddr 2 (.tmp 2), some (61, true)⟩, ⟨some 63, .load false 1 (.tmp 62), some (61, true)⟩, ⟨some 64, .len true (.tmp 63), some (61, true)⟩, ⟨some 65, .bin .leq (.tmp 64) (.con (.i .i64 (128))), some (61, true)⟩, ⟨some 66, .pick (.tmp 61) (.tmp 65) (.con (.b false)), none⟩, ⟨some 4, .mov (.tmp 66), none⟩])
 .ret) (.seq (.reg [⟨some 68, .bin .eql (.tmp 19) (.con (.i .i64 (4))), none⟩, ⟨some 67, .mov (.tmp 68), none⟩])
 (.cond (.tmp 67) (.seq (.reg [⟨some 69, .faddr 3 (.tmp 2), none⟩, ⟨some 70, .load false 1 (.tmp 69), none⟩, ⟨some 71, .len false (.tmp 70), none⟩, ⟨some 72, .bin .gtr (.tmp 71) (.con (.i .i64 (256))), none⟩])
 (.cond (.tmp 72) (.seq (.reg [⟨some 4, .mov (.con (.b false)), none⟩])
 .ret) .skip)) (.seq (.reg [⟨some 74, .bin .eql (.tmp 19) (.con (.i .i64 (5))), none⟩, ⟨some 73, .mov (.tmp 74), none⟩])
 (.cond (.tmp 73) (.seq (.seq (.reg [⟨some 75, .faddr 3 (.tmp 2), none⟩, ⟨some 76, .load false 1 (.tmp 75), none⟩, ⟨some 77, .len false (.tmp 76), none⟩, ⟨some 78, .bin .gtr (.tmp 77) (.con (.i .i64 (512))), none⟩, ⟨some 79, .mov (.tmp 78), none⟩, ⟨some 80, .faddr 3 (.tmp 2), some (79, false)⟩, ⟨some 81, .load false 1 (.tmp 80), some (79, false)⟩, ⟨some 82, .len false (.tmp 81), some (79, false)⟩, ⟨some 83, .bin .rem (.tmp 82) (.con (.i .i64 (2))), some (79, false)⟩, ⟨some 84, .bin .eql (.tmp 83) (.con (.i .i64 (1))), some (79, false)⟩, ⟨some 85, .pick (.tmp 79) (.con (.b true)) (.tmp 84), none⟩])
 (.cond (.tmp 85) (.seq (.reg [⟨some 4, .mov (.con (.b false)), none⟩])
 .ret) .skip))
 (.seq (.reg [⟨some 6, .mov (.con (.i .i64 (2))), none⟩])
 (.block 1 (.loop [(2, .none), (3, .none), (6, .none)] (.seq (.seq (.reg [⟨some 86, .mov (.tmp 6), none⟩, ⟨some 87, .faddr 3 (.tmp 2), none⟩, ⟨some 88, .load false 1 (.tmp 87), none⟩, ⟨some 89, .len false (.tmp 88), none⟩, ⟨some 90, .bin .lss (.tmp 86) (.tmp 89), none⟩])
 (.cond (.tmp 90) .skip (.exit 1)))
 (.seq (.block 2 (.seq (.draw [⟨some 93, .faddr 3 (.tmp 2), none⟩, ⟨some 94, .load false 1 (.tmp 93), none⟩, ⟨some 95, .mov (.tmp 6), none⟩, ⟨some 96, .bin .sub (.tmp 95) (.con (.i .i64 (2))), none⟩, ⟨some 97, .iaddr 4 (.tmp 94) (.tmp 96), none⟩, ⟨some 98, .load true 4 (.tmp 97), none⟩, ⟨some 99, .faddr 3 (.tmp 2), none⟩, ⟨some 100, .load false 1 (.tmp 99), none⟩, ⟨some 101, .mov (.tmp 6), none⟩, ⟨some 102, .iaddr 4 (.tmp 100) (.tmp 101), none⟩, ⟨some 103, .load true 4 (.tmp 102), none⟩, ⟨some 104, .call 49 [(.tmp 98), (.tmp 103)], none⟩, ⟨some 105, .bin .geq (.tmp 104) (.con (.i .i64 (0))), none⟩] [(1, 7), (4, 7), (5, 7), (1, 9), (4, 9), (5, 9), (1, 10), (4, 10), (5, 10)])
 (.cond (.tmp 105) (.seq (.reg [⟨some 4, .mov (.con (.b false)), none⟩])
 .ret) .skip)))
 (.reg [⟨some 91, .mov (.tmp 6), none⟩, ⟨some 92, .bin .add (.tmp 91) (.con (.i .i64 (2))), none⟩, ⟨some 6, .mov (.tmp 92), none⟩]))))))) (.seq (.reg [⟨some 4, .mov (.con (.b false)), none⟩])
 .ret)))))))))))))))
 (.seq (.reg [⟨some 106, .faddr 1 (.tmp 2), none⟩, ⟨some 107, .load false 1 (.tmp 106), none⟩, ⟨some 108, .bin .eql (.tmp 107) (.con (.i .i64 (0))), none⟩, ⟨some 109, .mov (.tmp 108), none⟩, ⟨some 110, .faddr 2 (.tmp 2), some (109, true)⟩, ⟨some 111, .load false 1 (.tmp 110), some (109, true)⟩, ⟨some 112, .bin .eql (.tmp 111) (.con (.str [])), some (109, true)⟩, ⟨some 113, .pick (.tmp 109) (.tmp 112) (.con (.b false)), none⟩, ⟨some 114, .mov (.tmp 113), none⟩, ⟨some 115, .faddr 3 (.tmp 2), some (114, true)⟩, ⟨some 116, .load false 1 (.tmp 115), some (114, true)⟩, ⟨some 117, .mkfn 105 [(.tmp 3)], some (114, true)⟩, ⟨some 118, .call 104 [(.tmp 116), (.tmp 117)], some (114, true)⟩, ⟨some 119, .un .not (.tmp 118), some (114, true)⟩, ⟨some 120, .pick (.tmp 114) (.tmp 119) (.con (.b false)), none⟩, ⟨some 4, .mov (.tmp 120), none⟩])
 .ret))))), [.tmp 4]⟩
theorem c73 : compF Try.prog k73 [] Try.f73 = some a73 := by kernel_rfl
/-- cmp.Or[int] -/
def k74 : Nat → List (Nat × H) := fun r => if r = 3 then [(3, .none), (6, .none), (7, .none), (8, .none)] else []
def a74 : AFun := ⟨1, (.seq (.reg [⟨some 2, .mov (.con (.i .i64 (0))), none⟩])
 (.seq (.reg [⟨some 3, .mov (.con (.i .i64 (0))), none⟩])
 (.seq (.seq (.reg [⟨some 6, .mov (.tmp 0), none⟩, ⟨some 7, .len false (.tmp 6), none⟩, ⟨some 8, .mov (.con (.i .i64 (0))), none⟩])
 (.block 0 (.loop [(3, .none), (6, .none), (7, .none), (8, .none)] (.seq (.reg [⟨some 9, .bin .lss (.tmp 8) (.tmp 7), none⟩])
 (.seq (.cond (.tmp 9) .skip (.exit 0))
 (.seq (.block 1 (.seq (.reg [⟨some 10, .iaddr 1 (.tmp 6) (.tmp 8), none⟩, ⟨some 11, .load false 1 (.tmp 10), none⟩, ⟨some 5, .mov (.tmp 11), none⟩])
 (.seq (.reg [⟨some 12, .mov (.tmp 5), none⟩, ⟨some 13, .mov (.tmp 3), none⟩, ⟨some 14, .bin .neq (.tmp 12) (.tmp 13), none⟩])
 (.cond (.tmp 14) (.seq (.reg [⟨some 15, .mov (.tmp 5), none⟩, ⟨some 2, .mov (.tmp 15), none⟩])
 .ret) .skip))))
 (.reg [⟨some 16, .bin .add (.tmp 8) (.con (.i .i64 (1))), none⟩, ⟨some 8, .mov (.tmp 16), none⟩])))))))
 (.seq (.reg [⟨some 17, .mov (.tmp 3), none⟩, ⟨some 2, .mov (.tmp 17), none⟩])
 .ret)))), [.tmp 2]⟩
theorem c74 : compF Try.prog k74 [] Try.f74 = some a74 := by kernel_rfl
/-- cmp.Compare[int] -/
def k75 : Nat → List (Nat × H) := fun _ => []
def a75 : AFun := ⟨2, (.seq (.reg [⟨some 4, .mov (.con (.i .i64 (0))), none⟩])
 (.seq (.reg [⟨some 7, .mov (.tmp 0), none⟩, ⟨some 8, .call 106 [(.tmp 7)], none⟩, ⟨some 5, .mov (.tmp 8), none⟩])
 (.seq (.reg [⟨some 9, .mov (.tmp 1), none⟩, ⟨some 10, .call 106 [(.tmp 9)], none⟩, ⟨some 6, .mov (.tmp 10), none⟩])
 (.seq (.seq (.reg [⟨some 11, .mov (.tmp 5), none⟩])
 (.cond (.tmp 11) (.seq (.seq (.reg [⟨some 12, .mov (.tmp 6), none⟩])
 (.cond (.tmp 12) (.seq (.reg [⟨some 4, .mov (.con (.i .i64 (0))), none⟩])
 .ret) .skip))
 (.seq (.reg [⟨some 4, .mov (.con (.i .i64 (-1))), none⟩])
 .ret)) .skip))
 (.seq (.seq (.reg [⟨some 13, .mov (.tmp 6), none⟩])
 (.cond (.tmp 13) (.seq (.reg [⟨some 4, .mov (.con (.i .i64 (1))), none⟩])
 .ret) .skip))
 (.seq (.seq (.reg [⟨some 14, .mov (.tmp 0), none⟩, ⟨some 15, .mov (.tmp 1), none⟩, ⟨some 16, .bin .lss (.tmp 14) (.tmp 15), none⟩])
 (.cond (.tmp 16) (.seq (.reg [⟨some 4, .mov (.con (.i .i64 (-1))), none⟩])
 .ret) .skip))
 (.seq (.seq (.reg [⟨some 17, .mov (.tmp 0), none⟩, ⟨some 18, .mov (.tmp 1), none⟩, ⟨some 19, .bin .gtr (.tmp 17) (.tmp 18), none⟩])
 (.cond (.tmp 19) (.seq (.reg [⟨some 4, .mov (.con (.i .i64 (1))), none⟩])
 .ret) .skip))
 (.seq (.reg [⟨some 4, .mov (.con (.i .i64 (0))), none⟩])
 .ret)))))))), [.tmp 4]⟩
theorem c75 : compF Try.prog k75 [] Try.f75 = some a75 := by kernel_rfl
/-- cmp.Compare[int64] -/
def k76 : Nat → List (Nat × H) := fun _ => []
def a76 : AFun := ⟨2, (.seq (.reg [⟨some 4, .mov (.con (.i .i64 (0))), none⟩])
 (.seq (.reg [⟨some 7, .mov (.tmp 0), none⟩, ⟨some 8, .call 107 [(.tmp 7)], none⟩, ⟨some 5, .mov (.tmp 8), none⟩])
 (.seq (.reg [⟨some 9, .mov (.tmp 1), none⟩, ⟨some 10, .call 107 [(.tmp 9)], none⟩, ⟨some 6, .mov (.tmp 10), none⟩])
 (.seq (.seq (.reg [⟨some 11, .mov (.tmp 5), none⟩])
 (.cond (.tmp 11) (.seq (.seq (.reg [⟨some 12, .mov (.tmp 6), none⟩])
 (.cond (.tmp 12) (.seq (.reg [⟨some 4, .mov (.con (.i .i64 (0))), none⟩])
 .ret) .skip))
 (.seq (.reg [⟨some 4, .mov (.con (.i .i64 (-1))), none⟩])
 .ret)) .skip))
 (.seq (.seq (.reg [⟨some 13, .mov (.tmp 6), none⟩])
 (.cond (.tmp 13) (.seq (.reg [⟨some 4, .mov (.con (.i .i64 (1))), none⟩])
 .ret) .skip))
 (.seq (.seq (.reg [⟨some 14, .mov (.tmp 0), none⟩, ⟨some 15, .mov (.tmp 1), none⟩, ⟨some 16, .bin .lss (.tmp 14) (.tmp 15), none⟩])
 (.cond (.tmp 16) (.seq (.reg [⟨some 4, .mov (.con (.i .i64 (-1))), none⟩])
 .ret) .skip))
 (.seq (.seq (.reg [⟨some 17, .mov (.tmp 0), none⟩, ⟨some 18, .mov (.tmp 1), none⟩, ⟨some 19, .bin .gtr (.tmp 17) (.tmp 18), none⟩])
 (.cond (.tmp 19) (.seq (.reg [⟨some 4, .mov (.con (.i .i64 (1))), none⟩])
 .ret) .skip))
 (.seq (.reg [⟨some 4, .mov (.con (.i .i64 (0))), none⟩])
 .ret)))))))), [.tmp 4]⟩
theorem c76 : compF Try.prog k76 [] Try.f76 = some a76 := by kernel_rfl
/-- strings.Compare -/
def k77 : Nat → List (Nat × H) := fun _ => []
def a77 : AFun := ⟨2, (.seq (.reg [⟨some 4, .mov (.con (.i .i64 (0))), none⟩])
 (.seq (.reg [⟨some 5, .mov (.tmp 0), none⟩, ⟨some 6, .mov (.tmp 1), none⟩, ⟨some 7, .call 108 [(.tmp 5), (.tmp 6)], none⟩, ⟨some 4, .mov (.tmp 7), none⟩])
 .ret)), [.tmp 4]⟩
theorem c77 : compF Try.prog k77 [] Try.f77 = some a77 := by kernel_rfl
/-- slices.CompareFunc[[]ramble/api.Value,[]ramble/api.Value,ramble/api.Value,ramble/api.Value] -/
def k78 : Nat → List (Nat × H) := fun r => if r = 2 then [(0, .none), (1, .none), (2, .none), (11, .none), (12, .none), (13, .none)] else []
def a78 : AFun := ⟨3, (.seq (.reg [⟨some 6, .mov (.con (.i .i64 (0))), none⟩])
 (.seq (.seq (.reg [⟨some 11, .mov (.tmp 0), none⟩, ⟨some 12, .len false (.tmp 11), none⟩, ⟨some 13, .mov (.con (.i .i64 (0))), none⟩])
 (.block 0 (.loop [(0, .none), (1, .none), (2, .none), (11, .none), (12, .none), (13, .none)] (.seq (.reg [⟨some 14, .bin .lss (.tmp 13) (.tmp 12), none⟩])
 (.seq (.cond (.tmp 14) .skip (.exit 0))
 (.seq (.block 1 (.seq (.reg [⟨some 15, .mov (.tmp 13), none⟩, ⟨some 16, .iaddr 4 (.tmp 11) (.tmp 13), none⟩, ⟨some 17, .load true 4 (.tmp 16), none⟩, ⟨some 8, .alloc [(.i .i64 (0)), (.i .i64 (0)), (.str []), (.sl .nil 0 [])], none⟩, ⟨some 7, .mov (.tmp 15), none⟩, ⟨none, .store 4 (.tmp 8) (.tmp 17), none⟩])
 (.seq (.seq (.reg [⟨some 18, .mov (.tmp 7), none⟩, ⟨some 19, .mov (.tmp 1), none⟩, ⟨some 20, .len false (.tmp 19), none⟩, ⟨some 21, .bin .geq (.tmp 18) (.tmp 20), none⟩])
 (.cond (.tmp 21) (.seq (.reg [⟨some 6, .mov (.con (.i .i64 (1))), none⟩])
 .ret) .skip))
 (.seq (.reg [⟨some 22, .mov (.tmp 1), none⟩, ⟨some 23, .mov (.tmp 7), none⟩, ⟨some 24, .iaddr 4 (.tmp 22) (.tmp 23), none⟩, ⟨some 25, .load true 4 (.tmp 24), none⟩, ⟨some 9, .alloc [(.i .i64 (0)), (.i .i64 (0)), (.str []), (.sl .nil 0 [])], none⟩, ⟨none, .store 4 (.tmp 9) (.tmp 25), none⟩])
 (.seq (.reg [⟨some 26, .mov (.tmp 2), none⟩, ⟨some 27, .load true 4 (.tmp 8), none⟩, ⟨some 28, .load true 4 (.tmp 9), none⟩, ⟨some 29, .callv (.tmp 26) [(.tmp 27), (.tmp 28)], none⟩, ⟨some 10, .mov (.tmp 29), none⟩])
 (.seq (.reg [⟨some 30, .mov (.tmp 10), none⟩, ⟨some 31, .bin .neq (.tmp 30) (.con (.i .i64 (0))), none⟩])
 (.cond (.tmp 31) (.seq (.reg [⟨some 32, .mov (.tmp 10), none⟩, ⟨some 6, .mov (.tmp 32), none⟩])
 .ret) .skip)))))))
 (.reg [⟨some 33, .bin .add (.tmp 13) (.con (.i .i64 (1))), none⟩, ⟨some 13, .mov (.tmp 33), none⟩])))))))
 (.seq (.seq (.reg [⟨some 34, .mov (.tmp 0), none⟩, ⟨some 35, .len false (.tmp 34), none⟩, ⟨some 36, .mov (.tmp 1), none⟩, ⟨some 37, .len false (.tmp 36), none⟩, ⟨some 38, .bin .lss (.tmp 35) (.tmp 37), none⟩])
 (.cond (.tmp 38) (.seq (.reg [⟨some 6, .mov (.con (.i .i64 (-1))), none⟩])
 .ret) .skip))
 (.seq (.reg [⟨some 6, .mov (.con (.i .i64 (0))), none⟩])
 .ret)))), [.tmp 6]⟩
theorem c78 : compF Try.prog k78 [] Try.f78 = some a78 := by kernel_rfl
/-- (ramble/bulk.Bag).each$1 -/
def k79 : Nat → List (Nat × H) := fun r => if r = 1 then [(5, .none), (6, .none), (7, .none)] else []
def a79 : AFun := ⟨2, (.seq (.reg [⟨some 5, .load false 1 (.tmp 1), none⟩, ⟨some 6, .len false (.tmp 5), none⟩, ⟨some 7, .mov (.con (.i .i64 (0))), none⟩])
 (.block 0 (.loop [(5, .none), (6, .none), (7, .none)] (.seq (.reg [⟨some 8, .bin .lss (.tmp 7) (.tmp 6), none⟩])
 (.seq (.cond (.tmp 8) .skip (.exit 0))
 (.seq (.block 1 (.seq (.reg [⟨some 9, .iaddr 5 (.tmp 5) (.tmp 7), none⟩, ⟨some 10, .load true 5 (.tmp 9), none⟩, ⟨some 4, .alloc [(.i .i64 (0)), (.i .i64 (0)), (.str []), (.sl .nil 0 []), (.i .i64 (0))], none⟩, ⟨none, .store 5 (.tmp 4) (.tmp 10), none⟩])
 (.seq (.reg [⟨some 11, .mov (.tmp 0), none⟩, ⟨some 12, .faddr 0 (.tmp 4), none⟩, ⟨some 13, .load true 4 (.tmp 12), none⟩, ⟨some 14, .faddr 4 (.tmp 4), none⟩, ⟨some 15, .load false 1 (.tmp 14), none⟩, ⟨some 16, .callv (.tmp 11) [(.tmp 13), (.tmp 15)], none⟩, ⟨some 17, .un .not (.tmp 16), none⟩])
 (.cond (.tmp 17) .ret .skip))))
 (.reg [⟨some 18, .bin .add (.tmp 7) (.con (.i .i64 (1))), none⟩, ⟨some 7, .mov (.tmp 18), none⟩]))))))), []⟩
theorem c79 : compF Try.prog k79 [.inout (.none)] Try.f79 = some a79 := by kernel_rfl
/-- slices.BinarySearchFunc[ramble/bulk.Bag,ramble/api.Count,ramble/api.Value] -/
def k87 : Nat → List (Nat × H) := fun r => if r = 3 then [(0, .none), (2, .none), (4, .none), (8, .none), (9, .none), (10, .none)] else []
def a87 : AFun := ⟨3, (.seq (.reg [⟨some 4, .box (.tmp 1), none⟩, ⟨some 6, .mov (.con (.i .i64 (0))), none⟩, ⟨some 7, .mov (.con (.b false)), none⟩])
 (.seq (.reg [⟨some 12, .mov (.tmp 0), none⟩, ⟨some 13, .len false (.tmp 12), none⟩, ⟨some 8, .mov (.tmp 13), none⟩])
 (.seq (.reg [⟨some 14, .mov (.tmp 8), none⟩, ⟨some 9, .mov (.con (.i .i64 (0))), none⟩, ⟨some 10, .mov (.tmp 14), none⟩])
 (.seq (.block 0 (.loop [(0, .none), (2, .none), (4, .none), (8, .none), (9, .none), (10, .none)] (.seq (.seq (.reg [⟨some 15, .mov (.tmp 9), none⟩, ⟨some 16, .mov (.tmp 10), none⟩, ⟨some 17, .bin .lss (.tmp 15) (.tmp 16), none⟩])
 (.cond (.tmp 17) .skip (.exit 0)))
 (.block 1 (.seq (.reg [⟨some 18, .mov (.tmp 9), none⟩, ⟨some 19, .mov (.tmp 10), none⟩, ⟨some 20, .bin .add (.tmp 18) (.tmp 19), none⟩, ⟨some 21, .conv (.int .u64) (.tmp 20), none⟩, ⟨some 22, .bin .shr (.tmp 21) (.con (.i .u64 (1))), none⟩, ⟨some 23, .conv (.int .i64) (.tmp 22), none⟩, ⟨some 11, .mov (.tmp 23), none⟩])
 (.seq (.draw [⟨some 24, .mov (.tmp 2), none⟩, ⟨some 25, .mov (.tmp 0), none⟩, ⟨some 26, .mov (.tmp 11), none⟩, ⟨some 27, .iaddr 5 (.tmp 25) (.tmp 26), none⟩, ⟨some 28, .load true 5 (.tmp 27), none⟩, ⟨some 29, .load true 4 (.tmp 4), none⟩, ⟨some 30, .callv (.tmp 24) [(.tmp 28), (.tmp 29)], none⟩, ⟨some 31, .bin .lss (.tmp 30) (.con (.i .i64 (0))), none⟩] [(3, 5), (4, 5)])
 (.cond (.tmp 31) (.reg [⟨some 32, .mov (.tmp 11), none⟩, ⟨some 33, .bin .add (.tmp 32) (.con (.i .i64 (1))), none⟩, ⟨some 9, .mov (.tmp 33), none⟩]) (.reg [⟨some 34, .mov (.tmp 11), none⟩, ⟨some 10, .mov (.tmp 34), none⟩]))))))))
 (.seq (.draw [⟨some 35, .mov (.tmp 9), none⟩, ⟨some 36, .mov (.tmp 9), none⟩, ⟨some 37, .mov (.tmp 8), none⟩, ⟨some 38, .bin .lss (.tmp 36) (.tmp 37), none⟩, ⟨some 39, .mov (.tmp 38), none⟩, ⟨some 40, .mov (.tmp 2), some (39, true)⟩, ⟨some 41, .mov (.tmp 0), some (39, true)⟩, ⟨some 42, .mov (.tmp 9), some (39, true)⟩, ⟨some 43, .iaddr 5 (.tmp 41) (.tmp 42), some (39, true)⟩, ⟨some 44, .load true 5 (.tmp 43), some (39, true)⟩, ⟨some 45, .load true 4 (.tmp 4), some (39, true)⟩, ⟨some 46, .callv (.tmp 40) [(.tmp 44), (.tmp 45)], some (39, true)⟩, ⟨some 47, .bin .eql (.tmp 46) (.con (.i .i64 (0))), some (39, true)⟩, ⟨some 48, .pick (.tmp 39) (.tmp 47) (.con (.b false)), none⟩, ⟨some 6, .mov (.tmp 35), none⟩, ⟨some 7, .mov (.tmp 48), none⟩] [(8, 10), (9, 10)])
 .ret))))), [.tmp 6, .tmp 7]⟩
theorem c87 : compF Try.prog k87 [] Try.f87 = some a87 := by kernel_rfl
/-- (ramble/bulk.Bag).find$1 -/
def k88 : Nat → List (Nat × H) := fun _ => []
def a88 : AFun := ⟨2, (.seq (.reg [⟨some 2, .box (.tmp 0), none⟩, ⟨some 3, .box (.tmp 1), none⟩, ⟨some 4, .mov (.con (.i .i64 (0))), none⟩])
 (.seq (.reg [⟨some 5, .faddr 0 (.tmp 2), none⟩, ⟨some 6, .load true 4 (.tmp 5), none⟩, ⟨some 7, .load true 4 (.tmp 3), none⟩, ⟨some 8, .call 49 [(.tmp 6), (.tmp 7)], none⟩, ⟨some 4, .mov (.tmp 8), none⟩])
 .ret)), [.tmp 4]⟩
theorem c88 : compF Try.prog k88 [] Try.f88 = some a88 := by kernel_rfl
/-- ramble/rambleref02.all -/
def k89 : Nat → List (Nat × H) := fun r => if r = 2 then [(0, .none), (1, .none), (5, .none)] else []
def a89 : AFun := ⟨2, (.seq (.reg [⟨some 4, .mov (.con (.b false)), none⟩])
 (.seq (.seq (.reg [⟨some 5, .mov (.con (.i .i64 (0))), none⟩])
 (.block 0 (.loop [(0, .none), (1, .none), (5, .none)] (.seq (.seq (.reg [⟨some 6, .mov (.tmp 5), none⟩, ⟨some 7, .mov (.tmp 0), none⟩, ⟨some 8, .len false (.tmp 7), none⟩, ⟨some 9, .bin .lss (.tmp 6) (.tmp 8), none⟩])
 (.cond (.tmp 9) .skip (.exit 0)))
 (.seq (.block 1 (.seq (.reg [⟨some 12, .mov (.tmp 0), none⟩, ⟨some 13, .mov (.tmp 5), none⟩, ⟨some 14, .iaddr 4 (.tmp 12) (.tmp 13), none⟩, ⟨some 15, .load true 4 (.tmp 14), none⟩, ⟨some 16, .mov (.tmp 1), none⟩, ⟨some 17, .bin .add (.tmp 16) (.con (.i .i64 (1))), none⟩, ⟨some 18, .call 66 [(.tmp 15), (.tmp 17)], none⟩, ⟨some 19, .un .not (.tmp 18), none⟩])
 (.cond (.tmp 19) (.seq (.reg [⟨some 4, .mov (.con (.b false)), none⟩])
 .ret) .skip)))
 (.reg [⟨some 10, .mov (.tmp 5), none⟩, ⟨some 11, .bin .add (.tmp 10) (.con (.i .i64 (1))), none⟩, ⟨some 5, .mov (.tmp 11), none⟩]))))))
 (.seq (.reg [⟨some 4, .mov (.con (.b true)), none⟩])
 .ret))), [.tmp 4]⟩
theorem c89 : compF Try.prog k89 [] Try.f89 = some a89 := by kernel_rfl
/-- ramble/rambleref02.rises -/
def k90 : Nat → List (Nat × H) := fun r => if r = 2 then [(0, .none), (3, .none)] else []
def a90 : AFun := ⟨1, (.seq (.reg [⟨some 2, .mov (.con (.b false)), none⟩])
 (.seq (.seq (.reg [⟨some 3, .mov (.con (.i .i64 (2))), none⟩])
 (.block 0 (.loop [(0, .none), (3, .none)] (.seq (.seq (.reg [⟨some 4, .mov (.tmp 3), none⟩, ⟨some 5, .mov (.tmp 0), none⟩, ⟨some 6, .len false (.tmp 5), none⟩, ⟨some 7, .bin .lss (.tmp 4) (.tmp 6), none⟩])
 (.cond (.tmp 7) .skip (.exit 0)))
 (.seq (.block 1 (.seq (.draw [⟨some 10, .mov (.tmp 0), none⟩, ⟨some 11, .mov (.tmp 3), none⟩, ⟨some 12, .bin .sub (.tmp 11) (.con (.i .i64 (2))), none⟩, ⟨some 13, .iaddr 4 (.tmp 10) (.tmp 12), none⟩, ⟨some 14, .load true 4 (.tmp 13), none⟩, ⟨some 15, .mov (.tmp 0), none⟩, ⟨some 16, .mov (.tmp 3), none⟩, ⟨some 17, .iaddr 4 (.tmp 15) (.tmp 16), none⟩, ⟨some 18, .load true 4 (.tmp 17), none⟩, ⟨some 19, .call 43 [(.tmp 14), (.tmp 18)], none⟩, ⟨some 20, .bin .geq (.tmp 19) (.con (.i .i64 (0))), none⟩] [(3, 7), (4, 7), (3, 8), (4, 8)])
 (.cond (.tmp 20) (.seq (.reg [⟨some 2, .mov (.con (.b false)), none⟩])
 .ret) .skip)))
 (.reg [⟨some 8, .mov (.tmp 3), none⟩, ⟨some 9, .bin .add (.tmp 8) (.con (.i .i64 (2))), none⟩, ⟨some 3, .mov (.tmp 9), none⟩]))))))
 (.seq (.reg [⟨some 2, .mov (.con (.b true)), none⟩])
 .ret))), [.tmp 2]⟩
theorem c90 : compF Try.prog k90 [] Try.f90 = some a90 := by kernel_rfl
/-- slices.ContainsFunc[[]ramble/api.Value,ramble/api.Value] -/
def k104 : Nat → List (Nat × H) := fun _ => []
def a104 : AFun := ⟨2, (.seq (.reg [⟨some 4, .mov (.con (.b false)), none⟩])
 (.seq (.reg [⟨some 5, .mov (.tmp 0), none⟩, ⟨some 6, .mov (.tmp 1), none⟩, ⟨some 7, .call 119 [(.tmp 5), (.tmp 6)], none⟩, ⟨some 8, .bin .geq (.tmp 7) (.con (.i .i64 (0))), none⟩, ⟨some 4, .mov (.tmp 8), none⟩])
 .ret)), [.tmp 4]⟩
theorem c104 : compF Try.prog k104 [] Try.f104 = some a104 := by kernel_rfl
/-- ramble/value.may$1 -/
def k105 : Nat → List (Nat × H) := fun _ => []
def a105 : AFun := ⟨2, (.seq (.reg [⟨some 2, .box (.tmp 0), none⟩, ⟨some 3, .mov (.con (.b false)), none⟩])
 (.seq (.reg [⟨some 4, .load true 4 (.tmp 2), none⟩, ⟨some 5, .load false 1 (.tmp 1), none⟩, ⟨some 6, .bin .add (.tmp 5) (.con (.i .i64 (1))), none⟩, ⟨some 7, .call 73 [(.tmp 4), (.tmp 6)], none⟩, ⟨some 8, .un .not (.tmp 7), none⟩, ⟨some 3, .mov (.tmp 8), none⟩])
 .ret)), [.tmp 3]⟩
theorem c105 : compF Try.prog k105 [] Try.f105 = some a105 := by kernel_rfl
/-- cmp.isNaN[int] -/
def k106 : Nat → List (Nat × H) := fun _ => []
def a106 : AFun := ⟨1, (.seq (.reg [⟨some 2, .mov (.con (.b false)), none⟩])
 (.seq (.reg [⟨some 3, .mov (.tmp 0), none⟩, ⟨some 4, .mov (.tmp 0), none⟩, ⟨some 5, .bin .neq (.tmp 3) (.tmp 4), none⟩, ⟨some 2, .mov (.tmp 5), none⟩])
 .ret)), [.tmp 2]⟩
theorem c106 : compF Try.prog k106 [] Try.f106 = some a106 := by kernel_rfl
/-- cmp.isNaN[int64] -/
def k107 : Nat → List (Nat × H) := fun _ => []
def a107 : AFun := ⟨1, (.seq (.reg [⟨some 2, .mov (.con (.b false)), none⟩])
 (.seq (.reg [⟨some 3, .mov (.tmp 0), none⟩, ⟨some 4, .mov (.tmp 0), none⟩, ⟨some 5, .bin .neq (.tmp 3) (.tmp 4), none⟩, ⟨some 2, .mov (.tmp 5), none⟩])
 .ret)), [.tmp 2]⟩
theorem c107 : compF Try.prog k107 [] Try.f107 = some a107 := by kernel_rfl
/-- internal/bytealg.CompareString -/
def k108 : Nat → List (Nat × H) := fun _ => []
def a108 : AFun := ⟨2, (.seq (.reg [⟨some 4, .mov (.con (.i .i64 (0))), none⟩])
 (.seq (.reg [⟨some 5, .mov (.tmp 0), none⟩, ⟨some 6, .mov (.tmp 1), none⟩, ⟨some 7, .call 120 [(.tmp 5), (.tmp 6)], none⟩, ⟨some 4, .mov (.tmp 7), none⟩])
 .ret)), [.tmp 4]⟩
theorem c108 : compF Try.prog k108 [] Try.f108 = some a108 := by kernel_rfl
/-- slices.IndexFunc[[]ramble/api.Value,ramble/api.Value] -/
def k119 : Nat → List (Nat × H) := fun r => if r = 2 then [(0, .none), (1, .none), (7, .none), (8, .none)] else []
def a119 : AFun := ⟨2, (.seq (.reg [⟨some 4, .mov (.con (.i .i64 (0))), none⟩])
 (.seq (.seq (.reg [⟨some 6, .mov (.tmp 0), none⟩, ⟨some 7, .len false (.tmp 6), none⟩, ⟨some 8, .mov (.con (.i .i64 (0))), none⟩])
 (.block 0 (.loop [(0, .none), (1, .none), (7, .none), (8, .none)] (.seq (.reg [⟨some 9, .bin .lss (.tmp 8) (.tmp 7), none⟩])
 (.seq (.cond (.tmp 9) .skip (.exit 0))
 (.seq (.block 1 (.seq (.reg [⟨some 10, .mov (.tmp 8), none⟩, ⟨some 5, .mov (.tmp 10), none⟩])
 (.seq (.reg [⟨some 11, .mov (.tmp 1), none⟩, ⟨some 12, .mov (.tmp 0), none⟩, ⟨some 13, .mov (.tmp 5), none⟩, ⟨some 14, .iaddr 4 (.tmp 12) (.tmp 13), none⟩, ⟨some 15, .load true 4 (.tmp 14), none⟩, ⟨some 16, .callv (.tmp 11) [(.tmp 15)], none⟩])
 (.cond (.tmp 16) (.seq (.reg [⟨some 17, .mov (.tmp 5), none⟩, ⟨some 4, .mov (.tmp 17), none⟩])
 .ret) .skip))))
 (.reg [⟨some 18, .bin .add (.tmp 8) (.con (.i .i64 (1))), none⟩, ⟨some 8, .mov (.tmp 18), none⟩])))))))
 (.seq (.reg [⟨some 4, .mov (.con (.i .i64 (-1))), none⟩])
 .ret))), [.tmp 4]⟩
theorem c119 : compF Try.prog k119 [] Try.f119 = some a119 := by kernel_rfl
end Go.Proofs.Ytabbjdclfmeipaa
