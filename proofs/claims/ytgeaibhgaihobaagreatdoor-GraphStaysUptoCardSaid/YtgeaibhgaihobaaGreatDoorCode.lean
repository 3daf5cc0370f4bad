/-
 The functions' code for the abstract machine, printed by a program of ours; each checked against the loaded program.
-/
import Derived.Test.YtgeaibhgaihobaaGreatDoorFa
import Derived.Test.YtgeaibhgaihobaaGreatDoorProg
import Derived.KernelRfl
set_option maxRecDepth 100000
namespace Go.Proofs.YtgeaibhgaihobaaGreatDoor
open Go.Abs
def oW (k b c : Nat) : AIns := ⟨none, .store k (.tmp b) (.tmp c), none⟩
@[go_sem] theorem oWe (k b c : Nat) : oW k b c = ⟨none, .store k (.tmp b) (.tmp c), none⟩ := rfl
def oL (a k b : Nat) : AIns := ⟨some a, .load true k (.tmp b), none⟩
@[go_sem] theorem oLe (a k b : Nat) : oL a k b = ⟨some a, .load true k (.tmp b), none⟩ := rfl
def pL (a k b t : Nat) : AIns := ⟨some a, .load true k (.tmp b), some (t, true)⟩
@[go_sem] theorem pLe (a k b t : Nat) : pL a k b t = ⟨some a, .load true k (.tmp b), some (t, true)⟩ := rfl
def qL (a k b t : Nat) : AIns := ⟨some a, .load true k (.tmp b), some (t, false)⟩
@[go_sem] theorem qLe (a k b t : Nat) : qL a k b t = ⟨some a, .load true k (.tmp b), some (t, false)⟩ := rfl
def oM (a b : Nat) : AIns := ⟨some a, .load false 1 (.tmp b), none⟩
@[go_sem] theorem oMe (a b : Nat) : oM a b = ⟨some a, .load false 1 (.tmp b), none⟩ := rfl
def pM (a b t : Nat) : AIns := ⟨some a, .load false 1 (.tmp b), some (t, true)⟩
@[go_sem] theorem pMe (a b t : Nat) : pM a b t = ⟨some a, .load false 1 (.tmp b), some (t, true)⟩ := rfl
def qM (a b t : Nat) : AIns := ⟨some a, .load false 1 (.tmp b), some (t, false)⟩
@[go_sem] theorem qMe (a b t : Nat) : qM a b t = ⟨some a, .load false 1 (.tmp b), some (t, false)⟩ := rfl
def oF (a k b : Nat) : AIns := ⟨some a, .faddr k (.tmp b), none⟩
@[go_sem] theorem oFe (a k b : Nat) : oF a k b = ⟨some a, .faddr k (.tmp b), none⟩ := rfl
def pF (a k b t : Nat) : AIns := ⟨some a, .faddr k (.tmp b), some (t, true)⟩
@[go_sem] theorem pFe (a k b t : Nat) : pF a k b t = ⟨some a, .faddr k (.tmp b), some (t, true)⟩ := rfl
def qF (a k b t : Nat) : AIns := ⟨some a, .faddr k (.tmp b), some (t, false)⟩
@[go_sem] theorem qFe (a k b t : Nat) : qF a k b t = ⟨some a, .faddr k (.tmp b), some (t, false)⟩ := rfl
def oV (a b : Nat) : AIns := ⟨some a, .mov (.tmp b), none⟩
@[go_sem] theorem oVe (a b : Nat) : oV a b = ⟨some a, .mov (.tmp b), none⟩ := rfl
def pV (a b t : Nat) : AIns := ⟨some a, .mov (.tmp b), some (t, true)⟩
@[go_sem] theorem pVe (a b t : Nat) : pV a b t = ⟨some a, .mov (.tmp b), some (t, true)⟩ := rfl
def qV (a b t : Nat) : AIns := ⟨some a, .mov (.tmp b), some (t, false)⟩
@[go_sem] theorem qVe (a b t : Nat) : qV a b t = ⟨some a, .mov (.tmp b), some (t, false)⟩ := rfl
def oE (a b k : Nat) : AIns := ⟨some a, .ext (.tmp b) k, none⟩
@[go_sem] theorem oEe (a b k : Nat) : oE a b k = ⟨some a, .ext (.tmp b) k, none⟩ := rfl
def oA (a k b c : Nat) : AIns := ⟨some a, .iaddr k (.tmp b) (.tmp c), none⟩
@[go_sem] theorem oAe (a k b c : Nat) : oA a k b c = ⟨some a, .iaddr k (.tmp b) (.tmp c), none⟩ := rfl
def pA (a k b c t : Nat) : AIns := ⟨some a, .iaddr k (.tmp b) (.tmp c), some (t, true)⟩
@[go_sem] theorem pAe (a k b c t : Nat) : pA a k b c t = ⟨some a, .iaddr k (.tmp b) (.tmp c), some (t, true)⟩ := rfl
def qA (a k b c t : Nat) : AIns := ⟨some a, .iaddr k (.tmp b) (.tmp c), some (t, false)⟩
@[go_sem] theorem qAe (a k b c t : Nat) : qA a k b c t = ⟨some a, .iaddr k (.tmp b) (.tmp c), some (t, false)⟩ := rfl
def oN (a b : Nat) : AIns := ⟨some a, .len false (.tmp b), none⟩
@[go_sem] theorem oNe (a b : Nat) : oN a b = ⟨some a, .len false (.tmp b), none⟩ := rfl
def pN (a b t : Nat) : AIns := ⟨some a, .len false (.tmp b), some (t, true)⟩
@[go_sem] theorem pNe (a b t : Nat) : pN a b t = ⟨some a, .len false (.tmp b), some (t, true)⟩ := rfl
def qN (a b t : Nat) : AIns := ⟨some a, .len false (.tmp b), some (t, false)⟩
@[go_sem] theorem qNe (a b t : Nat) : qN a b t = ⟨some a, .len false (.tmp b), some (t, false)⟩ := rfl
def oU (a b : Nat) : AIns := ⟨some a, .un .not (.tmp b), none⟩
@[go_sem] theorem oUe (a b : Nat) : oU a b = ⟨some a, .un .not (.tmp b), none⟩ := rfl
def pU (a b t : Nat) : AIns := ⟨some a, .un .not (.tmp b), some (t, true)⟩
@[go_sem] theorem pUe (a b t : Nat) : pU a b t = ⟨some a, .un .not (.tmp b), some (t, true)⟩ := rfl
def qU (a b t : Nat) : AIns := ⟨some a, .un .not (.tmp b), some (t, false)⟩
@[go_sem] theorem qUe (a b t : Nat) : qU a b t = ⟨some a, .un .not (.tmp b), some (t, false)⟩ := rfl
def oC (a b : Nat) : AIns := ⟨some a, .mov (.con (.i .i64 b)), none⟩
@[go_sem] theorem oCe (a b : Nat) : oC a b = ⟨some a, .mov (.con (.i .i64 b)), none⟩ := rfl
def oP (a b c : Nat) : AIns := ⟨some a, .pick (.tmp b) (.con (.b true)) (.tmp c), none⟩
@[go_sem] theorem oPe (a b c : Nat) : oP a b c = ⟨some a, .pick (.tmp b) (.con (.b true)) (.tmp c), none⟩ := rfl
def pP (a b c t : Nat) : AIns := ⟨some a, .pick (.tmp b) (.con (.b true)) (.tmp c), some (t, true)⟩
@[go_sem] theorem pPe (a b c t : Nat) : pP a b c t = ⟨some a, .pick (.tmp b) (.con (.b true)) (.tmp c), some (t, true)⟩ := rfl
def oQ (a b c : Nat) : AIns := ⟨some a, .pick (.tmp b) (.tmp c) (.con (.b false)), none⟩
@[go_sem] theorem oQe (a b c : Nat) : oQ a b c = ⟨some a, .pick (.tmp b) (.tmp c) (.con (.b false)), none⟩ := rfl
def qQ (a b c t : Nat) : AIns := ⟨some a, .pick (.tmp b) (.tmp c) (.con (.b false)), some (t, false)⟩
@[go_sem] theorem qQe (a b c t : Nat) : qQ a b c t = ⟨some a, .pick (.tmp b) (.tmp c) (.con (.b false)), some (t, false)⟩ := rfl
def oG (a k b : Nat) : AIns := ⟨some a, .call k [.tmp b], none⟩
@[go_sem] theorem oGe (a k b : Nat) : oG a k b = ⟨some a, .call k [.tmp b], none⟩ := rfl
def pG (a k b t : Nat) : AIns := ⟨some a, .call k [.tmp b], some (t, true)⟩
@[go_sem] theorem pGe (a k b t : Nat) : pG a k b t = ⟨some a, .call k [.tmp b], some (t, true)⟩ := rfl
def qG (a k b t : Nat) : AIns := ⟨some a, .call k [.tmp b], some (t, false)⟩
@[go_sem] theorem qGe (a k b t : Nat) : qG a k b t = ⟨some a, .call k [.tmp b], some (t, false)⟩ := rfl
def oH (a k b c : Nat) : AIns := ⟨some a, .call k [.tmp b, .tmp c], none⟩
@[go_sem] theorem oHe (a k b c : Nat) : oH a k b c = ⟨some a, .call k [.tmp b, .tmp c], none⟩ := rfl
def pH (a k b c t : Nat) : AIns := ⟨some a, .call k [.tmp b, .tmp c], some (t, true)⟩
@[go_sem] theorem pHe (a k b c t : Nat) : pH a k b c t = ⟨some a, .call k [.tmp b, .tmp c], some (t, true)⟩ := rfl
def qH (a k b c t : Nat) : AIns := ⟨some a, .call k [.tmp b, .tmp c], some (t, false)⟩
@[go_sem] theorem qHe (a k b c t : Nat) : qH a k b c t = ⟨some a, .call k [.tmp b, .tmp c], some (t, false)⟩ := rfl
def oB (a b : Nat) : AIns := ⟨some a, .box (.tmp b), none⟩
@[go_sem] theorem oBe (a b : Nat) : oB a b = ⟨some a, .box (.tmp b), none⟩ := rfl
def oI (a b k : Nat) : AIns := ⟨some a, .bin .eql (.tmp b) (.con (.i .i64 k)), none⟩
@[go_sem] theorem oIe (a b k : Nat) : oI a b k = ⟨some a, .bin .eql (.tmp b) (.con (.i .i64 k)), none⟩ := rfl
def pI (a b k t : Nat) : AIns := ⟨some a, .bin .eql (.tmp b) (.con (.i .i64 k)), some (t, true)⟩
@[go_sem] theorem pIe (a b k t : Nat) : pI a b k t = ⟨some a, .bin .eql (.tmp b) (.con (.i .i64 k)), some (t, true)⟩ := rfl
def qI (a b k t : Nat) : AIns := ⟨some a, .bin .eql (.tmp b) (.con (.i .i64 k)), some (t, false)⟩
@[go_sem] theorem qIe (a b k t : Nat) : qI a b k t = ⟨some a, .bin .eql (.tmp b) (.con (.i .i64 k)), some (t, false)⟩ := rfl
def oJ (a b k : Nat) : AIns := ⟨some a, .bin .neq (.tmp b) (.con (.i .i64 k)), none⟩
@[go_sem] theorem oJe (a b k : Nat) : oJ a b k = ⟨some a, .bin .neq (.tmp b) (.con (.i .i64 k)), none⟩ := rfl
def qJ (a b k t : Nat) : AIns := ⟨some a, .bin .neq (.tmp b) (.con (.i .i64 k)), some (t, false)⟩
@[go_sem] theorem qJe (a b k t : Nat) : qJ a b k t = ⟨some a, .bin .neq (.tmp b) (.con (.i .i64 k)), some (t, false)⟩ := rfl
def oS (a b c : Nat) : AIns := ⟨some a, .bin .lss (.tmp b) (.tmp c), none⟩
@[go_sem] theorem oSe (a b c : Nat) : oS a b c = ⟨some a, .bin .lss (.tmp b) (.tmp c), none⟩ := rfl
def pS (a b c t : Nat) : AIns := ⟨some a, .bin .lss (.tmp b) (.tmp c), some (t, true)⟩
@[go_sem] theorem pSe (a b c t : Nat) : pS a b c t = ⟨some a, .bin .lss (.tmp b) (.tmp c), some (t, true)⟩ := rfl
def qS (a b c t : Nat) : AIns := ⟨some a, .bin .lss (.tmp b) (.tmp c), some (t, false)⟩
@[go_sem] theorem qSe (a b c t : Nat) : qS a b c t = ⟨some a, .bin .lss (.tmp b) (.tmp c), some (t, false)⟩ := rfl
def oT (a b k : Nat) : AIns := ⟨some a, .bin .add (.tmp b) (.con (.i .i64 k)), none⟩
@[go_sem] theorem oTe (a b k : Nat) : oT a b k = ⟨some a, .bin .add (.tmp b) (.con (.i .i64 k)), none⟩ := rfl
def k3 : Nat → List (Nat × H) := fun r => if r = 5 then [(3, .none), (11, .none), (12, .none), (13, .none)] else []
def a3 : AFun := ⟨1, (.seq (.reg [⟨some 2, .mov (.con (.b false)), none⟩])
 (.seq (.seq (.reg [⟨some 9, .call 5 [], none⟩, oU 10 9])
 (.cond (.tmp 10) (.seq (.reg [⟨some 2, .mov (.con (.b false)), none⟩])
 .ret) .skip))
 (.seq (.reg [⟨some 3, .alloc [(.sl .nil 0 []), (.sl .nil 0 []), (.i .i64 (0))], none⟩])
 (.seq (.seq (.reg [oV 11 0, oN 12 11, oC 13 0])
 (.block 0 (.loop [(3, .none), (11, .none), (12, .none), (13, .none)] (.seq (.reg [oS 14 13 12])
 (.seq (.cond (.tmp 14) .skip (.exit 0))
 (.seq (.block 1 (.seq (.reg [oA 15 12 11 13, oL 16 12 15, ⟨some 5, .alloc [(.i .i64 (0)), (.str []), (.i .i64 (0)), (.i .i64 (0)), (.i .i64 (0)), (.i .i64 (0)), (.str []), (.sl .nil 0 []), (.i .i64 (0)), (.i .i64 (0)), (.str []), (.sl .nil 0 [])], none⟩, oW 12 5 16])
 (.seq (.reg [oF 17 2 3, oM 18 17, oV 6 18])
 (.seq (.reg [oL 20 3 3, oL 21 12 5, oH 22 6 20 21, oV 19 22, oE 23 19 0, oE 24 19 1, ⟨some 7, .alloc [(.sl .nil 0 []), (.sl .nil 0 []), (.i .i64 (0))], none⟩, oW 3 7 23, oV 8 24])
 (.seq (.seq (.reg [oL 25 3 7, oG 26 7 25, oJ 27 26 0, oV 28 27, qF 29 2 7 28, qM 30 29 28, qV 31 6 28, qS 32 30 31 28, oP 33 28 32])
 (.cond (.tmp 33) (.seq (.reg [⟨some 2, .mov (.con (.b false)), none⟩])
 .ret) .skip))
 (.reg [oL 34 3 7, oW 3 3 34]))))))
 (.reg [oT 35 13 1, oV 13 35])))))))
 (.seq (.reg [⟨some 2, .mov (.con (.b true)), none⟩])
 .ret))))), [.tmp 2]⟩
theorem c3 : zal Tryz.prog k3 [] Tryz.f3 = some a3 := by kernel_rfl
def k5 : Nat → List (Nat × H) := fun _ => []
def a5 : AFun := ⟨0, (.seq (.reg [⟨some 0, .mov (.con (.b false)), none⟩])
 (.seq (.reg [⟨some 9, .build [(.sl .nil 0 []), (.sl .nil 0 []), (.i .i64 (0))] [], none⟩, ⟨some 10, .call 13 [(.tmp 9), (.con (.str [112, 101, 114, 115, 111, 110]))], none⟩, oV 8 10, oE 11 8 0, oE 12 8 1, oE 13 8 2, ⟨some 1, .alloc [(.sl .nil 0 []), (.sl .nil 0 []), (.i .i64 (0))], none⟩, oW 3 1 11, oV 2 12, oV 3 13])
 (.seq (.reg [oL 15 3 1, ⟨some 16, .call 13 [(.tmp 15), (.con (.str [112, 101, 114, 115, 111, 110]))], none⟩, oV 14 16, oE 17 14 0, oE 18 14 1, oE 19 14 2, oW 3 1 17, oV 4 18, oV 5 19])
 (.seq (.reg [oL 21 3 1, oV 22 2, oV 23 4, ⟨some 24, .call 14 [(.tmp 21), (.con (.str [107, 110, 111, 119, 115])), (.tmp 22), (.tmp 23)], none⟩, oV 20 24, oE 25 20 0, oE 26 20 1, oE 27 20 2, oW 3 1 25, oV 6 26, oV 7 27])
 (.seq (.seq (.reg [oV 28 3, oJ 29 28 0, oV 30 29, qV 31 5 30, qJ 32 31 0 30, oP 33 30 32, oV 34 33, qV 35 7 34, qJ 36 35 0 34, oP 37 34 36, oV 38 37, qV 39 2 38, qJ 40 39 1 38, oP 41 38 40, oV 42 41, qV 43 4 42, qJ 44 43 2 42, oP 45 42 44, oV 46 45, qV 47 6 46, qJ 48 47 3 46, oP 49 46 48, oV 50 49, qL 51 3 1 50, ⟨some 52, .call 16 [(.tmp 51), (.con (.i .i64 (1))), (.con (.sl .nil 0 []))], some (50, false)⟩, qG 53 15 52 50, qN 54 53 50, qJ 55 54 1 50, oP 56 50 55, oV 57 56, qL 58 3 1 57, ⟨some 59, .bslice 9 [(.str [])] 1 [(0, (.con (.str [107, 110, 111, 119, 115])))], some (57, false)⟩, ⟨some 60, .call 17 [(.tmp 58), (.con (.i .i64 (2))), (.tmp 59)], some (57, false)⟩, qG 61 15 60 57, qN 62 61 57, qJ 63 62 1 57, oP 64 57 63])
 (.cond (.tmp 64) (.seq (.reg [⟨some 0, .mov (.con (.b false)), none⟩])
 .ret) .skip))
 (.seq (.draw [oL 66 3 1, ⟨some 67, .call 19 [(.con (.i .i64 (2)))], none⟩, oH 68 18 66 67, oV 65 68, oE 69 65 0, oE 70 65 1, oW 3 1 69, oV 3 70] [(0, 1)])
 (.seq (.reg [oV 71 3, oI 72 71 0, oV 73 72, pF 74 1 1 73, pM 75 74 73, pN 76 75 73, pI 77 76 0 73, oQ 78 73 77, oV 79 78, pF 80 0 1 79, pM 81 80 79, pN 82 81 79, pI 83 82 1 79, oQ 84 79 83, oV 85 84, pF 86 2 1 85, pM 87 86 85, pI 88 87 3 85, oQ 89 85 88, oV 0 89])
 .ret))))))), [.tmp 0]⟩
theorem c5 : zal Tryz.prog k5 [] Tryz.f5 = some a5 := by kernel_rfl
def k6 : Nat → List (Nat × H) := fun _ => []
def a6 : AFun := ⟨2, (.seq (.reg [oB 2 0, oB 3 1, ⟨some 4, .alloc [(.sl .nil 0 []), (.sl .nil 0 []), (.i .i64 (0))], none⟩, ⟨some 5, .mov (.con (.b false)), none⟩])
 (.seq (.reg [⟨some 6, .alloc [(.sl .nil 0 []), (.sl .nil 0 []), (.i .i64 (0))], none⟩, ⟨some 7, .alloc [(.sl .nil 0 []), (.sl .nil 0 []), (.i .i64 (0))], none⟩])
 (.seq (.reg [oC 8 0, oC 9 0])
 (.seq (.reg [oC 10 0, oC 11 0])
 (.seq (.reg [⟨some 12, .mov (.con (.b false)), none⟩, ⟨some 13, .mov (.con (.b false)), none⟩])
 (.seq (.seq (.reg [oF 14 0 3, oM 15 14])
 (.block 0 (.seq (.reg [oI 31 15 0, oV 30 31])
 (.cond (.tmp 30) (.seq (.reg [oL 33 3 2, oF 34 1 3, oM 35 34, oH 36 13 33 35, oV 32 36, oE 37 32 0, oE 38 32 1, oE 39 32 2, oW 3 6 37, oV 10 38, oV 8 39])
 (.reg [oL 41 3 2, oF 42 1 3, oM 43 42, oH 44 20 41 43, oV 40 44, oE 45 40 0, oE 46 40 1, oE 47 40 2, oW 3 7 45, oV 11 46, oV 9 47])) (.seq (.reg [oI 49 15 1, oV 48 49])
 (.cond (.tmp 48) (.seq (.reg [oL 51 3 2, oF 52 1 3, oM 53 52, oF 54 2 3, oM 55 54, oF 56 3 3, oM 57 56, ⟨some 58, .call 14 [(.tmp 51), (.tmp 53), (.tmp 55), (.tmp 57)], none⟩, oV 50 58, oE 59 50 0, oE 60 50 1, oE 61 50 2, oW 3 6 59, oV 10 60, oV 8 61])
 (.reg [oL 63 3 2, oF 64 1 3, oM 65 64, oF 66 2 3, oM 67 66, oF 68 3 3, oM 69 68, ⟨some 70, .call 21 [(.tmp 63), (.tmp 65), (.tmp 67), (.tmp 69)], none⟩, oV 62 70, oE 71 62 0, oE 72 62 1, oE 73 62 2, oW 3 7 71, oV 11 72, oV 9 73])) (.seq (.reg [oI 75 15 2, oV 74 75])
 (.cond (.tmp 74) (.seq (.reg [oL 77 3 2, oF 78 4 3, oL 79 4 78, oF 80 1 3, oM 81 80, oF 82 8 3, oL 83 4 82, ⟨some 84, .call 22 [(.tmp 77), (.tmp 79), (.tmp 81), (.tmp 83)], none⟩, oV 76 84, oE 85 76 0, oE 86 76 1, oW 3 6 85, oV 8 86])
 (.reg [oL 88 3 2, oF 89 4 3, oL 90 4 89, oF 91 1 3, oM 92 91, oF 93 8 3, oL 94 4 93, ⟨some 95, .call 23 [(.tmp 88), (.tmp 90), (.tmp 92), (.tmp 94)], none⟩, oV 87 95, oE 96 87 0, oE 97 87 1, oW 3 7 96, oV 9 97])) (.seq (.reg [oI 99 15 3, oV 98 99])
 (.cond (.tmp 98) (.seq (.reg [oL 101 3 2, oF 102 4 3, oL 103 4 102, oF 104 1 3, oM 105 104, ⟨some 106, .call 24 [(.tmp 101), (.tmp 103), (.tmp 105)], none⟩, oV 100 106, oE 107 100 0, oE 108 100 1, oE 109 100 2, oW 3 6 107, oV 12 108, oV 8 109])
 (.reg [oL 111 3 2, oF 112 4 3, oL 113 4 112, oF 114 1 3, oM 115 114, ⟨some 116, .call 25 [(.tmp 111), (.tmp 113), (.tmp 115)], none⟩, oV 110 116, oE 117 110 0, oE 118 110 1, oE 119 110 2, oW 3 7 117, oV 13 118, oV 9 119])) (.seq (.reg [oL 17 3 2, oF 18 4 3, oL 19 4 18, oH 20 18 17 19, oV 16 20, oE 21 16 0, oE 22 16 1, oW 3 6 21, oV 8 22])
 (.reg [oL 24 3 2, oF 25 4 3, oL 26 4 25, oH 27 26 24 26, oV 23 27, oE 28 23 0, oE 29 23 1, oW 3 7 28, oV 9 29]))))))))))))
 (.seq (.draw [oL 120 3 6, oL 121 3 6, oL 122 3 7, oH 123 10 121 122, oV 124 123, pV 125 8 124, pV 126 9 124, ⟨some 127, .bin .eql (.tmp 125) (.tmp 126), some (124, true)⟩, oQ 128 124 127, oV 129 128, pV 130 10 129, pV 131 11 129, ⟨some 132, .bin .eql (.tmp 130) (.tmp 131), some (129, true)⟩, oQ 133 129 132, oV 134 133, pV 135 12 134, pV 136 13 134, ⟨some 137, .eqb false (.tmp 135) (.tmp 136), some (134, true)⟩, oQ 138 134 137, oW 3 4 120, oV 5 138] [(0, 1), (0, 2), (1, 2), (0, 3)])
 .ret))))))), [.cell 4 true 3, .tmp 5]⟩
theorem c6 : zal Tryz.prog k6 [] Tryz.f6 = some a6 := by kernel_rfl
def k7 : Nat → List (Nat × H) := fun r => if r = 6 then [(1, .none), (3, .none), (4, .none), (31, .none), (32, .none), (33, .none)] else if r = 15 then [(1, .none), (3, .none), (4, .none), (66, .none), (67, .none), (68, .none)] else []
def a7 : AFun := ⟨1, (.seq (.reg [oB 1 0, oC 2 0])
 (.seq (.seq (.reg [oF 9 2 1, oM 10 9, ⟨some 11, .bin .lss (.tmp 10) (.con (.i .i64 (0))), none⟩, oV 12 11, qF 13 2 1 12, qM 14 13 12, ⟨some 15, .bin .gtr (.tmp 14) (.con (.i .i64 (281474976710656))), some (12, false)⟩, oP 16 12 15, oV 17 16, qF 18 0 1 17, qM 19 18 17, qN 20 19 17, ⟨some 21, .bin .gtr (.tmp 20) (.con (.i .i64 (2048))), some (17, false)⟩, oP 22 17 21, oV 23 22, qF 24 1 1 23, qM 25 24 23, qN 26 25 23, ⟨some 27, .bin .gtr (.tmp 26) (.con (.i .i64 (2048))), some (23, false)⟩, oP 28 23 27])
 (.cond (.tmp 28) (.seq (.reg [oC 2 103])
 .ret) .skip))
 (.seq (.reg [⟨some 29, .mkmap, none⟩, oV 3 29])
 (.seq (.reg [oC 4 0])
 (.seq (.seq (.reg [oF 30 0 1, oM 31 30, oN 32 31, oC 33 0])
 (.block 0 (.loop [(1, .none), (3, .none), (4, .none), (31, .none), (32, .none), (33, .none)] (.seq (.reg [oS 34 33 32])
 (.seq (.cond (.tmp 34) .skip (.exit 0))
 (.seq (.block 1 (.seq (.reg [oA 35 3 31 33, oL 36 3 35, ⟨some 6, .alloc [(.i .i64 (0)), (.str []), (.sl .nil 0 [])], none⟩, oW 3 6 36])
 (.seq (.seq (.reg [oF 37 0 6, oM 38 37, oV 39 4, ⟨some 40, .bin .leq (.tmp 38) (.tmp 39), none⟩, oV 41 40, qF 42 0 6 41, qM 43 42 41, qF 44 2 1 41, qM 45 44 41, ⟨some 46, .bin .gtr (.tmp 43) (.tmp 45), some (41, false)⟩, oP 47 41 46, oV 48 47, qF 49 1 6 48, qM 50 49 48, qG 51 27 50 48, qU 52 51 48, oP 53 48 52, oV 54 53, qF 55 2 6 54, qM 56 55 54, qG 57 28 56 54, oP 58 54 57])
 (.cond (.tmp 58) (.seq (.reg [oC 2 103])
 .ret) .skip))
 (.seq (.reg [oV 59 3, oF 60 0 6, oM 61 60, ⟨none, .mput .int (.tmp 59) (.tmp 61) (.con (.b true)), none⟩])
 (.reg [oF 62 0 6, oM 63 62, oV 4 63])))))
 (.reg [oT 64 33 1, oV 33 64])))))))
 (.seq (.reg [oC 4 0])
 (.seq (.seq (.reg [oF 65 1 1, oM 66 65, oN 67 66, oC 68 0])
 (.block 2 (.loop [(1, .none), (3, .none), (4, .none), (66, .none), (67, .none), (68, .none)] (.seq (.reg [oS 69 68 67])
 (.seq (.cond (.tmp 69) .skip (.exit 2))
 (.seq (.block 3 (.seq (.reg [oA 70 5 66 68, oL 71 5 70, ⟨some 8, .alloc [(.i .i64 (0)), (.str []), (.i .i64 (0)), (.i .i64 (0)), (.sl .nil 0 [])], none⟩, oW 5 8 71])
 (.seq (.seq (.reg [oF 72 0 8, oM 73 72, oV 74 4, ⟨some 75, .bin .leq (.tmp 73) (.tmp 74), none⟩, oV 76 75, qF 77 0 8 76, qM 78 77 76, qF 79 2 1 76, qM 80 79 76, ⟨some 81, .bin .gtr (.tmp 78) (.tmp 80), some (76, false)⟩, oP 82 76 81, oV 83 82, qF 84 1 8 83, qM 85 84 83, qG 86 27 85 83, qU 87 86 83, oP 88 83 87, oV 89 88, qF 90 4 8 89, qM 91 90 89, qG 92 28 91 89, oP 93 89 92, oV 94 93, qV 95 3 94, qF 96 0 8 94, qM 97 96 94, ⟨some 98, .mget .int (.b false) false (.tmp 95) (.tmp 97), some (94, false)⟩, oP 99 94 98, oV 100 99, qV 101 3 100, qF 102 2 8 100, qM 103 102 100, ⟨some 104, .mget .int (.b false) false (.tmp 101) (.tmp 103), some (100, false)⟩, qU 105 104 100, oP 106 100 105, oV 107 106, qV 108 3 107, qF 109 3 8 107, qM 110 109 107, ⟨some 111, .mget .int (.b false) false (.tmp 108) (.tmp 110), some (107, false)⟩, qU 112 111 107, oP 113 107 112])
 (.cond (.tmp 113) (.seq (.reg [oC 2 103])
 .ret) .skip))
 (.reg [oF 114 0 8, oM 115 114, oV 4 115]))))
 (.reg [oT 116 68 1, oV 68 116])))))))
 (.seq (.reg [oC 2 0])
 .ret)))))))), [.tmp 2]⟩
theorem c7 : zal Tryz.prog k7 [] Tryz.f7 = some a7 := by kernel_rfl
def k8 : Nat → List (Nat × H) := fun r => if r = 3 then [(1, .none), (2, .none), (3, .cells [.row 43 3]), (4, .none)] else if r = 9 then [(1, .none), (2, .none), (3, .cells [.none, .row 47 5]), (6, .none)] else []
def a8 : AFun := ⟨1, (.seq (.reg [oB 1 0, ⟨some 2, .alloc [(.sl .nil 0 []), (.sl .nil 0 []), (.i .i64 (0))], none⟩])
 (.seq (.reg [oF 8 2 1, oM 9 8, ⟨some 10, .build [(.sl .nil 0 []), (.sl .nil 0 []), (.i .i64 (0))] [(2, 1, (.tmp 9))], none⟩, ⟨some 3, .alloc [(.sl .nil 0 []), (.sl .nil 0 []), (.i .i64 (0))], none⟩, oW 3 3 10])
 (.seq (.seq (.reg [oC 4 0])
 (.block 0 (.loop [(1, .none), (2, .none), (3, .cells [.row 43 3]), (4, .none)] (.seq (.seq (.reg [oV 11 4, oF 12 0 1, oM 13 12, oN 14 13, oS 15 11 14])
 (.cond (.tmp 15) .skip (.exit 0)))
 (.seq (.block 1 (.seq (.reg [oF 18 0 1, oM 19 18, oV 20 4, oA 21 3 19 20, oL 22 3 21, ⟨some 5, .alloc [(.i .i64 (0)), (.str []), (.sl .nil 0 [])], none⟩, oW 3 5 22])
 (.seq (.reg [oF 23 2 5, oM 24 23, oG 25 29 24, oF 26 2 5, oW 1 26 25])
 (.reg [oF 27 0 3, oM 28 27, oL 29 3 5, ⟨some 30, .bslice 43 [(.i .i64 (0)), (.str []), (.sl .nil 0 [])] 1 [(0, (.tmp 29))], none⟩, ⟨some 31, .app 43 3 (.tmp 28) (.tmp 30), none⟩, oF 32 0 3, oW 1 32 31]))))
 (.reg [oV 16 4, oT 17 16 1, oV 4 17]))))))
 (.seq (.seq (.reg [oC 6 0])
 (.block 2 (.loop [(1, .none), (2, .none), (3, .cells [.none, .row 47 5]), (6, .none)] (.seq (.seq (.reg [oV 33 6, oF 34 1 1, oM 35 34, oN 36 35, oS 37 33 36])
 (.cond (.tmp 37) .skip (.exit 2)))
 (.seq (.block 3 (.seq (.reg [oF 40 1 1, oM 41 40, oV 42 6, oA 43 5 41 42, oL 44 5 43, ⟨some 7, .alloc [(.i .i64 (0)), (.str []), (.i .i64 (0)), (.i .i64 (0)), (.sl .nil 0 [])], none⟩, oW 5 7 44])
 (.seq (.reg [oF 45 4 7, oM 46 45, oG 47 29 46, oF 48 4 7, oW 1 48 47])
 (.reg [oF 49 1 3, oM 50 49, oL 51 5 7, ⟨some 52, .bslice 47 [(.i .i64 (0)), (.str []), (.i .i64 (0)), (.i .i64 (0)), (.sl .nil 0 [])] 1 [(0, (.tmp 51))], none⟩, ⟨some 53, .app 47 5 (.tmp 50) (.tmp 52), none⟩, oF 54 1 3, oW 1 54 53]))))
 (.reg [oV 38 6, oT 39 38 1, oV 6 39]))))))
 (.seq (.reg [oL 55 3 3, oW 3 2 55])
 .ret))))), [.cell 2 true 3]⟩
theorem c8 : zal Tryz.prog k8 [] Tryz.f8 = some a8 := by kernel_rfl
def k10 : Nat → List (Nat × H) := fun r => if r = 4 then [(2, .none), (3, .none), (5, .none)] else if r = 9 then [(2, .none), (3, .none), (6, .none)] else []
def a10 : AFun := ⟨2, (.seq (.reg [oB 2 0, oB 3 1, ⟨some 4, .mov (.con (.b false)), none⟩])
 (.seq (.seq (.reg [oF 7 2 2, oM 8 7, oF 9 2 3, oM 10 9, ⟨some 11, .bin .neq (.tmp 8) (.tmp 10), none⟩, oV 12 11, qF 13 0 2 12, qM 14 13 12, qN 15 14 12, qF 16 0 3 12, qM 17 16 12, qN 18 17 12, ⟨some 19, .bin .neq (.tmp 15) (.tmp 18), some (12, false)⟩, oP 20 12 19, oV 21 20, qF 22 1 2 21, qM 23 22 21, qN 24 23 21, qF 25 1 3 21, qM 26 25 21, qN 27 26 21, ⟨some 28, .bin .neq (.tmp 24) (.tmp 27), some (21, false)⟩, oP 29 21 28])
 (.cond (.tmp 29) (.seq (.reg [⟨some 4, .mov (.con (.b false)), none⟩])
 .ret) .skip))
 (.seq (.seq (.reg [oC 5 0])
 (.block 0 (.loop [(2, .none), (3, .none), (5, .none)] (.seq (.seq (.reg [oV 30 5, oF 31 0 2, oM 32 31, oN 33 32, oS 34 30 33])
 (.cond (.tmp 34) .skip (.exit 0)))
 (.seq (.block 1 (.seq (.draw [oF 37 0 2, oM 38 37, oV 39 5, oA 40 3 38 39, oL 41 3 40, oF 42 0 3, oM 43 42, oV 44 5, oA 45 3 43 44, oL 46 3 45, oH 47 35 41 46, oU 48 47] [(1, 6), (3, 6), (4, 6), (1, 8), (3, 8), (4, 8), (1, 9), (3, 9), (4, 9)])
 (.cond (.tmp 48) (.seq (.reg [⟨some 4, .mov (.con (.b false)), none⟩])
 .ret) .skip)))
 (.reg [oV 35 5, oT 36 35 1, oV 5 36]))))))
 (.seq (.seq (.reg [oC 6 0])
 (.block 2 (.loop [(2, .none), (3, .none), (6, .none)] (.seq (.seq (.reg [oV 49 6, oF 50 1 2, oM 51 50, oN 52 51, oS 53 49 52])
 (.cond (.tmp 53) .skip (.exit 2)))
 (.seq (.block 3 (.seq (.draw [oF 56 1 2, oM 57 56, oV 58 6, oA 59 5 57 58, oL 60 5 59, oF 61 1 3, oM 62 61, oV 63 6, oA 64 5 62 63, oL 65 5 64, oH 66 36 60 65, oU 67 66] [(1, 6), (3, 6), (4, 6), (1, 8), (3, 8), (4, 8), (1, 9), (3, 9), (4, 9)])
 (.cond (.tmp 67) (.seq (.reg [⟨some 4, .mov (.con (.b false)), none⟩])
 .ret) .skip)))
 (.reg [oV 54 6, oT 55 54 1, oV 6 55]))))))
 (.seq (.reg [⟨some 4, .mov (.con (.b true)), none⟩])
 .ret))))), [.tmp 4]⟩
theorem c10 : zal Tryz.prog k10 [] Tryz.f10 = some a10 := by kernel_rfl
def k11 : Nat → List (Nat × H) := fun r => if r = 3 then [(1, .none), (2, .none), (3, .cells [.row 43 3]), (12, .none), (13, .none), (14, .none)] else if r = 8 then [(2, .none), (3, .cells [.none, .row 47 5]), (27, .none), (28, .none), (29, .none)] else []
def a11 : AFun := ⟨1, (.seq (.reg [oB 1 0, ⟨some 2, .alloc [(.sl .nil 0 []), (.sl .nil 0 []), (.i .i64 (0))], none⟩])
 (.seq (.reg [oF 8 2 1, oM 9 8, ⟨some 10, .build [(.sl .nil 0 []), (.sl .nil 0 []), (.i .i64 (0))] [(2, 1, (.tmp 9))], none⟩, ⟨some 3, .alloc [(.sl .nil 0 []), (.sl .nil 0 []), (.i .i64 (0))], none⟩, oW 3 3 10])
 (.seq (.seq (.reg [oF 11 0 1, oM 12 11, oN 13 12, oC 14 0])
 (.block 0 (.loop [(1, .none), (2, .none), (3, .cells [.row 43 3]), (12, .none), (13, .none), (14, .none)] (.seq (.reg [oS 15 14 13])
 (.seq (.cond (.tmp 15) .skip (.exit 0))
 (.seq (.block 1 (.seq (.reg [oA 16 3 12 14, oL 17 3 16, ⟨some 5, .alloc [(.i .i64 (0)), (.str []), (.sl .nil 0 [])], none⟩, oW 3 5 17])
 (.draw [oF 18 0 3, oM 19 18, oL 20 3 5, oG 21 37 20, ⟨some 22, .bslice 43 [(.i .i64 (0)), (.str []), (.sl .nil 0 [])] 1 [(0, (.tmp 21))], none⟩, ⟨some 23, .app 43 3 (.tmp 19) (.tmp 22), none⟩, oF 24 0 3, oW 1 24 23] [(1, 2), (1, 3), (1, 4)])))
 (.reg [oT 25 14 1, oV 14 25])))))))
 (.seq (.seq (.reg [oF 26 1 1, oM 27 26, oN 28 27, oC 29 0])
 (.block 2 (.loop [(2, .none), (3, .cells [.none, .row 47 5]), (27, .none), (28, .none), (29, .none)] (.seq (.reg [oS 30 29 28])
 (.seq (.cond (.tmp 30) .skip (.exit 2))
 (.seq (.block 3 (.seq (.reg [oA 31 5 27 29, oL 32 5 31, ⟨some 7, .alloc [(.i .i64 (0)), (.str []), (.i .i64 (0)), (.i .i64 (0)), (.sl .nil 0 [])], none⟩, oW 5 7 32])
 (.draw [oF 33 1 3, oM 34 33, oL 35 5 7, oG 36 38 35, ⟨some 37, .bslice 47 [(.i .i64 (0)), (.str []), (.i .i64 (0)), (.i .i64 (0)), (.sl .nil 0 [])] 1 [(0, (.tmp 36))], none⟩, ⟨some 38, .app 47 5 (.tmp 34) (.tmp 37), none⟩, oF 39 1 3, oW 1 39 38] [(1, 2), (1, 3), (1, 4)])))
 (.reg [oT 40 29 1, oV 29 40])))))))
 (.seq (.reg [oL 41 3 3, oW 3 2 41])
 .ret))))), [.cell 2 true 3]⟩
theorem c11 : zal Tryz.prog k11 [] Tryz.f11 = some a11 := by kernel_rfl
def k13 : Nat → List (Nat × H) := fun _ => []
def a13 : AFun := ⟨2, (.seq (.reg [oB 2 0, ⟨some 4, .alloc [(.sl .nil 0 []), (.sl .nil 0 []), (.i .i64 (0))], none⟩, oC 5 0, oC 6 0])
 (.seq (.reg [oL 8 3 2, oG 9 11 8, oW 3 2 9])
 (.seq (.reg [oL 10 3 2, oG 11 7 10, oV 7 11])
 (.seq (.block 0 (.seq (.reg [oV 13 7, oJ 14 13 0, oV 12 14])
 (.cond (.tmp 12) .skip (.seq (.reg [oV 16 1, oG 17 27 16, oU 18 17, oV 15 18])
 (.cond (.tmp 15) (.reg [oC 7 100]) (.seq (.reg [oF 20 0 2, oM 21 20, oN 22 21, ⟨some 23, .bin .geq (.tmp 22) (.con (.i .i64 (2048))), none⟩, oV 24 23, qF 25 2 2 24, qM 26 25 24, ⟨some 27, .bin .geq (.tmp 26) (.con (.i .i64 (281474976710656))), some (24, false)⟩, oP 28 24 27, oV 19 28])
 (.cond (.tmp 19) (.reg [oC 7 6]) .skip)))))))
 (.seq (.seq (.reg [oV 29 7, oJ 30 29 0])
 (.cond (.tmp 30) (.seq (.reg [oL 31 3 2, oV 32 7, oW 3 4 31, oC 5 0, oV 6 32])
 .ret) .skip))
 (.seq (.reg [oF 33 2 2, oM 34 33, oT 35 34 1, oF 36 2 2, oW 1 36 35])
 (.seq (.reg [oF 37 0 2, oM 38 37, oF 39 2 2, oM 40 39, oV 41 1, ⟨some 42, .build [(.i .i64 (0)), (.str []), (.sl .nil 0 [])] [(0, 1, (.tmp 40)), (1, 1, (.tmp 41))], none⟩, ⟨some 43, .bslice 43 [(.i .i64 (0)), (.str []), (.sl .nil 0 [])] 1 [(0, (.tmp 42))], none⟩, ⟨some 44, .app 43 3 (.tmp 38) (.tmp 43), none⟩, oF 45 0 2, oW 1 45 44])
 (.seq (.draw [oL 46 3 2, oF 47 2 2, oM 48 47, oW 3 4 46, oV 5 48, oC 6 0] [(0, 2), (2, 3)])
 .ret)))))))), [.cell 4 true 3, .tmp 5, .tmp 6]⟩
theorem c13 : zal Tryz.prog k13 [] Tryz.f13 = some a13 := by kernel_rfl
def k14 : Nat → List (Nat × H) := fun _ => []
def a14 : AFun := ⟨4, (.seq (.reg [oB 4 0, ⟨some 8, .alloc [(.sl .nil 0 []), (.sl .nil 0 []), (.i .i64 (0))], none⟩, oC 9 0, oC 10 0])
 (.seq (.reg [oL 16 3 4, oG 17 11 16, oW 3 4 17])
 (.seq (.reg [oL 19 3 4, oV 20 2, oH 21 41 19 20, oV 18 21, oE 22 18 0, oE 23 18 1, oV 11 22, oV 12 23])
 (.seq (.reg [oL 25 3 4, oV 26 3, oH 27 41 25 26, oV 24 27, oE 28 24 0, oE 29 24 1, oV 13 28, oV 14 29])
 (.seq (.reg [oL 30 3 4, oG 31 7 30, oV 15 31])
 (.seq (.block 0 (.seq (.reg [oV 33 15, oJ 34 33 0, oV 32 34])
 (.cond (.tmp 32) .skip (.seq (.reg [oV 36 1, oG 37 27 36, oU 38 37, oV 35 38])
 (.cond (.tmp 35) (.reg [oC 15 100]) (.seq (.reg [oV 40 12, oU 41 40, oV 42 41, qV 43 14 42, qU 44 43 42, oP 45 42 44, oV 39 45])
 (.cond (.tmp 39) (.reg [oC 15 101]) (.seq (.reg [oF 47 1 4, oM 48 47, oN 49 48, ⟨some 50, .bin .geq (.tmp 49) (.con (.i .i64 (2048))), none⟩, oV 51 50, qF 52 2 4 51, qM 53 52 51, ⟨some 54, .bin .geq (.tmp 53) (.con (.i .i64 (281474976710656))), some (51, false)⟩, oP 55 51 54, oV 46 55])
 (.cond (.tmp 46) (.reg [oC 15 6]) .skip)))))))))
 (.seq (.seq (.reg [oV 56 15, oJ 57 56 0])
 (.cond (.tmp 57) (.seq (.reg [oL 58 3 4, oV 59 15, oW 3 8 58, oC 9 0, oV 10 59])
 .ret) .skip))
 (.seq (.reg [oF 60 2 4, oM 61 60, oT 62 61 1, oF 63 2 4, oW 1 63 62])
 (.seq (.reg [oF 64 1 4, oM 65 64, oF 66 2 4, oM 67 66, oV 68 1, oV 69 2, oV 70 3, ⟨some 71, .build [(.i .i64 (0)), (.str []), (.i .i64 (0)), (.i .i64 (0)), (.sl .nil 0 [])] [(0, 1, (.tmp 67)), (1, 1, (.tmp 68)), (2, 1, (.tmp 69)), (3, 1, (.tmp 70))], none⟩, ⟨some 72, .bslice 47 [(.i .i64 (0)), (.str []), (.i .i64 (0)), (.i .i64 (0)), (.sl .nil 0 [])] 1 [(0, (.tmp 71))], none⟩, ⟨some 73, .app 47 5 (.tmp 65) (.tmp 72), none⟩, oF 74 1 4, oW 1 74 73])
 (.seq (.draw [oL 75 3 4, oF 76 2 4, oM 77 76, oW 3 8 75, oV 9 77, oC 10 0] [(0, 2), (2, 3)])
 .ret)))))))))), [.cell 8 true 3, .tmp 9, .tmp 10]⟩
theorem c14 : zal Tryz.prog k14 [] Tryz.f14 = some a14 := by kernel_rfl
def k15 : Nat → List (Nat × H) := fun r => if r = 1000005 then [(3, .none), (7, .none)] else []
def a15 : AFun := ⟨1, (.seq (.reg [⟨some 2, .mov (.con (.sl .nil 0 [])), none⟩])
 (.seq (.seq (.reg [oV 5 0, ⟨some 6, .eqnil .fn false (.tmp 5), none⟩])
 (.cond (.tmp 6) (.seq (.reg [⟨some 2, .mov (.con (.sl .nil 0 [])), none⟩])
 .ret) .skip))
 (.seq (.reg [⟨some 3, .alloc [(.sl .nil 0 [])], none⟩])
 (.seq (.seq (.reg [oV 7 0])
 (.block 0 (.rangef 7 [8] [(3, .none), (7, .none)]
 (.reg [⟨some 4, .alloc [(.i .i64 (0)), (.str []), (.i .i64 (0)), (.i .i64 (0)), (.sl .nil 0 [])], none⟩, oW 5 4 8])
 (.block 1 (.reg [oM 9 3, oL 10 5 4, ⟨some 11, .bslice 47 [(.i .i64 (0)), (.str []), (.i .i64 (0)), (.i .i64 (0)), (.sl .nil 0 [])] 1 [(0, (.tmp 10))], none⟩, ⟨some 12, .app 47 5 (.tmp 9) (.tmp 11), none⟩, oW 1 3 12])))))
 (.seq (.reg [oM 13 3, oV 2 13])
 .ret))))), [.tmp 2]⟩
theorem c15 : zal Tryz.prog k15 [] Tryz.f15 = some a15 := by kernel_rfl
def k16 : Nat → List (Nat × H) := fun _ => []
def a16 : AFun := ⟨3, (.seq (.reg [oB 3 0, oB 4 1, oB 5 2, ⟨some 6, .mov (.con .nilf), none⟩])
 (.seq (.reg [oL 7 3 3, ⟨some 8, .mkfn 43 [(.tmp 4), (.tmp 5)], none⟩, oH 9 42 7 8, oV 6 9])
 .ret)), [.tmp 6]⟩
theorem c16 : zal Tryz.prog k16 [] Tryz.f16 = some a16 := by kernel_rfl
def k17 : Nat → List (Nat × H) := fun _ => []
def a17 : AFun := ⟨3, (.seq (.reg [oB 3 0, oB 4 1, oB 5 2, ⟨some 6, .mov (.con .nilf), none⟩])
 (.seq (.reg [oL 7 3 3, ⟨some 8, .mkfn 45 [(.tmp 4), (.tmp 5)], none⟩, oH 9 42 7 8, oV 6 9])
 .ret)), [.tmp 6]⟩
theorem c17 : zal Tryz.prog k17 [] Tryz.f17 = some a17 := by kernel_rfl
def k18 : Nat → List (Nat × H) := fun r => if r = 999999 then [(3, .none)] else []
def a18 : AFun := ⟨2, (.seq (.reg [oB 2 0, ⟨some 3, .boxi (.tmp 1), none⟩, ⟨some 4, .alloc [(.sl .nil 0 []), (.sl .nil 0 []), (.i .i64 (0))], none⟩, oC 5 0])
 (.seq (.reg [oL 7 3 2, oG 8 11 7, oW 3 2 8])
 (.seq (.seq (.reg [oL 9 3 2, oG 10 7 9, oV 6 10])
 (.seq (.reg [oV 11 6, oJ 12 11 0])
 (.cond (.tmp 12) (.seq (.reg [oL 13 3 2, oV 14 6, oW 3 4 13, oV 5 14])
 .ret) .skip)))
 (.seq (.seq (.reg [oL 15 3 2, oL 16 4 3, oH 17 39 15 16, ⟨some 18, .eqnil .pt false (.tmp 17), none⟩])
 (.cond (.tmp 18) (.seq (.reg [oL 19 3 2, oW 3 4 19, oC 5 101])
 .ret) .skip))
 (.seq (.seq (.reg [oF 20 0 3, oM 21 20, oI 22 21 7])
 (.cond (.tmp 22) (.seq (.reg [oF 23 1 2, oM 24 23, ⟨some 25, .mkfn 47 [(.tmp 3)], none⟩, oH 26 46 24 25, oF 27 1 2, oW 1 27 26])
 (.seq (.reg [oL 28 3 2, oW 3 4 28, oC 5 0])
 .ret)) .skip))
 (.seq (.reg [oF 29 0 2, oM 30 29, ⟨some 31, .mkfn 49 [(.tmp 3)], none⟩, oH 32 48 30 31, oF 33 0 2, oW 1 33 32])
 (.seq (.reg [oF 34 1 2, oM 35 34, ⟨some 36, .mkfn 50 [(.tmp 3)], none⟩, oH 37 46 35 36, oF 38 1 2, oW 1 38 37])
 (.seq (.reg [oL 39 3 2, oW 3 4 39, oC 5 0])
 .ret)))))))), [.cell 4 true 3, .tmp 5]⟩
theorem c18 : zal Tryz.prog k18 [] Tryz.f18 = some a18 := by kernel_rfl
def k19 : Nat → List (Nat × H) := fun _ => []
def a19 : AFun := ⟨1, (.seq (.reg [⟨some 2, .alloc [(.i .i64 (0)), (.i .i64 (0)), (.str []), (.sl .nil 0 [])], none⟩])
 (.seq (.reg [oV 3 0, ⟨some 4, .build [(.i .i64 (0)), (.i .i64 (0)), (.str []), (.sl .nil 0 [])] [(0, 1, (.con (.i .i64 (6)))), (1, 1, (.tmp 3))], none⟩, oW 4 2 4])
 .ret)), [.cell 2 true 4]⟩
theorem c19 : zal Tryz.prog k19 [] Tryz.f19 = some a19 := by kernel_rfl
def k20 : Nat → List (Nat × H) := fun _ => []
def a20 : AFun := ⟨2, (.seq (.reg [oB 2 0, ⟨some 4, .alloc [(.sl .nil 0 []), (.sl .nil 0 []), (.i .i64 (0))], none⟩, oC 5 0, oC 6 0])
 (.seq (.reg [oL 8 3 2, oG 9 8 8, oW 3 2 9])
 (.seq (.seq (.reg [oL 10 3 2, oG 11 51 10, oV 7 11])
 (.seq (.reg [oV 12 7, oJ 13 12 0])
 (.cond (.tmp 13) (.seq (.reg [oL 14 3 2, oV 15 7, oW 3 4 14, oC 5 0, oV 6 15])
 .ret) .skip)))
 (.seq (.seq (.reg [oV 16 1, oG 17 52 16, oU 18 17])
 (.cond (.tmp 18) (.seq (.reg [oL 19 3 2, oW 3 4 19, oC 5 0, oC 6 100])
 .ret) .skip))
 (.seq (.seq (.reg [oF 20 0 2, oM 21 20, oN 22 21, ⟨some 23, .bin .geq (.tmp 22) (.con (.i .i64 (2048))), none⟩, oV 24 23, qF 25 2 2 24, qM 26 25 24, qI 27 26 281474976710656 24, oP 28 24 27])
 (.cond (.tmp 28) (.seq (.reg [oL 29 3 2, oW 3 4 29, oC 5 0, oC 6 6])
 .ret) .skip))
 (.seq (.reg [oF 30 2 2, oM 31 30, oT 32 31 1, oF 33 2 2, oW 1 33 32])
 (.seq (.reg [oF 34 0 2, oM 35 34, oF 36 2 2, oM 37 36, oV 38 1, ⟨some 39, .build [(.i .i64 (0)), (.str []), (.sl .nil 0 [])] [(0, 1, (.tmp 37)), (1, 1, (.tmp 38))], none⟩, ⟨some 40, .bslice 43 [(.i .i64 (0)), (.str []), (.sl .nil 0 [])] 1 [(0, (.tmp 39))], none⟩, ⟨some 41, .app 43 3 (.tmp 35) (.tmp 40), none⟩, oF 42 0 2, oW 1 42 41])
 (.seq (.draw [oL 43 3 2, oF 44 2 2, oM 45 44, oW 3 4 43, oV 5 45, oC 6 0] [(0, 2), (2, 3)])
 .ret)))))))), [.cell 4 true 3, .tmp 5, .tmp 6]⟩
theorem c20 : zal Tryz.prog k20 [] Tryz.f20 = some a20 := by kernel_rfl
def k21 : Nat → List (Nat × H) := fun r => if r = 999995 then [(31, .none), (37, .none)] else []
def a21 : AFun := ⟨4, (.seq (.reg [oB 4 0, ⟨some 8, .alloc [(.sl .nil 0 []), (.sl .nil 0 []), (.i .i64 (0))], none⟩, oC 9 0, oC 10 0])
 (.seq (.reg [oL 16 3 4, oG 17 8 16, oW 3 4 17])
 (.seq (.seq (.reg [oL 18 3 4, oG 19 51 18, oV 11 19])
 (.seq (.reg [oV 20 11, oJ 21 20 0])
 (.cond (.tmp 21) (.seq (.reg [oL 22 3 4, oV 23 11, oW 3 8 22, oC 9 0, oV 10 23])
 .ret) .skip)))
 (.seq (.seq (.reg [oV 24 1, oG 25 52 24, oU 26 25])
 (.cond (.tmp 26) (.seq (.reg [oL 27 3 4, oW 3 8 27, oC 9 0, oC 10 100])
 .ret) .skip))
 (.seq (.reg [oL 29 3 4, oV 30 2, ⟨some 31, .calld 2000053 [(.tmp 29), (.tmp 30)], none⟩, oV 28 31, oE 32 28 0, oE 33 28 1, ⟨some 12, .alloc [(.i .i64 (0)), (.str []), (.sl .nil 0 [])], none⟩, oW 3 12 32, oV 13 33])
 (.seq (.reg [oL 35 3 4, oV 36 3, ⟨some 37, .calld 2000053 [(.tmp 35), (.tmp 36)], none⟩, oV 34 37, oE 38 34 0, oE 39 34 1, ⟨some 14, .alloc [(.i .i64 (0)), (.str []), (.sl .nil 0 [])], none⟩, oW 3 14 38, oV 15 39])
 (.seq (.seq (.reg [oV 40 13, oU 41 40, oV 42 41, qV 43 15 42, qU 44 43 42, oP 45 42 44])
 (.cond (.tmp 45) (.seq (.reg [oL 46 3 4, oW 3 8 46, oC 9 0, oC 10 101])
 .ret) .skip))
 (.seq (.seq (.reg [oF 47 1 4, oM 48 47, oN 49 48, ⟨some 50, .bin .geq (.tmp 49) (.con (.i .i64 (2048))), none⟩, oV 51 50, qF 52 2 4 51, qM 53 52 51, qI 54 53 281474976710656 51, oP 55 51 54])
 (.cond (.tmp 55) (.seq (.reg [oL 56 3 4, oW 3 8 56, oC 9 0, oC 10 6])
 .ret) .skip))
 (.seq (.reg [oF 57 2 4, oM 58 57, oT 59 58 1, oF 60 2 4, oW 1 60 59])
 (.seq (.reg [oF 61 1 4, oM 62 61, oF 63 2 4, oM 64 63, oV 65 1, oV 66 2, oV 67 3, ⟨some 68, .build [(.i .i64 (0)), (.str []), (.i .i64 (0)), (.i .i64 (0)), (.sl .nil 0 [])] [(0, 1, (.tmp 64)), (1, 1, (.tmp 65)), (2, 1, (.tmp 66)), (3, 1, (.tmp 67))], none⟩, ⟨some 69, .bslice 47 [(.i .i64 (0)), (.str []), (.i .i64 (0)), (.i .i64 (0)), (.sl .nil 0 [])] 1 [(0, (.tmp 68))], none⟩, ⟨some 70, .app 47 5 (.tmp 62) (.tmp 69), none⟩, oF 71 1 4, oW 1 71 70])
 (.seq (.draw [oL 72 3 4, oF 73 2 4, oM 74 73, oW 3 8 72, oV 9 74, oC 10 0] [(0, 2), (2, 3)])
 .ret))))))))))), [.cell 8 true 3, .tmp 9, .tmp 10]⟩
theorem c21 : zal Tryz.prog k21 [] Tryz.f21 = some a21 := by kernel_rfl
def k22 : Nat → List (Nat × H) := fun r => if r = 999997 then [(16, .none)] else if r = 999996 then [(25, .none)] else []
def a22 : AFun := ⟨4, (.seq (.reg [oB 4 0, oB 5 1, oB 6 2, oB 7 3, ⟨some 8, .alloc [(.sl .nil 0 []), (.sl .nil 0 []), (.i .i64 (0))], none⟩, oC 9 0])
 (.seq (.reg [oL 15 3 4, ⟨some 16, .calld 1000011 [(.tmp 15)], none⟩, oW 3 4 16])
 (.seq (.seq (.reg [oL 17 3 4, oG 18 7 17, oV 10 18])
 (.seq (.reg [oV 19 10, oJ 20 19 0])
 (.cond (.tmp 20) (.seq (.reg [oL 21 3 4, oV 22 10, oW 3 8 21, oV 9 22])
 .ret) .skip)))
 (.seq (.reg [oL 23 3 4, oL 24 4 5, ⟨some 25, .inl 1000039 [(.tmp 23), (.tmp 24)], none⟩, oV 11 25])
 (.seq (.seq (.reg [oV 26 11, ⟨some 27, .eqnil .pt false (.tmp 26), none⟩])
 (.cond (.tmp 27) (.seq (.reg [oL 28 3 4, oW 3 8 28, oC 9 101])
 .ret) .skip))
 (.seq (.seq (.reg [oM 29 6, oG 30 27 29, oU 31 30])
 (.cond (.tmp 31) (.seq (.reg [oL 32 3 4, oW 3 8 32, oC 9 100])
 .ret) .skip))
 (.seq (.seq (.reg [oL 33 4 7, oG 34 54 33, oV 12 34])
 (.seq (.reg [oV 35 12, oJ 36 35 0])
 (.cond (.tmp 36) (.seq (.reg [oL 37 3 4, oV 38 12, oW 3 8 37, oV 9 38])
 .ret) .skip)))
 (.seq (.draw [oM 39 6, oL 40 4 7, oG 41 55 40, ⟨some 42, .build [(.str []), (.i .i64 (0)), (.i .i64 (0)), (.str []), (.sl .nil 0 [])] [(0, 1, (.tmp 39)), (1, 4, (.tmp 41))], none⟩, ⟨some 13, .alloc [(.str []), (.i .i64 (0)), (.i .i64 (0)), (.str []), (.sl .nil 0 [])], none⟩, oW 5 13 42] [(0, 1), (0, 2), (0, 4), (1, 4), (2, 4)])
 (.seq (.reg [oV 43 11, ⟨some 44, .nilck (.tmp 43), none⟩, oM 45 44, ⟨some 46, .mkfn 57 [(.tmp 6)], none⟩, oH 47 56 45 46, oV 14 47])
 (.seq (.block 0 (.seq (.draw [oV 49 14, ⟨some 50, .bin .geq (.tmp 49) (.con (.i .i64 (0))), none⟩, oV 51 50, pV 52 11 51, ⟨some 53, .nilck (.tmp 52), some (51, true)⟩, pM 54 53 51, pV 55 14 51, pA 56 5 54 55 51, pF 57 0 56 51, pM 58 57 51, pM 59 6 51, ⟨some 60, .bin .eql (.tmp 58) (.tmp 59), some (51, true)⟩, oQ 61 51 60, oV 48 61] [(5, 10), (7, 10), (9, 10)])
 (.cond (.tmp 48) (.seq (.draw [oV 62 11, ⟨some 63, .nilck (.tmp 62), none⟩, oM 64 63, oV 65 14, oL 66 5 13, oA 67 5 64 65, oW 5 67 66] [(2, 4)])
 (.seq (.reg [oL 68 3 4, oW 3 8 68, oC 9 0])
 .ret)) (.seq (.reg [oV 70 11, ⟨some 71, .nilck (.tmp 70), none⟩, oM 72 71, oN 73 72, ⟨some 74, .bin .geq (.tmp 73) (.con (.i .i64 (16))), none⟩, oV 69 74])
 (.cond (.tmp 69) (.seq (.reg [oL 75 3 4, oW 3 8 75, oC 9 102])
 .ret) (.seq (.reg [oV 77 14, ⟨some 78, .bin .lss (.tmp 77) (.con (.i .i64 (0))), none⟩, oV 76 78])
 (.cond (.tmp 76) (.reg [oV 79 11, ⟨some 80, .nilck (.tmp 79), none⟩, oM 81 80, oN 82 81, oV 14 82]) .skip)))))))
 (.seq (.draw [oV 83 11, oV 84 11, ⟨some 85, .nilck (.tmp 84), none⟩, oM 86 85, oV 87 14, oL 88 5 13, ⟨some 89, .bslice 45 [(.str []), (.i .i64 (0)), (.i .i64 (0)), (.str []), (.sl .nil 0 [])] 1 [(0, (.tmp 88))], none⟩, ⟨some 90, .call 58 [(.tmp 86), (.tmp 87), (.tmp 89)], none⟩, ⟨some 91, .nilck (.tmp 83), none⟩, oW 1 91 90] [(3, 5), (3, 6)])
 (.seq (.reg [oL 92 3 4, oW 3 8 92, oC 9 0])
 .ret)))))))))))), [.cell 8 true 3, .tmp 9]⟩
theorem c22 : zal Tryz.prog k22 [] Tryz.f22 = some a22 := by kernel_rfl
def k23 : Nat → List (Nat × H) := fun r => if r = 17 then [(2, .none), (4, .none), (5, .none), (7, .none), (8, .none), (14, .none), (15, .row 45 5), (16, .none), (17, .none)] else if r = 999997 then [(19, .none)] else []
def a23 : AFun := ⟨4, (.seq (.reg [oB 4 0, oB 5 1, oB 7 3, ⟨some 8, .alloc [(.sl .nil 0 []), (.sl .nil 0 []), (.i .i64 (0))], none⟩, oC 9 0])
 (.seq (.reg [oL 18 3 4, ⟨some 19, .calld 1000008 [(.tmp 18)], none⟩, oW 3 4 19])
 (.seq (.seq (.reg [oL 20 3 4, oG 21 51 20, oV 10 21])
 (.seq (.reg [oV 22 10, oJ 23 22 0])
 (.cond (.tmp 23) (.seq (.reg [oL 24 3 4, oV 25 10, oW 3 8 24, oV 9 25])
 .ret) .skip)))
 (.seq (.seq (.reg [oL 27 3 4, oL 28 4 5, oH 29 59 27 28, oV 26 29, oE 30 26 0, oE 31 26 1, oV 11 30, oV 12 31])
 (.seq (.reg [oV 32 12, oU 33 32])
 (.cond (.tmp 33) (.seq (.reg [oL 34 3 4, oW 3 8 34, oC 9 101])
 .ret) .skip)))
 (.seq (.seq (.reg [oV 35 2, oG 36 52 35, oU 37 36])
 (.cond (.tmp 37) (.seq (.reg [oL 38 3 4, oW 3 8 38, oC 9 100])
 .ret) .skip))
 (.seq (.seq (.reg [oL 39 4 7, oG 40 60 39, oV 13 40])
 (.seq (.reg [oV 41 13, oJ 42 41 0])
 (.cond (.tmp 42) (.seq (.reg [oL 43 3 4, oV 44 13, oW 3 8 43, oV 9 44])
 .ret) .skip)))
 (.seq (.reg [oL 45 3 4, oL 46 4 5, oH 47 61 45 46, oV 14 47])
 (.seq (.reg [⟨some 15, .mov (.con (.sl .nil 0 [])), none⟩])
 (.seq (.reg [⟨some 16, .mov (.con (.b false)), none⟩])
 (.seq (.seq (.reg [oC 17 0])
 (.block 0 (.loop [(2, .none), (4, .none), (5, .none), (7, .none), (8, .none), (14, .none), (15, .row 45 5), (16, .none), (17, .none)] (.seq (.seq (.reg [oV 48 17, oV 49 14, oN 50 49, oS 51 48 50])
 (.cond (.tmp 51) .skip (.exit 0)))
 (.seq (.block 1 (.seq (.seq (.reg [oV 54 16, oU 55 54, oV 56 55, pV 57 14 56, pV 58 17 56, pA 59 5 57 58 56, pF 60 0 59 56, pM 61 60 56, pV 62 2 56, ⟨some 63, .bin .geq (.tmp 61) (.tmp 62), some (56, true)⟩, oQ 64 56 63])
 (.cond (.tmp 64) (.seq (.reg [oV 65 15, oV 66 2, oL 67 4 7, ⟨some 68, .build [(.str []), (.i .i64 (0)), (.i .i64 (0)), (.str []), (.sl .nil 0 [])] [(0, 1, (.tmp 66)), (1, 4, (.tmp 67))], none⟩, ⟨some 69, .bslice 45 [(.str []), (.i .i64 (0)), (.i .i64 (0)), (.str []), (.sl .nil 0 [])] 1 [(0, (.tmp 68))], none⟩, ⟨some 70, .app 45 5 (.tmp 65) (.tmp 69), none⟩, oV 15 70])
 (.reg [⟨some 16, .mov (.con (.b true)), none⟩])) .skip))
 (.seq (.reg [oV 71 14, oV 72 17, oA 73 5 71 72, oF 74 0 73, oM 75 74, oV 76 2, ⟨some 77, .bin .neq (.tmp 75) (.tmp 76), none⟩])
 (.cond (.tmp 77) (.reg [oV 78 15, oV 79 14, oV 80 17, oA 81 5 79 80, oL 82 5 81, ⟨some 83, .bslice 45 [(.str []), (.i .i64 (0)), (.i .i64 (0)), (.str []), (.sl .nil 0 [])] 1 [(0, (.tmp 82))], none⟩, ⟨some 84, .app 45 5 (.tmp 78) (.tmp 83), none⟩, oV 15 84]) .skip))))
 (.reg [oV 52 17, oT 53 52 1, oV 17 53]))))))
 (.seq (.seq (.reg [oV 85 16, oU 86 85])
 (.cond (.tmp 86) (.reg [oV 87 15, oV 88 2, oL 89 4 7, ⟨some 90, .build [(.str []), (.i .i64 (0)), (.i .i64 (0)), (.str []), (.sl .nil 0 [])] [(0, 1, (.tmp 88)), (1, 4, (.tmp 89))], none⟩, ⟨some 91, .bslice 45 [(.str []), (.i .i64 (0)), (.i .i64 (0)), (.str []), (.sl .nil 0 [])] 1 [(0, (.tmp 90))], none⟩, ⟨some 92, .app 45 5 (.tmp 87) (.tmp 91), none⟩, oV 15 92]) .skip))
 (.seq (.seq (.reg [oV 93 15, oN 94 93, ⟨some 95, .bin .gtr (.tmp 94) (.con (.i .i64 (16))), none⟩])
 (.cond (.tmp 95) (.seq (.reg [oL 96 3 4, oW 3 8 96, oC 9 102])
 .ret) .skip))
 (.seq (.reg [oL 97 3 4, oL 98 4 5, oV 99 15, ⟨some 100, .call 62 [(.tmp 97), (.tmp 98), (.tmp 99)], none⟩, oW 3 8 100, oC 9 0])
 .ret))))))))))))), [.cell 8 true 3, .tmp 9]⟩
theorem c23 : zal Tryz.prog k23 [] Tryz.f23 = some a23 := by kernel_rfl
def k24 : Nat → List (Nat × H) := fun r => if r = 999997 then [(13, .none)] else if r = 999996 then [(22, .none)] else []
def a24 : AFun := ⟨3, (.seq (.reg [oB 3 0, oB 4 1, oB 5 2, ⟨some 6, .alloc [(.sl .nil 0 []), (.sl .nil 0 []), (.i .i64 (0))], none⟩, ⟨some 7, .mov (.con (.b false)), none⟩, oC 8 0])
 (.seq (.reg [oL 12 3 3, ⟨some 13, .calld 1000011 [(.tmp 12)], none⟩, oW 3 3 13])
 (.seq (.seq (.reg [oL 14 3 3, oG 15 7 14, oV 9 15])
 (.seq (.reg [oV 16 9, oJ 17 16 0])
 (.cond (.tmp 17) (.seq (.reg [oL 18 3 3, oV 19 9, oW 3 6 18, ⟨some 7, .mov (.con (.b false)), none⟩, oV 8 19])
 .ret) .skip)))
 (.seq (.reg [oL 20 3 3, oL 21 4 4, ⟨some 22, .inl 1000039 [(.tmp 20), (.tmp 21)], none⟩, oV 10 22])
 (.seq (.seq (.reg [oV 23 10, ⟨some 24, .eqnil .pt false (.tmp 23), none⟩])
 (.cond (.tmp 24) (.seq (.reg [oL 25 3 3, oW 3 6 25, ⟨some 7, .mov (.con (.b false)), none⟩, oC 8 101])
 .ret) .skip))
 (.seq (.reg [oV 26 10, ⟨some 27, .nilck (.tmp 26), none⟩, oM 28 27, oN 29 28, oV 11 29])
 (.seq (.reg [oV 30 10, oV 31 10, ⟨some 32, .nilck (.tmp 31), none⟩, oM 33 32, ⟨some 34, .mkfn 64 [(.tmp 5)], none⟩, oH 35 63 33 34, ⟨some 36, .nilck (.tmp 30), none⟩, oW 1 36 35])
 (.seq (.draw [oL 37 3 3, oV 38 10, ⟨some 39, .nilck (.tmp 38), none⟩, oM 40 39, oN 41 40, oV 42 11, oS 43 41 42, oW 3 6 37, oV 7 43, oC 8 0] [(0, 3), (3, 7)])
 .ret)))))))), [.cell 6 true 3, .tmp 7, .tmp 8]⟩
theorem c24 : zal Tryz.prog k24 [] Tryz.f24 = some a24 := by kernel_rfl
def k25 : Nat → List (Nat × H) := fun r => if r = 11 then [(2, .none), (3, .none), (4, .none), (6, .none), (12, .none), (13, .row 45 5), (14, .none)] else if r = 999997 then [(16, .none)] else []
def a25 : AFun := ⟨3, (.seq (.reg [oB 3 0, oB 4 1, ⟨some 6, .alloc [(.sl .nil 0 []), (.sl .nil 0 []), (.i .i64 (0))], none⟩, ⟨some 7, .mov (.con (.b false)), none⟩, oC 8 0])
 (.seq (.reg [oL 15 3 3, ⟨some 16, .calld 1000008 [(.tmp 15)], none⟩, oW 3 3 16])
 (.seq (.seq (.reg [oL 17 3 3, oG 18 51 17, oV 9 18])
 (.seq (.reg [oV 19 9, oJ 20 19 0])
 (.cond (.tmp 20) (.seq (.reg [oL 21 3 3, oV 22 9, oW 3 6 21, ⟨some 7, .mov (.con (.b false)), none⟩, oV 8 22])
 .ret) .skip)))
 (.seq (.seq (.reg [oL 24 3 3, oL 25 4 4, oH 26 59 24 25, oV 23 26, oE 27 23 0, oE 28 23 1, oV 10 27, oV 11 28])
 (.seq (.reg [oV 29 11, oU 30 29])
 (.cond (.tmp 30) (.seq (.reg [oL 31 3 3, oW 3 6 31, ⟨some 7, .mov (.con (.b false)), none⟩, oC 8 101])
 .ret) .skip)))
 (.seq (.reg [oL 32 3 3, oL 33 4 4, oH 34 61 32 33, oV 12 34])
 (.seq (.reg [⟨some 13, .mov (.con (.sl .nil 0 [])), none⟩])
 (.seq (.seq (.reg [oC 14 0])
 (.block 0 (.loop [(2, .none), (3, .none), (4, .none), (6, .none), (12, .none), (13, .row 45 5), (14, .none)] (.seq (.seq (.reg [oV 35 14, oV 36 12, oN 37 36, oS 38 35 37])
 (.cond (.tmp 38) .skip (.exit 0)))
 (.seq (.block 1 (.seq (.reg [oV 41 12, oV 42 14, oA 43 5 41 42, oF 44 0 43, oM 45 44, oV 46 2, ⟨some 47, .bin .neq (.tmp 45) (.tmp 46), none⟩])
 (.cond (.tmp 47) (.reg [oV 48 13, oV 49 12, oV 50 14, oA 51 5 49 50, oL 52 5 51, ⟨some 53, .bslice 45 [(.str []), (.i .i64 (0)), (.i .i64 (0)), (.str []), (.sl .nil 0 [])] 1 [(0, (.tmp 52))], none⟩, ⟨some 54, .app 45 5 (.tmp 48) (.tmp 53), none⟩, oV 13 54]) .skip)))
 (.reg [oV 39 14, oT 40 39 1, oV 14 40]))))))
 (.seq (.reg [oL 55 3 3, oL 56 4 4, oV 57 13, ⟨some 58, .call 62 [(.tmp 55), (.tmp 56), (.tmp 57)], none⟩, oV 59 13, oN 60 59, oV 61 12, oN 62 61, oS 63 60 62, oW 3 6 58, oV 7 63, oC 8 0])
 .ret)))))))), [.cell 6 true 3, .tmp 7, .tmp 8]⟩
theorem c25 : zal Tryz.prog k25 [] Tryz.f25 = some a25 := by kernel_rfl
def k26 : Nat → List (Nat × H) := fun r => if r = 10 then [(2, .none), (3, .none), (4, .none), (9, .cells [.row 43 3]), (10, .none)] else if r = 15 then [(2, .none), (3, .none), (4, .none), (9, .cells [.none, .row 47 5]), (11, .none)] else []
def a26 : AFun := ⟨2, (.seq (.reg [oB 2 0, oB 3 1, ⟨some 4, .alloc [(.sl .nil 0 []), (.sl .nil 0 []), (.i .i64 (0))], none⟩, oC 5 0])
 (.seq (.reg [oL 14 3 2, oG 15 8 14, oW 3 2 15])
 (.seq (.seq (.reg [oL 16 3 2, oG 17 51 16, oV 6 17])
 (.seq (.reg [oV 18 6, oJ 19 18 0])
 (.cond (.tmp 19) (.seq (.reg [oL 20 3 2, oV 21 6, oW 3 4 20, oV 5 21])
 .ret) .skip)))
 (.seq (.seq (.reg [oL 23 3 2, oL 24 4 3, oH 25 59 23 24, oV 22 25, oE 26 22 0, oE 27 22 1, oV 7 26, oV 8 27])
 (.seq (.reg [oV 28 8, oU 29 28])
 (.cond (.tmp 29) (.seq (.reg [oL 30 3 2, oW 3 4 30, oC 5 101])
 .ret) .skip)))
 (.seq (.reg [oF 31 2 2, oM 32 31, ⟨some 33, .build [(.sl .nil 0 []), (.sl .nil 0 []), (.i .i64 (0))] [(2, 1, (.tmp 32))], none⟩, ⟨some 9, .alloc [(.sl .nil 0 []), (.sl .nil 0 []), (.i .i64 (0))], none⟩, oW 3 9 33])
 (.seq (.seq (.reg [oC 10 0])
 (.block 0 (.loop [(2, .none), (3, .none), (4, .none), (9, .cells [.row 43 3]), (10, .none)] (.seq (.seq (.reg [oV 34 10, oF 35 0 2, oM 36 35, oN 37 36, oS 38 34 37])
 (.cond (.tmp 38) .skip (.exit 0)))
 (.seq (.block 1 (.seq (.draw [oF 41 0 3, oM 42 41, oJ 43 42 6, oV 44 43, qF 45 0 2 44, qM 46 45 44, qV 47 10 44, qA 48 3 46 47 44, qF 49 0 48 44, qM 50 49 44, qF 51 1 3 44, qM 52 51 44, ⟨some 53, .bin .neq (.tmp 50) (.tmp 52), some (44, false)⟩, oP 54 44 53] [(5, 11), (7, 11), (9, 11)])
 (.cond (.tmp 54) (.draw [oF 55 0 9, oM 56 55, oF 57 0 2, oM 58 57, oV 59 10, oA 60 3 58 59, oL 61 3 60, ⟨some 62, .bslice 43 [(.i .i64 (0)), (.str []), (.sl .nil 0 [])] 1 [(0, (.tmp 61))], none⟩, ⟨some 63, .app 43 3 (.tmp 56) (.tmp 62), none⟩, oF 64 0 9, oW 1 64 63] [(1, 3), (1, 5), (1, 6), (1, 7)]) .skip)))
 (.reg [oV 39 10, oT 40 39 1, oV 10 40]))))))
 (.seq (.seq (.reg [oC 11 0])
 (.block 2 (.loop [(2, .none), (3, .none), (4, .none), (9, .cells [.none, .row 47 5]), (11, .none)] (.seq (.seq (.reg [oV 65 11, oF 66 1 2, oM 67 66, oN 68 67, oS 69 65 68])
 (.cond (.tmp 69) .skip (.exit 2)))
 (.seq (.block 3 (.seq (.reg [oF 72 1 2, oM 73 72, oV 74 11, oA 75 5 73 74, oL 76 5 75, ⟨some 12, .alloc [(.i .i64 (0)), (.str []), (.i .i64 (0)), (.i .i64 (0)), (.sl .nil 0 [])], none⟩, oW 5 12 76])
 (.seq (.reg [oF 77 0 12, oM 78 77, oF 79 1 3, oM 80 79, ⟨some 81, .bin .eql (.tmp 78) (.tmp 80), none⟩, oV 13 81])
 (.seq (.seq (.reg [oF 82 0 3, oM 83 82, oI 84 83 6])
 (.cond (.tmp 84) (.reg [oF 85 2 12, oM 86 85, oF 87 1 3, oM 88 87, ⟨some 89, .bin .eql (.tmp 86) (.tmp 88), none⟩, oV 90 89, qF 91 3 12 90, qM 92 91 90, qF 93 1 3 90, qM 94 93 90, ⟨some 95, .bin .eql (.tmp 92) (.tmp 94), some (90, false)⟩, oP 96 90 95, oV 13 96]) .skip))
 (.seq (.reg [oV 97 13, oU 98 97])
 (.cond (.tmp 98) (.reg [oF 99 1 9, oM 100 99, oL 101 5 12, ⟨some 102, .bslice 47 [(.i .i64 (0)), (.str []), (.i .i64 (0)), (.i .i64 (0)), (.sl .nil 0 [])] 1 [(0, (.tmp 101))], none⟩, ⟨some 103, .app 47 5 (.tmp 100) (.tmp 102), none⟩, oF 104 1 9, oW 1 104 103]) .skip))))))
 (.reg [oV 70 11, oT 71 70 1, oV 11 71]))))))
 (.seq (.reg [oL 105 3 9, oW 3 4 105, oC 5 0])
 .ret)))))))), [.cell 4 true 3, .tmp 5]⟩
theorem c26 : zal Tryz.prog k26 [] Tryz.f26 = some a26 := by kernel_rfl
def k27 : Nat → List (Nat × H) := fun _ => []
def a27 : AFun := ⟨1, (.seq (.reg [⟨some 2, .mov (.con (.b false)), none⟩])
 (.seq (.seq (.reg [oV 3 0, ⟨some 4, .bin .eql (.tmp 3) (.con (.str [])), none⟩, oV 5 4, qV 6 0 5, ⟨some 7, .len true (.tmp 6), some (5, false)⟩, ⟨some 8, .bin .gtr (.tmp 7) (.con (.i .i64 (24))), some (5, false)⟩, oP 9 5 8, oV 10 9, qV 11 0 10, ⟨some 12, .idx (.tmp 11) (.con (.i .i64 (0))), some (10, false)⟩, ⟨some 13, .bin .geq (.tmp 12) (.con (.i .u8 (48))), some (10, false)⟩, qV 14 13 10, pV 15 0 14, ⟨some 16, .idx (.tmp 15) (.con (.i .i64 (0))), some (14, true)⟩, ⟨some 17, .bin .leq (.tmp 16) (.con (.i .u8 (57))), some (14, true)⟩, qQ 18 14 17 10, oP 19 10 18])
 (.cond (.tmp 19) (.seq (.reg [⟨some 2, .mov (.con (.b false)), none⟩])
 .ret) .skip))
 (.seq (.reg [oV 20 0, ⟨some 21, .call 65 [(.tmp 20), (.con (.str [97, 98, 99, 100, 101, 102, 103, 104, 105, 106, 107, 108, 109, 110, 111, 112, 113, 114, 115, 116, 117, 118, 119, 120, 121, 122, 65, 66, 67, 68, 69, 70, 71, 72, 73, 74, 75, 76, 77, 78, 79, 80, 81, 82, 83, 84, 85, 86, 87, 88, 89, 90, 48, 49, 50, 51, 52, 53, 54, 55, 56, 57, 95]))], none⟩, ⟨some 22, .bin .eql (.tmp 21) (.con (.str [])), none⟩, oV 2 22])
 .ret))), [.tmp 2]⟩
theorem c27 : zal Tryz.prog k27 [] Tryz.f27 = some a27 := by kernel_rfl
def k28 : Nat → List (Nat × H) := fun r => if r = 2 then [(0, .none), (5, .none), (6, .none), (7, .none)] else []
def a28 : AFun := ⟨1, (.seq (.reg [⟨some 2, .mov (.con (.b false)), none⟩])
 (.seq (.seq (.reg [oV 5 0, oN 6 5, oC 7 0])
 (.block 0 (.loop [(0, .none), (5, .none), (6, .none), (7, .none)] (.seq (.reg [oS 8 7 6])
 (.seq (.cond (.tmp 8) .skip (.exit 0))
 (.seq (.block 1 (.seq (.reg [oV 9 7, oA 10 5 5 7, oL 11 5 10, ⟨some 4, .alloc [(.str []), (.i .i64 (0)), (.i .i64 (0)), (.str []), (.sl .nil 0 [])], none⟩, oV 3 9, oW 5 4 11])
 (.seq (.draw [oF 12 0 4, oM 13 12, oG 14 27 13, oU 15 14, oV 16 15, qV 17 3 16, ⟨some 18, .bin .gtr (.tmp 17) (.con (.i .i64 (0))), some (16, false)⟩, qV 19 18 16, pV 20 0 19, pV 21 3 19, ⟨some 22, .bin .sub (.tmp 21) (.con (.i .i64 (1))), some (19, true)⟩, pA 23 5 20 22 19, pF 24 0 23 19, pM 25 24 19, pF 26 0 4 19, pM 27 26 19, ⟨some 28, .bin .geq (.tmp 25) (.tmp 27), some (19, true)⟩, qQ 29 19 28 16, oP 30 16 29, oV 31 30, qF 32 1 4 31, qL 33 4 32 31, qG 34 54 33 31, qJ 35 34 0 31, oP 36 31 35] [(11, 15), (13, 15)])
 (.cond (.tmp 36) (.seq (.reg [⟨some 2, .mov (.con (.b true)), none⟩])
 .ret) .skip))))
 (.reg [oT 37 7 1, oV 7 37])))))))
 (.seq (.reg [oV 38 0, oN 39 38, ⟨some 40, .bin .gtr (.tmp 39) (.con (.i .i64 (16))), none⟩, oV 2 40])
 .ret))), [.tmp 2]⟩
theorem c28 : zal Tryz.prog k28 [] Tryz.f28 = some a28 := by kernel_rfl
def k29 : Nat → List (Nat × H) := fun r => if r = 3 then [(0, .none), (3, .row 45 5), (4, .none)] else []
def a29 : AFun := ⟨1, (.seq (.reg [⟨some 2, .mov (.con (.sl .nil 0 [])), none⟩])
 (.seq (.reg [⟨some 3, .mov (.con (.sl .nil 0 [])), none⟩])
 (.seq (.seq (.reg [oC 4 0])
 (.block 0 (.loop [(0, .none), (3, .row 45 5), (4, .none)] (.seq (.seq (.reg [oV 5 4, oV 6 0, oN 7 6, oS 8 5 7])
 (.cond (.tmp 8) .skip (.exit 0)))
 (.seq (.block 1 (.draw [oV 11 3, oV 12 0, oV 13 4, oA 14 5 12 13, oF 15 0 14, oM 16 15, oV 17 0, oV 18 4, oA 19 5 17 18, oF 20 1 19, oL 21 4 20, oG 22 66 21, ⟨some 23, .build [(.str []), (.i .i64 (0)), (.i .i64 (0)), (.str []), (.sl .nil 0 [])] [(0, 1, (.tmp 16)), (1, 4, (.tmp 22))], none⟩, ⟨some 24, .bslice 45 [(.str []), (.i .i64 (0)), (.i .i64 (0)), (.str []), (.sl .nil 0 [])] 1 [(0, (.tmp 23))], none⟩, ⟨some 25, .app 45 5 (.tmp 11) (.tmp 24), none⟩, oV 3 25] [(3, 8), (5, 8), (3, 10), (5, 10), (3, 11), (5, 11)]))
 (.reg [oV 9 4, oT 10 9 1, oV 4 10]))))))
 (.seq (.reg [oV 26 3, oV 2 26])
 .ret)))), [.tmp 2]⟩
theorem c29 : zal Tryz.prog k29 [] Tryz.f29 = some a29 := by kernel_rfl
def k35 : Nat → List (Nat × H) := fun _ => []
def a35 : AFun := ⟨2, (.seq (.reg [oB 2 0, oB 3 1, ⟨some 4, .mov (.con (.b false)), none⟩])
 (.seq (.reg [oF 5 0 2, oM 6 5, oF 7 0 3, oM 8 7, ⟨some 9, .bin .eql (.tmp 6) (.tmp 8), none⟩, oV 10 9, pF 11 1 2 10, pM 12 11 10, pF 13 1 3 10, pM 14 13 10, ⟨some 15, .bin .eql (.tmp 12) (.tmp 14), some (10, true)⟩, oQ 16 10 15, oV 17 16, pF 18 2 2 17, pM 19 18 17, pF 20 2 3 17, pM 21 20 17, pH 22 70 19 21 17, oQ 23 17 22, oV 4 23])
 .ret)), [.tmp 4]⟩
theorem c35 : zal Tryz.prog k35 [] Tryz.f35 = some a35 := by kernel_rfl
def k36 : Nat → List (Nat × H) := fun _ => []
def a36 : AFun := ⟨2, (.seq (.reg [oB 2 0, oB 3 1, ⟨some 4, .mov (.con (.b false)), none⟩])
 (.seq (.reg [oF 5 0 2, oM 6 5, oF 7 0 3, oM 8 7, ⟨some 9, .bin .eql (.tmp 6) (.tmp 8), none⟩, oV 10 9, pF 11 1 2 10, pM 12 11 10, pF 13 1 3 10, pM 14 13 10, ⟨some 15, .bin .eql (.tmp 12) (.tmp 14), some (10, true)⟩, oQ 16 10 15, oV 17 16, pF 18 2 2 17, pM 19 18 17, pF 20 2 3 17, pM 21 20 17, ⟨some 22, .bin .eql (.tmp 19) (.tmp 21), some (17, true)⟩, oQ 23 17 22, oV 24 23, pF 25 3 2 24, pM 26 25 24, pF 27 3 3 24, pM 28 27 24, ⟨some 29, .bin .eql (.tmp 26) (.tmp 28), some (24, true)⟩, oQ 30 24 29, oV 31 30, pF 32 4 2 31, pM 33 32 31, pF 34 4 3 31, pM 35 34 31, pH 36 70 33 35 31, oQ 37 31 36, oV 4 37])
 .ret)), [.tmp 4]⟩
theorem c36 : zal Tryz.prog k36 [] Tryz.f36 = some a36 := by kernel_rfl
def k37 : Nat → List (Nat × H) := fun _ => []
def a37 : AFun := ⟨1, (.seq (.reg [oB 1 0, ⟨some 2, .alloc [(.i .i64 (0)), (.str []), (.sl .nil 0 [])], none⟩])
 (.seq (.reg [oF 3 2 1, oM 4 3, oG 5 40 4, oF 6 2 1, oW 1 6 5])
 (.seq (.reg [oL 7 3 1, oW 3 2 7])
 .ret))), [.cell 2 true 3]⟩
theorem c37 : zal Tryz.prog k37 [] Tryz.f37 = some a37 := by kernel_rfl
def k38 : Nat → List (Nat × H) := fun _ => []
def a38 : AFun := ⟨1, (.seq (.reg [oB 1 0, ⟨some 2, .alloc [(.i .i64 (0)), (.str []), (.i .i64 (0)), (.i .i64 (0)), (.sl .nil 0 [])], none⟩])
 (.seq (.reg [oF 3 4 1, oM 4 3, oG 5 40 4, oF 6 4 1, oW 1 6 5])
 (.seq (.reg [oL 7 5 1, oW 5 2 7])
 .ret))), [.cell 2 true 5]⟩
theorem c38 : zal Tryz.prog k38 [] Tryz.f38 = some a38 := by kernel_rfl
def k39 : Nat → List (Nat × H) := fun _ => []
def a39 : AFun := ⟨2, (.seq (.reg [oB 2 0, oB 3 1, ⟨some 4, .mov (.con .nilp), none⟩])
 (.seq (.seq (.reg [oF 9 0 3, oM 10 9])
 (.block 0 (.seq (.reg [oI 12 10 6, oV 11 12])
 (.cond (.tmp 11) (.seq (.reg [oL 14 3 2, oF 15 1 3, oM 16 15, oH 17 41 14 16, oV 13 17, oE 18 13 0, oE 19 13 1, oV 5 18, oV 6 19])
 (.seq (.reg [oV 20 6])
 (.cond (.tmp 20) (.seq (.reg [oF 21 0 2, oM 22 21, oV 23 5, oA 24 3 22 23, oF 25 2 24, oV 4 25])
 .ret) .skip))) (.seq (.reg [oI 27 10 7, oV 26 27])
 (.cond (.tmp 26) (.seq (.reg [oL 29 3 2, oF 30 1 3, oM 31 30, oH 32 71 29 31, oV 28 32, oE 33 28 0, oE 34 28 1, oV 7 33, oV 8 34])
 (.seq (.reg [oV 35 8])
 (.cond (.tmp 35) (.seq (.reg [oF 36 1 2, oM 37 36, oV 38 7, oA 39 5 37 38, oF 40 4 39, oV 4 40])
 .ret) .skip))) .skip))))))
 (.seq (.reg [⟨some 4, .mov (.con .nilp), none⟩])
 .ret))), [.tmp 4]⟩
theorem c39 : zal Tryz.prog k39 [] Tryz.f39 = some a39 := by kernel_rfl
def k40 : Nat → List (Nat × H) := fun r => if r = 4 then [(3, .row 45 5), (12, .none), (13, .none)] else []
def a40 : AFun := ⟨1, (.seq (.reg [⟨some 2, .mov (.con (.sl .nil 0 [])), none⟩])
 (.seq (.reg [oV 5 0, oN 6 5, ⟨some 7, .mkslice 45 [(.str []), (.i .i64 (0)), (.i .i64 (0)), (.str []), (.sl .nil 0 [])] (.tmp 6), none⟩, oV 3 7])
 (.seq (.reg [oV 8 3, oV 9 0, ⟨some 10, .copy 5 (.tmp 8) (.tmp 9), none⟩])
 (.seq (.seq (.reg [oV 11 3, oN 12 11, oC 13 0])
 (.block 0 (.loop [(3, .row 45 5), (12, .none), (13, .none)] (.seq (.reg [oS 14 13 12])
 (.seq (.cond (.tmp 14) .skip (.exit 0))
 (.seq (.block 1 (.seq (.reg [oV 15 13, oV 4 15])
 (.reg [oV 16 3, oV 17 4, oV 18 3, oV 19 4, oA 20 5 18 19, oF 21 1 20, oL 22 4 21, oG 23 55 22, oA 24 5 16 17, oF 25 1 24, oW 4 25 23])))
 (.reg [oT 26 13 1, oV 13 26])))))))
 (.seq (.reg [oV 27 3, oV 2 27])
 .ret))))), [.tmp 2]⟩
theorem c40 : zal Tryz.prog k40 [] Tryz.f40 = some a40 := by kernel_rfl
def k41 : Nat → List (Nat × H) := fun _ => []
def a41 : AFun := ⟨2, (.seq (.reg [oB 2 0, oB 3 1, oC 4 0, ⟨some 5, .mov (.con (.b false)), none⟩])
 (.seq (.reg [oF 7 0 2, oM 8 7, ⟨some 9, .mkfn 73 [(.tmp 3)], none⟩, oH 10 72 8 9, oV 6 10])
 (.seq (.reg [oV 11 6, oV 12 6, ⟨some 13, .bin .geq (.tmp 12) (.con (.i .i64 (0))), none⟩, oV 4 11, oV 5 13])
 .ret))), [.tmp 4, .tmp 5]⟩
theorem c41 : zal Tryz.prog k41 [] Tryz.f41 = some a41 := by kernel_rfl
def k42 : Nat → List (Nat × H) := fun _ => []
def a42 : AFun := ⟨2, (.seq (.reg [oB 2 0, oB 3 1, ⟨some 4, .mov (.con .nilf), none⟩])
 (.seq (.reg [⟨some 5, .mkfn 74 [(.tmp 2), (.tmp 3)], none⟩, oV 4 5])
 .ret)), [.tmp 4]⟩
theorem c42 : zal Tryz.prog k42 [] Tryz.f42 = some a42 := by kernel_rfl
def k43 : Nat → List (Nat × H) := fun _ => []
def a43 : AFun := ⟨3, (.seq (.reg [oB 3 0, ⟨some 4, .mov (.con (.b false)), none⟩])
 (.seq (.reg [oF 5 2 3, oM 6 5, oM 7 1, ⟨some 8, .bin .eql (.tmp 6) (.tmp 7), none⟩, oV 9 8, pF 10 1 3 9, pM 11 10 9, pM 12 2 9, pH 13 44 11 12 9, oQ 14 9 13, oV 4 14])
 .ret)), [.tmp 4]⟩
theorem c43 : zal Tryz.prog k43 [] Tryz.f43 = some a43 := by kernel_rfl
def k44 : Nat → List (Nat × H) := fun _ => []
def a44 : AFun := ⟨2, (.seq (.reg [⟨some 4, .mov (.con (.b false)), none⟩])
 (.seq (.reg [oV 5 1, oN 6 5, oI 7 6 0, oV 8 7, qV 9 1 8, qV 10 0 8, qH 11 75 9 10 8, oP 12 8 11, oV 4 12])
 .ret)), [.tmp 4]⟩
theorem c44 : zal Tryz.prog k44 [] Tryz.f44 = some a44 := by kernel_rfl
def k45 : Nat → List (Nat × H) := fun _ => []
def a45 : AFun := ⟨3, (.seq (.reg [oB 3 0, ⟨some 4, .mov (.con (.b false)), none⟩])
 (.seq (.reg [oF 5 3 3, oM 6 5, oM 7 1, ⟨some 8, .bin .eql (.tmp 6) (.tmp 7), none⟩, oV 9 8, pF 10 1 3 9, pM 11 10 9, pM 12 2 9, pH 13 44 11 12 9, oQ 14 9 13, oV 4 14])
 .ret)), [.tmp 4]⟩
theorem c45 : zal Tryz.prog k45 [] Tryz.f45 = some a45 := by kernel_rfl
def k46 : Nat → List (Nat × H) := fun r => if r = 5 then [(0, .row 47 5), (1, .none), (5, .none), (6, .none)] else []
def a46 : AFun := ⟨2, (.seq (.reg [⟨some 4, .mov (.con (.sl .nil 0 [])), none⟩])
 (.seq (.reg [oV 8 0, oV 9 1, oH 10 76 8 9, oV 5 10])
 (.seq (.seq (.reg [oV 11 5, ⟨some 12, .bin .eql (.tmp 11) (.con (.i .i64 (-1))), none⟩])
 (.cond (.tmp 12) (.seq (.reg [oV 13 0, oV 4 13])
 .ret) .skip))
 (.seq (.seq (.reg [oV 14 5, oT 15 14 1, oV 6 15])
 (.block 0 (.loop [(0, .row 47 5), (1, .none), (5, .none), (6, .none)] (.seq (.seq (.reg [oV 16 6, oV 17 0, oN 18 17, oS 19 16 18])
 (.cond (.tmp 19) .skip (.exit 0)))
 (.seq (.block 1 (.seq (.reg [oV 22 0, oV 23 6, oA 24 5 22 23, oL 25 5 24, ⟨some 7, .alloc [(.i .i64 (0)), (.str []), (.i .i64 (0)), (.i .i64 (0)), (.sl .nil 0 [])], none⟩, oW 5 7 25])
 (.seq (.reg [oV 26 1, oL 27 5 7, ⟨some 28, .callv (.tmp 26) [(.tmp 27)], none⟩, oU 29 28])
 (.cond (.tmp 29) (.seq (.reg [oV 30 0, oV 31 5, oL 32 5 7, oA 33 5 30 31, oW 5 33 32])
 (.reg [oV 34 5, oT 35 34 1, oV 5 35])) .skip))))
 (.reg [oV 20 6, oT 21 20 1, oV 6 21]))))))
 (.seq (.reg [oV 36 0, oV 37 5, ⟨some 38, .slice 5 (.tmp 36) (some (.tmp 37)) none none, none⟩, ⟨none, .clear [(.i .i64 (0)), (.str []), (.i .i64 (0)), (.i .i64 (0)), (.sl .nil 0 [])] (.tmp 38), none⟩])
 (.seq (.reg [oV 39 0, oV 40 5, ⟨some 41, .slice 5 (.tmp 39) none (some (.tmp 40)) none, none⟩, oV 4 41])
 .ret)))))), [.tmp 4]⟩
theorem c46 : zal Tryz.prog k46 [.give (.row 47 5), .borrow] Tryz.f46 = some a46 := by kernel_rfl
def k47 : Nat → List (Nat × H) := fun _ => []
def a47 : AFun := ⟨2, (.seq (.reg [oB 2 0, ⟨some 3, .mov (.con (.b false)), none⟩])
 (.seq (.reg [oF 4 0 2, oM 5 4, oF 6 1 1, oM 7 6, ⟨some 8, .bin .eql (.tmp 5) (.tmp 7), none⟩, oV 3 8])
 .ret)), [.tmp 3]⟩
theorem c47 : zal Tryz.prog k47 [] Tryz.f47 = some a47 := by kernel_rfl
def k48 : Nat → List (Nat × H) := fun r => if r = 5 then [(0, .row 43 3), (1, .none), (5, .none), (6, .none)] else []
def a48 : AFun := ⟨2, (.seq (.reg [⟨some 4, .mov (.con (.sl .nil 0 [])), none⟩])
 (.seq (.reg [oV 8 0, oV 9 1, oH 10 72 8 9, oV 5 10])
 (.seq (.seq (.reg [oV 11 5, ⟨some 12, .bin .eql (.tmp 11) (.con (.i .i64 (-1))), none⟩])
 (.cond (.tmp 12) (.seq (.reg [oV 13 0, oV 4 13])
 .ret) .skip))
 (.seq (.seq (.reg [oV 14 5, oT 15 14 1, oV 6 15])
 (.block 0 (.loop [(0, .row 43 3), (1, .none), (5, .none), (6, .none)] (.seq (.seq (.reg [oV 16 6, oV 17 0, oN 18 17, oS 19 16 18])
 (.cond (.tmp 19) .skip (.exit 0)))
 (.seq (.block 1 (.seq (.reg [oV 22 0, oV 23 6, oA 24 3 22 23, oL 25 3 24, ⟨some 7, .alloc [(.i .i64 (0)), (.str []), (.sl .nil 0 [])], none⟩, oW 3 7 25])
 (.seq (.reg [oV 26 1, oL 27 3 7, ⟨some 28, .callv (.tmp 26) [(.tmp 27)], none⟩, oU 29 28])
 (.cond (.tmp 29) (.seq (.reg [oV 30 0, oV 31 5, oL 32 3 7, oA 33 3 30 31, oW 3 33 32])
 (.reg [oV 34 5, oT 35 34 1, oV 5 35])) .skip))))
 (.reg [oV 20 6, oT 21 20 1, oV 6 21]))))))
 (.seq (.reg [oV 36 0, oV 37 5, ⟨some 38, .slice 3 (.tmp 36) (some (.tmp 37)) none none, none⟩, ⟨none, .clear [(.i .i64 (0)), (.str []), (.sl .nil 0 [])] (.tmp 38), none⟩])
 (.seq (.reg [oV 39 0, oV 40 5, ⟨some 41, .slice 3 (.tmp 39) none (some (.tmp 40)) none, none⟩, oV 4 41])
 .ret)))))), [.tmp 4]⟩
theorem c48 : zal Tryz.prog k48 [.give (.row 43 3), .borrow] Tryz.f48 = some a48 := by kernel_rfl
def k49 : Nat → List (Nat × H) := fun _ => []
def a49 : AFun := ⟨2, (.seq (.reg [oB 2 0, ⟨some 3, .mov (.con (.b false)), none⟩])
 (.seq (.reg [oF 4 0 2, oM 5 4, oF 6 1 1, oM 7 6, ⟨some 8, .bin .eql (.tmp 5) (.tmp 7), none⟩, oV 3 8])
 .ret)), [.tmp 3]⟩
theorem c49 : zal Tryz.prog k49 [] Tryz.f49 = some a49 := by kernel_rfl
def k50 : Nat → List (Nat × H) := fun _ => []
def a50 : AFun := ⟨2, (.seq (.reg [oB 2 0, ⟨some 3, .mov (.con (.b false)), none⟩])
 (.seq (.reg [oF 4 2 2, oM 5 4, oF 6 1 1, oM 7 6, ⟨some 8, .bin .eql (.tmp 5) (.tmp 7), none⟩, oV 9 8, qF 10 3 2 9, qM 11 10 9, qF 12 1 1 9, qM 13 12 9, ⟨some 14, .bin .eql (.tmp 11) (.tmp 13), some (9, false)⟩, oP 15 9 14, oV 3 15])
 .ret)), [.tmp 3]⟩
theorem c50 : zal Tryz.prog k50 [] Tryz.f50 = some a50 := by kernel_rfl
def k51 : Nat → List (Nat × H) := fun r => if r = 4 then [(1, .none), (3, .none)] else if r = 10 then [(1, .none), (5, .none)] else []
def a51 : AFun := ⟨1, (.seq (.reg [oB 1 0, oC 2 0])
 (.seq (.seq (.reg [oF 13 2 1, oM 14 13, ⟨some 15, .bin .lss (.tmp 14) (.con (.i .i64 (0))), none⟩, oV 16 15, qF 17 2 1 16, qM 18 17 16, ⟨some 19, .bin .gtr (.tmp 18) (.con (.i .i64 (281474976710656))), some (16, false)⟩, oP 20 16 19, oV 21 20, qF 22 0 1 21, qM 23 22 21, qN 24 23 21, ⟨some 25, .bin .gtr (.tmp 24) (.con (.i .i64 (2048))), some (21, false)⟩, oP 26 21 25, oV 27 26, qF 28 1 1 27, qM 29 28 27, qN 30 29 27, ⟨some 31, .bin .gtr (.tmp 30) (.con (.i .i64 (2048))), some (27, false)⟩, oP 32 27 31])
 (.cond (.tmp 32) (.seq (.reg [oC 2 103])
 .ret) .skip))
 (.seq (.seq (.reg [oC 3 0])
 (.block 0 (.loop [(1, .none), (3, .none)] (.seq (.seq (.reg [oV 33 3, oF 34 0 1, oM 35 34, oN 36 35, oS 37 33 36])
 (.cond (.tmp 37) .skip (.exit 0)))
 (.seq (.block 1 (.seq (.reg [oF 40 0 1, oM 41 40, oV 42 3, oA 43 3 41 42, oL 44 3 43, ⟨some 4, .alloc [(.i .i64 (0)), (.str []), (.sl .nil 0 [])], none⟩, oW 3 4 44])
 (.seq (.draw [oF 45 0 4, oM 46 45, ⟨some 47, .bin .lss (.tmp 46) (.con (.i .i64 (1))), none⟩, oV 48 47, qF 49 0 4 48, qM 50 49 48, qF 51 2 1 48, qM 52 51 48, ⟨some 53, .bin .gtr (.tmp 50) (.tmp 52), some (48, false)⟩, oP 54 48 53, oV 55 54, qV 56 3 55, ⟨some 57, .bin .gtr (.tmp 56) (.con (.i .i64 (0))), some (55, false)⟩, qV 58 57 55, pF 59 0 4 58, pM 60 59 58, pF 61 0 1 58, pM 62 61 58, pV 63 3 58, ⟨some 64, .bin .sub (.tmp 63) (.con (.i .i64 (1))), some (58, true)⟩, pA 65 3 62 64 58, pF 66 0 65 58, pM 67 66 58, ⟨some 68, .bin .leq (.tmp 60) (.tmp 67), some (58, true)⟩, qQ 69 58 68 55, oP 70 55 69, oV 71 70, qF 72 1 4 71, qM 73 72 71, qG 74 52 73 71, qU 75 74 71, oP 76 71 75, oV 77 76, qF 78 2 4 77, qM 79 78 77, qG 80 77 79 77, qU 81 80 77, oP 82 77 81] [(5, 7), (15, 17), (15, 20), (15, 22)])
 (.cond (.tmp 82) (.seq (.reg [oC 2 103])
 .ret) .skip))))
 (.reg [oV 38 3, oT 39 38 1, oV 3 39]))))))
 (.seq (.seq (.reg [oC 5 0])
 (.block 2 (.loop [(1, .none), (5, .none)] (.seq (.seq (.reg [oV 83 5, oF 84 1 1, oM 85 84, oN 86 85, oS 87 83 86])
 (.cond (.tmp 87) .skip (.exit 2)))
 (.seq (.block 3 (.seq (.reg [oF 90 1 1, oM 91 90, oV 92 5, oA 93 5 91 92, oL 94 5 93, ⟨some 6, .alloc [(.i .i64 (0)), (.str []), (.i .i64 (0)), (.i .i64 (0)), (.sl .nil 0 [])], none⟩, oW 5 6 94])
 (.seq (.seq (.draw [oF 95 0 6, oM 96 95, ⟨some 97, .bin .lss (.tmp 96) (.con (.i .i64 (1))), none⟩, oV 98 97, qF 99 0 6 98, qM 100 99 98, qF 101 2 1 98, qM 102 101 98, ⟨some 103, .bin .gtr (.tmp 100) (.tmp 102), some (98, false)⟩, oP 104 98 103, oV 105 104, qV 106 5 105, ⟨some 107, .bin .gtr (.tmp 106) (.con (.i .i64 (0))), some (105, false)⟩, qV 108 107 105, pF 109 0 6 108, pM 110 109 108, pF 111 1 1 108, pM 112 111 108, pV 113 5 108, ⟨some 114, .bin .sub (.tmp 113) (.con (.i .i64 (1))), some (108, true)⟩, pA 115 5 112 114 108, pF 116 0 115 108, pM 117 116 108, ⟨some 118, .bin .leq (.tmp 110) (.tmp 117), some (108, true)⟩, qQ 119 108 118 105, oP 120 105 119, oV 121 120, qF 122 1 6 121, qM 123 122 121, qG 124 52 123 121, qU 125 124 121, oP 126 121 125, oV 127 126, qF 128 4 6 127, qM 129 128 127, qG 130 77 129 127, qU 131 130 127, oP 132 127 131] [(5, 7), (15, 17), (15, 20), (15, 22)])
 (.cond (.tmp 132) (.seq (.reg [oC 2 103])
 .ret) .skip))
 (.seq (.reg [oL 134 3 1, oF 135 0 6, oM 136 135, oH 137 53 134 136, oV 133 137, oE 138 133 0, oE 139 133 1, ⟨some 7, .alloc [(.i .i64 (0)), (.str []), (.sl .nil 0 [])], none⟩, oW 3 7 138, oV 8 139])
 (.seq (.reg [oL 141 3 1, oF 142 2 6, oM 143 142, oH 144 53 141 143, oV 140 144, oE 145 140 0, oE 146 140 1, ⟨some 9, .alloc [(.i .i64 (0)), (.str []), (.sl .nil 0 [])], none⟩, oW 3 9 145, oV 10 146])
 (.seq (.reg [oL 148 3 1, oF 149 3 6, oM 150 149, oH 151 53 148 150, oV 147 151, oE 152 147 0, oE 153 147 1, ⟨some 11, .alloc [(.i .i64 (0)), (.str []), (.sl .nil 0 [])], none⟩, oW 3 11 152, oV 12 153])
 (.seq (.reg [oV 154 8, oV 155 154, qV 156 10 155, qU 157 156 155, oP 158 155 157, oV 159 158, qV 160 12 159, qU 161 160 159, oP 162 159 161])
 (.cond (.tmp 162) (.seq (.reg [oC 2 103])
 .ret) .skip))))))))
 (.reg [oV 88 5, oT 89 88 1, oV 5 89]))))))
 (.seq (.reg [oC 2 0])
 .ret))))), [.tmp 2]⟩
theorem c51 : zal Tryz.prog k51 [] Tryz.f51 = some a51 := by kernel_rfl
def k52 : Nat → List (Nat × H) := fun r => if r = 4 then [(0, .none), (3, .none)] else []
def a52 : AFun := ⟨1, (.seq (.reg [⟨some 2, .mov (.con (.b false)), none⟩])
 (.seq (.seq (.reg [oV 4 0, ⟨some 5, .bin .eql (.tmp 4) (.con (.str [])), none⟩, oV 6 5, qV 7 0 6, ⟨some 8, .len true (.tmp 7), some (6, false)⟩, ⟨some 9, .bin .gtr (.tmp 8) (.con (.i .i64 (24))), some (6, false)⟩, oP 10 6 9, oV 11 10, qV 12 0 11, ⟨some 13, .idx (.tmp 12) (.con (.i .i64 (0))), some (11, false)⟩, qG 14 78 13 11, qU 15 14 11, oP 16 11 15])
 (.cond (.tmp 16) (.seq (.reg [⟨some 2, .mov (.con (.b false)), none⟩])
 .ret) .skip))
 (.seq (.seq (.reg [oC 3 0])
 (.block 0 (.loop [(0, .none), (3, .none)] (.seq (.seq (.reg [oV 17 3, oV 18 0, ⟨some 19, .len true (.tmp 18), none⟩, oS 20 17 19])
 (.cond (.tmp 20) .skip (.exit 0)))
 (.seq (.block 1 (.seq (.reg [oV 23 0, oV 24 3, ⟨some 25, .idx (.tmp 23) (.tmp 24), none⟩, oG 26 78 25, oU 27 26, oV 28 27, pV 29 0 28, pV 30 3 28, ⟨some 31, .idx (.tmp 29) (.tmp 30), some (28, true)⟩, ⟨some 32, .bin .lss (.tmp 31) (.con (.i .u8 (48))), some (28, true)⟩, pV 33 32 28, qV 34 0 33, qV 35 3 33, ⟨some 36, .idx (.tmp 34) (.tmp 35), some (33, false)⟩, ⟨some 37, .bin .gtr (.tmp 36) (.con (.i .u8 (57))), some (33, false)⟩, pP 38 33 37 28, oQ 39 28 38])
 (.cond (.tmp 39) (.seq (.reg [⟨some 2, .mov (.con (.b false)), none⟩])
 .ret) .skip)))
 (.reg [oV 21 3, oT 22 21 1, oV 3 22]))))))
 (.seq (.reg [⟨some 2, .mov (.con (.b true)), none⟩])
 .ret)))), [.tmp 2]⟩
theorem c52 : zal Tryz.prog k52 [] Tryz.f52 = some a52 := by kernel_rfl
def k53 : Nat → List (Nat × H) := fun r => if r = 2 then [(1, .none), (2, .none), (4, .none), (6, .none)] else []
def a53 : AFun := ⟨2, (.seq (.reg [oB 2 0, ⟨some 4, .alloc [(.i .i64 (0)), (.str []), (.sl .nil 0 [])], none⟩, ⟨some 5, .mov (.con (.b false)), none⟩])
 (.seq (.seq (.reg [oC 6 0])
 (.block 0 (.loop [(1, .none), (2, .none), (4, .none), (6, .none)] (.seq (.seq (.reg [oV 7 6, oF 8 0 2, oM 9 8, oN 10 9, oS 11 7 10])
 (.cond (.tmp 11) .skip (.exit 0)))
 (.seq (.block 1 (.seq (.reg [oF 14 0 2, oM 15 14, oV 16 6, oA 17 3 15 16, oF 18 0 17, oM 19 18, oV 20 1, ⟨some 21, .bin .eql (.tmp 19) (.tmp 20), none⟩])
 (.cond (.tmp 21) (.seq (.reg [oF 22 0 2, oM 23 22, oV 24 6, oA 25 3 23 24, oL 26 3 25, oW 3 4 26, ⟨some 5, .mov (.con (.b true)), none⟩])
 .ret) .skip)))
 (.reg [oV 12 6, oT 13 12 1, oV 6 13]))))))
 (.seq (.reg [⟨some 27, .build [(.i .i64 (0)), (.str []), (.sl .nil 0 [])] [], none⟩, oW 3 4 27, ⟨some 5, .mov (.con (.b false)), none⟩])
 .ret))), [.cell 4 true 3, .tmp 5]⟩
theorem c53 : zal Tryz.prog k53 [] Tryz.f53 = some a53 := by kernel_rfl
def k54 : Nat → List (Nat × H) := fun _ => []
def a54 : AFun := ⟨1, (.seq (.reg [oB 1 0, oC 2 0])
 (.seq (.seq (.reg [oL 3 4 1, ⟨some 4, .call 79 [(.tmp 3), (.con (.i .i64 (1)))], none⟩, oU 5 4])
 (.cond (.tmp 5) (.seq (.reg [oC 2 20])
 .ret) .skip))
 (.seq (.reg [oC 2 0])
 .ret))), [.tmp 2]⟩
theorem c54 : zal Tryz.prog k54 [] Tryz.f54 = some a54 := by kernel_rfl
def k55 : Nat → List (Nat × H) := fun r => if r = 3 then [(1, .none), (2, .none), (10, .none), (11, .none)] else []
def a55 : AFun := ⟨1, (.seq (.reg [oB 1 0, ⟨some 2, .alloc [(.i .i64 (0)), (.i .i64 (0)), (.str []), (.sl .nil 0 [])], none⟩])
 (.seq (.reg [oF 4 3 1, oM 5 4, oG 6 80 5, oF 7 3 1, oW 1 7 6])
 (.seq (.seq (.reg [oF 8 3 1, oM 9 8, oN 10 9, oC 11 0])
 (.block 0 (.loop [(1, .none), (2, .none), (10, .none), (11, .none)] (.seq (.reg [oS 12 11 10])
 (.seq (.cond (.tmp 12) .skip (.exit 0))
 (.seq (.block 1 (.seq (.reg [oV 13 11, oV 3 13])
 (.draw [oF 14 3 1, oM 15 14, oV 16 3, oF 17 3 1, oM 18 17, oV 19 3, oA 20 4 18 19, oL 21 4 20, oG 22 55 21, oA 23 4 15 16, oW 4 23 22] [(1, 4), (1, 6), (1, 7), (1, 8)])))
 (.reg [oT 24 11 1, oV 11 24])))))))
 (.seq (.reg [oL 25 4 1, oW 4 2 25])
 .ret)))), [.cell 2 true 4]⟩
theorem c55 : zal Tryz.prog k55 [] Tryz.f55 = some a55 := by kernel_rfl
def k56 : Nat → List (Nat × H) := fun r => if r = 2 then [(0, .none), (1, .none), (7, .none), (8, .none)] else []
def a56 : AFun := ⟨2, (.seq (.reg [oC 4 0])
 (.seq (.seq (.reg [oV 6 0, oN 7 6, oC 8 0])
 (.block 0 (.loop [(0, .none), (1, .none), (7, .none), (8, .none)] (.seq (.reg [oS 9 8 7])
 (.seq (.cond (.tmp 9) .skip (.exit 0))
 (.seq (.block 1 (.seq (.reg [oV 10 8, oV 5 10])
 (.seq (.reg [oV 11 1, oV 12 0, oV 13 5, oA 14 5 12 13, oL 15 5 14, ⟨some 16, .callv (.tmp 11) [(.tmp 15)], none⟩])
 (.cond (.tmp 16) (.seq (.reg [oV 17 5, oV 4 17])
 .ret) .skip))))
 (.reg [oT 18 8 1, oV 8 18])))))))
 (.seq (.reg [⟨some 4, .mov (.con (.i .i64 (-1))), none⟩])
 .ret))), [.tmp 4]⟩
theorem c56 : zal Tryz.prog k56 [] Tryz.f56 = some a56 := by kernel_rfl
def k57 : Nat → List (Nat × H) := fun _ => []
def a57 : AFun := ⟨2, (.seq (.reg [oB 2 0, ⟨some 3, .mov (.con (.b false)), none⟩])
 (.seq (.reg [oF 4 0 2, oM 5 4, oM 6 1, ⟨some 7, .bin .geq (.tmp 5) (.tmp 6), none⟩, oV 3 7])
 .ret)), [.tmp 3]⟩
theorem c57 : zal Tryz.prog k57 [] Tryz.f57 = some a57 := by kernel_rfl
def k59 : Nat → List (Nat × H) := fun _ => []
def a59 : AFun := ⟨2, (.seq (.reg [oB 2 0, oB 3 1, ⟨some 4, .mov (.con (.str [])), none⟩, ⟨some 5, .mov (.con (.b false)), none⟩])
 (.seq (.reg [oL 9 3 2, oL 10 4 3, oH 11 83 9 10, oV 8 11, oE 12 8 0, oE 13 8 1, oV 6 12, oV 7 13])
 (.seq (.seq (.reg [oV 14 6, ⟨some 15, .bin .geq (.tmp 14) (.con (.i .i64 (0))), none⟩])
 (.cond (.tmp 15) (.seq (.reg [oF 16 0 2, oM 17 16, oV 18 6, oA 19 3 17 18, oF 20 1 19, oM 21 20, oV 4 21, ⟨some 5, .mov (.con (.b true)), none⟩])
 .ret) .skip))
 (.seq (.seq (.reg [oV 22 7, ⟨some 23, .bin .geq (.tmp 22) (.con (.i .i64 (0))), none⟩])
 (.cond (.tmp 23) (.seq (.reg [oF 24 1 2, oM 25 24, oV 26 7, oA 27 5 25 26, oF 28 1 27, oM 29 28, oV 4 29, ⟨some 5, .mov (.con (.b true)), none⟩])
 .ret) .skip))
 (.seq (.reg [⟨some 4, .mov (.con (.str [])), none⟩, ⟨some 5, .mov (.con (.b false)), none⟩])
 .ret))))), [.tmp 4, .tmp 5]⟩
theorem c59 : zal Tryz.prog k59 [] Tryz.f59 = some a59 := by kernel_rfl
def k60 : Nat → List (Nat × H) := fun _ => []
def a60 : AFun := ⟨1, (.seq (.reg [oB 1 0, oC 2 0])
 (.seq (.seq (.reg [oL 3 4 1, ⟨some 4, .call 84 [(.tmp 3), (.con (.i .i64 (0)))], none⟩, oU 5 4])
 (.cond (.tmp 5) (.seq (.reg [oC 2 20])
 .ret) .skip))
 (.seq (.reg [oC 2 0])
 .ret))), [.tmp 2]⟩
theorem c60 : zal Tryz.prog k60 [] Tryz.f60 = some a60 := by kernel_rfl
def k61 : Nat → List (Nat × H) := fun _ => []
def a61 : AFun := ⟨2, (.seq (.reg [oB 2 0, oB 3 1, ⟨some 4, .mov (.con (.sl .nil 0 [])), none⟩])
 (.seq (.reg [oL 8 3 2, oL 9 4 3, oH 10 83 8 9, oV 7 10, oE 11 7 0, oE 12 7 1, oV 5 11, oV 6 12])
 (.seq (.seq (.reg [oV 13 5, ⟨some 14, .bin .geq (.tmp 13) (.con (.i .i64 (0))), none⟩])
 (.cond (.tmp 14) (.seq (.reg [oF 15 0 2, oM 16 15, oV 17 5, oA 18 3 16 17, oF 19 2 18, oM 20 19, oV 4 20])
 .ret) .skip))
 (.seq (.seq (.reg [oV 21 6, ⟨some 22, .bin .geq (.tmp 21) (.con (.i .i64 (0))), none⟩])
 (.cond (.tmp 22) (.seq (.reg [oF 23 1 2, oM 24 23, oV 25 6, oA 26 5 24 25, oF 27 4 26, oM 28 27, oV 4 28])
 .ret) .skip))
 (.seq (.reg [⟨some 4, .mov (.con (.sl .nil 0 [])), none⟩])
 .ret))))), [.tmp 4]⟩
theorem c61 : zal Tryz.prog k61 [] Tryz.f61 = some a61 := by kernel_rfl
def k62 : Nat → List (Nat × H) := fun _ => []
def a62 : AFun := ⟨3, (.seq (.reg [oB 3 0, oB 4 1, ⟨some 6, .alloc [(.sl .nil 0 []), (.sl .nil 0 []), (.i .i64 (0))], none⟩])
 (.seq (.reg [oL 9 3 3, oG 10 8 9, oW 3 3 10])
 (.seq (.reg [oL 12 3 3, oL 13 4 4, oH 14 83 12 13, oV 11 14, oE 15 11 0, oE 16 11 1, oV 7 15, oV 8 16])
 (.seq (.seq (.reg [oV 17 7, ⟨some 18, .bin .geq (.tmp 17) (.con (.i .i64 (0))), none⟩])
 (.cond (.tmp 18) (.draw [oF 19 0 3, oM 20 19, oV 21 7, oV 22 2, oG 23 29 22, oA 24 3 20 21, oF 25 2 24, oW 1 25 23] [(1, 4)]) .skip))
 (.seq (.seq (.reg [oV 26 8, ⟨some 27, .bin .geq (.tmp 26) (.con (.i .i64 (0))), none⟩])
 (.cond (.tmp 27) (.draw [oF 28 1 3, oM 29 28, oV 30 8, oV 31 2, oG 32 29 31, oA 33 5 29 30, oF 34 4 33, oW 1 34 32] [(1, 4)]) .skip))
 (.seq (.reg [oL 35 3 3, oW 3 6 35])
 .ret)))))), [.cell 6 true 3]⟩
theorem c62 : zal Tryz.prog k62 [] Tryz.f62 = some a62 := by kernel_rfl
def k63 : Nat → List (Nat × H) := fun r => if r = 5 then [(0, .row 45 5), (1, .none), (5, .none), (6, .none)] else []
def a63 : AFun := ⟨2, (.seq (.reg [⟨some 4, .mov (.con (.sl .nil 0 [])), none⟩])
 (.seq (.reg [oV 8 0, oV 9 1, oH 10 56 8 9, oV 5 10])
 (.seq (.seq (.reg [oV 11 5, ⟨some 12, .bin .eql (.tmp 11) (.con (.i .i64 (-1))), none⟩])
 (.cond (.tmp 12) (.seq (.reg [oV 13 0, oV 4 13])
 .ret) .skip))
 (.seq (.seq (.reg [oV 14 5, oT 15 14 1, oV 6 15])
 (.block 0 (.loop [(0, .row 45 5), (1, .none), (5, .none), (6, .none)] (.seq (.seq (.reg [oV 16 6, oV 17 0, oN 18 17, oS 19 16 18])
 (.cond (.tmp 19) .skip (.exit 0)))
 (.seq (.block 1 (.seq (.reg [oV 22 0, oV 23 6, oA 24 5 22 23, oL 25 5 24, ⟨some 7, .alloc [(.str []), (.i .i64 (0)), (.i .i64 (0)), (.str []), (.sl .nil 0 [])], none⟩, oW 5 7 25])
 (.seq (.reg [oV 26 1, oL 27 5 7, ⟨some 28, .callv (.tmp 26) [(.tmp 27)], none⟩, oU 29 28])
 (.cond (.tmp 29) (.seq (.reg [oV 30 0, oV 31 5, oL 32 5 7, oA 33 5 30 31, oW 5 33 32])
 (.reg [oV 34 5, oT 35 34 1, oV 5 35])) .skip))))
 (.reg [oV 20 6, oT 21 20 1, oV 6 21]))))))
 (.seq (.reg [oV 36 0, oV 37 5, ⟨some 38, .slice 5 (.tmp 36) (some (.tmp 37)) none none, none⟩, ⟨none, .clear [(.str []), (.i .i64 (0)), (.i .i64 (0)), (.str []), (.sl .nil 0 [])] (.tmp 38), none⟩])
 (.seq (.reg [oV 39 0, oV 40 5, ⟨some 41, .slice 5 (.tmp 39) none (some (.tmp 40)) none, none⟩, oV 4 41])
 .ret)))))), [.tmp 4]⟩
theorem c63 : zal Tryz.prog k63 [.give (.row 45 5), .borrow] Tryz.f63 = some a63 := by kernel_rfl
def k64 : Nat → List (Nat × H) := fun _ => []
def a64 : AFun := ⟨2, (.seq (.reg [oB 2 0, ⟨some 3, .mov (.con (.b false)), none⟩])
 (.seq (.reg [oF 4 0 2, oM 5 4, oM 6 1, ⟨some 7, .bin .eql (.tmp 5) (.tmp 6), none⟩, oV 3 7])
 .ret)), [.tmp 3]⟩
theorem c64 : zal Tryz.prog k64 [] Tryz.f64 = some a64 := by kernel_rfl
def k66 : Nat → List (Nat × H) := fun r => if r = 3 then [(1, .none), (2, .none), (3, .row 30 4), (4, .none)] else []
def a66 : AFun := ⟨1, (.seq (.reg [oB 1 0, ⟨some 2, .alloc [(.i .i64 (0)), (.i .i64 (0)), (.str []), (.sl .nil 0 [])], none⟩])
 (.seq (.reg [⟨some 3, .mov (.con (.sl .nil 0 [])), none⟩])
 (.seq (.seq (.reg [oC 4 0])
 (.block 0 (.loop [(1, .none), (2, .none), (3, .row 30 4), (4, .none)] (.seq (.seq (.reg [oV 5 4, oF 6 3 1, oM 7 6, oN 8 7, oS 9 5 8])
 (.cond (.tmp 9) .skip (.exit 0)))
 (.seq (.block 1 (.reg [oV 12 3, oF 13 3 1, oM 14 13, oV 15 4, oA 16 4 14 15, oL 17 4 16, oG 18 66 17, ⟨some 19, .bslice 30 [(.i .i64 (0)), (.i .i64 (0)), (.str []), (.sl .nil 0 [])] 1 [(0, (.tmp 18))], none⟩, ⟨some 20, .app 30 4 (.tmp 12) (.tmp 19), none⟩, oV 3 20]))
 (.reg [oV 10 4, oT 11 10 1, oV 4 11]))))))
 (.seq (.reg [oV 21 3, oF 22 3 1, oW 1 22 21])
 (.seq (.reg [oL 23 4 1, oW 4 2 23])
 .ret))))), [.cell 2 true 4]⟩
theorem c66 : zal Tryz.prog k66 [] Tryz.f66 = some a66 := by kernel_rfl
def k69 : Nat → List (Nat × H) := fun _ => []
def a69 : AFun := ⟨2, (.seq (.reg [oB 2 0, oB 3 1, ⟨some 4, .mov (.con (.b false)), none⟩])
 (.seq (.reg [oL 5 4 2, oL 6 4 3, oH 7 92 5 6, oI 8 7 0, oV 4 8])
 .ret)), [.tmp 4]⟩
theorem c69 : zal Tryz.prog k69 [] Tryz.f69 = some a69 := by kernel_rfl
def k70 : Nat → List (Nat × H) := fun r => if r = 4 then [(0, .none), (1, .none), (5, .none)] else []
def a70 : AFun := ⟨2, (.seq (.reg [⟨some 4, .mov (.con (.b false)), none⟩])
 (.seq (.seq (.reg [oV 6 0, oN 7 6, oV 8 1, oN 9 8, ⟨some 10, .bin .neq (.tmp 7) (.tmp 9), none⟩])
 (.cond (.tmp 10) (.seq (.reg [⟨some 4, .mov (.con (.b false)), none⟩])
 .ret) .skip))
 (.seq (.seq (.reg [oC 5 0])
 (.block 0 (.loop [(0, .none), (1, .none), (5, .none)] (.seq (.seq (.reg [oV 11 5, oV 12 0, oN 13 12, oS 14 11 13])
 (.cond (.tmp 14) .skip (.exit 0)))
 (.seq (.block 1 (.seq (.draw [oV 17 0, oV 18 5, oA 19 5 17 18, oF 20 0 19, oM 21 20, oV 22 1, oV 23 5, oA 24 5 22 23, oF 25 0 24, oM 26 25, ⟨some 27, .bin .neq (.tmp 21) (.tmp 26), none⟩, oV 28 27, qV 29 0 28, qV 30 5 28, qA 31 5 29 30 28, qF 32 1 31 28, qL 33 4 32 28, qV 34 1 28, qV 35 5 28, qA 36 5 34 35 28, qF 37 1 36 28, qL 38 4 37 28, qH 39 93 33 38 28, qU 40 39 28, oP 41 28 40] [(2, 7), (4, 7), (2, 9), (4, 9), (14, 19), (16, 19), (14, 21), (16, 21)])
 (.cond (.tmp 41) (.seq (.reg [⟨some 4, .mov (.con (.b false)), none⟩])
 .ret) .skip)))
 (.reg [oV 15 5, oT 16 15 1, oV 5 16]))))))
 (.seq (.reg [⟨some 4, .mov (.con (.b true)), none⟩])
 .ret)))), [.tmp 4]⟩
theorem c70 : zal Tryz.prog k70 [] Tryz.f70 = some a70 := by kernel_rfl
def k71 : Nat → List (Nat × H) := fun _ => []
def a71 : AFun := ⟨2, (.seq (.reg [oB 2 0, oB 3 1, oC 4 0, ⟨some 5, .mov (.con (.b false)), none⟩])
 (.seq (.reg [oF 7 1 2, oM 8 7, ⟨some 9, .mkfn 94 [(.tmp 3)], none⟩, oH 10 76 8 9, oV 6 10])
 (.seq (.reg [oV 11 6, oV 12 6, ⟨some 13, .bin .geq (.tmp 12) (.con (.i .i64 (0))), none⟩, oV 4 11, oV 5 13])
 .ret))), [.tmp 4, .tmp 5]⟩
theorem c71 : zal Tryz.prog k71 [] Tryz.f71 = some a71 := by kernel_rfl
def k72 : Nat → List (Nat × H) := fun r => if r = 2 then [(0, .none), (1, .none), (7, .none), (8, .none)] else []
def a72 : AFun := ⟨2, (.seq (.reg [oC 4 0])
 (.seq (.seq (.reg [oV 6 0, oN 7 6, oC 8 0])
 (.block 0 (.loop [(0, .none), (1, .none), (7, .none), (8, .none)] (.seq (.reg [oS 9 8 7])
 (.seq (.cond (.tmp 9) .skip (.exit 0))
 (.seq (.block 1 (.seq (.reg [oV 10 8, oV 5 10])
 (.seq (.reg [oV 11 1, oV 12 0, oV 13 5, oA 14 3 12 13, oL 15 3 14, ⟨some 16, .callv (.tmp 11) [(.tmp 15)], none⟩])
 (.cond (.tmp 16) (.seq (.reg [oV 17 5, oV 4 17])
 .ret) .skip))))
 (.reg [oT 18 8 1, oV 8 18])))))))
 (.seq (.reg [⟨some 4, .mov (.con (.i .i64 (-1))), none⟩])
 .ret))), [.tmp 4]⟩
theorem c72 : zal Tryz.prog k72 [] Tryz.f72 = some a72 := by kernel_rfl
def k73 : Nat → List (Nat × H) := fun _ => []
def a73 : AFun := ⟨2, (.seq (.reg [oB 2 0, ⟨some 3, .mov (.con (.b false)), none⟩])
 (.seq (.reg [oF 4 0 2, oM 5 4, oM 6 1, ⟨some 7, .bin .eql (.tmp 5) (.tmp 6), none⟩, oV 3 7])
 .ret)), [.tmp 3]⟩
theorem c73 : zal Tryz.prog k73 [] Tryz.f73 = some a73 := by kernel_rfl
def k74 : Nat → List (Nat × H) := fun r => if r = 1 then [(2, .none), (7, .none), (8, .none), (9, .none)] else []
def a74 : AFun := ⟨3, (.seq (.reg [oF 6 1 1, oM 7 6, oN 8 7, oC 9 0])
 (.block 0 (.loop [(2, .none), (7, .none), (8, .none), (9, .none)] (.seq (.reg [oS 10 9 8])
 (.seq (.cond (.tmp 10) .skip (.exit 0))
 (.seq (.block 1 (.seq (.reg [oA 11 5 7 9, oL 12 5 11, ⟨some 5, .alloc [(.i .i64 (0)), (.str []), (.i .i64 (0)), (.i .i64 (0)), (.sl .nil 0 [])], none⟩, oW 5 5 12])
 (.seq (.reg [oM 13 2, oL 14 5 5, ⟨some 15, .callv (.tmp 13) [(.tmp 14)], none⟩, oV 16 15, pV 17 0 16, pL 18 5 5 16, pG 19 38 18 16, ⟨some 20, .callv (.tmp 17) [(.tmp 19)], some (16, true)⟩, pU 21 20 16, oQ 22 16 21])
 (.cond (.tmp 22) .ret .skip))))
 (.reg [oT 23 9 1, oV 9 23]))))))), []⟩
theorem c74 : zal Tryz.prog k74 [.inout (.none)] Tryz.f74 = some a74 := by kernel_rfl
def k75 : Nat → List (Nat × H) := fun _ => []
def a75 : AFun := ⟨2, (.seq (.reg [⟨some 4, .mov (.con (.b false)), none⟩])
 (.seq (.reg [oV 5 0, oV 6 1, oH 7 95 5 6, ⟨some 8, .bin .geq (.tmp 7) (.con (.i .i64 (0))), none⟩, oV 4 8])
 .ret)), [.tmp 4]⟩
theorem c75 : zal Tryz.prog k75 [] Tryz.f75 = some a75 := by kernel_rfl
def k76 : Nat → List (Nat × H) := fun r => if r = 2 then [(0, .none), (1, .none), (7, .none), (8, .none)] else []
def a76 : AFun := ⟨2, (.seq (.reg [oC 4 0])
 (.seq (.seq (.reg [oV 6 0, oN 7 6, oC 8 0])
 (.block 0 (.loop [(0, .none), (1, .none), (7, .none), (8, .none)] (.seq (.reg [oS 9 8 7])
 (.seq (.cond (.tmp 9) .skip (.exit 0))
 (.seq (.block 1 (.seq (.reg [oV 10 8, oV 5 10])
 (.seq (.reg [oV 11 1, oV 12 0, oV 13 5, oA 14 5 12 13, oL 15 5 14, ⟨some 16, .callv (.tmp 11) [(.tmp 15)], none⟩])
 (.cond (.tmp 16) (.seq (.reg [oV 17 5, oV 4 17])
 .ret) .skip))))
 (.reg [oT 18 8 1, oV 8 18])))))))
 (.seq (.reg [⟨some 4, .mov (.con (.i .i64 (-1))), none⟩])
 .ret))), [.tmp 4]⟩
theorem c76 : zal Tryz.prog k76 [] Tryz.f76 = some a76 := by kernel_rfl
def k77 : Nat → List (Nat × H) := fun r => if r = 4 then [(0, .none), (3, .none)] else []
def a77 : AFun := ⟨1, (.seq (.reg [⟨some 2, .mov (.con (.b false)), none⟩])
 (.seq (.seq (.reg [oV 4 0, oN 5 4, ⟨some 6, .bin .gtr (.tmp 5) (.con (.i .i64 (16))), none⟩])
 (.cond (.tmp 6) (.seq (.reg [⟨some 2, .mov (.con (.b false)), none⟩])
 .ret) .skip))
 (.seq (.seq (.reg [oC 3 0])
 (.block 0 (.loop [(0, .none), (3, .none)] (.seq (.seq (.reg [oV 7 3, oV 8 0, oN 9 8, oS 10 7 9])
 (.cond (.tmp 10) .skip (.exit 0)))
 (.seq (.block 1 (.seq (.draw [oV 13 0, oV 14 3, oA 15 5 13 14, oF 16 0 15, oM 17 16, oG 18 52 17, oU 19 18, oV 20 19, qV 21 3 20, ⟨some 22, .bin .gtr (.tmp 21) (.con (.i .i64 (0))), some (20, false)⟩, qV 23 22 20, pV 24 0 23, pV 25 3 23, pA 26 5 24 25 23, pF 27 0 26 23, pM 28 27 23, pV 29 0 23, pV 30 3 23, ⟨some 31, .bin .sub (.tmp 30) (.con (.i .i64 (1))), some (23, true)⟩, pA 32 5 29 31 23, pF 33 0 32 23, pM 34 33 23, ⟨some 35, .bin .leq (.tmp 28) (.tmp 34), some (23, true)⟩, qQ 36 23 35 20, oP 37 20 36, oV 38 37, qV 39 0 38, qV 40 3 38, qA 41 5 39 40 38, qF 42 1 41 38, qL 43 4 42 38, qG 44 60 43 38, qJ 45 44 0 38, oP 46 38 45] [(13, 19), (15, 19), (13, 21), (15, 21)])
 (.cond (.tmp 46) (.seq (.reg [⟨some 2, .mov (.con (.b false)), none⟩])
 .ret) .skip)))
 (.reg [oV 11 3, oT 12 11 1, oV 3 12]))))))
 (.seq (.reg [⟨some 2, .mov (.con (.b true)), none⟩])
 .ret)))), [.tmp 2]⟩
theorem c77 : zal Tryz.prog k77 [] Tryz.f77 = some a77 := by kernel_rfl
def k78 : Nat → List (Nat × H) := fun _ => []
def a78 : AFun := ⟨1, (.seq (.reg [⟨some 2, .mov (.con (.b false)), none⟩])
 (.seq (.reg [oV 3 0, ⟨some 4, .bin .eql (.tmp 3) (.con (.i .u8 (95))), none⟩, oV 5 4, qV 6 0 5, ⟨some 7, .bin .geq (.tmp 6) (.con (.i .u8 (97))), some (5, false)⟩, qV 8 7 5, pV 9 0 8, ⟨some 10, .bin .leq (.tmp 9) (.con (.i .u8 (122))), some (8, true)⟩, qQ 11 8 10 5, oP 12 5 11, oV 13 12, qV 14 0 13, ⟨some 15, .bin .geq (.tmp 14) (.con (.i .u8 (65))), some (13, false)⟩, qV 16 15 13, pV 17 0 16, ⟨some 18, .bin .leq (.tmp 17) (.con (.i .u8 (90))), some (16, true)⟩, qQ 19 16 18 13, oP 20 13 19, oV 2 20])
 .ret)), [.tmp 2]⟩
theorem c78 : zal Tryz.prog k78 [] Tryz.f78 = some a78 := by kernel_rfl
def k79 : Nat → List (Nat × H) := fun r => if r = 22 then [(2, .none), (3, .none), (6, .none)] else []
def a79 : AFun := ⟨2, (.seq (.reg [oB 2 0, oB 3 1, ⟨some 4, .mov (.con (.b false)), none⟩])
 (.seq (.seq (.reg [oM 7 3, ⟨some 8, .bin .gtr (.tmp 7) (.con (.i .i64 (8))), none⟩])
 (.cond (.tmp 8) (.seq (.reg [⟨some 4, .mov (.con (.b false)), none⟩])
 .ret) .skip))
 (.seq (.reg [oF 9 2 2, oM 10 9, ⟨some 11, .bin .eql (.tmp 10) (.con (.str [])), none⟩, oV 12 11, pF 13 3 2 12, pM 14 13 12, pN 15 14 12, pI 16 15 0 12, oQ 17 12 16, oV 5 17])
 (.seq (.seq (.reg [oF 18 0 2, oM 19 18])
 (.block 0 (.seq (.reg [oI 21 19 1, oV 20 21])
 (.cond (.tmp 20) (.seq (.reg [oV 22 5, oV 4 22])
 .ret) (.seq (.reg [oI 24 19 3, oV 23 24])
 (.cond (.tmp 23) (.seq (.reg [oV 25 5, oV 26 25, pF 27 1 2 26, pM 28 27 26, pI 29 28 0 26, pV 30 29 26, qF 31 1 2 30, qM 32 31 30, qI 33 32 1 30, pP 34 30 33 26, oQ 35 26 34, oV 4 35])
 .ret) (.seq (.seq (.reg [oI 37 19 6, oV 36 37])
 (.cond (.tmp 36) .skip (.reg [oI 38 19 7, oV 36 38])))
 (.cond (.tmp 36) (.seq (.reg [oV 39 5, oV 40 39, pF 41 1 2 40, pM 42 41 40, ⟨some 43, .bin .geq (.tmp 42) (.con (.i .i64 (1))), some (40, true)⟩, oQ 44 40 43, oV 45 44, pF 46 1 2 45, pM 47 46 45, ⟨some 48, .bin .leq (.tmp 47) (.con (.i .i64 (281474976710656))), some (45, true)⟩, oQ 49 45 48, oV 4 49])
 .ret) (.seq (.reg [oI 51 19 2, oV 50 51])
 (.cond (.tmp 50) (.seq (.reg [oF 52 1 2, oM 53 52, oI 54 53 0, oV 55 54, pF 56 3 2 55, pM 57 56 55, pN 58 57 55, pI 59 58 0 55, oQ 60 55 59, oV 61 60, pF 62 2 2 61, pM 63 62 61, ⟨some 64, .len true (.tmp 63), some (61, true)⟩, ⟨some 65, .bin .leq (.tmp 64) (.con (.i .i64 (128))), some (61, true)⟩, oQ 66 61 65, oV 4 66])
 .ret) (.seq (.reg [oI 68 19 4, oV 67 68])
 (.cond (.tmp 67) (.seq (.reg [oF 69 3 2, oM 70 69, oN 71 70, ⟨some 72, .bin .gtr (.tmp 71) (.con (.i .i64 (256))), none⟩])
 (.cond (.tmp 72) (.seq (.reg [⟨some 4, .mov (.con (.b false)), none⟩])
 .ret) .skip)) (.seq (.reg [oI 74 19 5, oV 73 74])
 (.cond (.tmp 73) (.seq (.seq (.reg [oF 75 3 2, oM 76 75, oN 77 76, ⟨some 78, .bin .gtr (.tmp 77) (.con (.i .i64 (512))), none⟩, oV 79 78, qF 80 3 2 79, qM 81 80 79, qN 82 81 79, ⟨some 83, .bin .rem (.tmp 82) (.con (.i .i64 (2))), some (79, false)⟩, qI 84 83 1 79, oP 85 79 84])
 (.cond (.tmp 85) (.seq (.reg [⟨some 4, .mov (.con (.b false)), none⟩])
 .ret) .skip))
 (.seq (.reg [oC 6 2])
 (.block 1 (.loop [(2, .none), (3, .none), (6, .none)] (.seq (.seq (.reg [oV 86 6, oF 87 3 2, oM 88 87, oN 89 88, oS 90 86 89])
 (.cond (.tmp 90) .skip (.exit 1)))
 (.seq (.block 2 (.seq (.draw [oF 93 3 2, oM 94 93, oV 95 6, ⟨some 96, .bin .sub (.tmp 95) (.con (.i .i64 (2))), none⟩, oA 97 4 94 96, oL 98 4 97, oF 99 3 2, oM 100 99, oV 101 6, oA 102 4 100 101, oL 103 4 102, oH 104 92 98 103, ⟨some 105, .bin .geq (.tmp 104) (.con (.i .i64 (0))), none⟩] [(1, 7), (4, 7), (5, 7), (1, 9), (4, 9), (5, 9), (1, 10), (4, 10), (5, 10)])
 (.cond (.tmp 105) (.seq (.reg [⟨some 4, .mov (.con (.b false)), none⟩])
 .ret) .skip)))
 (.reg [oV 91 6, oT 92 91 2, oV 6 92]))))))) (.seq (.reg [⟨some 4, .mov (.con (.b false)), none⟩])
 .ret)))))))))))))))
 (.seq (.reg [oF 106 1 2, oM 107 106, oI 108 107 0, oV 109 108, pF 110 2 2 109, pM 111 110 109, ⟨some 112, .bin .eql (.tmp 111) (.con (.str [])), some (109, true)⟩, oQ 113 109 112, oV 114 113, pF 115 3 2 114, pM 116 115 114, ⟨some 117, .mkfn 97 [(.tmp 3)], some (114, true)⟩, pH 118 96 116 117 114, pU 119 118 114, oQ 120 114 119, oV 4 120])
 .ret))))), [.tmp 4]⟩
theorem c79 : zal Tryz.prog k79 [] Tryz.f79 = some a79 := by kernel_rfl
def k80 : Nat → List (Nat × H) := fun _ => []
def a80 : AFun := ⟨1, (.seq (.reg [⟨some 2, .mov (.con (.sl .nil 0 [])), none⟩])
 (.seq (.seq (.reg [oV 3 0, ⟨some 4, .eqnil .sl false (.tmp 3), none⟩])
 (.cond (.tmp 4) (.seq (.reg [⟨some 2, .mov (.con (.sl .nil 0 [])), none⟩])
 .ret) .skip))
 (.seq (.reg [⟨some 5, .bslice 30 [(.i .i64 (0)), (.i .i64 (0)), (.str []), (.sl .nil 0 [])] 0 [], none⟩, oV 6 0, ⟨some 7, .app 30 4 (.tmp 5) (.tmp 6), none⟩, oV 2 7])
 .ret))), [.tmp 2]⟩
theorem c80 : zal Tryz.prog k80 [] Tryz.f80 = some a80 := by kernel_rfl
def k83 : Nat → List (Nat × H) := fun r => if r = 2 then [(2, .none), (3, .none), (6, .none)] else if r = 7 then [(2, .none), (3, .none), (7, .none)] else []
def a83 : AFun := ⟨2, (.seq (.reg [oB 2 0, oB 3 1, oC 4 0, oC 5 0])
 (.seq (.seq (.reg [oC 6 0])
 (.block 0 (.loop [(2, .none), (3, .none), (6, .none)] (.seq (.seq (.reg [oF 8 0 3, oM 9 8, oI 10 9 6, oV 11 10, pV 12 6 11, pF 13 0 2 11, pM 14 13 11, pN 15 14 11, pS 16 12 15 11, oQ 17 11 16])
 (.cond (.tmp 17) .skip (.exit 0)))
 (.seq (.block 1 (.seq (.draw [oF 20 0 2, oM 21 20, oV 22 6, oA 23 3 21 22, oF 24 0 23, oM 25 24, oF 26 1 3, oM 27 26, ⟨some 28, .bin .eql (.tmp 25) (.tmp 27), none⟩] [(1, 7), (3, 7), (5, 7)])
 (.cond (.tmp 28) (.seq (.reg [oV 29 6, oV 4 29, ⟨some 5, .mov (.con (.i .i64 (-1))), none⟩])
 .ret) .skip)))
 (.reg [oV 18 6, oT 19 18 1, oV 6 19]))))))
 (.seq (.seq (.reg [oC 7 0])
 (.block 2 (.loop [(2, .none), (3, .none), (7, .none)] (.seq (.seq (.reg [oF 30 0 3, oM 31 30, oI 32 31 7, oV 33 32, pV 34 7 33, pF 35 1 2 33, pM 36 35 33, pN 37 36 33, pS 38 34 37 33, oQ 39 33 38])
 (.cond (.tmp 39) .skip (.exit 2)))
 (.seq (.block 3 (.seq (.draw [oF 42 1 2, oM 43 42, oV 44 7, oA 45 5 43 44, oF 46 0 45, oM 47 46, oF 48 1 3, oM 49 48, ⟨some 50, .bin .eql (.tmp 47) (.tmp 49), none⟩] [(1, 7), (3, 7), (5, 7)])
 (.cond (.tmp 50) (.seq (.reg [oV 51 7, ⟨some 4, .mov (.con (.i .i64 (-1))), none⟩, oV 5 51])
 .ret) .skip)))
 (.reg [oV 40 7, oT 41 40 1, oV 7 41]))))))
 (.seq (.reg [⟨some 4, .mov (.con (.i .i64 (-1))), none⟩, ⟨some 5, .mov (.con (.i .i64 (-1))), none⟩])
 .ret)))), [.tmp 4, .tmp 5]⟩
theorem c83 : zal Tryz.prog k83 [] Tryz.f83 = some a83 := by kernel_rfl
def k84 : Nat → List (Nat × H) := fun _ => []
def a84 : AFun := ⟨2, (.seq (.reg [oB 2 0, ⟨some 4, .mov (.con (.b false)), none⟩])
 (.seq (.seq (.reg [oV 5 1, ⟨some 6, .bin .geq (.tmp 5) (.con (.i .i64 (8))), none⟩])
 (.cond (.tmp 6) (.seq (.reg [⟨some 4, .mov (.con (.b false)), none⟩])
 .ret) .skip))
 (.seq (.seq (.reg [oF 7 0 2, oM 8 7])
 (.block 0 (.seq (.reg [oI 10 8 1, oV 9 10])
 (.cond (.tmp 9) (.seq (.reg [oF 11 2 2, oM 12 11, ⟨some 13, .bin .eql (.tmp 12) (.con (.str [])), none⟩, oV 14 13, pF 15 3 2 14, pM 16 15 14, pN 17 16 14, pI 18 17 0 14, oQ 19 14 18, oV 4 19])
 .ret) (.seq (.reg [oI 21 8 3, oV 20 21])
 (.cond (.tmp 20) (.seq (.reg [oF 22 2 2, oM 23 22, ⟨some 24, .bin .eql (.tmp 23) (.con (.str [])), none⟩, oV 25 24, pF 26 3 2 25, pM 27 26 25, pN 28 27 25, pI 29 28 0 25, oQ 30 25 29, oV 31 30, pF 32 1 2 31, pM 33 32 31, pI 34 33 0 31, pV 35 34 31, qF 36 1 2 35, qM 37 36 35, qI 38 37 1 35, pP 39 35 38 31, oQ 40 31 39, oV 4 40])
 .ret) (.seq (.seq (.reg [oI 42 8 6, oV 41 42])
 (.cond (.tmp 41) .skip (.reg [oI 43 8 7, oV 41 43])))
 (.cond (.tmp 41) (.seq (.reg [oF 44 2 2, oM 45 44, ⟨some 46, .bin .eql (.tmp 45) (.con (.str [])), none⟩, oV 47 46, pF 48 3 2 47, pM 49 48 47, pN 50 49 47, pI 51 50 0 47, oQ 52 47 51, oV 53 52, pF 54 1 2 53, pM 55 54 53, ⟨some 56, .bin .geq (.tmp 55) (.con (.i .i64 (1))), some (53, true)⟩, oQ 57 53 56, oV 58 57, pF 59 1 2 58, pM 60 59 58, ⟨some 61, .bin .leq (.tmp 60) (.con (.i .i64 (281474976710656))), some (58, true)⟩, oQ 62 58 61, oV 4 62])
 .ret) (.seq (.reg [oI 64 8 2, oV 63 64])
 (.cond (.tmp 63) (.seq (.reg [oF 65 1 2, oM 66 65, oI 67 66 0, oV 68 67, pF 69 3 2 68, pM 70 69 68, pN 71 70 68, pI 72 71 0 68, oQ 73 68 72, oV 74 73, pF 75 2 2 74, pM 76 75 74, ⟨some 77, .len true (.tmp 76), some (74, true)⟩, ⟨some 78, .bin .leq (.tmp 77) (.con (.i .i64 (128))), some (74, true)⟩, oQ 79 74 78, oV 4 79])
 .ret) (.seq (.reg [oI 81 8 4, oV 80 81])
 (.cond (.tmp 80) (.seq (.reg [oF 82 1 2, oM 83 82, oI 84 83 0, oV 85 84, pF 86 2 2 85, pM 87 86 85, ⟨some 88, .bin .eql (.tmp 87) (.con (.str [])), some (85, true)⟩, oQ 89 85 88, oV 90 89, pF 91 3 2 90, pM 92 91 90, pN 93 92 90, ⟨some 94, .bin .leq (.tmp 93) (.con (.i .i64 (256))), some (90, true)⟩, oQ 95 90 94, oV 96 95, pF 97 3 2 96, pM 98 97 96, pV 99 1 96, pH 100 99 98 99 96, oQ 101 96 100, oV 4 101])
 .ret) (.seq (.reg [oI 103 8 5, oV 102 103])
 (.cond (.tmp 102) (.seq (.reg [oF 104 1 2, oM 105 104, oI 106 105 0, oV 107 106, pF 108 2 2 107, pM 109 108 107, ⟨some 110, .bin .eql (.tmp 109) (.con (.str [])), some (107, true)⟩, oQ 111 107 110, oV 112 111, pF 113 3 2 112, pM 114 113 112, pN 115 114 112, ⟨some 116, .bin .leq (.tmp 115) (.con (.i .i64 (512))), some (112, true)⟩, oQ 117 112 116, oV 118 117, pF 119 3 2 118, pM 120 119 118, pN 121 120 118, ⟨some 122, .bin .rem (.tmp 121) (.con (.i .i64 (2))), some (118, true)⟩, pI 123 122 0 118, oQ 124 118 123, oV 125 124, pF 126 3 2 125, pM 127 126 125, pV 128 1 125, pH 129 99 127 128 125, oQ 130 125 129, oV 131 130, pF 132 3 2 131, pM 133 132 131, pG 134 100 133 131, oQ 135 131 134, oV 4 135])
 .ret) .skip))))))))))))))
 (.seq (.reg [⟨some 4, .mov (.con (.b false)), none⟩])
 .ret)))), [.tmp 4]⟩
theorem c84 : zal Tryz.prog k84 [] Tryz.f84 = some a84 := by kernel_rfl
def k92 : Nat → List (Nat × H) := fun _ => []
def a92 : AFun := ⟨2, (.seq (.reg [oB 2 0, oB 3 1, oC 4 0])
 (.seq (.draw [oF 5 0 2, oM 6 5, oF 7 0 3, oM 8 7, oH 9 106 6 8, oF 10 1 2, oM 11 10, oF 12 1 3, oM 13 12, oH 14 107 11 13, oF 15 2 2, oM 16 15, oF 17 2 3, oM 18 17, oH 19 108 16 18, oF 20 3 2, oM 21 20, oF 22 3 3, oM 23 22, ⟨some 24, .call 109 [(.tmp 21), (.tmp 23), (.con (.fn 92 []))], none⟩, ⟨some 25, .bslice 3 [(.i .i64 (0))] 4 [(0, (.tmp 9)), (1, (.tmp 14)), (2, (.tmp 19)), (3, (.tmp 24))], none⟩, oG 26 105 25, oV 4 26] [(1, 3), (1, 6), (3, 6), (4, 6), (1, 8), (3, 8), (4, 8), (6, 8), (1, 11), (3, 11), (4, 11), (6, 11), (8, 11), (9, 11), (1, 13), (3, 13), (4, 13), (6, 13), (8, 13), (9, 13), (11, 13), (1, 16), (3, 16), (4, 16), (6, 16), (8, 16), (9, 16), (11, 16), (13, 16), (14, 16), (1, 18), (3, 18), (4, 18), (6, 18), (8, 18), (9, 18), (11, 18), (13, 18), (14, 18), (16, 18)])
 .ret)), [.tmp 4]⟩
theorem c92 : zal Tryz.prog k92 [] Tryz.f92 = some a92 := by kernel_rfl
def k93 : Nat → List (Nat × H) := fun _ => []
def a93 : AFun := ⟨2, (.seq (.reg [oB 2 0, oB 3 1, ⟨some 4, .mov (.con (.b false)), none⟩])
 (.seq (.reg [oL 5 4 2, oL 6 4 3, oH 7 110 5 6, oI 8 7 0, oV 4 8])
 .ret)), [.tmp 4]⟩
theorem c93 : zal Tryz.prog k93 [] Tryz.f93 = some a93 := by kernel_rfl
def k94 : Nat → List (Nat × H) := fun _ => []
def a94 : AFun := ⟨2, (.seq (.reg [oB 2 0, ⟨some 3, .mov (.con (.b false)), none⟩])
 (.seq (.reg [oF 4 0 2, oM 5 4, oM 6 1, ⟨some 7, .bin .eql (.tmp 5) (.tmp 6), none⟩, oV 3 7])
 .ret)), [.tmp 3]⟩
theorem c94 : zal Tryz.prog k94 [] Tryz.f94 = some a94 := by kernel_rfl
def k95 : Nat → List (Nat × H) := fun r => if r = 2 then [(0, .none), (1, .none), (7, .none), (8, .none)] else []
def a95 : AFun := ⟨2, (.seq (.reg [oC 4 0])
 (.seq (.seq (.reg [oV 6 0, oN 7 6, oC 8 0])
 (.block 0 (.loop [(0, .none), (1, .none), (7, .none), (8, .none)] (.seq (.reg [oS 9 8 7])
 (.seq (.cond (.tmp 9) .skip (.exit 0))
 (.seq (.block 1 (.seq (.reg [oV 10 8, oV 5 10])
 (.seq (.reg [oV 11 1, oV 12 0, oV 13 5, oA 14 1 12 13, oM 15 14, ⟨some 16, .bin .eql (.tmp 11) (.tmp 15), none⟩])
 (.cond (.tmp 16) (.seq (.reg [oV 17 5, oV 4 17])
 .ret) .skip))))
 (.reg [oT 18 8 1, oV 8 18])))))))
 (.seq (.reg [⟨some 4, .mov (.con (.i .i64 (-1))), none⟩])
 .ret))), [.tmp 4]⟩
theorem c95 : zal Tryz.prog k95 [] Tryz.f95 = some a95 := by kernel_rfl
def k96 : Nat → List (Nat × H) := fun _ => []
def a96 : AFun := ⟨2, (.seq (.reg [⟨some 4, .mov (.con (.b false)), none⟩])
 (.seq (.reg [oV 5 0, oV 6 1, oH 7 111 5 6, ⟨some 8, .bin .geq (.tmp 7) (.con (.i .i64 (0))), none⟩, oV 4 8])
 .ret)), [.tmp 4]⟩
theorem c96 : zal Tryz.prog k96 [] Tryz.f96 = some a96 := by kernel_rfl
def k97 : Nat → List (Nat × H) := fun _ => []
def a97 : AFun := ⟨2, (.seq (.reg [oB 2 0, ⟨some 3, .mov (.con (.b false)), none⟩])
 (.seq (.reg [oL 4 4 2, oM 5 1, oT 6 5 1, oH 7 79 4 6, oU 8 7, oV 3 8])
 .ret)), [.tmp 3]⟩
theorem c97 : zal Tryz.prog k97 [] Tryz.f97 = some a97 := by kernel_rfl
def k99 : Nat → List (Nat × H) := fun r => if r = 2 then [(0, .none), (1, .none), (5, .none)] else []
def a99 : AFun := ⟨2, (.seq (.reg [⟨some 4, .mov (.con (.b false)), none⟩])
 (.seq (.seq (.reg [oC 5 0])
 (.block 0 (.loop [(0, .none), (1, .none), (5, .none)] (.seq (.seq (.reg [oV 6 5, oV 7 0, oN 8 7, oS 9 6 8])
 (.cond (.tmp 9) .skip (.exit 0)))
 (.seq (.block 1 (.seq (.reg [oV 12 0, oV 13 5, oA 14 4 12 13, oL 15 4 14, oV 16 1, oT 17 16 1, oH 18 84 15 17, oU 19 18])
 (.cond (.tmp 19) (.seq (.reg [⟨some 4, .mov (.con (.b false)), none⟩])
 .ret) .skip)))
 (.reg [oV 10 5, oT 11 10 1, oV 5 11]))))))
 (.seq (.reg [⟨some 4, .mov (.con (.b true)), none⟩])
 .ret))), [.tmp 4]⟩
theorem c99 : zal Tryz.prog k99 [] Tryz.f99 = some a99 := by kernel_rfl
def k100 : Nat → List (Nat × H) := fun r => if r = 2 then [(0, .none), (3, .none)] else []
def a100 : AFun := ⟨1, (.seq (.reg [⟨some 2, .mov (.con (.b false)), none⟩])
 (.seq (.seq (.reg [oC 3 2])
 (.block 0 (.loop [(0, .none), (3, .none)] (.seq (.seq (.reg [oV 4 3, oV 5 0, oN 6 5, oS 7 4 6])
 (.cond (.tmp 7) .skip (.exit 0)))
 (.seq (.block 1 (.seq (.draw [oV 10 0, oV 11 3, ⟨some 12, .bin .sub (.tmp 11) (.con (.i .i64 (2))), none⟩, oA 13 4 10 12, oL 14 4 13, oV 15 0, oV 16 3, oA 17 4 15 16, oL 18 4 17, oH 19 110 14 18, ⟨some 20, .bin .geq (.tmp 19) (.con (.i .i64 (0))), none⟩] [(3, 7), (4, 7), (3, 8), (4, 8)])
 (.cond (.tmp 20) (.seq (.reg [⟨some 2, .mov (.con (.b false)), none⟩])
 .ret) .skip)))
 (.reg [oV 8 3, oT 9 8 2, oV 3 9]))))))
 (.seq (.reg [⟨some 2, .mov (.con (.b true)), none⟩])
 .ret))), [.tmp 2]⟩
theorem c100 : zal Tryz.prog k100 [] Tryz.f100 = some a100 := by kernel_rfl
def k105 : Nat → List (Nat × H) := fun r => if r = 3 then [(3, .none), (6, .none), (7, .none), (8, .none)] else []
def a105 : AFun := ⟨1, (.seq (.reg [oC 2 0])
 (.seq (.reg [oC 3 0])
 (.seq (.seq (.reg [oV 6 0, oN 7 6, oC 8 0])
 (.block 0 (.loop [(3, .none), (6, .none), (7, .none), (8, .none)] (.seq (.reg [oS 9 8 7])
 (.seq (.cond (.tmp 9) .skip (.exit 0))
 (.seq (.block 1 (.seq (.reg [oA 10 1 6 8, oM 11 10, oV 5 11])
 (.seq (.reg [oV 12 5, oV 13 3, ⟨some 14, .bin .neq (.tmp 12) (.tmp 13), none⟩])
 (.cond (.tmp 14) (.seq (.reg [oV 15 5, oV 2 15])
 .ret) .skip))))
 (.reg [oT 16 8 1, oV 8 16])))))))
 (.seq (.reg [oV 17 3, oV 2 17])
 .ret)))), [.tmp 2]⟩
theorem c105 : zal Tryz.prog k105 [] Tryz.f105 = some a105 := by kernel_rfl
def k106 : Nat → List (Nat × H) := fun _ => []
def a106 : AFun := ⟨2, (.seq (.reg [oC 4 0])
 (.seq (.reg [oV 7 0, oG 8 116 7, oV 5 8])
 (.seq (.reg [oV 9 1, oG 10 116 9, oV 6 10])
 (.seq (.seq (.reg [oV 11 5])
 (.cond (.tmp 11) (.seq (.seq (.reg [oV 12 6])
 (.cond (.tmp 12) (.seq (.reg [oC 4 0])
 .ret) .skip))
 (.seq (.reg [⟨some 4, .mov (.con (.i .i64 (-1))), none⟩])
 .ret)) .skip))
 (.seq (.seq (.reg [oV 13 6])
 (.cond (.tmp 13) (.seq (.reg [oC 4 1])
 .ret) .skip))
 (.seq (.seq (.reg [oV 14 0, oV 15 1, oS 16 14 15])
 (.cond (.tmp 16) (.seq (.reg [⟨some 4, .mov (.con (.i .i64 (-1))), none⟩])
 .ret) .skip))
 (.seq (.seq (.reg [oV 17 0, oV 18 1, ⟨some 19, .bin .gtr (.tmp 17) (.tmp 18), none⟩])
 (.cond (.tmp 19) (.seq (.reg [oC 4 1])
 .ret) .skip))
 (.seq (.reg [oC 4 0])
 .ret)))))))), [.tmp 4]⟩
theorem c106 : zal Tryz.prog k106 [] Tryz.f106 = some a106 := by kernel_rfl
def k107 : Nat → List (Nat × H) := fun _ => []
def a107 : AFun := ⟨2, (.seq (.reg [oC 4 0])
 (.seq (.reg [oV 7 0, oG 8 117 7, oV 5 8])
 (.seq (.reg [oV 9 1, oG 10 117 9, oV 6 10])
 (.seq (.seq (.reg [oV 11 5])
 (.cond (.tmp 11) (.seq (.seq (.reg [oV 12 6])
 (.cond (.tmp 12) (.seq (.reg [oC 4 0])
 .ret) .skip))
 (.seq (.reg [⟨some 4, .mov (.con (.i .i64 (-1))), none⟩])
 .ret)) .skip))
 (.seq (.seq (.reg [oV 13 6])
 (.cond (.tmp 13) (.seq (.reg [oC 4 1])
 .ret) .skip))
 (.seq (.seq (.reg [oV 14 0, oV 15 1, oS 16 14 15])
 (.cond (.tmp 16) (.seq (.reg [⟨some 4, .mov (.con (.i .i64 (-1))), none⟩])
 .ret) .skip))
 (.seq (.seq (.reg [oV 17 0, oV 18 1, ⟨some 19, .bin .gtr (.tmp 17) (.tmp 18), none⟩])
 (.cond (.tmp 19) (.seq (.reg [oC 4 1])
 .ret) .skip))
 (.seq (.reg [oC 4 0])
 .ret)))))))), [.tmp 4]⟩
theorem c107 : zal Tryz.prog k107 [] Tryz.f107 = some a107 := by kernel_rfl
def k108 : Nat → List (Nat × H) := fun _ => []
def a108 : AFun := ⟨2, (.seq (.reg [oC 4 0])
 (.seq (.reg [oV 5 0, oV 6 1, oH 7 118 5 6, oV 4 7])
 .ret)), [.tmp 4]⟩
theorem c108 : zal Tryz.prog k108 [] Tryz.f108 = some a108 := by kernel_rfl
def k109 : Nat → List (Nat × H) := fun r => if r = 2 then [(0, .none), (1, .none), (2, .none), (11, .none), (12, .none), (13, .none)] else []
def a109 : AFun := ⟨3, (.seq (.reg [oC 6 0])
 (.seq (.seq (.reg [oV 11 0, oN 12 11, oC 13 0])
 (.block 0 (.loop [(0, .none), (1, .none), (2, .none), (11, .none), (12, .none), (13, .none)] (.seq (.reg [oS 14 13 12])
 (.seq (.cond (.tmp 14) .skip (.exit 0))
 (.seq (.block 1 (.seq (.reg [oV 15 13, oA 16 4 11 13, oL 17 4 16, ⟨some 8, .alloc [(.i .i64 (0)), (.i .i64 (0)), (.str []), (.sl .nil 0 [])], none⟩, oV 7 15, oW 4 8 17])
 (.seq (.seq (.reg [oV 18 7, oV 19 1, oN 20 19, ⟨some 21, .bin .geq (.tmp 18) (.tmp 20), none⟩])
 (.cond (.tmp 21) (.seq (.reg [oC 6 1])
 .ret) .skip))
 (.seq (.reg [oV 22 1, oV 23 7, oA 24 4 22 23, oL 25 4 24, ⟨some 9, .alloc [(.i .i64 (0)), (.i .i64 (0)), (.str []), (.sl .nil 0 [])], none⟩, oW 4 9 25])
 (.seq (.reg [oV 26 2, oL 27 4 8, oL 28 4 9, ⟨some 29, .callv (.tmp 26) [(.tmp 27), (.tmp 28)], none⟩, oV 10 29])
 (.seq (.reg [oV 30 10, oJ 31 30 0])
 (.cond (.tmp 31) (.seq (.reg [oV 32 10, oV 6 32])
 .ret) .skip)))))))
 (.reg [oT 33 13 1, oV 13 33])))))))
 (.seq (.seq (.reg [oV 34 0, oN 35 34, oV 36 1, oN 37 36, oS 38 35 37])
 (.cond (.tmp 38) (.seq (.reg [⟨some 6, .mov (.con (.i .i64 (-1))), none⟩])
 .ret) .skip))
 (.seq (.reg [oC 6 0])
 .ret)))), [.tmp 6]⟩
theorem c109 : zal Tryz.prog k109 [] Tryz.f109 = some a109 := by kernel_rfl
def k110 : Nat → List (Nat × H) := fun r => if r = 11 then [(2, .none), (3, .none), (8, .none)] else []
def a110 : AFun := ⟨2, (.seq (.reg [oB 2 0, oB 3 1, oC 4 0])
 (.seq (.seq (.reg [oF 10 0 2, oM 11 10, oF 12 0 3, oM 13 12, oH 14 119 11 13, oV 5 14])
 (.seq (.reg [oV 15 5, oJ 16 15 0])
 (.cond (.tmp 16) (.seq (.reg [oV 17 5, oV 4 17])
 .ret) .skip)))
 (.seq (.seq (.reg [oF 18 1 2, oM 19 18, oF 20 1 3, oM 21 20, oH 22 119 19 21, oV 6 22])
 (.seq (.reg [oV 23 6, oJ 24 23 0])
 (.cond (.tmp 24) (.seq (.reg [oV 25 6, oV 4 25])
 .ret) .skip)))
 (.seq (.seq (.reg [oF 26 2 2, oM 27 26, oF 28 2 3, oM 29 28, oH 30 120 27 29, oV 7 30])
 (.seq (.reg [oV 31 7, oJ 32 31 0])
 (.cond (.tmp 32) (.seq (.reg [oV 33 7, oV 4 33])
 .ret) .skip)))
 (.seq (.seq (.reg [oC 8 0])
 (.block 0 (.loop [(2, .none), (3, .none), (8, .none)] (.seq (.seq (.reg [oV 34 8, oF 35 3 2, oM 36 35, oN 37 36, oS 38 34 37, oV 39 38, pV 40 8 39, pF 41 3 3 39, pM 42 41 39, pN 43 42 39, pS 44 40 43 39, oQ 45 39 44])
 (.cond (.tmp 45) .skip (.exit 0)))
 (.seq (.block 1 (.seq (.draw [oF 48 3 2, oM 49 48, oV 50 8, oA 51 4 49 50, oL 52 4 51, oF 53 3 3, oM 54 53, oV 55 8, oA 56 4 54 55, oL 57 4 56, oH 58 110 52 57, oV 9 58] [(1, 6), (3, 6), (4, 6), (1, 8), (3, 8), (4, 8), (1, 9), (3, 9), (4, 9)])
 (.seq (.reg [oV 59 9, oJ 60 59 0])
 (.cond (.tmp 60) (.seq (.reg [oV 61 9, oV 4 61])
 .ret) .skip))))
 (.reg [oV 46 8, oT 47 46 1, oV 8 47]))))))
 (.seq (.reg [oF 62 3 2, oM 63 62, oN 64 63, oF 65 3 3, oM 66 65, oN 67 66, oH 68 119 64 67, oV 4 68])
 .ret)))))), [.tmp 4]⟩
theorem c110 : zal Tryz.prog k110 [] Tryz.f110 = some a110 := by kernel_rfl
def k111 : Nat → List (Nat × H) := fun r => if r = 2 then [(0, .none), (1, .none), (7, .none), (8, .none)] else []
def a111 : AFun := ⟨2, (.seq (.reg [oC 4 0])
 (.seq (.seq (.reg [oV 6 0, oN 7 6, oC 8 0])
 (.block 0 (.loop [(0, .none), (1, .none), (7, .none), (8, .none)] (.seq (.reg [oS 9 8 7])
 (.seq (.cond (.tmp 9) .skip (.exit 0))
 (.seq (.block 1 (.seq (.reg [oV 10 8, oV 5 10])
 (.seq (.reg [oV 11 1, oV 12 0, oV 13 5, oA 14 4 12 13, oL 15 4 14, ⟨some 16, .callv (.tmp 11) [(.tmp 15)], none⟩])
 (.cond (.tmp 16) (.seq (.reg [oV 17 5, oV 4 17])
 .ret) .skip))))
 (.reg [oT 18 8 1, oV 8 18])))))))
 (.seq (.reg [⟨some 4, .mov (.con (.i .i64 (-1))), none⟩])
 .ret))), [.tmp 4]⟩
theorem c111 : zal Tryz.prog k111 [] Tryz.f111 = some a111 := by kernel_rfl
def k116 : Nat → List (Nat × H) := fun _ => []
def a116 : AFun := ⟨1, (.seq (.reg [⟨some 2, .mov (.con (.b false)), none⟩])
 (.seq (.reg [oV 3 0, oV 4 0, ⟨some 5, .bin .neq (.tmp 3) (.tmp 4), none⟩, oV 2 5])
 .ret)), [.tmp 2]⟩
theorem c116 : zal Tryz.prog k116 [] Tryz.f116 = some a116 := by kernel_rfl
def k117 : Nat → List (Nat × H) := fun _ => []
def a117 : AFun := ⟨1, (.seq (.reg [⟨some 2, .mov (.con (.b false)), none⟩])
 (.seq (.reg [oV 3 0, oV 4 0, ⟨some 5, .bin .neq (.tmp 3) (.tmp 4), none⟩, oV 2 5])
 .ret)), [.tmp 2]⟩
theorem c117 : zal Tryz.prog k117 [] Tryz.f117 = some a117 := by kernel_rfl
def k118 : Nat → List (Nat × H) := fun _ => []
def a118 : AFun := ⟨2, (.seq (.reg [oC 4 0])
 (.seq (.reg [oV 5 0, oV 6 1, oH 7 125 5 6, oV 4 7])
 .ret)), [.tmp 4]⟩
theorem c118 : zal Tryz.prog k118 [] Tryz.f118 = some a118 := by kernel_rfl
def k119 : Nat → List (Nat × H) := fun _ => []
def a119 : AFun := ⟨2, (.seq (.reg [oC 4 0])
 (.seq (.seq (.reg [oV 5 0, oV 6 1, oS 7 5 6])
 (.cond (.tmp 7) (.seq (.reg [⟨some 4, .mov (.con (.i .i64 (-1))), none⟩])
 .ret) .skip))
 (.seq (.seq (.reg [oV 8 0, oV 9 1, ⟨some 10, .bin .gtr (.tmp 8) (.tmp 9), none⟩])
 (.cond (.tmp 10) (.seq (.reg [oC 4 1])
 .ret) .skip))
 (.seq (.reg [oC 4 0])
 .ret)))), [.tmp 4]⟩
theorem c119 : zal Tryz.prog k119 [] Tryz.f119 = some a119 := by kernel_rfl
def k120 : Nat → List (Nat × H) := fun r => if r = 2 then [(0, .none), (1, .none), (5, .none)] else []
def a120 : AFun := ⟨2, (.seq (.reg [oC 4 0])
 (.seq (.seq (.reg [oC 5 0])
 (.block 0 (.loop [(0, .none), (1, .none), (5, .none)] (.seq (.seq (.reg [oV 6 5, oV 7 0, ⟨some 8, .len true (.tmp 7), none⟩, oS 9 6 8, oV 10 9, pV 11 5 10, pV 12 1 10, ⟨some 13, .len true (.tmp 12), some (10, true)⟩, pS 14 11 13 10, oQ 15 10 14])
 (.cond (.tmp 15) .skip (.exit 0)))
 (.seq (.block 1 (.seq (.draw [oV 18 0, oV 19 5, ⟨some 20, .idx (.tmp 18) (.tmp 19), none⟩, oV 21 1, oV 22 5, ⟨some 23, .idx (.tmp 21) (.tmp 22), none⟩, ⟨some 24, .bin .neq (.tmp 20) (.tmp 23), none⟩] [])
 (.cond (.tmp 24) (.seq (.draw [oV 25 0, oV 26 5, ⟨some 27, .idx (.tmp 25) (.tmp 26), none⟩, ⟨some 28, .conv (.int .i64) (.tmp 27), none⟩, oV 29 1, oV 30 5, ⟨some 31, .idx (.tmp 29) (.tmp 30), none⟩, ⟨some 32, .conv (.int .i64) (.tmp 31), none⟩, oH 33 119 28 32, oV 4 33] [])
 .ret) .skip)))
 (.reg [oV 16 5, oT 17 16 1, oV 5 17]))))))
 (.seq (.reg [oV 34 0, ⟨some 35, .len true (.tmp 34), none⟩, oV 36 1, ⟨some 37, .len true (.tmp 36), none⟩, oH 38 119 35 37, oV 4 38])
 .ret))), [.tmp 4]⟩
theorem c120 : zal Tryz.prog k120 [] Tryz.f120 = some a120 := by kernel_rfl
def k1000008 : Nat → List (Nat × H) := fun r => if r = 3 then [(1, .none), (2, .none), (3, .cells [.row 43 3]), (4, .none)] else if r = 9 then [(1, .none), (2, .none), (3, .cells [.none, .row 47 5]), (6, .none)] else []
def a1000008 : AFun := ⟨1, (.seq (.reg [oB 1 0, ⟨some 2, .alloc [(.sl .nil 0 []), (.sl .nil 0 []), (.i .i64 (0))], none⟩])
 (.seq (.reg [oF 8 2 1, oM 9 8, ⟨some 10, .build [(.sl .nil 0 []), (.sl .nil 0 []), (.i .i64 (0))] [(2, 1, (.tmp 9))], none⟩, ⟨some 3, .alloc [(.sl .nil 0 []), (.sl .nil 0 []), (.i .i64 (0))], none⟩, oW 3 3 10])
 (.seq (.seq (.reg [oC 4 0])
 (.block 0 (.loop [(1, .none), (2, .none), (3, .cells [.row 43 3]), (4, .none)] (.seq (.seq (.reg [oV 11 4, oF 12 0 1, oM 13 12, oN 14 13, oS 15 11 14])
 (.cond (.tmp 15) .skip (.exit 0)))
 (.seq (.block 1 (.seq (.reg [oF 18 0 1, oM 19 18, oV 20 4, oA 21 3 19 20, oL 22 3 21, ⟨some 5, .alloc [(.i .i64 (0)), (.str []), (.sl .nil 0 [])], none⟩, oW 3 5 22])
 (.seq (.reg [oF 23 2 5, oM 24 23, oG 25 29 24, oF 26 2 5, oW 1 26 25])
 (.reg [oF 27 0 3, oM 28 27, oL 29 3 5, ⟨some 30, .bslice 43 [(.i .i64 (0)), (.str []), (.sl .nil 0 [])] 1 [(0, (.tmp 29))], none⟩, ⟨some 31, .app 43 3 (.tmp 28) (.tmp 30), none⟩, oF 32 0 3, oW 1 32 31]))))
 (.reg [oV 16 4, oT 17 16 1, oV 4 17]))))))
 (.seq (.seq (.reg [oC 6 0])
 (.block 2 (.loop [(1, .none), (2, .none), (3, .cells [.none, .row 47 5]), (6, .none)] (.seq (.seq (.reg [oV 33 6, oF 34 1 1, oM 35 34, oN 36 35, oS 37 33 36])
 (.cond (.tmp 37) .skip (.exit 2)))
 (.seq (.block 3 (.seq (.reg [oF 40 1 1, oM 41 40, oV 42 6, oA 43 5 41 42, oL 44 5 43, ⟨some 7, .alloc [(.i .i64 (0)), (.str []), (.i .i64 (0)), (.i .i64 (0)), (.sl .nil 0 [])], none⟩, oW 5 7 44])
 (.seq (.reg [oF 45 4 7, oM 46 45, oG 47 29 46, oF 48 4 7, oW 1 48 47])
 (.reg [oF 49 1 3, oM 50 49, oL 51 5 7, ⟨some 52, .bslice 47 [(.i .i64 (0)), (.str []), (.i .i64 (0)), (.i .i64 (0)), (.sl .nil 0 [])] 1 [(0, (.tmp 51))], none⟩, ⟨some 53, .app 47 5 (.tmp 50) (.tmp 52), none⟩, oF 54 1 3, oW 1 54 53]))))
 (.reg [oV 38 6, oT 39 38 1, oV 6 39]))))))
 (.seq (.reg [oL 55 3 3, oW 3 2 55])
 .ret))))), [.cell 2 true 3]⟩
theorem c1000008 : zal Tryz.prog k1000008 [] Tryz.f8 = some a1000008 := by kernel_rfl
def k1000011 : Nat → List (Nat × H) := fun r => if r = 3 then [(1, .none), (2, .none), (3, .cells [.rowd 43 3]), (12, .none), (13, .none), (14, .none)] else if r = 8 then [(2, .none), (3, .cells [.none, .rowd 47 5]), (27, .none), (28, .none), (29, .none)] else if r = 999998 then [(22, .none), (23, .none), (37, .none), (38, .none)] else []
def a1000011 : AFun := ⟨1, (.seq (.reg [oB 1 0, ⟨some 2, .alloc [(.sl .nil 0 []), (.sl .nil 0 []), (.i .i64 (0))], none⟩])
 (.seq (.reg [oF 8 2 1, oM 9 8, ⟨some 10, .build [(.sl .nil 0 []), (.sl .nil 0 []), (.i .i64 (0))] [(2, 1, (.tmp 9))], none⟩, ⟨some 3, .alloc [(.sl .nil 0 []), (.sl .nil 0 []), (.i .i64 (0))], none⟩, oW 3 3 10])
 (.seq (.seq (.reg [oF 11 0 1, oM 12 11, oN 13 12, oC 14 0])
 (.block 0 (.loop [(1, .none), (2, .none), (3, .cells [.rowd 43 3]), (12, .none), (13, .none), (14, .none)] (.seq (.reg [oS 15 14 13])
 (.seq (.cond (.tmp 15) .skip (.exit 0))
 (.seq (.block 1 (.seq (.reg [oA 16 3 12 14, oL 17 3 16, ⟨some 5, .alloc [(.i .i64 (0)), (.str []), (.sl .nil 0 [])], none⟩, oW 3 5 17])
 (.draw [oF 18 0 3, oM 19 18, oL 20 3 5, oG 21 37 20, ⟨some 22, .bsliced 43 [(.i .i64 (0)), (.str []), (.sl .nil 0 [])] 1 [(0, (.tmp 21))], none⟩, ⟨some 23, .appd 43 3 (.tmp 19) (.tmp 22), none⟩, oF 24 0 3, oW 1 24 23] [(1, 2), (1, 3), (1, 4)])))
 (.reg [oT 25 14 1, oV 14 25])))))))
 (.seq (.seq (.reg [oF 26 1 1, oM 27 26, oN 28 27, oC 29 0])
 (.block 2 (.loop [(2, .none), (3, .cells [.none, .rowd 47 5]), (27, .none), (28, .none), (29, .none)] (.seq (.reg [oS 30 29 28])
 (.seq (.cond (.tmp 30) .skip (.exit 2))
 (.seq (.block 3 (.seq (.reg [oA 31 5 27 29, oL 32 5 31, ⟨some 7, .alloc [(.i .i64 (0)), (.str []), (.i .i64 (0)), (.i .i64 (0)), (.sl .nil 0 [])], none⟩, oW 5 7 32])
 (.draw [oF 33 1 3, oM 34 33, oL 35 5 7, oG 36 38 35, ⟨some 37, .bsliced 47 [(.i .i64 (0)), (.str []), (.i .i64 (0)), (.i .i64 (0)), (.sl .nil 0 [])] 1 [(0, (.tmp 36))], none⟩, ⟨some 38, .appd 47 5 (.tmp 34) (.tmp 37), none⟩, oF 39 1 3, oW 1 39 38] [(1, 2), (1, 3), (1, 4)])))
 (.reg [oT 40 29 1, oV 29 40])))))))
 (.seq (.reg [oL 41 3 3, oW 3 2 41])
 .ret))))), [.cell 2 true 3]⟩
theorem c1000011 : zal Tryz.prog k1000011 [] Tryz.f11 = some a1000011 := by kernel_rfl
def k1000039 : Nat → List (Nat × H) := fun _ => []
def a1000039 : AFun := ⟨2, (.seq (.reg [oB 2 0, oB 3 1, ⟨some 4, .mov (.con .nilp), none⟩])
 (.seq (.seq (.reg [oF 9 0 3, oM 10 9])
 (.block 0 (.seq (.reg [oI 12 10 6, oV 11 12])
 (.cond (.tmp 11) (.seq (.reg [oL 14 3 2, oF 15 1 3, oM 16 15, oH 17 41 14 16, oV 13 17, oE 18 13 0, oE 19 13 1, oV 5 18, oV 6 19])
 (.seq (.reg [oV 20 6])
 (.cond (.tmp 20) (.seq (.reg [oF 21 0 2, oM 22 21, oV 23 5, oA 24 3 22 23, oF 25 2 24, oV 4 25])
 .ret) .skip))) (.seq (.reg [oI 27 10 7, oV 26 27])
 (.cond (.tmp 26) (.seq (.reg [oL 29 3 2, oF 30 1 3, oM 31 30, oH 32 71 29 31, oV 28 32, oE 33 28 0, oE 34 28 1, oV 7 33, oV 8 34])
 (.seq (.reg [oV 35 8])
 (.cond (.tmp 35) (.seq (.reg [oF 36 1 2, oM 37 36, oV 38 7, oA 39 5 37 38, oF 40 4 39, oV 4 40])
 .ret) .skip))) .skip))))))
 (.seq (.reg [⟨some 4, .mov (.con .nilp), none⟩])
 .ret))), [.tmp 4]⟩
theorem c1000039 : zal Tryz.prog k1000039 [] Tryz.f39 = some a1000039 := by kernel_rfl
end Go.Proofs.YtgeaibhgaihobaaGreatDoor
