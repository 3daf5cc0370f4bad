import Derived.Test.YtgeaibhgaihobaaDoorV1
set_option linter.unusedSimpArgs false
set_option linter.unusedVariables false
namespace Go.Proofs.YtgeaibhgaihobaaDoor
open Go.Abs
def risesV : List PV → Bool
  | a :: x :: b :: r => !decide (0 ≤ cmpV a b) && risesV (b :: r)
  | _ => true
mutual
def mayV : PV → Nat → Bool
  | .mk k n s l, d =>
    if (8 : Int) ≤ (d : Int) then false
    else if k = 1 then decide (s = []) && decide ((l.length : Int) = 0)
    else if k = 3 then decide (s = []) && decide ((l.length : Int) = 0) && (decide (n = 0) || decide (n = 1))
    else if k = 6 ∨ k = 7 then decide (s = []) && decide ((l.length : Int) = 0) && decide (1 ≤ n) && decide (n ≤ 281474976710656)
    else if k = 2 then decide (n = 0) && decide ((l.length : Int) = 0) && decide ((s.length : Int) ≤ 128)
    else if k = 4 then decide (n = 0) && decide (s = []) && decide ((l.length : Int) ≤ 256) && allV l (d + 1)
    else if k = 5 then decide (n = 0) && decide (s = []) && decide ((l.length : Int) ≤ 512) && decide (((l.length : Int)).tmod 2 = 0) && allV l (d + 1) && risesV l
    else false
def allV : List PV → Nat → Bool
  | [], _ => true
  | v :: r, d => mayV v d && allV r d
end
def letterI (c : Int) : Bool := decide (c = 95) || (decide (97 ≤ c) && decide (c ≤ 122)) || (decide (65 ≤ c) && decide (c ≤ 90))
def signI (c : Int) : Bool := letterI c || (decide (48 ≤ c) && decide (c ≤ 57))
def signsR (s : List UInt8) : Bool := s.all fun c => signI c.toNat
def nameR (s : List UInt8) : Bool := !(decide (s = []) || decide ((24 : Int) < (s.length : Int)) || !letterI ((s.headD 0).toNat : Int)) && signsR s
theorem Vl.ps_length (l : List Vl) : (Vl.ps l).length = l.length := by rw [Vl.ps_map, List.length_map]
end Go.Proofs.YtgeaibhgaihobaaDoor
