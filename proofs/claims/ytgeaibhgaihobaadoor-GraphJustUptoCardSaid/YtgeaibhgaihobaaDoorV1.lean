import Derived.Test.YtgeaibhgaihobaaDoorFd
set_option linter.unusedSimpArgs false
set_option linter.unusedVariables false
namespace Go.Proofs.YtgeaibhgaihobaaDoor
open Go.Abs
inductive PV where
  | mk (kind n : Int) (s : List UInt8) (l : List PV)
inductive Vl where
  | mk (kind n : Int) (s : List UInt8) (k : SK) (z : Nat) (l : List Vl)
  deriving Inhabited
mutual
def Vl.p : Vl → PV
  | .mk kind n s _ _ l => .mk kind n s (Vl.ps l)
def Vl.ps : List Vl → List PV
  | [] => []
  | v :: r => v.p :: Vl.ps r
end
mutual
def Vl.c : Vl → List AV
  | .mk kind n s k z l => [.i .i64 kind, .i .i64 n, .str s, .sl k z (Vl.cs l)]
def Vl.cs : List Vl → List (List AV)
  | [] => []
  | v :: r => v.c :: Vl.cs r
end
mutual
def Vl.ok : Vl → Prop
  | .mk _ _ s k z l => s.length ≤ 137438953472 ∧ l.length ≤ 137438953472 ∧ OkS k z 4 l ∧ Vl.oks l
def Vl.oks : List Vl → Prop
  | [] => True
  | v :: r => v.ok ∧ Vl.oks r
end
theorem Vl.cs_map : ∀ l : List Vl, Vl.cs l = l.map Vl.c
  | [] => rfl
  | v :: r => by simp only [Vl.cs, List.map_cons, Vl.cs_map r]
theorem Vl.ps_map : ∀ l : List Vl, Vl.ps l = l.map Vl.p
  | [] => rfl
  | v :: r => by simp only [Vl.ps, List.map_cons, Vl.ps_map r]
theorem Vl.oks_iff : ∀ l : List Vl, Vl.oks l ↔ ∀ x ∈ l, x.ok
  | [] => by simp [Vl.oks]
  | v :: r => by simp [Vl.oks, Vl.oks_iff r]
theorem Vl.oks_get {l : List Vl} (h : Vl.oks l) {i : Nat} {x : Vl} (hx : l[i]? = some x) : x.ok := (Vl.oks_iff l).1 h x (List.mem_of_getElem? hx)
mutual
def Vl.size : Vl → Nat
  | .mk _ _ _ _ _ l => Vl.sizes l + 1
def Vl.sizes : List Vl → Nat
  | [] => 0
  | v :: r => v.size + Vl.sizes r
end
theorem Vl.size_get : ∀ {l : List Vl} {i : Nat} {x : Vl}, l[i]? = some x → x.size ≤ Vl.sizes l
  | [], i, x, h => by simp at h
  | v :: r, 0, x, h => by simp at h; subst h; simp only [Vl.sizes]; omega
  | v :: r, i + 1, x, h => by
    have := Vl.size_get (l := r) (i := i) (by simpa using h)
    simp only [Vl.sizes]; omega
def cmpI (a b : Int) : Int := if a < b then -1 else if b < a then 1 else 0
def first0 (a b : Int) : Int := if a ≠ 0 then a else b
mutual
def cmpV : PV → PV → Int
  | .mk k n s l, .mk k' n' s' l' => first0 (cmpI k k') (first0 (cmpI n n') (first0 (Go.Lib.compareBytes s s') (cmpL l l')))
def cmpL : List PV → List PV → Int
  | [], [] => 0
  | [], _ :: _ => -1
  | _ :: _, [] => 1
  | a :: x, b :: y => first0 (cmpV a b) (cmpL x y)
end
theorem first0_zero {a b : Int} : first0 a b = 0 ↔ a = 0 ∧ b = 0 := by
  unfold first0
  split <;> omega
theorem cmpI_zero {a b : Int} : cmpI a b = 0 ↔ a = b := by
  unfold cmpI
  split
  · omega
  · split <;> omega
theorem cmpB_zero : ∀ (a b : List UInt8), Go.Lib.compareBytes a b = 0 ↔ a = b
  | [], [] => by simp [Go.Lib.compareBytes]
  | [], b :: bs => by simp [Go.Lib.compareBytes]
  | a :: as, [] => by simp [Go.Lib.compareBytes]
  | a :: as, b :: bs => by
    have ih := cmpB_zero as bs
    simp only [Go.Lib.compareBytes]
    by_cases h1 : a < b
    · have h3 : a ≠ b := by rintro rfl; exact absurd h1 (by simp)
      simp [h1, h3]
    · by_cases h2 : b < a
      · have h3 : a ≠ b := by rintro rfl; exact absurd h2 (by simp)
        simp [h1, h2, h3]
      · have h3 : a = b := by
          rw [UInt8.lt_iff_toNat_lt] at *
          exact UInt8.toNat_inj.1 (by omega)
        subst h3
        simp [ih]
mutual
theorem cmpV_zero : ∀ (a b : PV), cmpV a b = 0 ↔ a = b
  | .mk k n s l, .mk k' n' s' l' => by
    simp only [cmpV, first0_zero, cmpI_zero, cmpB_zero, cmpL_zero l l', PV.mk.injEq]
theorem cmpL_zero : ∀ (a b : List PV), cmpL a b = 0 ↔ a = b
  | [], [] => by simp [cmpL]
  | [], _ :: _ => by simp [cmpL]
  | _ :: _, [] => by simp [cmpL]
  | a :: x, b :: y => by simp only [cmpL, first0_zero, cmpV_zero a b, cmpL_zero x y, List.cons.injEq]
end
end Go.Proofs.YtgeaibhgaihobaaDoor
