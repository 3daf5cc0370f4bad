/-
  Plain: values stand in a strict order; bags, how often a value is in one, and that a bag is told by that.
-/
import Derived.Test.YtabbjdclfmeipaaV3
import Derived.Test.YtabbjdclfmeipaaV4
set_option linter.unusedSimpArgs false
set_option linter.unusedVariables false
namespace Go.Proofs.Ytabbjdclfmeipaa
open Go.Abs

/-! ### the order -/
theorem cmpI_anti (a b : Int) : cmpI b a = - cmpI a b := by
  unfold cmpI
  repeat' split
  all_goals omega
theorem cmpI_tr {a b c : Int} : cmpI a b < 0 → cmpI b c < 0 → cmpI a c < 0 := by
  unfold cmpI
  repeat' split
  all_goals omega
theorem cmpB_anti : ∀ a b : List UInt8, Go.Lib.compareBytes b a = - Go.Lib.compareBytes a b
  | [], [] => by simp [Go.Lib.compareBytes]
  | [], b :: y => by simp [Go.Lib.compareBytes]
  | a :: x, [] => by simp [Go.Lib.compareBytes]
  | a :: x, b :: y => by
    rw [cmpB_cons, cmpB_cons, cmpB_anti x y, cmpI_anti]
    by_cases h : a = b
    · rw [if_pos h, if_pos h.symm]
    · rw [if_neg h, if_neg (Ne.symm h)]
theorem cmpB_tr : ∀ a b c : List UInt8, Go.Lib.compareBytes a b < 0 → Go.Lib.compareBytes b c < 0 → Go.Lib.compareBytes a c < 0
  | [], [], c => by simp [Go.Lib.compareBytes]
  | [], b :: y, [] => by simp [Go.Lib.compareBytes]
  | [], b :: y, c :: z => by simp [Go.Lib.compareBytes]
  | a :: x, [], c => by simp [Go.Lib.compareBytes]
  | a :: x, b :: y, [] => by simp [Go.Lib.compareBytes]
  | a :: x, b :: y, c :: z => by
    rw [cmpB_cons, cmpB_cons, cmpB_cons]
    by_cases h : a = b
    · subst h
      rw [if_pos rfl]
      by_cases h2 : a = c
      · subst h2
        rw [if_pos rfl, if_pos rfl]
        exact cmpB_tr x y z
      · rw [if_neg h2, if_neg h2]
        exact fun _ h => h
    · rw [if_neg h]
      by_cases h2 : b = c
      · subst h2
        rw [if_pos rfl, if_neg h]
        exact fun h _ => h
      · rw [if_neg h2]
        intro h3 h4
        have h5 := cmpI_tr h3 h4
        by_cases h6 : a = c
        · subst h6
          rw [cmpI_zero.2 rfl] at h5
          omega
        · rw [if_neg h6]
          exact h5
theorem first0_neg {a b : Int} : - first0 a b = first0 (-a) (-b) := by
  unfold first0
  split <;> split <;> omega
theorem first0_tr {x1 x2 x3 y1 y2 y3 : Int} (h0 : x1 = 0 → x3 = x2) (h1 : x2 = 0 → x3 = x1) (ht : x1 < 0 → x2 < 0 → x3 < 0) (hy : x1 = 0 → x2 = 0 → y1 < 0 → y2 < 0 → y3 < 0) :
    first0 x1 y1 < 0 → first0 x2 y2 < 0 → first0 x3 y3 < 0 := by
  unfold first0
  split <;> split <;> split <;> omega
mutual
theorem cmpV_anti : ∀ a b : PV, cmpV b a = - cmpV a b
  | .mk k n s l, .mk k' n' s' l' => by
    simp only [cmpV]
    rw [cmpI_anti, cmpI_anti n, cmpB_anti s, cmpL_anti l l']
    simp only [first0_neg]
theorem cmpL_anti : ∀ a b : List PV, cmpL b a = - cmpL a b
  | [], [] => by simp [cmpL]
  | [], _ :: _ => by simp [cmpL]
  | _ :: _, [] => by simp [cmpL]
  | a :: x, b :: y => by
    simp only [cmpL]
    rw [cmpV_anti a b, cmpL_anti x y]
    simp only [first0_neg]
end
mutual
theorem cmpV_tr : ∀ a b c : PV, cmpV a b < 0 → cmpV b c < 0 → cmpV a c < 0
  | .mk k n s l, .mk k' n' s' l', .mk k2 n2 s2 l2 => by
    simp only [cmpV]
    refine first0_tr (fun h => by rw [cmpI_zero.1 h]) (fun h => by rw [cmpI_zero.1 h]) cmpI_tr fun _ _ => ?_
    refine first0_tr (fun h => by rw [cmpI_zero.1 h]) (fun h => by rw [cmpI_zero.1 h]) cmpI_tr fun _ _ => ?_
    refine first0_tr (fun h => by rw [(cmpB_zero _ _).1 h]) (fun h => by rw [(cmpB_zero _ _).1 h]) (cmpB_tr _ _ _) fun _ _ => ?_
    exact cmpL_tr l l' l2
theorem cmpL_tr : ∀ a b c : List PV, cmpL a b < 0 → cmpL b c < 0 → cmpL a c < 0
  | [], [], c => by simp [cmpL]
  | [], b :: y, [] => by simp [cmpL]
  | [], b :: y, c :: z => by simp [cmpL]
  | a :: x, [], c => by simp [cmpL]
  | a :: x, b :: y, [] => by simp [cmpL]
  | a :: x, b :: y, c :: z => by
    simp only [cmpL]
    refine first0_tr (fun h => by rw [(cmpV_zero _ _).1 h]) (fun h => by rw [(cmpV_zero _ _).1 h]) (cmpV_tr a b c) fun _ _ => ?_
    exact cmpL_tr x y z
end
theorem cmpV_self (a : PV) : cmpV a a = 0 := (cmpV_zero a a).2 rfl
theorem cmpV_lt_irrefl {a : PV} : ¬ cmpV a a < 0 := by rw [cmpV_self]; omega
theorem cmpV_gt {a b : PV} : 0 < cmpV a b ↔ cmpV b a < 0 := by rw [cmpV_anti a b]; omega

/-! ### bags -/
abbrev PB := List (PV × Int)
def MC : Int := 9007199254740992
def totB : PB → Int
  | [] => 0
  | x :: r => x.2 + totB r
def cntB : PB → PV → Int
  | [], _ => 0
  | x :: r, v => (if cmpV x.1 v = 0 then x.2 else 0) + cntB r v
def putB (v : PV) (n : Int) : PB → PB
  | [] => [(v, n)]
  | x :: r => if cmpV x.1 v < 0 then x :: putB v n r else if cmpV x.1 v = 0 then (x.1, x.2 + n) :: r else (v, n) :: x :: r
def addB (b c : PB) : PB := c.foldl (fun b x => putB x.1 x.2 b) b
def scaleB (n : Int) (b : PB) : PB := b.map fun x => (x.1, x.2 * n)
def oneB (b : PB) : PB := b.map fun x => (x.1, 1)
/-- the place of a value in a bag -/
def posB (v : PV) : PB → Nat
  | [] => 0
  | x :: r => if cmpV x.1 v < 0 then posB v r + 1 else 0
def isB (v : PV) (b : PB) : Bool := match b[posB v b]? with | some x => decide (cmpV x.1 v = 0) | none => false
def geB (a b : Int) : Bool := decide (a ≤ b)
def ltP : Option PV → PV → Bool
  | none, _ => true
  | some q, v => decide (cmpV q v < 0)
theorem geB_t {a b : Int} (h : a ≤ b) : geB a b = true := decide_eq_true h
theorem geB_f {a b : Int} (h : ¬ a ≤ b) : geB a b = false := decide_eq_false h
def okF (left : Int) : Option PV → PB → Bool
  | _, [] => true
  | p, x :: r => geB 1 x.2 && geB x.2 left && mayV x.1 0 && ltP p x.1 && okF (left - x.2) (some x.1) r
def okB (b : PB) : Bool := okF MC none b
def mayB (b : PB) : PB := if okB b then b else []

def Srt (b : PB) : Prop := b.Pairwise fun x y => cmpV x.1 y.1 < 0
structure Ok (b : PB) : Prop where
  srt : Srt b
  pos : ∀ x ∈ b, 1 ≤ x.2
  may : ∀ x ∈ b, mayV x.1 0 = true
  tot : totB b ≤ MC
theorem tot_nonneg : ∀ {b : PB}, (∀ x ∈ b, 1 ≤ x.2) → 0 ≤ totB b
  | [], _ => by simp [totB]
  | x :: r, h => by
    have := tot_nonneg (b := r) fun y hy => h y (List.mem_cons_of_mem _ hy)
    have := h x (List.mem_cons_self ..)
    simp only [totB]; omega
theorem len_tot : ∀ {b : PB}, (∀ x ∈ b, 1 ≤ x.2) → (b.length : Int) ≤ totB b
  | [], _ => by simp [totB]
  | x :: r, h => by
    have := len_tot (b := r) fun y hy => h y (List.mem_cons_of_mem _ hy)
    have := h x (List.mem_cons_self ..)
    simp only [totB, List.length_cons]; omega
theorem okF_iff : ∀ (b : PB) (left : Int) (p : Option PV), okF left p b = true ↔ Srt b ∧ (∀ x ∈ b, 1 ≤ x.2) ∧ (∀ x ∈ b, mayV x.1 0 = true) ∧ (b = [] ∨ totB b ≤ left) ∧ (∀ q, p = some q → ∀ x ∈ b, cmpV q x.1 < 0)
  | [], left, p => by simp [okF, Srt, totB]
  | x :: r, left, p => by
    simp only [okF, geB, Bool.and_eq_true, decide_eq_true_eq, okF_iff r, Srt, List.pairwise_cons, List.forall_mem_cons, totB]
    constructor
    · rintro ⟨⟨⟨⟨h1, h2⟩, h3⟩, h4⟩, h5, h6, h7, h8, h9⟩
      refine ⟨⟨fun y hy => h9 _ rfl y hy, h5⟩, ⟨h1, h6⟩, ⟨h3, h7⟩, .inr ?_, ?_⟩
      · rcases h8 with rfl | h8
        · simp only [totB]; omega
        · omega
      · rintro q rfl
        have h4 : cmpV q x.1 < 0 := by simpa [ltP] using h4
        exact ⟨h4, fun y hy => cmpV_tr _ _ _ h4 (h9 _ rfl y hy)⟩
    · rintro ⟨⟨h1, h2⟩, ⟨h3, h4⟩, ⟨h5, h6⟩, h7, h8⟩
      have h7 : x.2 + totB r ≤ left := by
        rcases h7 with h | h
        · cases h
        · exact h
      have := tot_nonneg h4
      refine ⟨⟨⟨⟨h3, by omega⟩, h5⟩, ?_⟩, h2, h4, h6, .inr (by omega), fun q hq y hy => by cases hq; exact h1 y hy⟩
      cases p with
      | none => rfl
      | some q => exact decide_eq_true (h8 q rfl).1
theorem okB_iff (b : PB) : okB b = true ↔ Ok b := by
  unfold okB
  rw [okF_iff]
  constructor
  · rintro ⟨h1, h2, h3, h4, _⟩
    refine ⟨h1, h2, h3, ?_⟩
    rcases h4 with rfl | h4
    · simp [totB, MC]
    · exact h4
  · rintro ⟨h1, h2, h3, h4⟩
    exact ⟨h1, h2, h3, .inr h4, by simp⟩
theorem ok_nil : Ok [] := ⟨List.Pairwise.nil, by simp, by simp, by simp [totB, MC]⟩
theorem ok_mayB (b : PB) : Ok (mayB b) := by
  unfold mayB
  split
  · rename_i h; exact (okB_iff b).1 h
  · exact ok_nil
theorem mayB_ok {b : PB} (h : Ok b) : mayB b = b := if_pos ((okB_iff b).2 h)

/-! putting a value -/
theorem tot_put (v : PV) (n : Int) : ∀ b : PB, totB (putB v n b) = totB b + n
  | [] => by simp [putB, totB]
  | x :: r => by
    simp only [putB]
    split
    · simp only [totB, tot_put v n r]; omega
    · split <;> simp only [totB] <;> omega
theorem cnt_put (v : PV) (n : Int) (u : PV) : ∀ b : PB, cntB (putB v n b) u = cntB b u + if cmpV v u = 0 then n else 0
  | [] => by simp [putB, cntB]
  | x :: r => by
    simp only [putB]
    split
    · simp only [cntB, cnt_put v n u r]; omega
    · split
      · rename_i h1 h2
        have := (cmpV_zero _ _).1 h2
        subst this
        simp only [cntB]
        split <;> omega
      · simp only [cntB]; omega
theorem mem_put {v : PV} {n : Int} {y : PV × Int} : ∀ {b : PB}, y ∈ putB v n b → y = (v, n) ∨ y ∈ b ∨ ∃ m, (v, m) ∈ b ∧ y = (v, m + n)
  | [], h => by simp [putB] at h; exact .inl h
  | x :: r, h => by
    simp only [putB] at h
    split at h
    · rcases List.mem_cons.1 h with rfl | h
      · exact .inr (.inl (List.mem_cons_self ..))
      · rcases mem_put h with h | h | ⟨m, h, e⟩
        · exact .inl h
        · exact .inr (.inl (List.mem_cons_of_mem _ h))
        · exact .inr (.inr ⟨m, List.mem_cons_of_mem _ h, e⟩)
    · split at h
      · rename_i h2
        have e := (cmpV_zero _ _).1 h2
        rcases List.mem_cons.1 h with rfl | h
        · refine .inr (.inr ⟨x.2, ?_, by rw [e]⟩)
          rw [← e]; exact List.mem_cons_self ..
        · exact .inr (.inl (List.mem_cons_of_mem _ h))
      · rcases List.mem_cons.1 h with rfl | h
        · exact .inl rfl
        · exact .inr (.inl h)
theorem srt_put {v : PV} {n : Int} : ∀ {b : PB}, Srt b → Srt (putB v n b)
  | [], _ => by simp [putB, Srt]
  | x :: r, h => by
    simp only [Srt, List.pairwise_cons] at h
    simp only [putB]
    split
    · rename_i h1
      simp only [Srt, List.pairwise_cons]
      refine ⟨fun y hy => ?_, srt_put h.2⟩
      rcases mem_put hy with rfl | hy | ⟨m, hy, rfl⟩
      · exact h1
      · exact h.1 y hy
      · exact h1
    · split
      · simp only [Srt, List.pairwise_cons]
        exact h
      · rename_i h1 h2
        have h3 : cmpV v x.1 < 0 := cmpV_gt.1 (by omega)
        simp only [Srt, List.pairwise_cons, List.mem_cons]
        refine ⟨?_, h⟩
        rintro y (rfl | hy)
        · exact h3
        · exact cmpV_tr _ _ _ h3 (h.1 y hy)
theorem ok_put {v : PV} {n : Int} {b : PB} (h : Ok b) (hv : mayV v 0 = true) (hn : 1 ≤ n) (ht : totB b + n ≤ MC) : Ok (putB v n b) := by
  refine ⟨srt_put h.srt, ?_, ?_, by rw [tot_put]; exact ht⟩
  · intro y hy
    rcases mem_put hy with rfl | hy' | ⟨m, hy', rfl⟩
    · exact hn
    · exact h.pos y hy'
    · have := h.pos _ hy'
      simp only at this ⊢; omega
  · intro y hy
    rcases mem_put hy with rfl | hy' | ⟨m, hy', rfl⟩
    · exact hv
    · exact h.may y hy'
    · exact h.may (v, m) hy'
theorem len_put (v : PV) (n : Int) : ∀ b : PB, (putB v n b).length ≤ b.length + 1
  | [] => by simp [putB]
  | x :: r => by
    have := len_put v n r
    simp only [putB]
    split
    · simp only [List.length_cons]; omega
    · split <;> simp only [List.length_cons] <;> omega

/-! many -/
theorem addB_cons (b : PB) (x : PV × Int) (c : PB) : addB b (x :: c) = addB (putB x.1 x.2 b) c := rfl
theorem tot_add : ∀ (c b : PB), totB (addB b c) = totB b + totB c
  | [], b => by simp [addB, totB]
  | x :: c, b => by rw [addB_cons, tot_add c, tot_put]; simp only [totB]; omega
theorem cnt_add (u : PV) : ∀ (c b : PB), cntB (addB b c) u = cntB b u + cntB c u
  | [], b => by simp [addB, cntB]
  | x :: c, b => by rw [addB_cons, cnt_add u c, cnt_put]; simp only [cntB]; omega
theorem ok_add : ∀ {c b : PB}, Ok b → (∀ x ∈ c, 1 ≤ x.2) → (∀ x ∈ c, mayV x.1 0 = true) → totB b + totB c ≤ MC → Ok (addB b c)
  | [], b, h, _, _, _ => h
  | x :: c, b, h, h1, h2, h3 => by
    rw [addB_cons]
    have hc := tot_nonneg (b := c) fun y hy => h1 y (List.mem_cons_of_mem _ hy)
    have hx := h1 x (List.mem_cons_self ..)
    simp only [totB] at h3
    exact ok_add (ok_put h (h2 x (List.mem_cons_self ..)) hx (by omega)) (fun y hy => h1 y (List.mem_cons_of_mem _ hy)) (fun y hy => h2 y (List.mem_cons_of_mem _ hy)) (by rw [tot_put]; omega)
theorem len_add : ∀ (c b : PB), (addB b c).length ≤ b.length + c.length
  | [], b => by simp [addB]
  | x :: c, b => by
    rw [addB_cons]
    have := len_add c (putB x.1 x.2 b)
    have := len_put x.1 x.2 b
    simp only [List.length_cons]; omega
theorem tot_scale (n : Int) : ∀ b : PB, totB (scaleB n b) = totB b * n
  | [] => by simp [scaleB, totB]
  | x :: r => by
    have := tot_scale n r
    simp only [scaleB] at this
    simp only [scaleB, List.map_cons, totB, this, Int.add_mul]
theorem cnt_scale (n : Int) (u : PV) : ∀ b : PB, cntB (scaleB n b) u = cntB b u * n
  | [] => by simp [scaleB, cntB]
  | x :: r => by
    have := cnt_scale n u r
    simp only [scaleB] at this
    simp only [scaleB, List.map_cons, cntB, this, Int.add_mul]
    split <;> simp
theorem srt_map {f : PV × Int → Int} {b : PB} (h : Srt b) : Srt (b.map fun x => (x.1, f x)) := by
  unfold Srt at *
  rw [List.pairwise_map]
  exact h
theorem ok_scale {n : Int} {b : PB} (h : Ok b) (hn : 1 ≤ n) (ht : totB b * n ≤ MC) : Ok (scaleB n b) := by
  refine ⟨srt_map h.srt, ?_, ?_, by rw [tot_scale]; exact ht⟩
  · intro y hy
    obtain ⟨x, hx, rfl⟩ := List.mem_map.1 hy
    have h1 := h.pos x hx
    have := Int.mul_le_mul h1 hn (by omega) (by omega)
    simpa using this
  · intro y hy
    obtain ⟨x, hx, rfl⟩ := List.mem_map.1 hy
    exact h.may x hx

/-! a bag is told by how often each value is there -/
theorem cnt_above {v : PV} : ∀ {b : PB}, (∀ x ∈ b, cmpV v x.1 < 0) → cntB b v = 0
  | [], _ => rfl
  | x :: r, h => by
    have h1 := h x (List.mem_cons_self ..)
    have h2 : ¬ cmpV x.1 v = 0 := fun e => by rw [(cmpV_zero _ _).1 e, cmpV_self] at h1; omega
    simp only [cntB, if_neg h2, cnt_above fun y hy => h y (List.mem_cons_of_mem _ hy)]
    rfl
theorem bag_ext : ∀ {a b : PB}, Srt a → Srt b → (∀ x ∈ a, 1 ≤ x.2) → (∀ x ∈ b, 1 ≤ x.2) → (∀ v, cntB a v = cntB b v) → a = b
  | [], [], _, _, _, _, _ => rfl
  | [], x :: r, _, hb, _, hp, h => by
    simp only [Srt, List.pairwise_cons] at hb
    have h1 := h x.1
    simp only [cntB, cmpV_self, if_true, cnt_above hb.1] at h1
    have := hp x (List.mem_cons_self ..)
    omega
  | x :: r, [], ha, _, hp, _, h => by
    simp only [Srt, List.pairwise_cons] at ha
    have h1 := h x.1
    simp only [cntB, cmpV_self, if_true, cnt_above ha.1] at h1
    have := hp x (List.mem_cons_self ..)
    omega
  | x :: r, y :: q, ha, hb, hp, hq, h => by
    have ha0 := ha
    have hb0 := hb
    simp only [Srt, List.pairwise_cons] at ha hb
    have hx := hp x (List.mem_cons_self ..)
    have hy := hq y (List.mem_cons_self ..)
    have e : x.1 = y.1 := by
      rw [← cmpV_zero]
      have tri : cmpV x.1 y.1 < 0 ∨ cmpV x.1 y.1 = 0 ∨ 0 < cmpV x.1 y.1 := by omega
      rcases tri with hlt | heq | hgt
      · have h1 := h x.1
        have : cntB (y :: q) x.1 = 0 := cnt_above fun z hz => by
          rcases List.mem_cons.1 hz with rfl | hz
          · exact hlt
          · exact cmpV_tr _ _ _ hlt (hb.1 z hz)
        rw [this] at h1
        simp only [cntB, cmpV_self, if_true, cnt_above ha.1] at h1
        omega
      · exact heq
      · have hlt := cmpV_gt.1 hgt
        have h1 := h y.1
        have : cntB (x :: r) y.1 = 0 := cnt_above fun z hz => by
          rcases List.mem_cons.1 hz with rfl | hz
          · exact hlt
          · exact cmpV_tr _ _ _ hlt (ha.1 z hz)
        rw [this] at h1
        simp only [cntB, cmpV_self, if_true, cnt_above hb.1] at h1
        omega
    have e2 : x.2 = y.2 := by
      have h1 := h x.1
      simp only [cntB, cmpV_self, if_true, cnt_above ha.1] at h1
      rw [e] at h1
      simp only [cmpV_self, if_true, cnt_above hb.1] at h1
      omega
    have e3 : r = q := bag_ext ha.2 hb.2 (fun z hz => hp z (List.mem_cons_of_mem _ hz)) (fun z hz => hq z (List.mem_cons_of_mem _ hz)) fun v => by
      have h1 := h v
      simp only [cntB, e, e2] at h1
      omega
    obtain ⟨x1, x2⟩ := x
    obtain ⟨y1, y2⟩ := y
    simp only at e e2
    rw [e, e2, e3]
theorem add_comm' {a b : PB} (ha : Ok a) (hb : Ok b) (ht : totB a + totB b ≤ MC) : addB a b = addB b a := by
  have h1 := ok_add ha hb.pos hb.may ht
  have h2 := ok_add hb ha.pos ha.may (by omega)
  refine bag_ext h1.srt h2.srt h1.pos h2.pos fun v => ?_
  rw [cnt_add, cnt_add]; omega
theorem scale_add {a b : PB} {n : Int} (ha : Ok a) (hb : Ok b) (hn : 1 ≤ n) (ht : (totB a + totB b) * n ≤ MC) : scaleB n (addB a b) = addB (scaleB n a) (scaleB n b) := by
  have t1 := tot_nonneg ha.pos
  have t2 := tot_nonneg hb.pos
  have e : (totB a + totB b) * n = totB a * n + totB b * n := Int.add_mul ..
  have m1 : 0 ≤ totB a * n := Int.mul_nonneg t1 (by omega)
  have m2 : 0 ≤ totB b * n := Int.mul_nonneg t2 (by omega)
  have m3 : totB a + totB b ≤ (totB a + totB b) * n := by
    have := Int.mul_le_mul_of_nonneg_left hn (show 0 ≤ totB a + totB b by omega)
    omega
  have h1 := ok_scale (ok_add ha hb.pos hb.may (by omega)) hn (by rw [tot_add]; exact ht)
  have sb := ok_scale hb hn (by omega)
  have h2 := ok_add (ok_scale ha hn (by omega)) sb.pos sb.may (by rw [tot_scale, tot_scale]; omega)
  refine bag_ext h1.srt h2.srt h1.pos h2.pos fun v => ?_
  rw [cnt_add, cnt_scale, cnt_scale, cnt_scale, cnt_add, Int.add_mul]

/-! the place -/
theorem pos_le (v : PV) : ∀ b : PB, posB v b ≤ b.length
  | [] => by simp [posB]
  | x :: r => by
    have := pos_le v r
    simp only [posB]
    split <;> simp only [List.length_cons] <;> omega
theorem put_pos (v : PV) (n : Int) : ∀ b : PB, isB v b = false → putB v n b = b.take (posB v b) ++ (v, n) :: b.drop (posB v b)
  | [], _ => by simp [putB, posB]
  | x :: r, h => by
    by_cases h1 : cmpV x.1 v < 0
    · have h' : isB v r = false := by
        simp only [isB, posB, if_pos h1, List.getElem?_cons_succ] at h
        exact h
      simp only [putB, posB, if_pos h1, put_pos v n r h', List.take_succ_cons, List.drop_succ_cons, List.cons_append]
    · simp only [isB, posB, if_neg h1, List.getElem?_cons_zero, decide_eq_false_iff_not] at h
      simp only [putB, posB, if_neg h1, if_neg h, List.take_zero, List.drop_zero, List.nil_append]
theorem put_at (v : PV) (n : Int) : ∀ b : PB, isB v b = true → ∃ m, b[posB v b]? = some (v, m) ∧ putB v n b = b.set (posB v b) (v, m + n)
  | [], h => by simp [isB] at h
  | x :: r, h => by
    by_cases h1 : cmpV x.1 v < 0
    · have h' : isB v r = true := by
        simp only [isB, posB, if_pos h1, List.getElem?_cons_succ] at h
        exact h
      obtain ⟨m, e1, e2⟩ := put_at v n r h'
      exact ⟨m, by simp only [posB, if_pos h1, List.getElem?_cons_succ, e1], by simp only [putB, posB, if_pos h1, List.set_cons_succ, e2]⟩
    · simp only [isB, posB, if_neg h1, List.getElem?_cons_zero, decide_eq_true_eq] at h
      have e := (cmpV_zero _ _).1 h
      refine ⟨x.2, ?_, ?_⟩
      · simp only [posB, if_neg h1, List.getElem?_cons_zero]
        rw [← e]
      · simp only [putB, posB, if_neg h1, if_pos h, List.set_cons_zero]
        rw [← e]
/-- before the place all are less, from there on none is -/
theorem pos_lt (v : PV) : ∀ (b : PB) (i : Nat) (x : PV × Int), i < posB v b → b[i]? = some x → cmpV x.1 v < 0
  | [], i, x, h, _ => by simp [posB] at h
  | y :: r, i, x, h, hx => by
    simp only [posB] at h
    split at h
    · rename_i h1
      cases i with
      | zero => simp at hx; subst hx; exact h1
      | succ i => exact pos_lt v r i x (by omega) (by simpa using hx)
    · omega
theorem pos_ge (v : PV) : ∀ (b : PB), Srt b → ∀ (i : Nat) (x : PV × Int), posB v b ≤ i → b[i]? = some x → ¬ cmpV x.1 v < 0
  | [], _, i, x, _, hx => by simp at hx
  | y :: r, hs, i, x, h, hx => by
    simp only [Srt, List.pairwise_cons] at hs
    simp only [posB] at h
    split at h
    · cases i with
      | zero => omega
      | succ i => exact pos_ge v r hs.2 i x (by omega) (by simpa using hx)
    · rename_i h1
      cases i with
      | zero => simp at hx; subst hx; exact h1
      | succ i =>
        have hm := List.mem_of_getElem? (show r[i]? = some x by simpa using hx)
        have h2 := hs.1 x hm
        intro h3
        exact h1 (cmpV_tr _ _ _ h2 h3)
end Go.Proofs.Ytabbjdclfmeipaa
