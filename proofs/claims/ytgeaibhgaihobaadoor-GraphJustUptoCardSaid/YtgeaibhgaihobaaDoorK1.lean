import Derived.Test.YtgeaibhgaihobaaDoorG4
import Derived.Test.YtgeaibhgaihobaaDoorJ9
set_option linter.unusedSimpArgs false
set_option linter.unusedVariables false
set_option maxHeartbeats 8000000
set_option maxRecDepth 100000
namespace Go.Proofs.YtgeaibhgaihobaaDoor
open Go.Abs
theorem bl_irr : ∀ a : List UInt8, Op.bytesLess a a = false
  | [] => rfl
  | a :: x => by simp [Op.bytesLess, bl_irr x]
theorem bl_tri : ∀ {a b : List UInt8}, Op.bytesLess a b = false → Op.bytesLess b a = false → a = b
  | [], [], _, _ => rfl
  | [], b :: y, h, _ => by simp [Op.bytesLess] at h
  | a :: x, [], _, h => by simp [Op.bytesLess] at h
  | a :: x, b :: y, h, h' => by
    simp only [Op.bytesLess, Bool.or_eq_false_iff, decide_eq_false_iff_not, Bool.and_eq_false_iff, beq_eq_false_iff_ne, ne_eq] at h h'
    have e : a = b := by
      have h1 := h.1
      have h2 := h'.1
      rw [UInt8.lt_iff_toNat_lt] at h1 h2
      exact UInt8.toNat_inj.1 (by omega)
    subst e
    rw [bl_tri (h.2.resolve_left fun k => k rfl) (h'.2.resolve_left fun k => k rfl)]
theorem bl_trans : ∀ {a b c : List UInt8}, Op.bytesLess a b = true → Op.bytesLess b c = true → Op.bytesLess a c = true
  | [], [], _, h, _ => by simp [Op.bytesLess] at h
  | a :: x, [], _, h, _ => by simp [Op.bytesLess] at h
  | _, b :: y, [], _, h => by simp [Op.bytesLess] at h
  | [], b :: y, c :: z, _, _ => by simp [Op.bytesLess]
  | a :: x, b :: y, c :: z, h, h' => by
    simp only [Op.bytesLess, Bool.or_eq_true, decide_eq_true_eq, Bool.and_eq_true, beq_iff_eq] at h h' ⊢
    rcases h with h | ⟨rfl, h⟩
    · rcases h' with h' | ⟨rfl, h'⟩
      · exact .inl (by rw [UInt8.lt_iff_toNat_lt] at *; omega)
      · exact .inl h
    · rcases h' with h' | ⟨rfl, h'⟩
      · exact .inl h'
      · exact .inr ⟨rfl, bl_trans h h'⟩
theorem bl_asy {a b : List UInt8} (h : Op.bytesLess a b = true) : Op.bytesLess b a = false := by
  cases hb : Op.bytesLess b a with
  | false => rfl
  | true => have := bl_trans h hb; rw [bl_irr] at this; cases this
abbrev PPs := List (List UInt8 × PV)
def isN (nm : List UInt8) (x : List UInt8 × PV) : Bool := decide (x.1 = nm)
def putP (nm : List UInt8) (v : PV) : PPs → PPs
  | [] => [(nm, v)]
  | x :: r => if Op.bytesLess x.1 nm = true then x :: putP nm v r else if x.1 = nm then (nm, v) :: r else (nm, v) :: x :: r
def delP (nm : List UInt8) (l : PPs) : PPs := l.filter fun x => !isN nm x
theorem badPs_cons {q : Option (List UInt8)} {x : List UInt8 × PV} {r : PPs} : badPs q (x :: r) = false ↔ nameB x.1 = true ∧ notBehind q x.1 = false ∧ mayV x.2 0 = true ∧ badPs (some x.1) r = false := by
  simp only [badPs, Bool.or_eq_false_iff, Bool.not_eq_false', and_assoc]
theorem badPs_put {nm : List UInt8} {v : PV} (hn : nameB nm = true) (hv : mayV v 0 = true) : ∀ {l : PPs} {q : Option (List UInt8)}, badPs q l = false → notBehind q nm = false → badPs q (putP nm v l) = false
  | [], q, h, hq => by
    simp only [putP]
    exact badPs_cons.2 ⟨hn, hq, hv, rfl⟩
  | x :: r, q, h, hq => by
    obtain ⟨h1, h2, h3, h4⟩ := badPs_cons.1 h
    simp only [putP]
    by_cases hl : Op.bytesLess x.1 nm = true
    · rw [if_pos hl]
      exact badPs_cons.2 ⟨h1, h2, h3, badPs_put hn hv h4 (by simp only [notBehind, hl, Bool.not_true])⟩
    · rw [if_neg hl]
      by_cases he : x.1 = nm
      · rw [if_pos he]
        exact badPs_cons.2 ⟨hn, hq, hv, by rw [← he]; exact h4⟩
      · rw [if_neg he]
        refine badPs_cons.2 ⟨hn, hq, hv, badPs_cons.2 ⟨h1, ?_, h3, h4⟩⟩
        cases hb : Op.bytesLess nm x.1 with
        | true => simp only [notBehind, hb, Bool.not_true]
        | false => exact absurd (bl_tri (by simpa using hl) hb) he
theorem badPs_weak {b : List UInt8} {q : Option (List UInt8)} (hq : notBehind q b = false) : ∀ {l : PPs}, badPs (some b) l = false → badPs q l = false
  | [], _ => rfl
  | x :: r, h => by
    obtain ⟨h1, h2, h3, h4⟩ := badPs_cons.1 h
    refine badPs_cons.2 ⟨h1, ?_, h3, h4⟩
    cases q with
    | none => rfl
    | some a =>
      simp only [notBehind, Bool.not_eq_false'] at hq h2 ⊢
      exact bl_trans hq h2
theorem badPs_above {b : List UInt8} : ∀ {l : PPs}, badPs (some b) l = false → ∀ y ∈ l, Op.bytesLess b y.1 = true
  | [], _, y, hy => by simp at hy
  | x :: r, h, y, hy => by
    obtain ⟨h1, h2, h3, h4⟩ := badPs_cons.1 h
    simp only [notBehind, Bool.not_eq_false'] at h2
    rcases List.mem_cons.1 hy with rfl | hy
    · exact h2
    · exact bl_trans h2 (badPs_above h4 y hy)
theorem delP_cons (nm : List UInt8) (x : List UInt8 × PV) (r : PPs) : delP nm (x :: r) = if x.1 = nm then delP nm r else x :: delP nm r := by
  simp only [delP, List.filter_cons, isN]
  by_cases h : x.1 = nm <;> simp [h]
theorem badPs_del {nm : List UInt8} : ∀ {l : PPs} {q : Option (List UInt8)}, badPs q l = false → badPs q (delP nm l) = false
  | [], q, _ => rfl
  | x :: r, q, h => by
    obtain ⟨h1, h2, h3, h4⟩ := badPs_cons.1 h
    rw [delP_cons]
    split
    · exact badPs_weak h2 (badPs_del h4)
    · exact badPs_cons.2 ⟨h1, h2, h3, badPs_del h4⟩
theorem delP_len (nm : List UInt8) (l : PPs) : (delP nm l).length ≤ l.length := List.length_filter_le ..
theorem delP_self {nm : List UInt8} {l : PPs} (h : ∀ y ∈ l, isN nm y = false) : delP nm l = l := List.filter_eq_self.2 fun y hy => by rw [h y hy]; rfl
theorem delP_none {nm : List UInt8} {l : PPs} (h : l.find? (isN nm) = none) : delP nm l = l := delP_self fun y hy => by simpa using List.find?_eq_none.1 h y hy
theorem find_del (nm : List UInt8) (l : PPs) : (delP nm l).find? (isN nm) = none := by
  rw [List.find?_eq_none]
  intro y hy
  have := (List.mem_filter.1 hy).2
  simpa using this
theorem del_put (nm : List UInt8) (v : PV) : ∀ l : PPs, delP nm (putP nm v l) = delP nm l
  | [] => by simp only [putP, delP_cons, if_true]
  | x :: r => by
    simp only [putP]
    by_cases hl : Op.bytesLess x.1 nm = true
    · rw [if_pos hl, delP_cons, delP_cons, del_put nm v r]
    · rw [if_neg hl]
      by_cases he : x.1 = nm
      · rw [if_pos he, delP_cons, delP_cons, if_pos rfl, if_pos he]
      · rw [if_neg he, delP_cons, if_pos rfl]
theorem find_put (nm : List UInt8) (v : PV) : ∀ l : PPs, (putP nm v l).find? (isN nm) = some (nm, v)
  | [] => by simp [putP, isN]
  | x :: r => by
    simp only [putP]
    by_cases hl : Op.bytesLess x.1 nm = true
    · have hne : isN nm x = false := decide_eq_false fun e => by rw [e, bl_irr] at hl; cases hl
      rw [if_pos hl, List.find?_cons, hne]
      exact find_put nm v r
    · rw [if_neg hl]
      by_cases he : x.1 = nm
      · rw [if_pos he]; simp [isN]
      · rw [if_neg he]; simp [isN]
theorem put_del {nm : List UInt8} {z : List UInt8 × PV} : ∀ {l : PPs} {q : Option (List UInt8)}, badPs q l = false → l.find? (isN nm) = some z → putP nm z.2 (delP nm l) = l
  | [], _, _, h => by simp at h
  | x :: r, q, hb, h => by
    obtain ⟨h1, h2, h3, h4⟩ := badPs_cons.1 hb
    have hab := badPs_above h4
    rw [List.find?_cons] at h
    by_cases he : x.1 = nm
    · have hi : isN nm x = true := decide_eq_true he
      rw [hi] at h
      obtain rfl : x = z := by simpa using h
      subst he
      rw [delP_cons, if_pos rfl, delP_self fun y hy => decide_eq_false fun e => by have := hab y hy; rw [e, bl_irr] at this; cases this]
      cases r with
      | nil => rfl
      | cons y r =>
        have hy := hab y (List.mem_cons_self ..)
        simp only [putP]
        rw [if_neg (by rw [bl_asy hy]; decide), if_neg fun e => by rw [e, bl_irr] at hy; cases hy]
    · have hi : isN nm x = false := decide_eq_false he
      rw [hi] at h
      have hm := List.mem_of_find?_eq_some h
      have hz : z.1 = nm := by
        have : isN nm z = true := List.find?_some (p := isN nm) (l := r) h
        exact of_decide_eq_true this
      have hl : Op.bytesLess x.1 nm = true := by rw [← hz]; exact hab z hm
      rw [delP_cons, if_neg he]
      simp only [putP]
      rw [if_pos hl, put_del h4 h]
theorem delP_less {nm : List UInt8} {l : PPs} {z : List UInt8 × PV} (h : l.find? (isN nm) = some z) : (delP nm l).length < l.length := by
  have := List.length_filter_lt_length_iff_exists (p := fun x => !isN nm x) (l := l)
  exact this.2 ⟨z, List.mem_of_find?_eq_some h, by rw [List.find?_some h]; decide⟩
def updV (i : Nat) (P : PPs) : List PVx → List PVx
  | [] => []
  | x :: r => match i with | 0 => { x with props := P } :: r | i + 1 => x :: updV i P r
theorem updV_upd (P Q : PPs) : ∀ (l : List PVx) (i : Nat), updV i Q (updV i P l) = updV i Q l
  | [], _ => by simp only [updV]
  | x :: r, 0 => rfl
  | x :: r, i + 1 => by simp only [updV, updV_upd P Q r i]
theorem updV_at : ∀ (l : List PVx) (i : Nat) (x : PVx), l[i]? = some x → updV i x.props l = l
  | [], _, _, h => by simp at h
  | y :: r, 0, x, h => by
    obtain rfl : y = x := by simpa using h
    rfl
  | y :: r, i + 1, x, h => by simp only [updV]; rw [updV_at r i x (by simpa using h)]
theorem updV_len (P : PPs) : ∀ (l : List PVx) (i : Nat), (updV i P l).length = l.length
  | [], _ => by simp only [updV]
  | y :: r, 0 => rfl
  | y :: r, i + 1 => by simp only [updV, List.length_cons, updV_len P r i]
theorem updV_get (P : PPs) : ∀ (l : List PVx) (i : Nat), (updV i P l)[i]? = (l[i]?).map fun x => { x with props := P }
  | [], _ => by simp only [updV, List.getElem?_nil, Option.map_none]
  | y :: r, 0 => rfl
  | y :: r, i + 1 => by simp only [updV, List.getElem?_cons_succ, updV_get P r i]
theorem updV_idx (P : PPs) (n : Int) : ∀ (l : List PVx) (i k : Nat), idxJ (fun x : PVx => decide (x.id = n)) (updV i P l) k = idxJ (fun x : PVx => decide (x.id = n)) l k
  | [], _, _ => by simp only [updV]
  | y :: r, 0, k => rfl
  | y :: r, i + 1, k => by simp only [updV, idxJ, updV_idx P n r i]
theorem updV_set {vs : List Vx} (y : Vx) (P : PPs) (hP : y.props.map tagP = P) : ∀ {l : List Vx} {i : Nat} {x : Vx}, l[i]? = some x → y.id = x.id ∧ y.label = x.label → (l.set i y).map Vx.p = updV i P (l.map Vx.p)
  | [], _, _, h, _ => by simp at h
  | z :: r, 0, x, h, he => by
    obtain rfl : z = x := by simpa using h
    obtain ⟨e1, e2⟩ := he
    simp only [List.set_cons_zero, List.map_cons, updV, Vx.p, hP, e1, e2]
  | z :: r, i + 1, x, h, he => by simp only [List.set_cons_succ, List.map_cons, updV, updV_set (vs := vs) y P hP (l := r) (i := i) (x := x) (by simpa using h) he]
def updE (i : Nat) (P : PPs) : List PLk → List PLk
  | [] => []
  | x :: r => match i with | 0 => { x with props := P } :: r | i + 1 => x :: updE i P r
theorem updE_upd (P Q : PPs) : ∀ (l : List PLk) (i : Nat), updE i Q (updE i P l) = updE i Q l
  | [], _ => by simp only [updE]
  | x :: r, 0 => rfl
  | x :: r, i + 1 => by simp only [updE, updE_upd P Q r i]
theorem updE_at : ∀ (l : List PLk) (i : Nat) (x : PLk), l[i]? = some x → updE i x.props l = l
  | [], _, _, h => by simp at h
  | y :: r, 0, x, h => by
    obtain rfl : y = x := by simpa using h
    rfl
  | y :: r, i + 1, x, h => by simp only [updE]; rw [updE_at r i x (by simpa using h)]
theorem updE_len (P : PPs) : ∀ (l : List PLk) (i : Nat), (updE i P l).length = l.length
  | [], _ => by simp only [updE]
  | y :: r, 0 => rfl
  | y :: r, i + 1 => by simp only [updE, List.length_cons, updE_len P r i]
theorem updE_get (P : PPs) : ∀ (l : List PLk) (i : Nat), (updE i P l)[i]? = (l[i]?).map fun x => { x with props := P }
  | [], _ => by simp only [updE, List.getElem?_nil, Option.map_none]
  | y :: r, 0 => rfl
  | y :: r, i + 1 => by simp only [updE, List.getElem?_cons_succ, updE_get P r i]
theorem updE_idx (P : PPs) (n : Int) : ∀ (l : List PLk) (i k : Nat), idxJ (fun x : PLk => decide (x.id = n)) (updE i P l) k = idxJ (fun x : PLk => decide (x.id = n)) l k
  | [], _, _ => by simp only [updE]
  | y :: r, 0, k => rfl
  | y :: r, i + 1, k => by simp only [updE, idxJ, updE_idx P n r i]
theorem updE_set {es : List Lk} (y : Lk) (P : PPs) (hP : y.props.map tagP = P) : ∀ {l : List Lk} {i : Nat} {x : Lk}, l[i]? = some x → y.id = x.id ∧ y.label = x.label ∧ y.out = x.out ∧ y.inn = x.inn → (l.set i y).map Lk.p = updE i P (l.map Lk.p)
  | [], _, _, h, _ => by simp at h
  | z :: r, 0, x, h, he => by
    obtain rfl : z = x := by simpa using h
    obtain ⟨e1, e2, e3, e4⟩ := he
    simp only [List.set_cons_zero, List.map_cons, updE, Lk.p, hP, e1, e2, e3, e4]
  | z :: r, i + 1, x, h, he => by simp only [List.set_cons_succ, List.map_cons, updE, updE_set (es := es) y P hP (l := r) (i := i) (x := x) (by simpa using h) he]
theorem badVs_upd {P : PPs} (hP : badProps P = false) {top : Int} : ∀ {l : List PVx} {i : Nat} {last : Int}, badVs top last l = false → badVs top last (updV i P l) = false
  | [], _, _, _ => by simp only [updV, badVs]
  | y :: r, 0, last, h => by
    simp only [badVs, Bool.or_eq_false_iff, badVx, bvx] at h
    simp only [updV, badVs, Bool.or_eq_false_iff, badVx, bvx, hP]
    exact ⟨⟨h.1.1, h.1.2.1, h.1.2.2.1, trivial⟩, h.2⟩
  | y :: r, i + 1, last, h => by
    simp only [badVs, Bool.or_eq_false_iff] at h
    simp only [updV, badVs, Bool.or_eq_false_iff]
    exact ⟨h.1, badVs_upd hP h.2⟩
theorem badEs_upd {ids : Int → Bool} {P : PPs} (hP : badProps P = false) {top : Int} : ∀ {l : List PLk} {i : Nat} {last : Int}, badEs ids top last l = false → badEs ids top last (updE i P l) = false
  | [], _, _, _ => by simp only [updE, badEs]
  | y :: r, 0, last, h => by
    simp only [badEs, Bool.or_eq_false_iff, badLk, blk] at h
    simp only [updE, badEs, Bool.or_eq_false_iff, badLk, blk, hP]
    exact ⟨⟨h.1.1, h.1.2.1, h.1.2.2.1, trivial, h.1.2.2.2.2⟩, h.2⟩
  | y :: r, i + 1, last, h => by
    simp only [badEs, Bool.or_eq_false_iff] at h
    simp only [updE, badEs, Bool.or_eq_false_iff]
    exact ⟨h.1, badEs_upd hP h.2⟩
theorem badVs_at {top : Int} : ∀ {l : List PVx} {i : Nat} {last : Int} {x : PVx}, badVs top last l = false → l[i]? = some x → badProps x.props = false
  | [], _, _, _, _, h => by simp at h
  | y :: r, 0, last, x, h, hx => by
    obtain rfl : y = x := by simpa using hx
    simp only [badVs, Bool.or_eq_false_iff, badVx, bvx] at h
    exact h.1.2.2.2
  | y :: r, i + 1, last, x, h, hx => by
    simp only [badVs, Bool.or_eq_false_iff] at h
    exact badVs_at h.2 (by simpa using hx)
theorem badEs_at {ids : Int → Bool} {top : Int} : ∀ {l : List PLk} {i : Nat} {last : Int} {x : PLk}, badEs ids top last l = false → l[i]? = some x → badProps x.props = false
  | [], _, _, _, _, h => by simp at h
  | y :: r, 0, last, x, h, hx => by
    obtain rfl : y = x := by simpa using hx
    simp only [badEs, Bool.or_eq_false_iff, badLk, blk] at h
    exact h.1.2.2.2.1
  | y :: r, i + 1, last, x, h, hx => by
    simp only [badEs, Bool.or_eq_false_iff] at h
    exact badEs_at h.2 (by simpa using hx)
theorem idsOf_upd (P : PPs) (n : Int) : ∀ (l : List PVx) (i : Nat), idsOf (updV i P l) n = idsOf l n
  | [], _ => by simp only [updV]
  | y :: r, 0 => rfl
  | y :: r, i + 1 => by
    have := idsOf_upd P n r i
    simp only [idsOf] at this
    simp only [idsOf, updV, List.any_cons, this]
inductive Pl where
  | v (i : Nat)
  | e (i : Nat)
def plOf (kd a b : Int) : Option Pl := if kd = 6 then if 0 ≤ a then some (.v a.toNat) else none else if kd = 7 then if 0 ≤ b then some (.e b.toNat) else none else none
def placeP (g : PG) (kd n : Int) : Option Pl := plOf kd (idxJ (fun x : PVx => decide (x.id = n)) g.v 0) (idxJ (fun x : PLk => decide (x.id = n)) g.e 0)
def PG.at (g : PG) : Pl → PPs
  | .v i => ((g.v[i]?).map (·.props)).getD []
  | .e i => ((g.e[i]?).map (·.props)).getD []
def PG.put (g : PG) : Pl → PPs → PG
  | .v i, P => { g with v := updV i P g.v }
  | .e i, P => { g with e := updE i P g.e }
def PG.has (g : PG) : Pl → Prop
  | .v i => i < g.v.length
  | .e i => i < g.e.length
theorem put_put (g : PG) (p : Pl) (P Q : PPs) : (g.put p P).put p Q = g.put p Q := by cases p <;> simp only [PG.put, updV_upd, updE_upd]
theorem put_at (g : PG) (p : Pl) (h : g.has p) : g.put p (g.at p) = g := by
  cases p with
  | v i =>
    obtain ⟨x, hx⟩ := get_lt (show i < g.v.length from h)
    simp only [PG.put, PG.at, hx, Option.map_some, Option.getD_some, updV_at _ _ _ hx]
  | e i =>
    obtain ⟨x, hx⟩ := get_lt (show i < g.e.length from h)
    simp only [PG.put, PG.at, hx, Option.map_some, Option.getD_some, updE_at _ _ _ hx]
theorem at_put (g : PG) (p : Pl) (h : g.has p) (P : PPs) : (g.put p P).at p = P := by
  cases p with
  | v i =>
    obtain ⟨x, hx⟩ := get_lt (show i < g.v.length from h)
    simp only [PG.put, PG.at, updV_get, hx, Option.map_some, Option.getD_some]
  | e i =>
    obtain ⟨x, hx⟩ := get_lt (show i < g.e.length from h)
    simp only [PG.put, PG.at, updE_get, hx, Option.map_some, Option.getD_some]
theorem has_put (g : PG) (p : Pl) (P : PPs) : (g.put p P).has p ↔ g.has p := by cases p <;> simp only [PG.put, PG.has, updV_len, updE_len]
theorem place_put (g : PG) (p : Pl) (P : PPs) (kd n : Int) : placeP (g.put p P) kd n = placeP g kd n := by
  cases p with
  | v i =>
    show plOf kd (idxJ (fun x : PVx => decide (x.id = n)) (updV i P g.v) 0) _ = _
    rw [updV_idx]
    rfl
  | e i =>
    show plOf kd _ (idxJ (fun x : PLk => decide (x.id = n)) (updE i P g.e) 0) = _
    rw [updE_idx]
    rfl
theorem place_has {g : PG} {kd n : Int} {p : Pl} (h : placeP g kd n = some p) : g.has p := by
  unfold placeP plOf at h
  split at h
  · split at h
    · rename_i h0
      obtain rfl : .v _ = p := by simpa using h
      obtain ⟨x, hx, _⟩ := idxJ_some' (q := fun x : PVx => decide (x.id = n)) (l := g.v) (i := (idxJ (fun x : PVx => decide (x.id = n)) g.v 0).toNat) (by omega)
      exact lt_of_get hx
    · cases h
  · split at h
    · split at h
      · rename_i h0
        obtain rfl : .e _ = p := by simpa using h
        obtain ⟨x, hx, _⟩ := idxJ_some' (q := fun x : PLk => decide (x.id = n)) (l := g.e) (i := (idxJ (fun x : PLk => decide (x.id = n)) g.e 0).toNat) (by omega)
        exact lt_of_get hx
      · cases h
    · cases h
theorem okG_put {g : PG} (p : Pl) {P : PPs} (h : okG g = true) (hP : badProps P = false) : okG (g.put p P) = true := by
  simp only [okG, Bool.and_eq_true, Bool.not_eq_true'] at h ⊢
  obtain ⟨h1, h2, h3⟩ := h
  cases p with
  | v i =>
    refine ⟨?_, badVs_upd hP h2, ?_⟩
    · simp only [tooBig, PG.put, updV_len] at h1 ⊢; exact h1
    · have : idsOf (updV i P g.v) = idsOf g.v := funext fun n => idsOf_upd P n g.v i
      simp only [PG.put, this]; exact h3
  | e i =>
    refine ⟨?_, h2, badEs_upd hP h3⟩
    simp only [tooBig, PG.put, updE_len] at h1 ⊢; exact h1
theorem okG_at {g : PG} {p : Pl} (h : okG g = true) (hp : g.has p) : badProps (g.at p) = false := by
  simp only [okG, Bool.and_eq_true, Bool.not_eq_true'] at h
  obtain ⟨h1, h2, h3⟩ := h
  cases p with
  | v i =>
    obtain ⟨x, hx⟩ := get_lt (show i < g.v.length from hp)
    simp only [PG.at, hx, Option.map_some, Option.getD_some]
    exact badVs_at h2 hx
  | e i =>
    obtain ⟨x, hx⟩ := get_lt (show i < g.e.length from hp)
    simp only [PG.at, hx, Option.map_some, Option.getD_some]
    exact badEs_at h3 hx
theorem badProps_iff {P : PPs} : badProps P = false ↔ badPs none P = false ∧ P.length ≤ 16 := by
  simp only [badProps, Bool.or_eq_false_iff, decide_eq_false_iff_not]
  exact ⟨fun h => ⟨h.1, by omega⟩, fun h => ⟨h.1, by omega⟩⟩
def setG (g : PG) (kd n : Int) (nm : List UInt8) (v : PV) : PG × Int :=
  if okG g = true then match placeP g kd n with
    | none => (g, 101)
    | some p => if nameB nm = true then if mayV v 0 = true then if (putP nm v (g.at p)).length ≤ 16 then (g.put p (putP nm v (g.at p)), 0) else (g, 102) else (g, 20) else (g, 100)
  else (g, 103)
def unsetG (g : PG) (kd n : Int) (nm : List UInt8) : PG × Bool × Int :=
  if okG g = true then match placeP g kd n with
    | none => (g, false, 101)
    | some p => (g.put p (delP nm (g.at p)), decide ((delP nm (g.at p)).length < (g.at p).length), 0)
  else (g, false, 103)
def propG (g : PG) (kd n : Int) (nm : List UInt8) : Option PV := match placeP g kd n with
  | none => none
  | some p => ((g.at p).find? (isN nm)).map (·.2)
theorem setG_ne {g : PG} {kd n : Int} {nm : List UInt8} {v : PV} (h : (setG g kd n nm v).2 ≠ 0) : (setG g kd n nm v).1 = g := by
  unfold setG at h ⊢
  repeat' split
  all_goals first | rfl | (simp_all; done)
theorem just_law {g : PG} {kd n : Int} {nm : List UInt8} {v : PV} (hg : okG g = true) (hs : (setG g kd n nm v).2 = 0) :
    propG (setG g kd n nm v).1 kd n nm = some v ∧ (unsetG (setG g kd n nm v).1 kd n nm).2 = (true, 0) ∧ propG (unsetG (setG g kd n nm v).1 kd n nm).1 kd n nm = none ∧
    (propG g kd n nm = none → (unsetG (setG g kd n nm v).1 kd n nm).1 = g) ∧
    (∀ w, propG g kd n nm = some w → setG (unsetG (setG g kd n nm v).1 kd n nm).1 kd n nm w = (g, 0)) := by
  unfold setG at hs
  rw [if_pos hg] at hs
  cases hpl : placeP g kd n with
  | none => rw [hpl] at hs; simp at hs
  | some p =>
    rw [hpl] at hs
    simp only at hs
    have hp := place_has hpl
    split at hs
    case isFalse => simp at hs
    rename_i hn
    split at hs
    case isFalse => simp at hs
    rename_i hv
    split at hs
    case isFalse => simp at hs
    rename_i hlen
    obtain ⟨hb, hl16⟩ := badProps_iff.1 (okG_at hg hp)
    have hq : setG g kd n nm v = (g.put p (putP nm v (g.at p)), 0) := by
      unfold setG
      rw [if_pos hg, hpl]
      simp only [hn, hv, hlen, if_true]
    have hbq : badProps (putP nm v (g.at p)) = false := badProps_iff.2 ⟨badPs_put hn hv hb rfl, hlen⟩
    have hgq := okG_put p hg hbq
    have hbr : badProps (delP nm (g.at p)) = false := badProps_iff.2 ⟨badPs_del hb, Nat.le_trans (delP_len ..) hl16⟩
    have hgr := okG_put p hg hbr
    have hu : unsetG (g.put p (putP nm v (g.at p))) kd n nm = (g.put p (delP nm (g.at p)), true, 0) := by
      unfold unsetG
      rw [if_pos hgq, place_put, hpl]
      simp only [at_put g p hp, del_put, put_put, Prod.mk.injEq, true_and, and_true]
      refine decide_eq_true ?_
      have := delP_less (find_put nm v (g.at p))
      rwa [del_put] at this
    rw [hq]
    simp only [hu]
    refine ⟨?_, trivial, ?_, ?_, ?_⟩
    · unfold propG
      rw [place_put, hpl]
      simp only [at_put g p hp, find_put, Option.map_some]
    · unfold propG
      rw [place_put, hpl]
      simp only [at_put g p hp, find_del, Option.map_none]
    · intro h0
      unfold propG at h0
      rw [hpl] at h0
      simp only [Option.map_eq_none_iff] at h0
      rw [delP_none h0, put_at g p hp]
    · intro w h0
      unfold propG at h0
      rw [hpl] at h0
      obtain ⟨z, hz, rfl⟩ := Option.map_eq_some_iff.1 h0
      have hpd := put_del hb hz
      have hmem := List.mem_of_find?_eq_some hz
      have hmay : mayV z.2 0 = true := by
        have : ∀ {l : PPs} {q : Option (List UInt8)}, badPs q l = false → ∀ y ∈ l, mayV y.2 0 = true := by
          intro l
          induction l with
          | nil => intro q _ y hy; simp at hy
          | cons x r ih =>
            intro q h y hy
            obtain ⟨h1, h2, h3, h4⟩ := badPs_cons.1 h
            rcases List.mem_cons.1 hy with rfl | hy
            · exact h3
            · exact ih h4 y hy
        exact this hb z hmem
      unfold setG
      rw [if_pos hgr, place_put, hpl]
      simp only [at_put g p hp, hpd, hn, hmay, hl16, if_true, put_put, put_at g p hp]
end Go.Proofs.YtgeaibhgaihobaaDoor
