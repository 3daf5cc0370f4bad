import Derived.Lib.Bytealg
import Derived.Test.YtgeaibhgaihobaaDoorFd
import Derived.Test.YtgeaibhgaihobaaDoorProg
import Derived.Test.YtgeaibhgaihobaaDoorIns2
import Derived.Shelf.Strings.SlTrimAscii
import Derived.KernelRfl
set_option linter.unusedVariables false
set_option maxRecDepth 100000
namespace Go.Proofs.YtgeaibhgaihobaaDoor
open Go.Shelf
def lays160_ren : Go.Shelf.Ren := ⟨fun | 160 => 49 | 232 => 66 | 231 => 65 | 227 => 67 | 234 => 69 | 233 => 68 | 236 => 71 | 235 => 70 | 228 => 78 | 271 => 81 | 151 => 80 | 197 => 79 | 120 => 91 | 152 => 90 | 260 => 89 | 137 => 95 | 119 => 96 | 224 => 97 | 225 => 98 | 217 => 100 | 266 => 101 | n => n, fun | 9 => 9 | 4 => 4 | 3 => 3 | 5 => 5 | 117 => 101 | 116 => 100 | 0 => 0 | 124 => 104 | 21 => 21 | 105 => 109 | 46 => 122 | 119 => 121 | 139 => 125 | 138 => 124 | n => n, fun | 3 => 0 | 4 => 1 | n => n⟩
theorem lays160 : Go.Proofs.Lays.n160 Tryd.prog lays160_ren := {
  mixed := by kernel_rfl,
  f119 := Tryd.func96.trans (congrArg some (by kernel_rfl)),
  f120 := Tryd.func91.trans (congrArg some (by kernel_rfl)),
  f137 := Tryd.func95.trans (congrArg some (by kernel_rfl)),
  f151 := Tryd.func80.trans (congrArg some (by kernel_rfl)),
  f152 := Tryd.func90.trans (congrArg some (by kernel_rfl)),
  f160 := Tryd.func49.trans (congrArg some (by kernel_rfl)),
  f197 := Tryd.func79.trans (congrArg some (by kernel_rfl)),
  f217 := Tryd.func100.trans (congrArg some (by kernel_rfl)),
  f224 := Tryd.func97.trans (congrArg some (by kernel_rfl)),
  f225 := Tryd.func98.trans (congrArg some (by kernel_rfl)),
  f227 := Tryd.func67.trans (congrArg some (by kernel_rfl)),
  f228 := Tryd.func78.trans (congrArg some (by kernel_rfl)),
  f231 := Tryd.func65.trans (congrArg some (by kernel_rfl)),
  f232 := Tryd.func66.trans (congrArg some (by kernel_rfl)),
  f233 := Tryd.func68.trans (congrArg some (by kernel_rfl)),
  f234 := Tryd.func69.trans (congrArg some (by kernel_rfl)),
  f235 := Tryd.func70.trans (congrArg some (by kernel_rfl)),
  f236 := Tryd.func71.trans (congrArg some (by kernel_rfl)),
  f260 := Tryd.func89.trans (congrArg some (by kernel_rfl)),
  f266 := Tryd.func101.trans (congrArg some (by kernel_rfl)),
  f271 := Tryd.func81.trans (congrArg some (by kernel_rfl)),
  t0 := Tryd.underlying0,
  a0 := Tryd.isAgg0,
  z0 := Tryd.sizeOf0,
  v0 := Tryd.zeroValue0,
  t3 := Tryd.underlying3,
  a3 := Tryd.isAgg3,
  z3 := Tryd.sizeOf3,
  v3 := Tryd.zeroValue3,
  t4 := Tryd.underlying4,
  a4 := Tryd.isAgg4,
  z4 := Tryd.sizeOf4,
  v4 := Tryd.zeroValue4,
  t5 := Tryd.underlying5,
  a5 := Tryd.isAgg5,
  z5 := Tryd.sizeOf5,
  v5 := Tryd.zeroValue5,
  t9 := Tryd.underlying9,
  a9 := Tryd.isAgg9,
  z9 := Tryd.sizeOf9,
  v9 := Tryd.zeroValue9,
  t21 := Tryd.underlying21,
  a21 := Tryd.isAgg21,
  z21 := Tryd.sizeOf21,
  v21 := Tryd.zeroValue21,
  t46 := Tryd.underlying122,
  a46 := Tryd.isAgg122,
  z46 := Tryd.sizeOf122,
  v46 := Tryd.zeroValue122,
  t105 := Tryd.underlying109,
  a105 := Tryd.isAgg109,
  z105 := Tryd.sizeOf109,
  v105 := Tryd.zeroValue109,
  t116 := Tryd.underlying100,
  a116 := Tryd.isAgg100,
  z116 := Tryd.sizeOf100,
  t117 := Tryd.underlying101,
  a117 := Tryd.isAgg101,
  z117 := Tryd.sizeOf101,
  v117 := Tryd.zeroValue101,
  t119 := Tryd.underlying121,
  a119 := Tryd.isAgg121,
  z119 := Tryd.sizeOf121,
  t124 := Tryd.underlying104,
  a124 := Tryd.isAgg104,
  z124 := Tryd.sizeOf104,
  v124 := Tryd.zeroValue104,
  t138 := Tryd.underlying124,
  a138 := Tryd.isAgg124,
  z138 := Tryd.sizeOf124,
  v138 := Tryd.zeroValue124,
  t139 := Tryd.underlying125,
  a139 := Tryd.isAgg125,
  z139 := Tryd.sizeOf125,
  v139 := Tryd.zeroValue125,
  g3 := by kernel_rfl,
  g4 := by kernel_rfl }
open Go.Abs
def nameSet : List UInt8 := [97, 98, 99, 100, 101, 102, 103, 104, 105, 106, 107, 108, 109, 110, 111, 112, 113, 114, 115, 116, 117, 118, 119, 120, 121, 122, 65, 66, 67, 68, 69, 70, 71, 72, 73, 74, 75, 76, 77, 78, 79, 80, 81, 82, 83, 84, 85, 86, 87, 88, 89, 90, 48, 49, 50, 51, 52, 53, 54, 55, 56, 57, 95]
def primTrim : List AV → Option (AV × List AV)
  | [.str s, .str c] => Go.Abs.ask (c = nameSet ∧ s.length ≤ LIM) (some (.str (Go.Lib.trimS s c), []))
  | _ => none
theorem ren_f : lays160_ren.f 160 = 49 := rfl
theorem ren_t : lays160_ren.t 116 = 100 := rfl
theorem info116 : (Tryd.prog.info? (lays160_ren.t 116)).map (fun i => (i.zero, i.size)) = some (some (.agg (Array.replicate 256 (.bool false))), 256) := by rw [ren_t]; kernel_rfl
theorem toL (s : List UInt8) : (⟨s.toArray⟩ : ByteArray).data.toList = s := rfl
theorem trim_calls (s : List UInt8) (w : World) (hl : s.length ≤ 274877906944) :
    Calls Tryd.prog 49 #[.string ⟨s.toArray⟩, .string ⟨nameSet.toArray⟩] w fun e w' => e = .returned (.string ⟨(Go.Lib.trimS s nameSet).toArray⟩) ∧ Go.RowKit.Below w.heap.size w w' := by
  have hcon := Go.Proofs.Any.strings_Trim_laid lays160 info116 ⟨s.toArray⟩ ⟨nameSet.toArray⟩ w (by
      show s.toArray.size ≤ _
      simp only [List.size_toArray]; omega) (by decide) (Go.Proofs.ascii_of_all (by decide))
  rw [ren_f, toL, toL] at hcon
  exact hcon
theorem trim_meets {args : List AV} {r : AV × List AV} (h : primTrim args = some r) : Meets Tryd.prog 49 [] args r := by
  match args, h with
  | [.str s, .str c], h =>
    simp only [primTrim, ask_some, Option.some.injEq] at h
    obtain ⟨⟨rfl, hl⟩, rfl⟩ := h
    refine .inl ⟨⟨Tryd.f49, Tryd.func49, by kernel_rfl, by kernel_rfl⟩, ?_⟩
    intro w Z vs F hz hr hnd hZ
    simp only [RepPs, RepP, Rep] at hr
    obtain ⟨v1, vs1, F1, F2, rfl, rfl, ⟨rfl, rfl⟩, v2, vs2, F3, F4, rfl, rfl, ⟨rfl, rfl⟩, rfl, rfl⟩ := hr
    refine (trim_calls s w (by simpa [LIM] using hl)).mono fun e w' h => ?_
    obtain ⟨rfl, hb⟩ := h
    refine ⟨[], ?_, by simp, by simp, hb.size, hb.os, hb.tape, hb.output, ?_, fun i hi _ => hb.block i hi⟩
    · show RepPs w' (Zp Z []) [.str (Go.Lib.trimS s nameSet)] [_] []
      simp only [RepPs, RepP, Rep]
      exact ⟨_, [], [], [], rfl, rfl, ⟨rfl, by simp⟩, rfl, rfl⟩
    · rintro gb n ⟨arr, ty, fr, h1, h2⟩
      exact ⟨arr, ty, fr, by rw [hb.block gb (heap_lt h1)]; exact h1, h2⟩
def primCmp : List AV → Option (AV × List AV)
  | [.str a, .str b] => some (.i .i64 (Go.Lib.compareBytes a b), [])
  | _ => none
theorem cmp_meets {args : List AV} {r : AV × List AV} (h : primCmp args = some r) : Meets Tryd.prog 99 [] args r := by
  match args, h with
  | [.str a, .str b], h =>
    simp only [primCmp, Option.some.injEq] at h
    subst h
    refine .inr (.inl ?_)
    intro w Z vs F hz hr hnd hZ
    simp only [RepPs, RepP, Rep] at hr
    obtain ⟨v1, vs1, F1, F2, rfl, rfl, ⟨rfl, rfl⟩, v2, vs2, F3, F4, rfl, rfl, ⟨rfl, rfl⟩, rfl, rfl⟩ := hr
    refine ⟨_, w, [], by
      rw [run_callFunc_extern Tryd.func99 (by kernel_rfl) (by kernel_rfl) (by kernel_rfl) (e := Extern.BytealgCompare.compare) (by kernel_rfl), Go.Lib.run_compareString]
      rfl, ?_⟩
    refine ⟨?_, by simp, by simp, Nat.le_refl _, rfl, rfl, rfl, fun _ _ h => h, fun _ _ _ => rfl⟩
    simp only [RepPs, RepP, Rep]
    exact ⟨_, [], [], [], rfl, rfl, ⟨rfl, rfl⟩, rfl, rfl⟩
def primInsert : List AV → Option (AV × List AV)
  | [.ow ty sz nl es, .i k i, .ow ty2 sz2 nl2 ys] => Go.Abs.ask ((ty = 73 ∧ sz = 5 ∧ ty2 = 73 ∧ sz2 = 5) ∧ k = .i64 ∧ 0 ≤ i ∧ i.toNat ≤ es.length ∧ 0 < ys.length ∧ es.length + ys.length ≤ 274877906944)
      (some (.ow 73 5 false (es.take i.toNat ++ ys ++ es.drop i.toNat), []))
  | _ => none
theorem insert_meets {args : List AV} {r : AV × List AV} (h : primInsert args = some r) : Meets Tryd.prog 37 [.give (.row 73 5), .borrow, .give (.row 73 5)] args r := by
  unfold primInsert at h
  split at h
  · simp only [ask_some, Option.some.injEq] at h
    obtain ⟨⟨⟨rfl, rfl, rfl, rfl⟩, rfl, h1, h2, h3, h4⟩, rfl⟩ := h
    rename_i nl es i nl2 ys
    have e : ((i.toNat : Nat) : Int) = i := Int.toNat_of_nonneg h1
    have := insert_meets0 (nl := nl) (nl2 := nl2) h2 h3 h4
    rw [e] at this
    exact this
  · cases h
end Go.Proofs.YtgeaibhgaihobaaDoor
