/-
  The system of the functions: which rows come out as one's own, and what stands in place of what has no body. Printed by a program of ours.
-/
import Derived.Test.YtmdbfbcolofelaaDoorFd
import Derived.Test.YtmdbfbcolofelaaDoorCode
import Derived.Test.YtmdbfbcolofelaaDoorPrim
import Derived.Test.YtmdbfbcolofelaaDoorChecked
set_option linter.unusedVariables false
namespace Go.Proofs.YtmdbfbcolofelaaDoor
open Go.Abs

def specL : List (Nat × FSpec) := [(19, { pm := [], rm := some (.cells [.none, .none, .none, .none, .row 24 4, .row 48 5, .none]) }), (53, { pm := [], rm := some (.row 24 4) })]
def spec (f : Nat) : FSpec := findD {} specL f
def fsL : List (Nat × AFun) := [(3, a3), (7, a7), (8, a8), (9, a9), (10, a10), (11, a11), (12, a12), (13, a13), (14, a14), (15, a15), (19, a19), (25, a25), (32, a32), (33, a33), (34, a34), (35, a35), (36, a36), (37, a37), (39, a39), (50, a50), (51, a51), (53, a53), (54, a54), (62, a62), (63, a63)]
def primL : List (Nat × (List AV → Option (AV × List AV))) := [(52, primTrim)]
noncomputable def S : Go.Abs.Sys := ⟨spec, findO primL, findO fsL⟩
noncomputable abbrev cx : Cx := ⟨acall S, S.spec⟩
@[go_sem] theorem s3 : S.spec 3 = { pm := [], rm := none } := rfl
@[go_sem] theorem s7 : S.spec 7 = { pm := [], rm := none } := rfl
@[go_sem] theorem s8 : S.spec 8 = { pm := [], rm := none } := rfl
@[go_sem] theorem s9 : S.spec 9 = { pm := [], rm := none } := rfl
@[go_sem] theorem s10 : S.spec 10 = { pm := [], rm := none } := rfl
@[go_sem] theorem s11 : S.spec 11 = { pm := [], rm := none } := rfl
@[go_sem] theorem s12 : S.spec 12 = { pm := [], rm := none } := rfl
@[go_sem] theorem s13 : S.spec 13 = { pm := [], rm := none } := rfl
@[go_sem] theorem s14 : S.spec 14 = { pm := [], rm := none } := rfl
@[go_sem] theorem s15 : S.spec 15 = { pm := [], rm := none } := rfl
@[go_sem] theorem s19 : S.spec 19 = { pm := [], rm := some (.cells [.none, .none, .none, .none, .row 24 4, .row 48 5, .none]) } := rfl
@[go_sem] theorem s25 : S.spec 25 = { pm := [], rm := none } := rfl
@[go_sem] theorem s32 : S.spec 32 = { pm := [], rm := none } := rfl
@[go_sem] theorem s33 : S.spec 33 = { pm := [], rm := none } := rfl
@[go_sem] theorem s34 : S.spec 34 = { pm := [], rm := none } := rfl
@[go_sem] theorem s35 : S.spec 35 = { pm := [], rm := none } := rfl
@[go_sem] theorem s36 : S.spec 36 = { pm := [], rm := none } := rfl
@[go_sem] theorem s37 : S.spec 37 = { pm := [], rm := none } := rfl
@[go_sem] theorem s39 : S.spec 39 = { pm := [], rm := none } := rfl
@[go_sem] theorem s50 : S.spec 50 = { pm := [], rm := none } := rfl
@[go_sem] theorem s51 : S.spec 51 = { pm := [], rm := none } := rfl
@[go_sem] theorem s52 : S.spec 52 = { pm := [], rm := none } := rfl
@[go_sem] theorem s53 : S.spec 53 = { pm := [], rm := some (.row 24 4) } := rfl
@[go_sem] theorem s54 : S.spec 54 = { pm := [], rm := none } := rfl
@[go_sem] theorem s62 : S.spec 62 = { pm := [], rm := none } := rfl
@[go_sem] theorem s63 : S.spec 63 = { pm := [], rm := none } := rfl
theorem g3 {args : List AV} {Φ : AV × List AV → Prop} (hl : args.length = a3.nparams) (h : kexec cx a3.body [] (kfin { pm := [], rm := none } a3.nparams a3.res Φ) (unpackP 0 args [] [])) : W (acall S 3 args) Φ := kcall rfl rfl hl h
theorem g7 {args : List AV} {Φ : AV × List AV → Prop} (hl : args.length = a7.nparams) (h : kexec cx a7.body [] (kfin { pm := [], rm := none } a7.nparams a7.res Φ) (unpackP 0 args [] [])) : W (acall S 7 args) Φ := kcall rfl rfl hl h
theorem g8 {args : List AV} {Φ : AV × List AV → Prop} (hl : args.length = a8.nparams) (h : kexec cx a8.body [] (kfin { pm := [], rm := none } a8.nparams a8.res Φ) (unpackP 0 args [] [])) : W (acall S 8 args) Φ := kcall rfl rfl hl h
theorem g9 {args : List AV} {Φ : AV × List AV → Prop} (hl : args.length = a9.nparams) (h : kexec cx a9.body [] (kfin { pm := [], rm := none } a9.nparams a9.res Φ) (unpackP 0 args [] [])) : W (acall S 9 args) Φ := kcall rfl rfl hl h
theorem g10 {args : List AV} {Φ : AV × List AV → Prop} (hl : args.length = a10.nparams) (h : kexec cx a10.body [] (kfin { pm := [], rm := none } a10.nparams a10.res Φ) (unpackP 0 args [] [])) : W (acall S 10 args) Φ := kcall rfl rfl hl h
theorem g11 {args : List AV} {Φ : AV × List AV → Prop} (hl : args.length = a11.nparams) (h : kexec cx a11.body [] (kfin { pm := [], rm := none } a11.nparams a11.res Φ) (unpackP 0 args [] [])) : W (acall S 11 args) Φ := kcall rfl rfl hl h
theorem g12 {args : List AV} {Φ : AV × List AV → Prop} (hl : args.length = a12.nparams) (h : kexec cx a12.body [] (kfin { pm := [], rm := none } a12.nparams a12.res Φ) (unpackP 0 args [] [])) : W (acall S 12 args) Φ := kcall rfl rfl hl h
theorem g13 {args : List AV} {Φ : AV × List AV → Prop} (hl : args.length = a13.nparams) (h : kexec cx a13.body [] (kfin { pm := [], rm := none } a13.nparams a13.res Φ) (unpackP 0 args [] [])) : W (acall S 13 args) Φ := kcall rfl rfl hl h
theorem g14 {args : List AV} {Φ : AV × List AV → Prop} (hl : args.length = a14.nparams) (h : kexec cx a14.body [] (kfin { pm := [], rm := none } a14.nparams a14.res Φ) (unpackP 0 args [] [])) : W (acall S 14 args) Φ := kcall rfl rfl hl h
theorem g15 {args : List AV} {Φ : AV × List AV → Prop} (hl : args.length = a15.nparams) (h : kexec cx a15.body [] (kfin { pm := [], rm := none } a15.nparams a15.res Φ) (unpackP 0 args [] [])) : W (acall S 15 args) Φ := kcall rfl rfl hl h
theorem g19 {args : List AV} {Φ : AV × List AV → Prop} (hl : args.length = a19.nparams) (h : kexec cx a19.body [] (kfin { pm := [], rm := some (.cells [.none, .none, .none, .none, .row 24 4, .row 48 5, .none]) } a19.nparams a19.res Φ) (unpackP 0 args [] [])) : W (acall S 19 args) Φ := kcall rfl rfl hl h
theorem g25 {args : List AV} {Φ : AV × List AV → Prop} (hl : args.length = a25.nparams) (h : kexec cx a25.body [] (kfin { pm := [], rm := none } a25.nparams a25.res Φ) (unpackP 0 args [] [])) : W (acall S 25 args) Φ := kcall rfl rfl hl h
theorem g32 {args : List AV} {Φ : AV × List AV → Prop} (hl : args.length = a32.nparams) (h : kexec cx a32.body [] (kfin { pm := [], rm := none } a32.nparams a32.res Φ) (unpackP 0 args [] [])) : W (acall S 32 args) Φ := kcall rfl rfl hl h
theorem g33 {args : List AV} {Φ : AV × List AV → Prop} (hl : args.length = a33.nparams) (h : kexec cx a33.body [] (kfin { pm := [], rm := none } a33.nparams a33.res Φ) (unpackP 0 args [] [])) : W (acall S 33 args) Φ := kcall rfl rfl hl h
theorem g34 {args : List AV} {Φ : AV × List AV → Prop} (hl : args.length = a34.nparams) (h : kexec cx a34.body [] (kfin { pm := [], rm := none } a34.nparams a34.res Φ) (unpackP 0 args [] [])) : W (acall S 34 args) Φ := kcall rfl rfl hl h
theorem g35 {args : List AV} {Φ : AV × List AV → Prop} (hl : args.length = a35.nparams) (h : kexec cx a35.body [] (kfin { pm := [], rm := none } a35.nparams a35.res Φ) (unpackP 0 args [] [])) : W (acall S 35 args) Φ := kcall rfl rfl hl h
theorem g36 {args : List AV} {Φ : AV × List AV → Prop} (hl : args.length = a36.nparams) (h : kexec cx a36.body [] (kfin { pm := [], rm := none } a36.nparams a36.res Φ) (unpackP 0 args [] [])) : W (acall S 36 args) Φ := kcall rfl rfl hl h
theorem g37 {args : List AV} {Φ : AV × List AV → Prop} (hl : args.length = a37.nparams) (h : kexec cx a37.body [] (kfin { pm := [], rm := none } a37.nparams a37.res Φ) (unpackP 0 args [] [])) : W (acall S 37 args) Φ := kcall rfl rfl hl h
theorem g39 {args : List AV} {Φ : AV × List AV → Prop} (hl : args.length = a39.nparams) (h : kexec cx a39.body [] (kfin { pm := [], rm := none } a39.nparams a39.res Φ) (unpackP 0 args [] [])) : W (acall S 39 args) Φ := kcall rfl rfl hl h
theorem g50 {args : List AV} {Φ : AV × List AV → Prop} (hl : args.length = a50.nparams) (h : kexec cx a50.body [] (kfin { pm := [], rm := none } a50.nparams a50.res Φ) (unpackP 0 args [] [])) : W (acall S 50 args) Φ := kcall rfl rfl hl h
theorem g51 {args : List AV} {Φ : AV × List AV → Prop} (hl : args.length = a51.nparams) (h : kexec cx a51.body [] (kfin { pm := [], rm := none } a51.nparams a51.res Φ) (unpackP 0 args [] [])) : W (acall S 51 args) Φ := kcall rfl rfl hl h
theorem g53 {args : List AV} {Φ : AV × List AV → Prop} (hl : args.length = a53.nparams) (h : kexec cx a53.body [] (kfin { pm := [], rm := some (.row 24 4) } a53.nparams a53.res Φ) (unpackP 0 args [] [])) : W (acall S 53 args) Φ := kcall rfl rfl hl h
theorem g54 {args : List AV} {Φ : AV × List AV → Prop} (hl : args.length = a54.nparams) (h : kexec cx a54.body [] (kfin { pm := [], rm := none } a54.nparams a54.res Φ) (unpackP 0 args [] [])) : W (acall S 54 args) Φ := kcall rfl rfl hl h
theorem g62 {args : List AV} {Φ : AV × List AV → Prop} (hl : args.length = a62.nparams) (h : kexec cx a62.body [] (kfin { pm := [], rm := none } a62.nparams a62.res Φ) (unpackP 0 args [] [])) : W (acall S 62 args) Φ := kcall rfl rfl hl h
theorem g63 {args : List AV} {Φ : AV × List AV → Prop} (hl : args.length = a63.nparams) (h : kexec cx a63.body [] (kfin { pm := [], rm := none } a63.nparams a63.res Φ) (unpackP 0 args [] [])) : W (acall S 63 args) Φ := kcall rfl rfl hl h
theorem fs_ok : ∀ f fn, S.fs f = some fn → ∃ keep func, Tryd.prog.funcs[f]? = some func ∧ compF Tryd.prog keep (S.spec f).pm func = some fn :=
  findO_all (Q := fun f fn => ∃ keep func, Tryd.prog.funcs[f]? = some func ∧ compF Tryd.prog keep (S.spec f).pm func = some fn) fsL ⟨⟨k3, Tryd.f3, Tryd.func3, c3⟩, ⟨k7, Tryd.f7, Tryd.func7, c7⟩, ⟨k8, Tryd.f8, Tryd.func8, c8⟩, ⟨k9, Tryd.f9, Tryd.func9, c9⟩, ⟨k10, Tryd.f10, Tryd.func10, c10⟩, ⟨k11, Tryd.f11, Tryd.func11, c11⟩, ⟨k12, Tryd.f12, Tryd.func12, c12⟩, ⟨k13, Tryd.f13, Tryd.func13, c13⟩, ⟨k14, Tryd.f14, Tryd.func14, c14⟩, ⟨k15, Tryd.f15, Tryd.func15, c15⟩, ⟨k19, Tryd.f19, Tryd.func19, c19⟩, ⟨k25, Tryd.f25, Tryd.func25, c25⟩, ⟨k32, Tryd.f32, Tryd.func32, c32⟩, ⟨k33, Tryd.f33, Tryd.func33, c33⟩, ⟨k34, Tryd.f34, Tryd.func34, c34⟩, ⟨k35, Tryd.f35, Tryd.func35, c35⟩, ⟨k36, Tryd.f36, Tryd.func36, c36⟩, ⟨k37, Tryd.f37, Tryd.func37, c37⟩, ⟨k39, Tryd.f39, Tryd.func39, c39⟩, ⟨k50, Tryd.f50, Tryd.func50, c50⟩, ⟨k51, Tryd.f51, Tryd.func51, c51⟩, ⟨k53, Tryd.f53, Tryd.func53, c53⟩, ⟨k54, Tryd.f54, Tryd.func54, c54⟩, ⟨k62, Tryd.f62, Tryd.func62, c62⟩, ⟨k63, Tryd.f63, Tryd.func63, c63⟩, trivial⟩
theorem prim_ok : ∀ f p, S.prim f = some p → ∀ args r, p args = some r → Meets Tryd.prog f (S.spec f).pm args r :=
  findO_all (Q := fun (f : Nat) (p : List AV → Option (AV × List AV)) => ∀ args r, p args = some r → Meets Tryd.prog f (S.spec f).pm args r) primL (by exact ⟨fun args r h => trim_meets h, trivial⟩)
theorem sysOk : SysOk Tryd.prog S := ⟨Checked.mixed Tryd.checked, fs_ok, prim_ok⟩
end Go.Proofs.YtmdbfbcolofelaaDoor
