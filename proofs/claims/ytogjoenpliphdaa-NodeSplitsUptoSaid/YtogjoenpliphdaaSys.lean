/-
  The system of the functions: which rows come out as one's own, and what stands in place of what has no body. Printed by a program of ours.
-/
import Derived.Test.YtogjoenpliphdaaFd
import Derived.Test.YtogjoenpliphdaaCode
import Derived.Test.YtogjoenpliphdaaChecked
set_option linter.unusedVariables false
namespace Go.Proofs.Ytogjoenpliphdaa
open Go.Abs

def specL : List (Nat × FSpec) := [(43, { pm := [.inout (.none)], rm := none }), (44, { pm := [.inout (.none)], rm := none }), (45, { pm := [.inout (.none)], rm := none }), (46, { pm := [.inout (.none)], rm := none }), (47, { pm := [.inout (.none)], rm := none }), (48, { pm := [.inout (.none)], rm := none }), (49, { pm := [.inout (.none)], rm := none }), (50, { pm := [.inout (.none)], rm := none }), (62, { pm := [], rm := some (.row 5 1) }), (63, { pm := [], rm := some (.row 5 1) }), (64, { pm := [], rm := some (.row 5 1) }), (68, { pm := [], rm := some (.row 5 1) }), (69, { pm := [.inout (.none)], rm := none }), (77, { pm := [], rm := some (.row 5 1) }), (78, { pm := [], rm := some (.row 5 1) })]
def spec (f : Nat) : FSpec := findD {} specL f
def fsL : List (Nat × AFun) := [(3, a3), (4, a4), (5, a5), (6, a6), (9, a9), (10, a10), (11, a11), (12, a12), (13, a13), (14, a14), (15, a15), (16, a16), (17, a17), (18, a18), (19, a19), (20, a20), (21, a21), (22, a22), (23, a23), (26, a26), (28, a28), (30, a30), (31, a31), (32, a32), (33, a33), (34, a34), (35, a35), (36, a36), (37, a37), (38, a38), (39, a39), (40, a40), (41, a41), (42, a42), (43, a43), (44, a44), (45, a45), (46, a46), (47, a47), (48, a48), (49, a49), (50, a50), (51, a51), (52, a52), (55, a55), (56, a56), (57, a57), (58, a58), (59, a59), (62, a62), (63, a63), (64, a64), (65, a65), (67, a67), (68, a68), (69, a69), (70, a70), (77, a77), (78, a78)]
def primL : List (Nat × (List AV → Option (AV × List AV))) := [(66, primCompare)]
noncomputable def S : Go.Abs.Sys := ⟨spec, findO primL, findO fsL⟩
noncomputable abbrev cx : Cx := ⟨acall S, S.spec⟩
@[go_sem] theorem s3 : S.spec 3 = { pm := [], rm := none } := rfl
@[go_sem] theorem s4 : S.spec 4 = { pm := [], rm := none } := rfl
@[go_sem] theorem s5 : S.spec 5 = { pm := [], rm := none } := rfl
@[go_sem] theorem s6 : S.spec 6 = { pm := [], rm := none } := rfl
@[go_sem] theorem s9 : S.spec 9 = { pm := [], rm := none } := rfl
@[go_sem] theorem s10 : S.spec 10 = { pm := [], rm := none } := rfl
@[go_sem] theorem s11 : S.spec 11 = { pm := [], rm := none } := rfl
@[go_sem] theorem s12 : S.spec 12 = { pm := [], rm := none } := rfl
@[go_sem] theorem s13 : S.spec 13 = { pm := [], rm := none } := rfl
@[go_sem] theorem s14 : S.spec 14 = { pm := [], rm := none } := rfl
@[go_sem] theorem s15 : S.spec 15 = { pm := [], rm := none } := rfl
@[go_sem] theorem s16 : S.spec 16 = { pm := [], rm := none } := rfl
@[go_sem] theorem s17 : S.spec 17 = { pm := [], rm := none } := rfl
@[go_sem] theorem s18 : S.spec 18 = { pm := [], rm := none } := rfl
@[go_sem] theorem s19 : S.spec 19 = { pm := [], rm := none } := rfl
@[go_sem] theorem s20 : S.spec 20 = { pm := [], rm := none } := rfl
@[go_sem] theorem s21 : S.spec 21 = { pm := [], rm := none } := rfl
@[go_sem] theorem s22 : S.spec 22 = { pm := [], rm := none } := rfl
@[go_sem] theorem s23 : S.spec 23 = { pm := [], rm := none } := rfl
@[go_sem] theorem s26 : S.spec 26 = { pm := [], rm := none } := rfl
@[go_sem] theorem s28 : S.spec 28 = { pm := [], rm := none } := rfl
@[go_sem] theorem s30 : S.spec 30 = { pm := [], rm := none } := rfl
@[go_sem] theorem s31 : S.spec 31 = { pm := [], rm := none } := rfl
@[go_sem] theorem s32 : S.spec 32 = { pm := [], rm := none } := rfl
@[go_sem] theorem s33 : S.spec 33 = { pm := [], rm := none } := rfl
@[go_sem] theorem s34 : S.spec 34 = { pm := [], rm := none } := rfl
@[go_sem] theorem s35 : S.spec 35 = { pm := [], rm := none } := rfl
@[go_sem] theorem s36 : S.spec 36 = { pm := [], rm := none } := rfl
@[go_sem] theorem s37 : S.spec 37 = { pm := [], rm := none } := rfl
@[go_sem] theorem s38 : S.spec 38 = { pm := [], rm := none } := rfl
@[go_sem] theorem s39 : S.spec 39 = { pm := [], rm := none } := rfl
@[go_sem] theorem s40 : S.spec 40 = { pm := [], rm := none } := rfl
@[go_sem] theorem s41 : S.spec 41 = { pm := [], rm := none } := rfl
@[go_sem] theorem s42 : S.spec 42 = { pm := [], rm := none } := rfl
@[go_sem] theorem s43 : S.spec 43 = { pm := [.inout (.none)], rm := none } := rfl
@[go_sem] theorem s44 : S.spec 44 = { pm := [.inout (.none)], rm := none } := rfl
@[go_sem] theorem s45 : S.spec 45 = { pm := [.inout (.none)], rm := none } := rfl
@[go_sem] theorem s46 : S.spec 46 = { pm := [.inout (.none)], rm := none } := rfl
@[go_sem] theorem s47 : S.spec 47 = { pm := [.inout (.none)], rm := none } := rfl
@[go_sem] theorem s48 : S.spec 48 = { pm := [.inout (.none)], rm := none } := rfl
@[go_sem] theorem s49 : S.spec 49 = { pm := [.inout (.none)], rm := none } := rfl
@[go_sem] theorem s50 : S.spec 50 = { pm := [.inout (.none)], rm := none } := rfl
@[go_sem] theorem s51 : S.spec 51 = { pm := [], rm := none } := rfl
@[go_sem] theorem s52 : S.spec 52 = { pm := [], rm := none } := rfl
@[go_sem] theorem s55 : S.spec 55 = { pm := [], rm := none } := rfl
@[go_sem] theorem s56 : S.spec 56 = { pm := [], rm := none } := rfl
@[go_sem] theorem s57 : S.spec 57 = { pm := [], rm := none } := rfl
@[go_sem] theorem s58 : S.spec 58 = { pm := [], rm := none } := rfl
@[go_sem] theorem s59 : S.spec 59 = { pm := [], rm := none } := rfl
@[go_sem] theorem s62 : S.spec 62 = { pm := [], rm := some (.row 5 1) } := rfl
@[go_sem] theorem s63 : S.spec 63 = { pm := [], rm := some (.row 5 1) } := rfl
@[go_sem] theorem s64 : S.spec 64 = { pm := [], rm := some (.row 5 1) } := rfl
@[go_sem] theorem s65 : S.spec 65 = { pm := [], rm := none } := rfl
@[go_sem] theorem s66 : S.spec 66 = { pm := [], rm := none } := rfl
@[go_sem] theorem s67 : S.spec 67 = { pm := [], rm := none } := rfl
@[go_sem] theorem s68 : S.spec 68 = { pm := [], rm := some (.row 5 1) } := rfl
@[go_sem] theorem s69 : S.spec 69 = { pm := [.inout (.none)], rm := none } := rfl
@[go_sem] theorem s70 : S.spec 70 = { pm := [], rm := none } := rfl
@[go_sem] theorem s77 : S.spec 77 = { pm := [], rm := some (.row 5 1) } := rfl
@[go_sem] theorem s78 : S.spec 78 = { pm := [], rm := some (.row 5 1) } := rfl
theorem g3 {args : List AV} {Φ : AV × List AV → Prop} (hl : args.length = a3.nparams) (h : kexec cx a3.body [] (kfin { pm := [], rm := none } a3.nparams a3.res Φ) (unpackP 0 args [] [])) : W (acall S 3 args) Φ := kcall rfl rfl hl h
theorem g4 {args : List AV} {Φ : AV × List AV → Prop} (hl : args.length = a4.nparams) (h : kexec cx a4.body [] (kfin { pm := [], rm := none } a4.nparams a4.res Φ) (unpackP 0 args [] [])) : W (acall S 4 args) Φ := kcall rfl rfl hl h
theorem g5 {args : List AV} {Φ : AV × List AV → Prop} (hl : args.length = a5.nparams) (h : kexec cx a5.body [] (kfin { pm := [], rm := none } a5.nparams a5.res Φ) (unpackP 0 args [] [])) : W (acall S 5 args) Φ := kcall rfl rfl hl h
theorem g6 {args : List AV} {Φ : AV × List AV → Prop} (hl : args.length = a6.nparams) (h : kexec cx a6.body [] (kfin { pm := [], rm := none } a6.nparams a6.res Φ) (unpackP 0 args [] [])) : W (acall S 6 args) Φ := kcall rfl rfl hl h
theorem g9 {args : List AV} {Φ : AV × List AV → Prop} (hl : args.length = a9.nparams) (h : kexec cx a9.body [] (kfin { pm := [], rm := none } a9.nparams a9.res Φ) (unpackP 0 args [] [])) : W (acall S 9 args) Φ := kcall rfl rfl hl h
theorem g10 {args : List AV} {Φ : AV × List AV → Prop} (hl : args.length = a10.nparams) (h : kexec cx a10.body [] (kfin { pm := [], rm := none } a10.nparams a10.res Φ) (unpackP 0 args [] [])) : W (acall S 10 args) Φ := kcall rfl rfl hl h
theorem g11 {args : List AV} {Φ : AV × List AV → Prop} (hl : args.length = a11.nparams) (h : kexec cx a11.body [] (kfin { pm := [], rm := none } a11.nparams a11.res Φ) (unpackP 0 args [] [])) : W (acall S 11 args) Φ := kcall rfl rfl hl h
theorem g12 {args : List AV} {Φ : AV × List AV → Prop} (hl : args.length = a12.nparams) (h : kexec cx a12.body [] (kfin { pm := [], rm := none } a12.nparams a12.res Φ) (unpackP 0 args [] [])) : W (acall S 12 args) Φ := kcall rfl rfl hl h
theorem g13 {args : List AV} {Φ : AV × List AV → Prop} (hl : args.length = a13.nparams) (h : kexec cx a13.body [] (kfin { pm := [], rm := none } a13.nparams a13.res Φ) (unpackP 0 args [] [])) : W (acall S 13 args) Φ := kcall rfl rfl hl h
theorem g14 {args : List AV} {Φ : AV × List AV → Prop} (hl : args.length = a14.nparams) (h : kexec cx a14.body [] (kfin { pm := [], rm := none } a14.nparams a14.res Φ) (unpackP 0 args [] [])) : W (acall S 14 args) Φ := kcall rfl rfl hl h
theorem g15 {args : List AV} {Φ : AV × List AV → Prop} (hl : args.length = a15.nparams) (h : kexec cx a15.body [] (kfin { pm := [], rm := none } a15.nparams a15.res Φ) (unpackP 0 args [] [])) : W (acall S 15 args) Φ := kcall rfl rfl hl h
theorem g16 {args : List AV} {Φ : AV × List AV → Prop} (hl : args.length = a16.nparams) (h : kexec cx a16.body [] (kfin { pm := [], rm := none } a16.nparams a16.res Φ) (unpackP 0 args [] [])) : W (acall S 16 args) Φ := kcall rfl rfl hl h
theorem g17 {args : List AV} {Φ : AV × List AV → Prop} (hl : args.length = a17.nparams) (h : kexec cx a17.body [] (kfin { pm := [], rm := none } a17.nparams a17.res Φ) (unpackP 0 args [] [])) : W (acall S 17 args) Φ := kcall rfl rfl hl h
theorem g18 {args : List AV} {Φ : AV × List AV → Prop} (hl : args.length = a18.nparams) (h : kexec cx a18.body [] (kfin { pm := [], rm := none } a18.nparams a18.res Φ) (unpackP 0 args [] [])) : W (acall S 18 args) Φ := kcall rfl rfl hl h
theorem g19 {args : List AV} {Φ : AV × List AV → Prop} (hl : args.length = a19.nparams) (h : kexec cx a19.body [] (kfin { pm := [], rm := none } a19.nparams a19.res Φ) (unpackP 0 args [] [])) : W (acall S 19 args) Φ := kcall rfl rfl hl h
theorem g20 {args : List AV} {Φ : AV × List AV → Prop} (hl : args.length = a20.nparams) (h : kexec cx a20.body [] (kfin { pm := [], rm := none } a20.nparams a20.res Φ) (unpackP 0 args [] [])) : W (acall S 20 args) Φ := kcall rfl rfl hl h
theorem g21 {args : List AV} {Φ : AV × List AV → Prop} (hl : args.length = a21.nparams) (h : kexec cx a21.body [] (kfin { pm := [], rm := none } a21.nparams a21.res Φ) (unpackP 0 args [] [])) : W (acall S 21 args) Φ := kcall rfl rfl hl h
theorem g22 {args : List AV} {Φ : AV × List AV → Prop} (hl : args.length = a22.nparams) (h : kexec cx a22.body [] (kfin { pm := [], rm := none } a22.nparams a22.res Φ) (unpackP 0 args [] [])) : W (acall S 22 args) Φ := kcall rfl rfl hl h
theorem g23 {args : List AV} {Φ : AV × List AV → Prop} (hl : args.length = a23.nparams) (h : kexec cx a23.body [] (kfin { pm := [], rm := none } a23.nparams a23.res Φ) (unpackP 0 args [] [])) : W (acall S 23 args) Φ := kcall rfl rfl hl h
theorem g26 {args : List AV} {Φ : AV × List AV → Prop} (hl : args.length = a26.nparams) (h : kexec cx a26.body [] (kfin { pm := [], rm := none } a26.nparams a26.res Φ) (unpackP 0 args [] [])) : W (acall S 26 args) Φ := kcall rfl rfl hl h
theorem g28 {args : List AV} {Φ : AV × List AV → Prop} (hl : args.length = a28.nparams) (h : kexec cx a28.body [] (kfin { pm := [], rm := none } a28.nparams a28.res Φ) (unpackP 0 args [] [])) : W (acall S 28 args) Φ := kcall rfl rfl hl h
theorem g30 {args : List AV} {Φ : AV × List AV → Prop} (hl : args.length = a30.nparams) (h : kexec cx a30.body [] (kfin { pm := [], rm := none } a30.nparams a30.res Φ) (unpackP 0 args [] [])) : W (acall S 30 args) Φ := kcall rfl rfl hl h
theorem g31 {args : List AV} {Φ : AV × List AV → Prop} (hl : args.length = a31.nparams) (h : kexec cx a31.body [] (kfin { pm := [], rm := none } a31.nparams a31.res Φ) (unpackP 0 args [] [])) : W (acall S 31 args) Φ := kcall rfl rfl hl h
theorem g32 {args : List AV} {Φ : AV × List AV → Prop} (hl : args.length = a32.nparams) (h : kexec cx a32.body [] (kfin { pm := [], rm := none } a32.nparams a32.res Φ) (unpackP 0 args [] [])) : W (acall S 32 args) Φ := kcall rfl rfl hl h
theorem g33 {args : List AV} {Φ : AV × List AV → Prop} (hl : args.length = a33.nparams) (h : kexec cx a33.body [] (kfin { pm := [], rm := none } a33.nparams a33.res Φ) (unpackP 0 args [] [])) : W (acall S 33 args) Φ := kcall rfl rfl hl h
theorem g34 {args : List AV} {Φ : AV × List AV → Prop} (hl : args.length = a34.nparams) (h : kexec cx a34.body [] (kfin { pm := [], rm := none } a34.nparams a34.res Φ) (unpackP 0 args [] [])) : W (acall S 34 args) Φ := kcall rfl rfl hl h
theorem g35 {args : List AV} {Φ : AV × List AV → Prop} (hl : args.length = a35.nparams) (h : kexec cx a35.body [] (kfin { pm := [], rm := none } a35.nparams a35.res Φ) (unpackP 0 args [] [])) : W (acall S 35 args) Φ := kcall rfl rfl hl h
theorem g36 {args : List AV} {Φ : AV × List AV → Prop} (hl : args.length = a36.nparams) (h : kexec cx a36.body [] (kfin { pm := [], rm := none } a36.nparams a36.res Φ) (unpackP 0 args [] [])) : W (acall S 36 args) Φ := kcall rfl rfl hl h
theorem g37 {args : List AV} {Φ : AV × List AV → Prop} (hl : args.length = a37.nparams) (h : kexec cx a37.body [] (kfin { pm := [], rm := none } a37.nparams a37.res Φ) (unpackP 0 args [] [])) : W (acall S 37 args) Φ := kcall rfl rfl hl h
theorem g38 {args : List AV} {Φ : AV × List AV → Prop} (hl : args.length = a38.nparams) (h : kexec cx a38.body [] (kfin { pm := [], rm := none } a38.nparams a38.res Φ) (unpackP 0 args [] [])) : W (acall S 38 args) Φ := kcall rfl rfl hl h
theorem g39 {args : List AV} {Φ : AV × List AV → Prop} (hl : args.length = a39.nparams) (h : kexec cx a39.body [] (kfin { pm := [], rm := none } a39.nparams a39.res Φ) (unpackP 0 args [] [])) : W (acall S 39 args) Φ := kcall rfl rfl hl h
theorem g40 {args : List AV} {Φ : AV × List AV → Prop} (hl : args.length = a40.nparams) (h : kexec cx a40.body [] (kfin { pm := [], rm := none } a40.nparams a40.res Φ) (unpackP 0 args [] [])) : W (acall S 40 args) Φ := kcall rfl rfl hl h
theorem g41 {args : List AV} {Φ : AV × List AV → Prop} (hl : args.length = a41.nparams) (h : kexec cx a41.body [] (kfin { pm := [], rm := none } a41.nparams a41.res Φ) (unpackP 0 args [] [])) : W (acall S 41 args) Φ := kcall rfl rfl hl h
theorem g42 {args : List AV} {Φ : AV × List AV → Prop} (hl : args.length = a42.nparams) (h : kexec cx a42.body [] (kfin { pm := [], rm := none } a42.nparams a42.res Φ) (unpackP 0 args [] [])) : W (acall S 42 args) Φ := kcall rfl rfl hl h
theorem g43 {args : List AV} {Φ : AV × List AV → Prop} (hl : args.length = a43.nparams) (h : kexec cx a43.body [] (kfin { pm := [.inout (.none)], rm := none } a43.nparams a43.res Φ) (unpackP 0 args [] [])) : W (acall S 43 args) Φ := kcall rfl rfl hl h
theorem g44 {args : List AV} {Φ : AV × List AV → Prop} (hl : args.length = a44.nparams) (h : kexec cx a44.body [] (kfin { pm := [.inout (.none)], rm := none } a44.nparams a44.res Φ) (unpackP 0 args [] [])) : W (acall S 44 args) Φ := kcall rfl rfl hl h
theorem g45 {args : List AV} {Φ : AV × List AV → Prop} (hl : args.length = a45.nparams) (h : kexec cx a45.body [] (kfin { pm := [.inout (.none)], rm := none } a45.nparams a45.res Φ) (unpackP 0 args [] [])) : W (acall S 45 args) Φ := kcall rfl rfl hl h
theorem g46 {args : List AV} {Φ : AV × List AV → Prop} (hl : args.length = a46.nparams) (h : kexec cx a46.body [] (kfin { pm := [.inout (.none)], rm := none } a46.nparams a46.res Φ) (unpackP 0 args [] [])) : W (acall S 46 args) Φ := kcall rfl rfl hl h
theorem g47 {args : List AV} {Φ : AV × List AV → Prop} (hl : args.length = a47.nparams) (h : kexec cx a47.body [] (kfin { pm := [.inout (.none)], rm := none } a47.nparams a47.res Φ) (unpackP 0 args [] [])) : W (acall S 47 args) Φ := kcall rfl rfl hl h
theorem g48 {args : List AV} {Φ : AV × List AV → Prop} (hl : args.length = a48.nparams) (h : kexec cx a48.body [] (kfin { pm := [.inout (.none)], rm := none } a48.nparams a48.res Φ) (unpackP 0 args [] [])) : W (acall S 48 args) Φ := kcall rfl rfl hl h
theorem g49 {args : List AV} {Φ : AV × List AV → Prop} (hl : args.length = a49.nparams) (h : kexec cx a49.body [] (kfin { pm := [.inout (.none)], rm := none } a49.nparams a49.res Φ) (unpackP 0 args [] [])) : W (acall S 49 args) Φ := kcall rfl rfl hl h
theorem g50 {args : List AV} {Φ : AV × List AV → Prop} (hl : args.length = a50.nparams) (h : kexec cx a50.body [] (kfin { pm := [.inout (.none)], rm := none } a50.nparams a50.res Φ) (unpackP 0 args [] [])) : W (acall S 50 args) Φ := kcall rfl rfl hl h
theorem g51 {args : List AV} {Φ : AV × List AV → Prop} (hl : args.length = a51.nparams) (h : kexec cx a51.body [] (kfin { pm := [], rm := none } a51.nparams a51.res Φ) (unpackP 0 args [] [])) : W (acall S 51 args) Φ := kcall rfl rfl hl h
theorem g52 {args : List AV} {Φ : AV × List AV → Prop} (hl : args.length = a52.nparams) (h : kexec cx a52.body [] (kfin { pm := [], rm := none } a52.nparams a52.res Φ) (unpackP 0 args [] [])) : W (acall S 52 args) Φ := kcall rfl rfl hl h
theorem g55 {args : List AV} {Φ : AV × List AV → Prop} (hl : args.length = a55.nparams) (h : kexec cx a55.body [] (kfin { pm := [], rm := none } a55.nparams a55.res Φ) (unpackP 0 args [] [])) : W (acall S 55 args) Φ := kcall rfl rfl hl h
theorem g56 {args : List AV} {Φ : AV × List AV → Prop} (hl : args.length = a56.nparams) (h : kexec cx a56.body [] (kfin { pm := [], rm := none } a56.nparams a56.res Φ) (unpackP 0 args [] [])) : W (acall S 56 args) Φ := kcall rfl rfl hl h
theorem g57 {args : List AV} {Φ : AV × List AV → Prop} (hl : args.length = a57.nparams) (h : kexec cx a57.body [] (kfin { pm := [], rm := none } a57.nparams a57.res Φ) (unpackP 0 args [] [])) : W (acall S 57 args) Φ := kcall rfl rfl hl h
theorem g58 {args : List AV} {Φ : AV × List AV → Prop} (hl : args.length = a58.nparams) (h : kexec cx a58.body [] (kfin { pm := [], rm := none } a58.nparams a58.res Φ) (unpackP 0 args [] [])) : W (acall S 58 args) Φ := kcall rfl rfl hl h
theorem g59 {args : List AV} {Φ : AV × List AV → Prop} (hl : args.length = a59.nparams) (h : kexec cx a59.body [] (kfin { pm := [], rm := none } a59.nparams a59.res Φ) (unpackP 0 args [] [])) : W (acall S 59 args) Φ := kcall rfl rfl hl h
theorem g62 {args : List AV} {Φ : AV × List AV → Prop} (hl : args.length = a62.nparams) (h : kexec cx a62.body [] (kfin { pm := [], rm := some (.row 5 1) } a62.nparams a62.res Φ) (unpackP 0 args [] [])) : W (acall S 62 args) Φ := kcall rfl rfl hl h
theorem g63 {args : List AV} {Φ : AV × List AV → Prop} (hl : args.length = a63.nparams) (h : kexec cx a63.body [] (kfin { pm := [], rm := some (.row 5 1) } a63.nparams a63.res Φ) (unpackP 0 args [] [])) : W (acall S 63 args) Φ := kcall rfl rfl hl h
theorem g64 {args : List AV} {Φ : AV × List AV → Prop} (hl : args.length = a64.nparams) (h : kexec cx a64.body [] (kfin { pm := [], rm := some (.row 5 1) } a64.nparams a64.res Φ) (unpackP 0 args [] [])) : W (acall S 64 args) Φ := kcall rfl rfl hl h
theorem g65 {args : List AV} {Φ : AV × List AV → Prop} (hl : args.length = a65.nparams) (h : kexec cx a65.body [] (kfin { pm := [], rm := none } a65.nparams a65.res Φ) (unpackP 0 args [] [])) : W (acall S 65 args) Φ := kcall rfl rfl hl h
theorem g67 {args : List AV} {Φ : AV × List AV → Prop} (hl : args.length = a67.nparams) (h : kexec cx a67.body [] (kfin { pm := [], rm := none } a67.nparams a67.res Φ) (unpackP 0 args [] [])) : W (acall S 67 args) Φ := kcall rfl rfl hl h
theorem g68 {args : List AV} {Φ : AV × List AV → Prop} (hl : args.length = a68.nparams) (h : kexec cx a68.body [] (kfin { pm := [], rm := some (.row 5 1) } a68.nparams a68.res Φ) (unpackP 0 args [] [])) : W (acall S 68 args) Φ := kcall rfl rfl hl h
theorem g69 {args : List AV} {Φ : AV × List AV → Prop} (hl : args.length = a69.nparams) (h : kexec cx a69.body [] (kfin { pm := [.inout (.none)], rm := none } a69.nparams a69.res Φ) (unpackP 0 args [] [])) : W (acall S 69 args) Φ := kcall rfl rfl hl h
theorem g70 {args : List AV} {Φ : AV × List AV → Prop} (hl : args.length = a70.nparams) (h : kexec cx a70.body [] (kfin { pm := [], rm := none } a70.nparams a70.res Φ) (unpackP 0 args [] [])) : W (acall S 70 args) Φ := kcall rfl rfl hl h
theorem g77 {args : List AV} {Φ : AV × List AV → Prop} (hl : args.length = a77.nparams) (h : kexec cx a77.body [] (kfin { pm := [], rm := some (.row 5 1) } a77.nparams a77.res Φ) (unpackP 0 args [] [])) : W (acall S 77 args) Φ := kcall rfl rfl hl h
theorem g78 {args : List AV} {Φ : AV × List AV → Prop} (hl : args.length = a78.nparams) (h : kexec cx a78.body [] (kfin { pm := [], rm := some (.row 5 1) } a78.nparams a78.res Φ) (unpackP 0 args [] [])) : W (acall S 78 args) Φ := kcall rfl rfl hl h
theorem fs_ok : ∀ f fn, S.fs f = some fn → ∃ keep func, Try.prog.funcs[f]? = some func ∧ compF Try.prog keep (S.spec f).pm func = some fn :=
  findO_all (Q := fun f fn => ∃ keep func, Try.prog.funcs[f]? = some func ∧ compF Try.prog keep (S.spec f).pm func = some fn) fsL ⟨⟨k3, Try.f3, Try.func3, c3⟩, ⟨k4, Try.f4, Try.func4, c4⟩, ⟨k5, Try.f5, Try.func5, c5⟩, ⟨k6, Try.f6, Try.func6, c6⟩, ⟨k9, Try.f9, Try.func9, c9⟩, ⟨k10, Try.f10, Try.func10, c10⟩, ⟨k11, Try.f11, Try.func11, c11⟩, ⟨k12, Try.f12, Try.func12, c12⟩, ⟨k13, Try.f13, Try.func13, c13⟩, ⟨k14, Try.f14, Try.func14, c14⟩, ⟨k15, Try.f15, Try.func15, c15⟩, ⟨k16, Try.f16, Try.func16, c16⟩, ⟨k17, Try.f17, Try.func17, c17⟩, ⟨k18, Try.f18, Try.func18, c18⟩, ⟨k19, Try.f19, Try.func19, c19⟩, ⟨k20, Try.f20, Try.func20, c20⟩, ⟨k21, Try.f21, Try.func21, c21⟩, ⟨k22, Try.f22, Try.func22, c22⟩, ⟨k23, Try.f23, Try.func23, c23⟩, ⟨k26, Try.f26, Try.func26, c26⟩, ⟨k28, Try.f28, Try.func28, c28⟩, ⟨k30, Try.f30, Try.func30, c30⟩, ⟨k31, Try.f31, Try.func31, c31⟩, ⟨k32, Try.f32, Try.func32, c32⟩, ⟨k33, Try.f33, Try.func33, c33⟩, ⟨k34, Try.f34, Try.func34, c34⟩, ⟨k35, Try.f35, Try.func35, c35⟩, ⟨k36, Try.f36, Try.func36, c36⟩, ⟨k37, Try.f37, Try.func37, c37⟩, ⟨k38, Try.f38, Try.func38, c38⟩, ⟨k39, Try.f39, Try.func39, c39⟩, ⟨k40, Try.f40, Try.func40, c40⟩, ⟨k41, Try.f41, Try.func41, c41⟩, ⟨k42, Try.f42, Try.func42, c42⟩, ⟨k43, Try.f43, Try.func43, c43⟩, ⟨k44, Try.f44, Try.func44, c44⟩, ⟨k45, Try.f45, Try.func45, c45⟩, ⟨k46, Try.f46, Try.func46, c46⟩, ⟨k47, Try.f47, Try.func47, c47⟩, ⟨k48, Try.f48, Try.func48, c48⟩, ⟨k49, Try.f49, Try.func49, c49⟩, ⟨k50, Try.f50, Try.func50, c50⟩, ⟨k51, Try.f51, Try.func51, c51⟩, ⟨k52, Try.f52, Try.func52, c52⟩, ⟨k55, Try.f55, Try.func55, c55⟩, ⟨k56, Try.f56, Try.func56, c56⟩, ⟨k57, Try.f57, Try.func57, c57⟩, ⟨k58, Try.f58, Try.func58, c58⟩, ⟨k59, Try.f59, Try.func59, c59⟩, ⟨k62, Try.f62, Try.func62, c62⟩, ⟨k63, Try.f63, Try.func63, c63⟩, ⟨k64, Try.f64, Try.func64, c64⟩, ⟨k65, Try.f65, Try.func65, c65⟩, ⟨k67, Try.f67, Try.func67, c67⟩, ⟨k68, Try.f68, Try.func68, c68⟩, ⟨k69, Try.f69, Try.func69, c69⟩, ⟨k70, Try.f70, Try.func70, c70⟩, ⟨k77, Try.f77, Try.func77, c77⟩, ⟨k78, Try.f78, Try.func78, c78⟩, trivial⟩
theorem prim_ok : ∀ f p, S.prim f = some p → ∀ args r, p args = some r → Meets Try.prog f (S.spec f).pm args r :=
  findO_all (Q := fun (f : Nat) (p : List AV → Option (AV × List AV)) => ∀ args r, p args = some r → Meets Try.prog f (S.spec f).pm args r) primL (by exact ⟨fun args r h => compare_quick Try.func66 (by kernel_rfl) (by kernel_rfl) (by kernel_rfl) (by kernel_rfl) rfl h, trivial⟩)
theorem sysOk : SysOk Try.prog S := ⟨Checked.mixed Try.checked, fs_ok, prim_ok⟩
end Go.Proofs.Ytogjoenpliphdaa
