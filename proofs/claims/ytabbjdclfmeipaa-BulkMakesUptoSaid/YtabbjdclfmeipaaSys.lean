/-
  The system of the functions: which rows come out as one's own, and what stands in place of what has no body. Printed by a program of ours.
-/
import Derived.Test.YtabbjdclfmeipaaFd
import Derived.Test.YtabbjdclfmeipaaCode
import Derived.Test.YtabbjdclfmeipaaPrim
import Derived.Test.YtabbjdclfmeipaaChecked
set_option linter.unusedVariables false
namespace Go.Proofs.Ytabbjdclfmeipaa
open Go.Abs

def specL : List (Nat × FSpec) := [(38, { pm := [], rm := some (.row 67 5) }), (41, { pm := [], rm := some (.row 34 4) }), (44, { pm := [], rm := some (.row 67 5) }), (46, { pm := [.give (.row 67 5), .borrow, .borrow], rm := some (.row 67 5) }), (72, { pm := [.give (.row 67 5), .borrow, .give (.row 67 5)], rm := some (.row 67 5) }), (79, { pm := [.inout (.none)], rm := none, it := true })]
def spec (f : Nat) : FSpec := findD {} specL f
def fsL : List (Nat × AFun) := [(3, a3), (4, a4), (7, a7), (8, a8), (9, a9), (10, a10), (11, a11), (12, a12), (13, a13), (14, a14), (15, a15), (16, a16), (17, a17), (18, a18), (19, a19), (20, a20), (21, a21), (22, a22), (23, a23), (27, a27), (28, a28), (31, a31), (38, a38), (39, a39), (41, a41), (43, a43), (44, a44), (45, a45), (46, a46), (47, a47), (48, a48), (49, a49), (50, a50), (51, a51), (52, a52), (53, a53), (54, a54), (56, a56), (57, a57), (59, a59), (62, a62), (64, a64), (65, a65), (66, a66), (70, a70), (71, a71), (73, a73), (74, a74), (75, a75), (76, a76), (77, a77), (78, a78), (79, a79), (87, a87), (88, a88), (89, a89), (90, a90), (104, a104), (105, a105), (106, a106), (107, a107), (108, a108), (119, a119)]
def primL : List (Nat × (List AV → Option (AV × List AV))) := [(120, primCmp), (72, primInsert), (58, primAdd64), (55, primSub64)]
noncomputable def S : Go.Abs.Sys := ⟨spec, findO primL, findO fsL⟩
noncomputable abbrev cx : Cx := ⟨acall S, S.spec⟩
@[go_sem] theorem s3 : S.spec 3 = { pm := [], rm := none } := rfl
@[go_sem] theorem s4 : S.spec 4 = { pm := [], rm := none } := rfl
@[go_sem] theorem s7 : S.spec 7 = { pm := [], rm := none } := rfl
@[go_sem] theorem s8 : S.spec 8 = { pm := [], rm := none } := rfl
@[go_sem] theorem s9 : S.spec 9 = { pm := [], rm := none } := rfl
@[go_sem] theorem s10 : S.spec 10 = { pm := [], rm := none } := rfl
@[go_sem] theorem s11 : S.spec 11 = { pm := [], rm := none } := rfl
@[go_sem] theorem s12 : S.spec 12 = { pm := [], rm := none } := rfl
@[go_sem] theorem s13 : S.spec 13 = { pm := [], rm := none } := rfl
@[go_sem] theorem s14 : S.spec 14 = { pm := [], rm := none } := rfl
@[go_sem] theorem s15 : S.spec 15 = { pm := [], rm := none } := rfl
@[go_sem] theorem s16 : S.spec 16 = { pm := [], rm := none } := rfl
@[go_sem] theorem s17 : S.spec 17 = { pm := [], rm := none } := rfl
@[go_sem] theorem s18 : S.spec 18 = { pm := [], rm := none } := rfl
@[go_sem] theorem s19 : S.spec 19 = { pm := [], rm := none } := rfl
@[go_sem] theorem s20 : S.spec 20 = { pm := [], rm := none } := rfl
@[go_sem] theorem s21 : S.spec 21 = { pm := [], rm := none } := rfl
@[go_sem] theorem s22 : S.spec 22 = { pm := [], rm := none } := rfl
@[go_sem] theorem s23 : S.spec 23 = { pm := [], rm := none } := rfl
@[go_sem] theorem s27 : S.spec 27 = { pm := [], rm := none } := rfl
@[go_sem] theorem s28 : S.spec 28 = { pm := [], rm := none } := rfl
@[go_sem] theorem s31 : S.spec 31 = { pm := [], rm := none } := rfl
@[go_sem] theorem s38 : S.spec 38 = { pm := [], rm := some (.row 67 5) } := rfl
@[go_sem] theorem s39 : S.spec 39 = { pm := [], rm := none } := rfl
@[go_sem] theorem s41 : S.spec 41 = { pm := [], rm := some (.row 34 4) } := rfl
@[go_sem] theorem s43 : S.spec 43 = { pm := [], rm := none } := rfl
@[go_sem] theorem s44 : S.spec 44 = { pm := [], rm := some (.row 67 5) } := rfl
@[go_sem] theorem s45 : S.spec 45 = { pm := [], rm := none } := rfl
@[go_sem] theorem s46 : S.spec 46 = { pm := [.give (.row 67 5), .borrow, .borrow], rm := some (.row 67 5) } := rfl
@[go_sem] theorem s47 : S.spec 47 = { pm := [], rm := none } := rfl
@[go_sem] theorem s48 : S.spec 48 = { pm := [], rm := none } := rfl
@[go_sem] theorem s49 : S.spec 49 = { pm := [], rm := none } := rfl
@[go_sem] theorem s50 : S.spec 50 = { pm := [], rm := none } := rfl
@[go_sem] theorem s51 : S.spec 51 = { pm := [], rm := none } := rfl
@[go_sem] theorem s52 : S.spec 52 = { pm := [], rm := none } := rfl
@[go_sem] theorem s53 : S.spec 53 = { pm := [], rm := none } := rfl
@[go_sem] theorem s54 : S.spec 54 = { pm := [], rm := none } := rfl
@[go_sem] theorem s55 : S.spec 55 = { pm := [], rm := none } := rfl
@[go_sem] theorem s56 : S.spec 56 = { pm := [], rm := none } := rfl
@[go_sem] theorem s57 : S.spec 57 = { pm := [], rm := none } := rfl
@[go_sem] theorem s58 : S.spec 58 = { pm := [], rm := none } := rfl
@[go_sem] theorem s59 : S.spec 59 = { pm := [], rm := none } := rfl
@[go_sem] theorem s62 : S.spec 62 = { pm := [], rm := none } := rfl
@[go_sem] theorem s64 : S.spec 64 = { pm := [], rm := none } := rfl
@[go_sem] theorem s65 : S.spec 65 = { pm := [], rm := none } := rfl
@[go_sem] theorem s66 : S.spec 66 = { pm := [], rm := none } := rfl
@[go_sem] theorem s70 : S.spec 70 = { pm := [], rm := none } := rfl
@[go_sem] theorem s71 : S.spec 71 = { pm := [], rm := none } := rfl
@[go_sem] theorem s72 : S.spec 72 = { pm := [.give (.row 67 5), .borrow, .give (.row 67 5)], rm := some (.row 67 5) } := rfl
@[go_sem] theorem s73 : S.spec 73 = { pm := [], rm := none } := rfl
@[go_sem] theorem s74 : S.spec 74 = { pm := [], rm := none } := rfl
@[go_sem] theorem s75 : S.spec 75 = { pm := [], rm := none } := rfl
@[go_sem] theorem s76 : S.spec 76 = { pm := [], rm := none } := rfl
@[go_sem] theorem s77 : S.spec 77 = { pm := [], rm := none } := rfl
@[go_sem] theorem s78 : S.spec 78 = { pm := [], rm := none } := rfl
@[go_sem] theorem s79 : S.spec 79 = { pm := [.inout (.none)], rm := none, it := true } := rfl
@[go_sem] theorem s87 : S.spec 87 = { pm := [], rm := none } := rfl
@[go_sem] theorem s88 : S.spec 88 = { pm := [], rm := none } := rfl
@[go_sem] theorem s89 : S.spec 89 = { pm := [], rm := none } := rfl
@[go_sem] theorem s90 : S.spec 90 = { pm := [], rm := none } := rfl
@[go_sem] theorem s104 : S.spec 104 = { pm := [], rm := none } := rfl
@[go_sem] theorem s105 : S.spec 105 = { pm := [], rm := none } := rfl
@[go_sem] theorem s106 : S.spec 106 = { pm := [], rm := none } := rfl
@[go_sem] theorem s107 : S.spec 107 = { pm := [], rm := none } := rfl
@[go_sem] theorem s108 : S.spec 108 = { pm := [], rm := none } := rfl
@[go_sem] theorem s119 : S.spec 119 = { pm := [], rm := none } := rfl
@[go_sem] theorem s120 : S.spec 120 = { pm := [], rm := none } := rfl
theorem g3 {args : List AV} {Φ : AV × List AV → Prop} (hl : args.length = a3.nparams) (h : kexec cx a3.body [] (kfin { pm := [], rm := none } a3.nparams a3.res Φ) (unpackP 0 args [] [])) : W (acall S 3 args) Φ := kcall rfl rfl rfl hl h
theorem g4 {args : List AV} {Φ : AV × List AV → Prop} (hl : args.length = a4.nparams) (h : kexec cx a4.body [] (kfin { pm := [], rm := none } a4.nparams a4.res Φ) (unpackP 0 args [] [])) : W (acall S 4 args) Φ := kcall rfl rfl rfl hl h
theorem g7 {args : List AV} {Φ : AV × List AV → Prop} (hl : args.length = a7.nparams) (h : kexec cx a7.body [] (kfin { pm := [], rm := none } a7.nparams a7.res Φ) (unpackP 0 args [] [])) : W (acall S 7 args) Φ := kcall rfl rfl rfl hl h
theorem g8 {args : List AV} {Φ : AV × List AV → Prop} (hl : args.length = a8.nparams) (h : kexec cx a8.body [] (kfin { pm := [], rm := none } a8.nparams a8.res Φ) (unpackP 0 args [] [])) : W (acall S 8 args) Φ := kcall rfl rfl rfl hl h
theorem g9 {args : List AV} {Φ : AV × List AV → Prop} (hl : args.length = a9.nparams) (h : kexec cx a9.body [] (kfin { pm := [], rm := none } a9.nparams a9.res Φ) (unpackP 0 args [] [])) : W (acall S 9 args) Φ := kcall rfl rfl rfl hl h
theorem g10 {args : List AV} {Φ : AV × List AV → Prop} (hl : args.length = a10.nparams) (h : kexec cx a10.body [] (kfin { pm := [], rm := none } a10.nparams a10.res Φ) (unpackP 0 args [] [])) : W (acall S 10 args) Φ := kcall rfl rfl rfl hl h
theorem g11 {args : List AV} {Φ : AV × List AV → Prop} (hl : args.length = a11.nparams) (h : kexec cx a11.body [] (kfin { pm := [], rm := none } a11.nparams a11.res Φ) (unpackP 0 args [] [])) : W (acall S 11 args) Φ := kcall rfl rfl rfl hl h
theorem g12 {args : List AV} {Φ : AV × List AV → Prop} (hl : args.length = a12.nparams) (h : kexec cx a12.body [] (kfin { pm := [], rm := none } a12.nparams a12.res Φ) (unpackP 0 args [] [])) : W (acall S 12 args) Φ := kcall rfl rfl rfl hl h
theorem g13 {args : List AV} {Φ : AV × List AV → Prop} (hl : args.length = a13.nparams) (h : kexec cx a13.body [] (kfin { pm := [], rm := none } a13.nparams a13.res Φ) (unpackP 0 args [] [])) : W (acall S 13 args) Φ := kcall rfl rfl rfl hl h
theorem g14 {args : List AV} {Φ : AV × List AV → Prop} (hl : args.length = a14.nparams) (h : kexec cx a14.body [] (kfin { pm := [], rm := none } a14.nparams a14.res Φ) (unpackP 0 args [] [])) : W (acall S 14 args) Φ := kcall rfl rfl rfl hl h
theorem g15 {args : List AV} {Φ : AV × List AV → Prop} (hl : args.length = a15.nparams) (h : kexec cx a15.body [] (kfin { pm := [], rm := none } a15.nparams a15.res Φ) (unpackP 0 args [] [])) : W (acall S 15 args) Φ := kcall rfl rfl rfl hl h
theorem g16 {args : List AV} {Φ : AV × List AV → Prop} (hl : args.length = a16.nparams) (h : kexec cx a16.body [] (kfin { pm := [], rm := none } a16.nparams a16.res Φ) (unpackP 0 args [] [])) : W (acall S 16 args) Φ := kcall rfl rfl rfl hl h
theorem g17 {args : List AV} {Φ : AV × List AV → Prop} (hl : args.length = a17.nparams) (h : kexec cx a17.body [] (kfin { pm := [], rm := none } a17.nparams a17.res Φ) (unpackP 0 args [] [])) : W (acall S 17 args) Φ := kcall rfl rfl rfl hl h
theorem g18 {args : List AV} {Φ : AV × List AV → Prop} (hl : args.length = a18.nparams) (h : kexec cx a18.body [] (kfin { pm := [], rm := none } a18.nparams a18.res Φ) (unpackP 0 args [] [])) : W (acall S 18 args) Φ := kcall rfl rfl rfl hl h
theorem g19 {args : List AV} {Φ : AV × List AV → Prop} (hl : args.length = a19.nparams) (h : kexec cx a19.body [] (kfin { pm := [], rm := none } a19.nparams a19.res Φ) (unpackP 0 args [] [])) : W (acall S 19 args) Φ := kcall rfl rfl rfl hl h
theorem g20 {args : List AV} {Φ : AV × List AV → Prop} (hl : args.length = a20.nparams) (h : kexec cx a20.body [] (kfin { pm := [], rm := none } a20.nparams a20.res Φ) (unpackP 0 args [] [])) : W (acall S 20 args) Φ := kcall rfl rfl rfl hl h
theorem g21 {args : List AV} {Φ : AV × List AV → Prop} (hl : args.length = a21.nparams) (h : kexec cx a21.body [] (kfin { pm := [], rm := none } a21.nparams a21.res Φ) (unpackP 0 args [] [])) : W (acall S 21 args) Φ := kcall rfl rfl rfl hl h
theorem g22 {args : List AV} {Φ : AV × List AV → Prop} (hl : args.length = a22.nparams) (h : kexec cx a22.body [] (kfin { pm := [], rm := none } a22.nparams a22.res Φ) (unpackP 0 args [] [])) : W (acall S 22 args) Φ := kcall rfl rfl rfl hl h
theorem g23 {args : List AV} {Φ : AV × List AV → Prop} (hl : args.length = a23.nparams) (h : kexec cx a23.body [] (kfin { pm := [], rm := none } a23.nparams a23.res Φ) (unpackP 0 args [] [])) : W (acall S 23 args) Φ := kcall rfl rfl rfl hl h
theorem g27 {args : List AV} {Φ : AV × List AV → Prop} (hl : args.length = a27.nparams) (h : kexec cx a27.body [] (kfin { pm := [], rm := none } a27.nparams a27.res Φ) (unpackP 0 args [] [])) : W (acall S 27 args) Φ := kcall rfl rfl rfl hl h
theorem g28 {args : List AV} {Φ : AV × List AV → Prop} (hl : args.length = a28.nparams) (h : kexec cx a28.body [] (kfin { pm := [], rm := none } a28.nparams a28.res Φ) (unpackP 0 args [] [])) : W (acall S 28 args) Φ := kcall rfl rfl rfl hl h
theorem g31 {args : List AV} {Φ : AV × List AV → Prop} (hl : args.length = a31.nparams) (h : kexec cx a31.body [] (kfin { pm := [], rm := none } a31.nparams a31.res Φ) (unpackP 0 args [] [])) : W (acall S 31 args) Φ := kcall rfl rfl rfl hl h
theorem g38 {args : List AV} {Φ : AV × List AV → Prop} (hl : args.length = a38.nparams) (h : kexec cx a38.body [] (kfin { pm := [], rm := some (.row 67 5) } a38.nparams a38.res Φ) (unpackP 0 args [] [])) : W (acall S 38 args) Φ := kcall rfl rfl rfl hl h
theorem g39 {args : List AV} {Φ : AV × List AV → Prop} (hl : args.length = a39.nparams) (h : kexec cx a39.body [] (kfin { pm := [], rm := none } a39.nparams a39.res Φ) (unpackP 0 args [] [])) : W (acall S 39 args) Φ := kcall rfl rfl rfl hl h
theorem g41 {args : List AV} {Φ : AV × List AV → Prop} (hl : args.length = a41.nparams) (h : kexec cx a41.body [] (kfin { pm := [], rm := some (.row 34 4) } a41.nparams a41.res Φ) (unpackP 0 args [] [])) : W (acall S 41 args) Φ := kcall rfl rfl rfl hl h
theorem g43 {args : List AV} {Φ : AV × List AV → Prop} (hl : args.length = a43.nparams) (h : kexec cx a43.body [] (kfin { pm := [], rm := none } a43.nparams a43.res Φ) (unpackP 0 args [] [])) : W (acall S 43 args) Φ := kcall rfl rfl rfl hl h
theorem g44 {args : List AV} {Φ : AV × List AV → Prop} (hl : args.length = a44.nparams) (h : kexec cx a44.body [] (kfin { pm := [], rm := some (.row 67 5) } a44.nparams a44.res Φ) (unpackP 0 args [] [])) : W (acall S 44 args) Φ := kcall rfl rfl rfl hl h
theorem g45 {args : List AV} {Φ : AV × List AV → Prop} (hl : args.length = a45.nparams) (h : kexec cx a45.body [] (kfin { pm := [], rm := none } a45.nparams a45.res Φ) (unpackP 0 args [] [])) : W (acall S 45 args) Φ := kcall rfl rfl rfl hl h
theorem g46 {args : List AV} {Φ : AV × List AV → Prop} (hl : args.length = a46.nparams) (h : kexec cx a46.body [] (kfin { pm := [.give (.row 67 5), .borrow, .borrow], rm := some (.row 67 5) } a46.nparams a46.res Φ) (unpackP 0 args [] [])) : W (acall S 46 args) Φ := kcall rfl rfl rfl hl h
theorem g47 {args : List AV} {Φ : AV × List AV → Prop} (hl : args.length = a47.nparams) (h : kexec cx a47.body [] (kfin { pm := [], rm := none } a47.nparams a47.res Φ) (unpackP 0 args [] [])) : W (acall S 47 args) Φ := kcall rfl rfl rfl hl h
theorem g48 {args : List AV} {Φ : AV × List AV → Prop} (hl : args.length = a48.nparams) (h : kexec cx a48.body [] (kfin { pm := [], rm := none } a48.nparams a48.res Φ) (unpackP 0 args [] [])) : W (acall S 48 args) Φ := kcall rfl rfl rfl hl h
theorem g49 {args : List AV} {Φ : AV × List AV → Prop} (hl : args.length = a49.nparams) (h : kexec cx a49.body [] (kfin { pm := [], rm := none } a49.nparams a49.res Φ) (unpackP 0 args [] [])) : W (acall S 49 args) Φ := kcall rfl rfl rfl hl h
theorem g50 {args : List AV} {Φ : AV × List AV → Prop} (hl : args.length = a50.nparams) (h : kexec cx a50.body [] (kfin { pm := [], rm := none } a50.nparams a50.res Φ) (unpackP 0 args [] [])) : W (acall S 50 args) Φ := kcall rfl rfl rfl hl h
theorem g51 {args : List AV} {Φ : AV × List AV → Prop} (hl : args.length = a51.nparams) (h : kexec cx a51.body [] (kfin { pm := [], rm := none } a51.nparams a51.res Φ) (unpackP 0 args [] [])) : W (acall S 51 args) Φ := kcall rfl rfl rfl hl h
theorem g52 {args : List AV} {Φ : AV × List AV → Prop} (hl : args.length = a52.nparams) (h : kexec cx a52.body [] (kfin { pm := [], rm := none } a52.nparams a52.res Φ) (unpackP 0 args [] [])) : W (acall S 52 args) Φ := kcall rfl rfl rfl hl h
theorem g53 {args : List AV} {Φ : AV × List AV → Prop} (hl : args.length = a53.nparams) (h : kexec cx a53.body [] (kfin { pm := [], rm := none } a53.nparams a53.res Φ) (unpackP 0 args [] [])) : W (acall S 53 args) Φ := kcall rfl rfl rfl hl h
theorem g54 {args : List AV} {Φ : AV × List AV → Prop} (hl : args.length = a54.nparams) (h : kexec cx a54.body [] (kfin { pm := [], rm := none } a54.nparams a54.res Φ) (unpackP 0 args [] [])) : W (acall S 54 args) Φ := kcall rfl rfl rfl hl h
theorem g56 {args : List AV} {Φ : AV × List AV → Prop} (hl : args.length = a56.nparams) (h : kexec cx a56.body [] (kfin { pm := [], rm := none } a56.nparams a56.res Φ) (unpackP 0 args [] [])) : W (acall S 56 args) Φ := kcall rfl rfl rfl hl h
theorem g57 {args : List AV} {Φ : AV × List AV → Prop} (hl : args.length = a57.nparams) (h : kexec cx a57.body [] (kfin { pm := [], rm := none } a57.nparams a57.res Φ) (unpackP 0 args [] [])) : W (acall S 57 args) Φ := kcall rfl rfl rfl hl h
theorem g59 {args : List AV} {Φ : AV × List AV → Prop} (hl : args.length = a59.nparams) (h : kexec cx a59.body [] (kfin { pm := [], rm := none } a59.nparams a59.res Φ) (unpackP 0 args [] [])) : W (acall S 59 args) Φ := kcall rfl rfl rfl hl h
theorem g62 {args : List AV} {Φ : AV × List AV → Prop} (hl : args.length = a62.nparams) (h : kexec cx a62.body [] (kfin { pm := [], rm := none } a62.nparams a62.res Φ) (unpackP 0 args [] [])) : W (acall S 62 args) Φ := kcall rfl rfl rfl hl h
theorem g64 {args : List AV} {Φ : AV × List AV → Prop} (hl : args.length = a64.nparams) (h : kexec cx a64.body [] (kfin { pm := [], rm := none } a64.nparams a64.res Φ) (unpackP 0 args [] [])) : W (acall S 64 args) Φ := kcall rfl rfl rfl hl h
theorem g65 {args : List AV} {Φ : AV × List AV → Prop} (hl : args.length = a65.nparams) (h : kexec cx a65.body [] (kfin { pm := [], rm := none } a65.nparams a65.res Φ) (unpackP 0 args [] [])) : W (acall S 65 args) Φ := kcall rfl rfl rfl hl h
theorem g66 {args : List AV} {Φ : AV × List AV → Prop} (hl : args.length = a66.nparams) (h : kexec cx a66.body [] (kfin { pm := [], rm := none } a66.nparams a66.res Φ) (unpackP 0 args [] [])) : W (acall S 66 args) Φ := kcall rfl rfl rfl hl h
theorem g70 {args : List AV} {Φ : AV × List AV → Prop} (hl : args.length = a70.nparams) (h : kexec cx a70.body [] (kfin { pm := [], rm := none } a70.nparams a70.res Φ) (unpackP 0 args [] [])) : W (acall S 70 args) Φ := kcall rfl rfl rfl hl h
theorem g71 {args : List AV} {Φ : AV × List AV → Prop} (hl : args.length = a71.nparams) (h : kexec cx a71.body [] (kfin { pm := [], rm := none } a71.nparams a71.res Φ) (unpackP 0 args [] [])) : W (acall S 71 args) Φ := kcall rfl rfl rfl hl h
theorem g73 {args : List AV} {Φ : AV × List AV → Prop} (hl : args.length = a73.nparams) (h : kexec cx a73.body [] (kfin { pm := [], rm := none } a73.nparams a73.res Φ) (unpackP 0 args [] [])) : W (acall S 73 args) Φ := kcall rfl rfl rfl hl h
theorem g74 {args : List AV} {Φ : AV × List AV → Prop} (hl : args.length = a74.nparams) (h : kexec cx a74.body [] (kfin { pm := [], rm := none } a74.nparams a74.res Φ) (unpackP 0 args [] [])) : W (acall S 74 args) Φ := kcall rfl rfl rfl hl h
theorem g75 {args : List AV} {Φ : AV × List AV → Prop} (hl : args.length = a75.nparams) (h : kexec cx a75.body [] (kfin { pm := [], rm := none } a75.nparams a75.res Φ) (unpackP 0 args [] [])) : W (acall S 75 args) Φ := kcall rfl rfl rfl hl h
theorem g76 {args : List AV} {Φ : AV × List AV → Prop} (hl : args.length = a76.nparams) (h : kexec cx a76.body [] (kfin { pm := [], rm := none } a76.nparams a76.res Φ) (unpackP 0 args [] [])) : W (acall S 76 args) Φ := kcall rfl rfl rfl hl h
theorem g77 {args : List AV} {Φ : AV × List AV → Prop} (hl : args.length = a77.nparams) (h : kexec cx a77.body [] (kfin { pm := [], rm := none } a77.nparams a77.res Φ) (unpackP 0 args [] [])) : W (acall S 77 args) Φ := kcall rfl rfl rfl hl h
theorem g78 {args : List AV} {Φ : AV × List AV → Prop} (hl : args.length = a78.nparams) (h : kexec cx a78.body [] (kfin { pm := [], rm := none } a78.nparams a78.res Φ) (unpackP 0 args [] [])) : W (acall S 78 args) Φ := kcall rfl rfl rfl hl h
theorem g79 {caps : List AV} {es : List (List AV)} (hl : caps.length + 1 = a79.nparams) (hfc : flats caps = true) (h : ∀ o : Option Nat, (∀ n, o = some n → n < es.length) → ikexec cx a79.body [] (igfin es o) ⟨unpackP 0 (.yl :: caps) [] [], [], mdk o 0⟩) : acall S 79 (.yq :: caps) = some (.sl .open_ 0 es, []) := kgive rfl rfl hl rfl rfl hfc h
theorem g87 {args : List AV} {Φ : AV × List AV → Prop} (hl : args.length = a87.nparams) (h : kexec cx a87.body [] (kfin { pm := [], rm := none } a87.nparams a87.res Φ) (unpackP 0 args [] [])) : W (acall S 87 args) Φ := kcall rfl rfl rfl hl h
theorem g88 {args : List AV} {Φ : AV × List AV → Prop} (hl : args.length = a88.nparams) (h : kexec cx a88.body [] (kfin { pm := [], rm := none } a88.nparams a88.res Φ) (unpackP 0 args [] [])) : W (acall S 88 args) Φ := kcall rfl rfl rfl hl h
theorem g89 {args : List AV} {Φ : AV × List AV → Prop} (hl : args.length = a89.nparams) (h : kexec cx a89.body [] (kfin { pm := [], rm := none } a89.nparams a89.res Φ) (unpackP 0 args [] [])) : W (acall S 89 args) Φ := kcall rfl rfl rfl hl h
theorem g90 {args : List AV} {Φ : AV × List AV → Prop} (hl : args.length = a90.nparams) (h : kexec cx a90.body [] (kfin { pm := [], rm := none } a90.nparams a90.res Φ) (unpackP 0 args [] [])) : W (acall S 90 args) Φ := kcall rfl rfl rfl hl h
theorem g104 {args : List AV} {Φ : AV × List AV → Prop} (hl : args.length = a104.nparams) (h : kexec cx a104.body [] (kfin { pm := [], rm := none } a104.nparams a104.res Φ) (unpackP 0 args [] [])) : W (acall S 104 args) Φ := kcall rfl rfl rfl hl h
theorem g105 {args : List AV} {Φ : AV × List AV → Prop} (hl : args.length = a105.nparams) (h : kexec cx a105.body [] (kfin { pm := [], rm := none } a105.nparams a105.res Φ) (unpackP 0 args [] [])) : W (acall S 105 args) Φ := kcall rfl rfl rfl hl h
theorem g106 {args : List AV} {Φ : AV × List AV → Prop} (hl : args.length = a106.nparams) (h : kexec cx a106.body [] (kfin { pm := [], rm := none } a106.nparams a106.res Φ) (unpackP 0 args [] [])) : W (acall S 106 args) Φ := kcall rfl rfl rfl hl h
theorem g107 {args : List AV} {Φ : AV × List AV → Prop} (hl : args.length = a107.nparams) (h : kexec cx a107.body [] (kfin { pm := [], rm := none } a107.nparams a107.res Φ) (unpackP 0 args [] [])) : W (acall S 107 args) Φ := kcall rfl rfl rfl hl h
theorem g108 {args : List AV} {Φ : AV × List AV → Prop} (hl : args.length = a108.nparams) (h : kexec cx a108.body [] (kfin { pm := [], rm := none } a108.nparams a108.res Φ) (unpackP 0 args [] [])) : W (acall S 108 args) Φ := kcall rfl rfl rfl hl h
theorem g119 {args : List AV} {Φ : AV × List AV → Prop} (hl : args.length = a119.nparams) (h : kexec cx a119.body [] (kfin { pm := [], rm := none } a119.nparams a119.res Φ) (unpackP 0 args [] [])) : W (acall S 119 args) Φ := kcall rfl rfl rfl hl h
theorem fs_ok : ∀ f fn, S.fs f = some fn → ∃ keep func, Try.prog.funcs[f]? = some func ∧ compF Try.prog keep (S.spec f).pm func = some fn :=
  findO_all (Q := fun f fn => ∃ keep func, Try.prog.funcs[f]? = some func ∧ compF Try.prog keep (S.spec f).pm func = some fn) fsL ⟨⟨k3, Try.f3, Try.func3, c3⟩, ⟨k4, Try.f4, Try.func4, c4⟩, ⟨k7, Try.f7, Try.func7, c7⟩, ⟨k8, Try.f8, Try.func8, c8⟩, ⟨k9, Try.f9, Try.func9, c9⟩, ⟨k10, Try.f10, Try.func10, c10⟩, ⟨k11, Try.f11, Try.func11, c11⟩, ⟨k12, Try.f12, Try.func12, c12⟩, ⟨k13, Try.f13, Try.func13, c13⟩, ⟨k14, Try.f14, Try.func14, c14⟩, ⟨k15, Try.f15, Try.func15, c15⟩, ⟨k16, Try.f16, Try.func16, c16⟩, ⟨k17, Try.f17, Try.func17, c17⟩, ⟨k18, Try.f18, Try.func18, c18⟩, ⟨k19, Try.f19, Try.func19, c19⟩, ⟨k20, Try.f20, Try.func20, c20⟩, ⟨k21, Try.f21, Try.func21, c21⟩, ⟨k22, Try.f22, Try.func22, c22⟩, ⟨k23, Try.f23, Try.func23, c23⟩, ⟨k27, Try.f27, Try.func27, c27⟩, ⟨k28, Try.f28, Try.func28, c28⟩, ⟨k31, Try.f31, Try.func31, c31⟩, ⟨k38, Try.f38, Try.func38, c38⟩, ⟨k39, Try.f39, Try.func39, c39⟩, ⟨k41, Try.f41, Try.func41, c41⟩, ⟨k43, Try.f43, Try.func43, c43⟩, ⟨k44, Try.f44, Try.func44, c44⟩, ⟨k45, Try.f45, Try.func45, c45⟩, ⟨k46, Try.f46, Try.func46, c46⟩, ⟨k47, Try.f47, Try.func47, c47⟩, ⟨k48, Try.f48, Try.func48, c48⟩, ⟨k49, Try.f49, Try.func49, c49⟩, ⟨k50, Try.f50, Try.func50, c50⟩, ⟨k51, Try.f51, Try.func51, c51⟩, ⟨k52, Try.f52, Try.func52, c52⟩, ⟨k53, Try.f53, Try.func53, c53⟩, ⟨k54, Try.f54, Try.func54, c54⟩, ⟨k56, Try.f56, Try.func56, c56⟩, ⟨k57, Try.f57, Try.func57, c57⟩, ⟨k59, Try.f59, Try.func59, c59⟩, ⟨k62, Try.f62, Try.func62, c62⟩, ⟨k64, Try.f64, Try.func64, c64⟩, ⟨k65, Try.f65, Try.func65, c65⟩, ⟨k66, Try.f66, Try.func66, c66⟩, ⟨k70, Try.f70, Try.func70, c70⟩, ⟨k71, Try.f71, Try.func71, c71⟩, ⟨k73, Try.f73, Try.func73, c73⟩, ⟨k74, Try.f74, Try.func74, c74⟩, ⟨k75, Try.f75, Try.func75, c75⟩, ⟨k76, Try.f76, Try.func76, c76⟩, ⟨k77, Try.f77, Try.func77, c77⟩, ⟨k78, Try.f78, Try.func78, c78⟩, ⟨k79, Try.f79, Try.func79, c79⟩, ⟨k87, Try.f87, Try.func87, c87⟩, ⟨k88, Try.f88, Try.func88, c88⟩, ⟨k89, Try.f89, Try.func89, c89⟩, ⟨k90, Try.f90, Try.func90, c90⟩, ⟨k104, Try.f104, Try.func104, c104⟩, ⟨k105, Try.f105, Try.func105, c105⟩, ⟨k106, Try.f106, Try.func106, c106⟩, ⟨k107, Try.f107, Try.func107, c107⟩, ⟨k108, Try.f108, Try.func108, c108⟩, ⟨k119, Try.f119, Try.func119, c119⟩, trivial⟩
theorem prim_ok : ∀ f p, S.prim f = some p → ∀ args r, p args = some r → Meets Try.prog f (S.spec f).pm args r :=
  findO_all (Q := fun (f : Nat) (p : List AV → Option (AV × List AV)) => ∀ args r, p args = some r → Meets Try.prog f (S.spec f).pm args r) primL (by exact ⟨fun args r h => cmp_meets h, fun args r h => insert_meets h, fun args r h => add64_meets h, fun args r h => sub64_meets h, trivial⟩)
theorem sysOk : SysOk Try.prog S := ⟨Checked.mixed Try.checked, fs_ok, prim_ok⟩
end Go.Proofs.Ytabbjdclfmeipaa
