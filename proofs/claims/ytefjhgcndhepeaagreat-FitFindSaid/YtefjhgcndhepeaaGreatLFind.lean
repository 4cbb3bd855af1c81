/- The law: what the walk shows, read as the row states it. -/
import Derived.Test.YtefjhgcndhepeaaGreatC15
set_option linter.unusedSimpArgs false
set_option linter.unusedVariables false
namespace Go.Proofs.YtefjhgcndhepeaaGreat.fitFind
open Go Go.ChangeShapes Go.WideShapes Go.ChangeAt Go.RowKit Go.Ab Go.Ab.N
theorem own:ownKnob Tryz.prog.godebug=none:=by kernel_rfl
theorem laid:laidOutB Tryz.prog=true:=by kernel_rfl
theorem cells3:Tryz.prog.cellsOf 3=1:=by kernel_rfl
theorem und3:Tryz.prog.underlying 3=some (.int .i64):=by kernel_rfl
theorem und4:Tryz.prog.underlying 4=some .bool:=by kernel_rfl
theorem und22:Tryz.prog.underlying 22=some (.slice 3):=by kernel_rfl
theorem read22:Tryz.prog.readableRec 22=true∧22<Tryz.prog.types.size:=⟨by kernel_rfl,of_decide_eq_true (by kernel_rfl)⟩
theorem read3:Tryz.prog.readableRec 3=true∧3<Tryz.prog.types.size:=⟨by kernel_rfl,of_decide_eq_true (by kernel_rfl)⟩
set_option maxRecDepth 100000 in
theorem contract (H:Type) (enc:TypeId×Value→H) (W:World) (base:Nat) (args:Array Value) (ds gs:List (DataW H)) (before:List MemPlace)
  (hval:∀ (j:Nat) t v,Tryz.f7.params[j]?=some t→args[j]?=some v→Value.okWide Tryz.prog W .any base t v)
  (hW:DataW.Whole enc Tryz.prog Tryz.f7.params.toList Rows.fitFindSpec.vars false W args.toList ds gs before) :
  Calls Tryz.prog 7 args W fun e W'=>∃ v,e=.returned v∧Rows.fitFindSpec.post enc Tryz.prog Tryz.f7 false true false false W args v W':=by
 have hW':=hW
 obtain ⟨p,q,hA0,hV,rfl,hfz,hnd⟩:=hW
 obtain ⟨rfl,rfl⟩:=trodVars_none hV
 have hA:DataW.TrodAll enc Tryz.prog W 0 (fun _=>true) true Tryz.f7.params.toList args.toList ds p:=hA0
 have hpar:Tryz.f7.params=#[22,22]:=by kernel_rfl
 rw [hpar] at hA hval
 obtain ⟨v0,vs0,d0,ds0,p0,q0,hargs,rfl,rfl,h0,r0⟩:=trodAll_cons hA
 obtain ⟨v1,vs1,d1,ds1,p1,q1,rfl,rfl,rfl,h1,r1⟩:=trodAll_cons r0
 obtain ⟨rfl,rfl,rfl⟩:=trodAll_nil r1
 obtain rfl:args=#[v0,v1]:=Array.ext' hargs
 obtain ⟨l0,hl0,hy0,hm0⟩:=Lg und22 und3 cells3 (hval 0 22 v0 rfl rfl) h0
 have hx0:l0.length<9223372036854775808:=Nat.lt_of_le_of_lt hy0 (by decide)
 obtain ⟨l1,hl1,hy1,hm1⟩:=Lg und22 und3 cells3 (hval 1 22 v1 rfl rfl) h1
 have hx1:l1.length<9223372036854775808:=Nat.lt_of_le_of_lt hy1 (by decide)
 have hfn:=TX l0 l1 hl0 hx0 hl1 hx1
 have hrep:RepL (.bare W (UZ W)) #[v0,v1] [X8 l0,X8 l1]:=by
  refine ⟨rfl,fun j hj=>?_⟩
  match j,hj with
  | 0,_=>exact hm0
  | 1,_=>exact hm1
 refine (TE hfn.call hrep).mono ?_
 rintro e W' ⟨rfl,hb⟩
 simp only [List.append_nil] at hW' hA0
 refine ⟨_,rfl,ar (tb:=4) laid hW' hA0 rfl ?_ rfl und4 rfl hb⟩
 rw [hpar]
 simp [read22,read3]
set_option maxRecDepth 100000 in
theorem lifted (os:Os) (started:os.Started) (H:Type) (enc:TypeId×Value→H) :
  ReturnsInHanded {} Tryz.checked os 7 .any (Rows.fitFindSpec.pre6 enc Tryz.prog Tryz.f7 Rows.fitFindRow.domain false) (Rows.fitFindSpec.post enc Tryz.prog Tryz.f7 false true false false):=by
 refine returnsInHanded_of_change (C:=Tryz.checked) own started (by kernel_rfl) Tryz.func7
  (ChangeSpec.witness6 (enc:=enc) (C:=Tryz.checked) false ⟨#[],#[.slice none 0 0,.slice none 0 0],[]⟩ 8 (by kernel_rfl) (by kernel_rfl) (by kernel_rfl) (by kernel_rfl)) ?_
 intro W base args ds gs before hval hW _ _
 exact contract H enc W base args ds gs before hval hW
theorem row0:Tryz.pinned.checked.prog.funcNamed Rows.fitFindRow.func=some 7:=by kernel_rfl
theorem row1:joinedFacts Tryz.pinned.checked.prog 7 Tryz.f7 Rows.fitFindSpec Rows.fitFindRow=true:=by kernel_rfl
theorem row2:Func.isInstance Tryz.pinned.checked.prog Tryz.f7 Rows.fitFindRow.origin Rows.fitFindRow.targs:=of_decide_eq_true (by kernel_rfl)
theorem row3:Func.isWrapper Tryz.pinned.checked.prog Tryz.f7 Rows.fitFindRow.wrapper Rows.fitFindRow.mainSum:=by unfold Func.isWrapper; first | (rw [if_pos (by decide +kernel)]; kernel_rfl) | (rw [if_neg (by decide +kernel)]; exact ⟨rfl,rfl⟩)
theorem row4:∀ (os:Os),os.Started→∀ (H:Type) (enc:TypeId×Value→H),(∀ (a b:TypeId×Value),enc a=enc b→a=b)→ReturnsInHanded Rows.fitFindRow.assume Tryz.pinned.checked os 7 Reach.any (OpenClaim.pre enc Tryz.pinned.checked.prog Tryz.f7 (OpenSpec.ofChange Rows.fitFindSpec) Rows.fitFindRow) (ChangeSpec.post enc Tryz.pinned.checked.prog Tryz.f7 Rows.fitFindSpec Rows.fitFindRow.apart Rows.fitFindRow.fresh Rows.fitFindRow.handsOn Rows.fitFindRow.again):=fun os started H enc _=>lifted os started H enc
theorem proved:Rows.FitFindSaid :=
 OpenClaim.holds_of_wide 7 Tryz.f7 rfl rfl rfl rfl rfl rfl rfl ⟨rfl,rfl,rfl,rfl,rfl⟩ rfl rfl rfl rfl rfl row0 Tryz.func7 row1 row2 row3 row4
end Go.Proofs.YtefjhgcndhepeaaGreat.fitFind
