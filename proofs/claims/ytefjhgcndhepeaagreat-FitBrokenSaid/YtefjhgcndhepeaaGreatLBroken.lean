/- The law: what the walk shows, read as the row states it. -/
import Derived.Test.YtefjhgcndhepeaaGreatC16
set_option linter.unusedSimpArgs false
set_option linter.unusedVariables false
namespace Go.Proofs.YtefjhgcndhepeaaGreat.fitBroken
open Go Go.ChangeShapes Go.WideShapes Go.ChangeAt Go.RowKit Go.Ab Go.Ab.N
theorem own:ownKnob Tryz.prog.godebug=none:=by kernel_rfl
theorem laid:laidOutB Tryz.prog=true:=by kernel_rfl
theorem cells3:Tryz.prog.cellsOf 3=1:=by kernel_rfl
theorem und3:Tryz.prog.underlying 3=some (.int .i64):=by kernel_rfl
theorem und4:Tryz.prog.underlying 4=some .bool:=by kernel_rfl
theorem und22:Tryz.prog.underlying 22=some (.slice 3):=by kernel_rfl
theorem read22:Tryz.prog.readableRec 22=true∧22<Tryz.prog.types.size:=⟨by kernel_rfl,of_decide_eq_true (by kernel_rfl)⟩
theorem read3:Tryz.prog.readableRec 3=true∧3<Tryz.prog.types.size:=⟨by kernel_rfl,of_decide_eq_true (by kernel_rfl)⟩
set_option maxRecDepth 100000 in
theorem contract (H:Type) (enc:TypeId×Value→H) (W:World) (base:Nat) (args:Array Value) (ds gs:List (DataW H)) (before:List MemPlace)
  (hval:∀ (j:Nat) t v,Tryz.f11.params[j]?=some t→args[j]?=some v→Value.okWide Tryz.prog W .any base t v)
  (hW:DataW.Whole enc Tryz.prog Tryz.f11.params.toList Rows.fitBrokenSpec.vars false W args.toList ds gs before) :
  Calls Tryz.prog 11 args W fun e W'=>∃ v,e=.returned v∧Rows.fitBrokenSpec.post enc Tryz.prog Tryz.f11 false true false false W args v W':=by
 have hW':=hW
 obtain ⟨p,q,hA0,hV,rfl,hfz,hnd⟩:=hW
 obtain ⟨rfl,rfl⟩:=trodVars_none hV
 have hA:DataW.TrodAll enc Tryz.prog W 0 (fun _=>true) true Tryz.f11.params.toList args.toList ds p:=hA0
 have hpar:Tryz.f11.params=#[22]:=by kernel_rfl
 rw [hpar] at hA hval
 obtain ⟨v0,vs0,d0,ds0,p0,q0,hargs,rfl,rfl,h0,r0⟩:=trodAll_cons hA
 obtain ⟨rfl,rfl,rfl⟩:=trodAll_nil r0
 obtain rfl:args=#[v0]:=Array.ext' hargs
 obtain ⟨l0,hl0,hy0,hm0⟩:=Uw und22 und3 cells3 (hval 0 22 v0 rfl rfl) h0
 have hx0:l0.length<9223372036854775808:=Nat.lt_of_le_of_lt hy0 (by decide)
 have hfn:=Oa l0 hl0 hx0
 have hrep:RepL (.bare W (Vl W)) #[v0] [X4 l0]:=by
  refine ⟨rfl,fun j hj=>?_⟩
  match j,hj with
  | 0,_=>exact hm0
 refine (TK hfn.call hrep).mono ?_
 rintro e W' ⟨rfl,hb⟩
 simp only [List.append_nil] at hW' hA0
 refine ⟨_,rfl,bM (tb:=4) laid hW' hA0 rfl ?_ rfl und4 rfl hb⟩
 rw [hpar]
 simp [read22,read3]
set_option maxRecDepth 100000 in
theorem lifted (os:Os) (started:os.Started) (H:Type) (enc:TypeId×Value→H) :
  ReturnsInHanded {} Tryz.checked os 11 .any (Rows.fitBrokenSpec.pre6 enc Tryz.prog Tryz.f11 Rows.fitBrokenRow.domain false) (Rows.fitBrokenSpec.post enc Tryz.prog Tryz.f11 false true false false):=by
 refine returnsInHanded_of_change (C:=Tryz.checked) own started (by kernel_rfl) Tryz.func11
  (ChangeSpec.witness6 (enc:=enc) (C:=Tryz.checked) false ⟨#[],#[.slice none 0 0],[]⟩ 8 (by kernel_rfl) (by kernel_rfl) (by kernel_rfl) (by kernel_rfl)) ?_
 intro W base args ds gs before hval hW _ _
 exact contract H enc W base args ds gs before hval hW
theorem row0:Tryz.pinned.checked.prog.funcNamed Rows.fitBrokenRow.func=some 11:=by kernel_rfl
theorem row1:joinedFacts Tryz.pinned.checked.prog 11 Tryz.f11 Rows.fitBrokenSpec Rows.fitBrokenRow=true:=by kernel_rfl
theorem row2:Func.isInstance Tryz.pinned.checked.prog Tryz.f11 Rows.fitBrokenRow.origin Rows.fitBrokenRow.targs:=of_decide_eq_true (by kernel_rfl)
theorem row3:Func.isWrapper Tryz.pinned.checked.prog Tryz.f11 Rows.fitBrokenRow.wrapper Rows.fitBrokenRow.mainSum:=by unfold Func.isWrapper; first | (rw [if_pos (by decide +kernel)]; kernel_rfl) | (rw [if_neg (by decide +kernel)]; exact ⟨rfl,rfl⟩)
theorem row4:∀ (os:Os),os.Started→∀ (H:Type) (enc:TypeId×Value→H),(∀ (a b:TypeId×Value),enc a=enc b→a=b)→ReturnsInHanded Rows.fitBrokenRow.assume Tryz.pinned.checked os 11 Reach.any (OpenClaim.pre enc Tryz.pinned.checked.prog Tryz.f11 (OpenSpec.ofChange Rows.fitBrokenSpec) Rows.fitBrokenRow) (ChangeSpec.post enc Tryz.pinned.checked.prog Tryz.f11 Rows.fitBrokenSpec Rows.fitBrokenRow.apart Rows.fitBrokenRow.fresh Rows.fitBrokenRow.handsOn Rows.fitBrokenRow.again):=fun os started H enc _=>lifted os started H enc
theorem proved:Rows.FitBrokenSaid :=
 OpenClaim.holds_of_wide 11 Tryz.f11 rfl rfl rfl rfl rfl rfl rfl ⟨rfl,rfl,rfl,rfl,rfl⟩ rfl rfl rfl rfl rfl row0 Tryz.func11 row1 row2 row3 row4
end Go.Proofs.YtefjhgcndhepeaaGreat.fitBroken
