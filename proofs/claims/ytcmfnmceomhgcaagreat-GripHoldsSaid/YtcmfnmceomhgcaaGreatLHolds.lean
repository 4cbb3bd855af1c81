/- The law: what the walk shows, read as the row states it. -/
import Derived.Test.YtcmfnmceomhgcaaGreatC17
set_option linter.unusedSimpArgs false
set_option linter.unusedVariables false
open Go.Func renaming isWrapper→ZEc
open Nat renaming lt_of_le_of_lt→ZCO
namespace Go.Proofs.YtcmfnmceomhgcaaGreat.gripHolds
open Go Go.ChangeShapes Go.WideShapes Go.ChangeAt Go.RowKit Go.Ab Go.Ab.N
theorem own:ownKnob Tryz.prog.godebug=none:=by kernel_rfl
theorem laid:laidOutB Tryz.prog=true:=by kernel_rfl
theorem TCj:Tryz.prog.cellsOf 3=1:=by kernel_rfl
theorem TDD:Tryz.prog.underlying 3=some (.int .i64):=by kernel_rfl
theorem TF4:Tryz.prog.underlying 4=some .bool:=by kernel_rfl
theorem TDE:Tryz.prog.underlying 22=some (.slice 3):=by kernel_rfl
theorem TEN:Tryz.prog.readableRec 22=true∧22<Tryz.prog.types.size:=⟨by kernel_rfl,of_decide_eq_true (by kernel_rfl)⟩
theorem TE7:Tryz.prog.readableRec 3=true∧3<Tryz.prog.types.size:=⟨by kernel_rfl,of_decide_eq_true (by kernel_rfl)⟩
set_option maxRecDepth 100000 in
theorem contract (H:Type)(enc:TypeId×Value→H)(W:World)(base:Nat)(args:Array Value)(ds gs:List (DataW H)) (before:List MemPlace)
  (TBG:∀ (j:Nat) t v,Tryz.f4.params[j]?=some t→args[j]?=some v→Value.okWide Tryz.prog W .any base t v)
  (hW:DataW.Whole enc Tryz.prog Tryz.f4.params.toList Rows.gripHoldsSpec.vars false W args.toList ds gs before) :
  Calls Tryz.prog 4 args W fun e W'=>∃v,e=.returned v∧Rows.gripHoldsSpec.post enc Tryz.prog Tryz.f4 false true false false W args v W':=by
 have hW':=hW;obtain⟨p,q,hA0,hV,rfl,hfz,hnd⟩:=hW;obtain⟨rfl,rfl⟩:=trodVars_none hV;have hA:DataW.TrodAll enc Tryz.prog W 0 (fun _=>true) true Tryz.f4.params.toList args.toList ds p:=hA0;have TE8:Tryz.f4.params=#[22,22,22,3,3]:=by kernel_rfl
 rw[TE8]at hA TBG;obtain⟨v0,vs0,d0,ds0,p0,q0,TBC,rfl,rfl,h0,r0⟩:=trodAll_cons hA;obtain⟨v1,vs1,d1,ds1,p1,q1,rfl,rfl,rfl,h1,r1⟩:=trodAll_cons r0;obtain⟨v2,vs2,d2,ds2,p2,q2,rfl,rfl,rfl,h2,r2⟩:=trodAll_cons r1;obtain⟨v3,vs3,d3,ds3,p3,q3,rfl,rfl,rfl,h3,r3⟩:=trodAll_cons r2;obtain⟨v4,vs4,d4,ds4,p4,q4,rfl,rfl,rfl,h4,r4⟩:=trodAll_cons r3;obtain⟨rfl,rfl,rfl⟩:=trodAll_nil r4;obtain rfl:args=#[v0,v1,v2,v3,v4]:=Array.ext' TBC;obtain⟨l0,hl0,hy0,hm0⟩:=Gs TDE TDD TCj (TBG 0 22 v0 rfl rfl) h0;have hx0:l0.length<9223372036854775808:=ZCO hy0 (by decide);obtain⟨l1,hl1,hy1,hm1⟩:=Gs TDE TDD TCj (TBG 1 22 v1 rfl rfl) h1;have hx1:l1.length<9223372036854775808:=ZCO hy1 (by decide);obtain⟨l2,hl2,hy2,hm2⟩:=Gs TDE TDD TCj (TBG 2 22 v2 rfl rfl) h2;have hx2:l2.length<9223372036854775808:=ZCO hy2 (by decide);obtain⟨a3,rfl,rfl,rfl,x3⟩:=open_int TDD (TBG 3 3 v3 rfl rfl) h3;have w3:=Im x3;obtain⟨a4,rfl,rfl,rfl,x4⟩:=open_int TDD (TBG 4 3 v4 rfl rfl) h4;have w4:=Im x4;have hfn:=Tc l0 l1 l2 a3 a4 hl0 hl1 hl2 w3 w4;have TAb:TAH (.bare W (Ya W)) #[v0,v1,v2,.int .i64 a3,.int .i64 a4] [X9 l0,X9 l1,X9 l2,I a3,I a4]:=by
  refine⟨rfl,fun j hj=>?_⟩
  match j,hj with
  |0,_=>exact hm0
  |1,_=>exact hm1
  |2,_=>exact hm2
  |3,_=>exact .int _ _
  |4,_=>exact .int _ _
 refine(Vt hfn.call TAb).mono ?_;rintro e W' ⟨rfl,hb⟩;simp only[ZAQ]at hW' hA0;refine⟨_,rfl,fw (tb:=4) laid hW' hA0 rfl ?_ rfl TF4 rfl hb⟩;rw[TE8];simp[TEN,TE7]
set_option maxRecDepth 100000 in
theorem lifted (os:Os)(started:os.Started)(H:Type)(enc:TypeId×Value→H) :
  ReturnsInHanded {} Tryz.checked os 4 .any (Rows.gripHoldsSpec.pre6 enc Tryz.prog Tryz.f4 Rows.gripHoldsRow.domain false) (Rows.gripHoldsSpec.post enc Tryz.prog Tryz.f4 false true false false):=by
 refine returnsInHanded_of_change (C:=Tryz.checked) own started (by kernel_rfl) Tryz.func4
  (ChangeSpec.witness6 (enc:=enc) (C:=Tryz.checked) false ⟨#[],#[.slice none 0 0,.slice none 0 0,.slice none 0 0,.int .i64 0,.int .i64 0],[]⟩ 8 (by kernel_rfl) (by kernel_rfl) (by kernel_rfl) (by kernel_rfl)) ?_
 intro W base args ds gs before TBG hW _ _;exact contract H enc W base args ds gs before TBG hW
theorem rH:Tryz.pinned.checked.prog.funcNamed Rows.gripHoldsRow.func=some 4:=by kernel_rfl
theorem TF5:joinedFacts Tryz.pinned.checked.prog 4 Tryz.f4 Rows.gripHoldsSpec Rows.gripHoldsRow=true:=by kernel_rfl
theorem TF6:Func.isInstance Tryz.pinned.checked.prog Tryz.f4 Rows.gripHoldsRow.origin Rows.gripHoldsRow.targs:=of_decide_eq_true (by kernel_rfl)
theorem TF7:ZEc Tryz.pinned.checked.prog Tryz.f4 Rows.gripHoldsRow.wrapper Rows.gripHoldsRow.mainSum:=by unfold ZEc;first | (rw[N_ (by decide +kernel)];kernel_rfl) | (rw[M_ (by decide +kernel)];exact⟨rfl,rfl⟩)
theorem TF8:∀ (os:Os),os.Started→∀ (H:Type) (enc:TypeId×Value→H),(∀ (a b:TypeId×Value),enc a=enc b→a=b)→ReturnsInHanded Rows.gripHoldsRow.assume Tryz.pinned.checked os 4 Reach.any (OpenClaim.pre enc Tryz.pinned.checked.prog Tryz.f4 (OpenSpec.ofChange Rows.gripHoldsSpec) Rows.gripHoldsRow) (ChangeSpec.post enc Tryz.pinned.checked.prog Tryz.f4 Rows.gripHoldsSpec Rows.gripHoldsRow.apart Rows.gripHoldsRow.fresh Rows.gripHoldsRow.handsOn Rows.gripHoldsRow.again):=fun os started H enc _=>lifted os started H enc
theorem proved:Rows.GripHoldsSaid :=
 OpenClaim.holds_of_wide 4 Tryz.f4 rfl rfl rfl rfl rfl rfl rfl ⟨rfl,rfl,rfl,rfl,rfl⟩ rfl rfl rfl rfl rfl rH Tryz.func4 TF5 TF6 TF7 TF8
end Go.Proofs.YtcmfnmceomhgcaaGreat.gripHolds
