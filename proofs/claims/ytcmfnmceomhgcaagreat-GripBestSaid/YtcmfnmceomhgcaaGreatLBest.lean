/- The law: what the walk shows, read as the row states it. -/
import Derived.Test.YtcmfnmceomhgcaaGreatC16
set_option linter.unusedSimpArgs false
set_option linter.unusedVariables false
open Go.Func renaming isWrapper→ZEa
open Nat renaming lt_of_le_of_lt→ZCz
namespace Go.Proofs.YtcmfnmceomhgcaaGreat.gripBest
open Go Go.ChangeShapes Go.WideShapes Go.ChangeAt Go.RowKit Go.Ab Go.Ab.N
theorem own:ownKnob Tryz.prog.godebug=none:=by kernel_rfl
theorem laid:laidOutB Tryz.prog=true:=by kernel_rfl
theorem TDA:Tryz.prog.cellsOf 3=1:=by kernel_rfl
theorem TCt:Tryz.prog.underlying 3=some (.int .i64):=by kernel_rfl
theorem TF4:Tryz.prog.underlying 4=some .bool:=by kernel_rfl
theorem TDn:Tryz.prog.underlying 22=some (.slice 3):=by kernel_rfl
theorem TEM:Tryz.prog.readableRec 22=true∧22<Tryz.prog.types.size:=⟨by kernel_rfl,of_decide_eq_true (by kernel_rfl)⟩
theorem TE9:Tryz.prog.readableRec 3=true∧3<Tryz.prog.types.size:=⟨by kernel_rfl,of_decide_eq_true (by kernel_rfl)⟩
set_option maxRecDepth 100000 in
theorem contract (H:Type)(enc:TypeId×Value→H)(W:World)(base:Nat)(args:Array Value)(ds gs:List (DataW H)) (before:List MemPlace)
  (TBA:∀ (j:Nat) t v,Tryz.f8.params[j]?=some t→args[j]?=some v→Value.okWide Tryz.prog W .any base t v)
  (hW:DataW.Whole enc Tryz.prog Tryz.f8.params.toList Rows.gripBestSpec.vars false W args.toList ds gs before) :
  Calls Tryz.prog 8 args W fun e W'=>∃v,e=.returned v∧Rows.gripBestSpec.post enc Tryz.prog Tryz.f8 false true false false W args v W':=by
 have hW':=hW;obtain⟨p,q,hA0,hV,rfl,hfz,hnd⟩:=hW;obtain⟨rfl,rfl⟩:=trodVars_none hV;have hA:DataW.TrodAll enc Tryz.prog W 0 (fun _=>true) true Tryz.f8.params.toList args.toList ds p:=hA0;have TFA:Tryz.f8.params=#[22,22,3,3,3,3]:=by kernel_rfl
 rw[TFA]at hA TBA;obtain⟨v0,vs0,d0,ds0,p0,q0,TBD,rfl,rfl,h0,r0⟩:=trodAll_cons hA;obtain⟨v1,vs1,d1,ds1,p1,q1,rfl,rfl,rfl,h1,r1⟩:=trodAll_cons r0;obtain⟨v2,vs2,d2,ds2,p2,q2,rfl,rfl,rfl,h2,r2⟩:=trodAll_cons r1;obtain⟨v3,vs3,d3,ds3,p3,q3,rfl,rfl,rfl,h3,r3⟩:=trodAll_cons r2;obtain⟨v4,vs4,d4,ds4,p4,q4,rfl,rfl,rfl,h4,r4⟩:=trodAll_cons r3;obtain⟨v5,vs5,d5,ds5,p5,q5,rfl,rfl,rfl,h5,r5⟩:=trodAll_cons r4;obtain⟨rfl,rfl,rfl⟩:=trodAll_nil r5;obtain rfl:args=#[v0,v1,v2,v3,v4,v5]:=Array.ext' TBD;obtain⟨l0,hl0,hy0,hm0⟩:=MY TDn TCt TDA (TBA 0 22 v0 rfl rfl) h0;have hx0:l0.length<9223372036854775808:=ZCz hy0 (by decide);obtain⟨l1,hl1,hy1,hm1⟩:=MY TDn TCt TDA (TBA 1 22 v1 rfl rfl) h1;have hx1:l1.length<9223372036854775808:=ZCz hy1 (by decide);obtain⟨a2,rfl,rfl,rfl,x2⟩:=open_int TCt (TBA 2 3 v2 rfl rfl) h2;have w2:=Dl x2;obtain⟨a3,rfl,rfl,rfl,x3⟩:=open_int TCt (TBA 3 3 v3 rfl rfl) h3;have w3:=Dl x3;obtain⟨a4,rfl,rfl,rfl,x4⟩:=open_int TCt (TBA 4 3 v4 rfl rfl) h4;have w4:=Dl x4;obtain⟨a5,rfl,rfl,rfl,x5⟩:=open_int TCt (TBA 5 3 v5 rfl rfl) h5;have w5:=Dl x5;have hfn:=V5 l0 l1 a2 a3 a4 a5 hl0 hl1 w2 w3 w4 w5;have TAa:TAF (.bare W (WB W)) #[v0,v1,.int .i64 a2,.int .i64 a3,.int .i64 a4,.int .i64 a5] [X8 l0,X8 l1,I a2,I a3,I a4,I a5]:=by
  refine⟨rfl,fun j hj=>?_⟩
  match j,hj with
  |0,_=>exact hm0
  |1,_=>exact hm1
  |2,_=>exact .int _ _
  |3,_=>exact .int _ _
  |4,_=>exact .int _ _
  |5,_=>exact .int _ _
 refine(Vb hfn.call TAa).mono ?_;rintro e W' ⟨rfl,hb⟩;simp only[ZAK]at hW' hA0;refine⟨_,rfl,eu (tb:=4) laid hW' hA0 rfl ?_ rfl TF4 rfl hb⟩;rw[TFA];simp[TEM,TE9]
set_option maxRecDepth 100000 in
theorem lifted (os:Os)(started:os.Started)(H:Type)(enc:TypeId×Value→H) :
  ReturnsInHanded {} Tryz.checked os 8 .any (Rows.gripBestSpec.pre6 enc Tryz.prog Tryz.f8 Rows.gripBestRow.domain false) (Rows.gripBestSpec.post enc Tryz.prog Tryz.f8 false true false false):=by
 refine returnsInHanded_of_change (C:=Tryz.checked) own started (by kernel_rfl) Tryz.func8
  (ChangeSpec.witness6 (enc:=enc) (C:=Tryz.checked) false ⟨#[],#[.slice none 0 0,.slice none 0 0,.int .i64 0,.int .i64 0,.int .i64 0,.int .i64 0],[]⟩ 8 (by kernel_rfl) (by kernel_rfl) (by kernel_rfl) (by kernel_rfl)) ?_
 intro W base args ds gs before TBA hW _ _;exact contract H enc W base args ds gs before TBA hW
theorem rp:Tryz.pinned.checked.prog.funcNamed Rows.gripBestRow.func=some 8:=by kernel_rfl
theorem TF5:joinedFacts Tryz.pinned.checked.prog 8 Tryz.f8 Rows.gripBestSpec Rows.gripBestRow=true:=by kernel_rfl
theorem TF6:Func.isInstance Tryz.pinned.checked.prog Tryz.f8 Rows.gripBestRow.origin Rows.gripBestRow.targs:=of_decide_eq_true (by kernel_rfl)
theorem TF7:ZEa Tryz.pinned.checked.prog Tryz.f8 Rows.gripBestRow.wrapper Rows.gripBestRow.mainSum:=by unfold ZEa;first | (rw[N_ (by decide +kernel)];kernel_rfl) | (rw[M_ (by decide +kernel)];exact⟨rfl,rfl⟩)
theorem TF8:∀ (os:Os),os.Started→∀ (H:Type) (enc:TypeId×Value→H),(∀ (a b:TypeId×Value),enc a=enc b→a=b)→ReturnsInHanded Rows.gripBestRow.assume Tryz.pinned.checked os 8 Reach.any (OpenClaim.pre enc Tryz.pinned.checked.prog Tryz.f8 (OpenSpec.ofChange Rows.gripBestSpec) Rows.gripBestRow) (ChangeSpec.post enc Tryz.pinned.checked.prog Tryz.f8 Rows.gripBestSpec Rows.gripBestRow.apart Rows.gripBestRow.fresh Rows.gripBestRow.handsOn Rows.gripBestRow.again):=fun os started H enc _=>lifted os started H enc
theorem proved:Rows.GripBestSaid :=
 OpenClaim.holds_of_wide 8 Tryz.f8 rfl rfl rfl rfl rfl rfl rfl ⟨rfl,rfl,rfl,rfl,rfl⟩ rfl rfl rfl rfl rfl rp Tryz.func8 TF5 TF6 TF7 TF8
end Go.Proofs.YtcmfnmceomhgcaaGreat.gripBest
