/- The law: what the walk shows, read as the row states it. -/
import Derived.Test.YtcmfnmceomhgcaaGreatC15
set_option linter.unusedSimpArgs false
set_option linter.unusedVariables false
namespace Go.Proofs.YtcmfnmceomhgcaaGreat.gripValid
open Go Go.ChangeShapes Go.WideShapes Go.ChangeAt Go.RowKit Go.Ab Go.Ab.N
theorem own:ownKnob Tryz.prog.godebug=none:=by kernel_rfl
theorem laid:laidOutB Tryz.prog=true:=by kernel_rfl
theorem cells3:Tryz.prog.cellsOf 3=1:=by kernel_rfl
theorem und3:Tryz.prog.underlying 3=some (.int .i64):=by kernel_rfl
theorem und4:Tryz.prog.underlying 4=some .bool:=by kernel_rfl
theorem und22:Tryz.prog.underlying 22=some (.slice 3):=by kernel_rfl
theorem read22:Tryz.prog.readableRec 22=true∧22<Tryz.prog.types.size:=⟨by kernel_rfl,of_decide_eq_true (by kernel_rfl)⟩
theorem read3:Tryz.prog.readableRec 3=true∧3<Tryz.prog.types.size:=⟨by kernel_rfl,of_decide_eq_true (by kernel_rfl)⟩
set_option maxRecDepth 100000 in
theorem contract (H:Type)(enc:TypeId×Value→H)(W:World)(base:Nat)(args:Array Value)(ds gs:List (DataW H)) (before:List MemPlace)
  (hval:∀ (j:Nat) t v,Tryz.f3.params[j]?=some t→args[j]?=some v→Value.okWide Tryz.prog W .any base t v)
  (hW:DataW.Whole enc Tryz.prog Tryz.f3.params.toList Rows.gripValidSpec.vars false W args.toList ds gs before) :
  Calls Tryz.prog 3 args W fun e W'=>∃v,e=.returned v∧Rows.gripValidSpec.post enc Tryz.prog Tryz.f3 false true false false W args v W':=by
 have hW':=hW;obtain⟨p,q,hA0,hV,rfl,hfz,hnd⟩:=hW;obtain⟨rfl,rfl⟩:=trodVars_none hV;have hA:DataW.TrodAll enc Tryz.prog W 0 (fun _=>true) true Tryz.f3.params.toList args.toList ds p:=hA0;have hpar:Tryz.f3.params=#[22,22,3,3]:=by kernel_rfl
 rw[hpar]at hA hval;obtain⟨v0,vs0,d0,ds0,p0,q0,hargs,rfl,rfl,h0,r0⟩:=trodAll_cons hA;obtain⟨v1,vs1,d1,ds1,p1,q1,rfl,rfl,rfl,h1,r1⟩:=trodAll_cons r0;obtain⟨v2,vs2,d2,ds2,p2,q2,rfl,rfl,rfl,h2,r2⟩:=trodAll_cons r1;obtain⟨v3,vs3,d3,ds3,p3,q3,rfl,rfl,rfl,h3,r3⟩:=trodAll_cons r2;obtain⟨rfl,rfl,rfl⟩:=trodAll_nil r3;obtain rfl:args=#[v0,v1,v2,v3]:=Array.ext' hargs;obtain⟨l0,hl0,hy0,hm0⟩:=FL und22 und3 cells3 (hval 0 22 v0 rfl rfl) h0;have hx0:l0.length<9223372036854775808:=Nat.lt_of_le_of_lt hy0 (by decide);obtain⟨l1,hl1,hy1,hm1⟩:=FL und22 und3 cells3 (hval 1 22 v1 rfl rfl) h1;have hx1:l1.length<9223372036854775808:=Nat.lt_of_le_of_lt hy1 (by decide);obtain⟨a2,rfl,rfl,rfl,x2⟩:=open_int und3 (hval 2 3 v2 rfl rfl) h2;have w2:=AB x2;obtain⟨a3,rfl,rfl,rfl,x3⟩:=open_int und3 (hval 3 3 v3 rfl rfl) h3;have w3:=AB x3;have hfn:=Tp l0 l1 a2 a3 hl0 hl1 w2 w3;have hrep:RepL (.bare W (R3 W)) #[v0,v1,.int .i64 a2,.int .i64 a3] [X8 l0,X8 l1,I a2,I a3]:=by
  refine⟨rfl,fun j hj=>?_⟩
  match j,hj with
  |0,_=>exact hm0
  |1,_=>exact hm1
  |2,_=>exact .int _ _
  |3,_=>exact .int _ _
 refine(Lo hfn.call hrep).mono ?_;rintro e W' ⟨rfl,hb⟩;simp only[List.append_nil]at hW' hA0;refine⟨_,rfl,Od (tb:=4) laid hW' hA0 rfl ?_ rfl und4 rfl hb⟩;rw[hpar];simp[read22,read3]
set_option maxRecDepth 100000 in
theorem lifted (os:Os)(started:os.Started)(H:Type)(enc:TypeId×Value→H) :
  ReturnsInHanded {} Tryz.checked os 3 .any (Rows.gripValidSpec.pre6 enc Tryz.prog Tryz.f3 Rows.gripValidRow.domain false) (Rows.gripValidSpec.post enc Tryz.prog Tryz.f3 false true false false):=by
 refine returnsInHanded_of_change (C:=Tryz.checked) own started (by kernel_rfl) Tryz.func3
  (ChangeSpec.witness6 (enc:=enc) (C:=Tryz.checked) false ⟨#[],#[.slice none 0 0,.slice none 0 0,.int .i64 0,.int .i64 0],[]⟩ 8 (by kernel_rfl) (by kernel_rfl) (by kernel_rfl) (by kernel_rfl)) ?_
 intro W base args ds gs before hval hW _ _;exact contract H enc W base args ds gs before hval hW
theorem cF:Tryz.pinned.checked.prog.funcNamed Rows.gripValidRow.func=some 3:=by kernel_rfl
theorem row1:joinedFacts Tryz.pinned.checked.prog 3 Tryz.f3 Rows.gripValidSpec Rows.gripValidRow=true:=by kernel_rfl
theorem row2:Func.isInstance Tryz.pinned.checked.prog Tryz.f3 Rows.gripValidRow.origin Rows.gripValidRow.targs:=of_decide_eq_true (by kernel_rfl)
theorem row3:Func.isWrapper Tryz.pinned.checked.prog Tryz.f3 Rows.gripValidRow.wrapper Rows.gripValidRow.mainSum:=by unfold Func.isWrapper;first | (rw[if_pos (by decide +kernel)];kernel_rfl) | (rw[if_neg (by decide +kernel)];exact⟨rfl,rfl⟩)
theorem row4:∀ (os:Os),os.Started→∀ (H:Type) (enc:TypeId×Value→H),(∀ (a b:TypeId×Value),enc a=enc b→a=b)→ReturnsInHanded Rows.gripValidRow.assume Tryz.pinned.checked os 3 Reach.any (OpenClaim.pre enc Tryz.pinned.checked.prog Tryz.f3 (OpenSpec.ofChange Rows.gripValidSpec) Rows.gripValidRow) (ChangeSpec.post enc Tryz.pinned.checked.prog Tryz.f3 Rows.gripValidSpec Rows.gripValidRow.apart Rows.gripValidRow.fresh Rows.gripValidRow.handsOn Rows.gripValidRow.again):=fun os started H enc _=>lifted os started H enc
theorem proved:Rows.GripValidSaid :=
 OpenClaim.holds_of_wide 3 Tryz.f3 rfl rfl rfl rfl rfl rfl rfl ⟨rfl,rfl,rfl,rfl,rfl⟩ rfl rfl rfl rfl rfl cF Tryz.func3 row1 row2 row3 row4
end Go.Proofs.YtcmfnmceomhgcaaGreat.gripValid
