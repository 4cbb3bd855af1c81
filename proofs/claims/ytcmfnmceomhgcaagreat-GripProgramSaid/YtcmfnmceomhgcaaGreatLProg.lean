/- The law: what the walk shows, read as the row states it. -/
import Derived.Test.YtcmfnmceomhgcaaGreatC14
set_option linter.unusedSimpArgs false
set_option linter.unusedVariables false
namespace Go.Proofs.YtcmfnmceomhgcaaGreat.gripProgram
open Go Go.ChangeShapes Go.WideShapes Go.ChangeAt Go.RowKit Go.Ab Go.Ab.N
theorem own:ownKnob Tryz.prog.godebug=none:=by kernel_rfl
theorem laid:laidOutB Tryz.prog=true:=by kernel_rfl
theorem cells3:Tryz.prog.cellsOf 3=1:=by kernel_rfl
theorem und3:Tryz.prog.underlying 3=some (.int .i64):=by kernel_rfl
theorem und4:Tryz.prog.underlying 4=some .bool:=by kernel_rfl
theorem und22:Tryz.prog.underlying 22=some (.slice 3):=by kernel_rfl
theorem read22:Tryz.prog.readableRec 22=true∧22<Tryz.prog.types.size:=⟨by kernel_rfl,of_decide_eq_true (by kernel_rfl)⟩
theorem read3:Tryz.prog.readableRec 3=true∧3<Tryz.prog.types.size:=⟨by kernel_rfl,of_decide_eq_true (by kernel_rfl)⟩
set_option maxRecDepth 100000 in
theorem contract (H:Type)(enc:TypeId×Value→H)(W:World)(base:Nat)(args:Array Value)(ds gs:List (DataW H)) (before:List MemPlace)
  (hval:∀ (j:Nat) t v,Tryz.f10.params[j]?=some t→args[j]?=some v→Value.okWide Tryz.prog W .any base t v)
  (hW:DataW.Whole enc Tryz.prog Tryz.f10.params.toList Rows.gripProgramSpec.vars false W args.toList ds gs before) :
  Calls Tryz.prog 10 args W fun e W'=>∃v,e=.returned v∧Rows.gripProgramSpec.post enc Tryz.prog Tryz.f10 false true false false W args v W':=by
 have hW':=hW;obtain⟨p,q,hA0,hV,rfl,hfz,hnd⟩:=hW;obtain⟨rfl,rfl⟩:=trodVars_none hV;have hA:DataW.TrodAll enc Tryz.prog W 0 (fun _=>true) true Tryz.f10.params.toList args.toList ds p:=hA0;have hpar:Tryz.f10.params=#[22,22,22]:=by kernel_rfl
 rw[hpar]at hA hval;obtain⟨v0,vs0,d0,ds0,p0,q0,hargs,rfl,rfl,h0,r0⟩:=trodAll_cons hA;obtain⟨v1,vs1,d1,ds1,p1,q1,rfl,rfl,rfl,h1,r1⟩:=trodAll_cons r0;obtain⟨v2,vs2,d2,ds2,p2,q2,rfl,rfl,rfl,h2,r2⟩:=trodAll_cons r1;obtain⟨rfl,rfl,rfl⟩:=trodAll_nil r2;obtain rfl:args=#[v0,v1,v2]:=Array.ext' hargs;obtain⟨l0,hl0,hy0,hm0⟩:=FK und22 und3 cells3 (hval 0 22 v0 rfl rfl) h0;have hx0:l0.length<9223372036854775808:=Nat.lt_of_le_of_lt hy0 (by decide);obtain⟨l1,hl1,hy1,hm1⟩:=FK und22 und3 cells3 (hval 1 22 v1 rfl rfl) h1;have hx1:l1.length<9223372036854775808:=Nat.lt_of_le_of_lt hy1 (by decide);obtain⟨l2,hl2,hy2,hm2⟩:=FK und22 und3 cells3 (hval 2 22 v2 rfl rfl) h2;have hx2:l2.length<9223372036854775808:=Nat.lt_of_le_of_lt hy2 (by decide);have hfn:=N3 l0 l1 l2 hl0 hl1 hl2;have hrep:RepL (.bare W (Vj W)) #[v0,v1,v2] [X8 l0,X8 l1,X8 l2]:=by
  refine⟨rfl,fun j hj=>?_⟩
  match j,hj with
  |0,_=>exact hm0
  |1,_=>exact hm1
  |2,_=>exact hm2
 refine(TW hfn.call hrep).mono ?_;rintro e W' ⟨rfl,hb⟩;simp only[List.append_nil]at hW' hA0;refine⟨_,rfl,aJ (tb:=4) laid hW' hA0 rfl ?_ rfl und4 rfl hb⟩;rw[hpar];simp[read22,read3]
set_option maxRecDepth 100000 in
theorem lifted (os:Os)(started:os.Started)(H:Type)(enc:TypeId×Value→H) :
  ReturnsInHanded {} Tryz.checked os 10 .any (Rows.gripProgramSpec.pre6 enc Tryz.prog Tryz.f10 Rows.gripProgramRow.domain false) (Rows.gripProgramSpec.post enc Tryz.prog Tryz.f10 false true false false):=by
 refine returnsInHanded_of_change (C:=Tryz.checked) own started (by kernel_rfl) Tryz.func10
  (ChangeSpec.witness6 (enc:=enc) (C:=Tryz.checked) false ⟨#[],#[.slice none 0 0,.slice none 0 0,.slice none 0 0],[]⟩ 8 (by kernel_rfl) (by kernel_rfl) (by kernel_rfl) (by kernel_rfl)) ?_
 intro W base args ds gs before hval hW _ _;exact contract H enc W base args ds gs before hval hW
theorem oG:Tryz.pinned.checked.prog.funcNamed Rows.gripProgramRow.func=some 10:=by kernel_rfl
theorem row1:joinedFacts Tryz.pinned.checked.prog 10 Tryz.f10 Rows.gripProgramSpec Rows.gripProgramRow=true:=by kernel_rfl
theorem row2:Func.isInstance Tryz.pinned.checked.prog Tryz.f10 Rows.gripProgramRow.origin Rows.gripProgramRow.targs:=of_decide_eq_true (by kernel_rfl)
theorem row3:Func.isWrapper Tryz.pinned.checked.prog Tryz.f10 Rows.gripProgramRow.wrapper Rows.gripProgramRow.mainSum:=by unfold Func.isWrapper;first | (rw[if_pos (by decide +kernel)];kernel_rfl) | (rw[if_neg (by decide +kernel)];exact⟨rfl,rfl⟩)
theorem row4:∀ (os:Os),os.Started→∀ (H:Type) (enc:TypeId×Value→H),(∀ (a b:TypeId×Value),enc a=enc b→a=b)→ReturnsInHanded Rows.gripProgramRow.assume Tryz.pinned.checked os 10 Reach.any (OpenClaim.pre enc Tryz.pinned.checked.prog Tryz.f10 (OpenSpec.ofChange Rows.gripProgramSpec) Rows.gripProgramRow) (ChangeSpec.post enc Tryz.pinned.checked.prog Tryz.f10 Rows.gripProgramSpec Rows.gripProgramRow.apart Rows.gripProgramRow.fresh Rows.gripProgramRow.handsOn Rows.gripProgramRow.again):=fun os started H enc _=>lifted os started H enc
theorem proved:Rows.GripProgramSaid :=
 OpenClaim.holds_of_wide 10 Tryz.f10 rfl rfl rfl rfl rfl rfl rfl ⟨rfl,rfl,rfl,rfl,rfl⟩ rfl rfl rfl rfl rfl oG Tryz.func10 row1 row2 row3 row4
end Go.Proofs.YtcmfnmceomhgcaaGreat.gripProgram
