/- The law: what the walk shows, read as the row states it. -/
import Derived.Test.YtefjhgcndhepeaaGreatC15
set_option linter.unusedSimpArgs false
set_option linter.unusedVariables false
namespace Go.Proofs.YtefjhgcndhepeaaGreat.fitExact
open Go Go.ChangeShapes Go.WideShapes Go.ChangeAt Go.RowKit Go.Ab Go.Ab.N
theorem own:ownKnob Tryz.prog.godebug=none:=by kernel_rfl
theorem laid:laidOutB Tryz.prog=true:=by kernel_rfl
theorem cells3:Tryz.prog.cellsOf 3=1:=by kernel_rfl
theorem und3:Tryz.prog.underlying 3=some (.int .i64):=by kernel_rfl
theorem und4:Tryz.prog.underlying 4=some .bool:=by kernel_rfl
theorem und22:Tryz.prog.underlying 22=some (.slice 3):=by kernel_rfl
theorem read22:Tryz.prog.readableRec 22=true∧22<Tryz.prog.types.size:=⟨by kernel_rfl,of_decide_eq_true (by kernel_rfl)⟩
theorem read3:Tryz.prog.readableRec 3=true∧3<Tryz.prog.types.size:=⟨by kernel_rfl,of_decide_eq_true (by kernel_rfl)⟩
set_option maxRecDepth 100000 in
theorem contract (H:Type) (enc:TypeId×Value→H) (W:World) (base:Nat) (args:Array Value) (ds gs:List (DataW H)) (before:List MemPlace)
  (hval:∀ (j:Nat) t v,Tryz.f8.params[j]?=some t→args[j]?=some v→Value.okWide Tryz.prog W .any base t v)
  (hW:DataW.Whole enc Tryz.prog Tryz.f8.params.toList Rows.fitExactSpec.vars false W args.toList ds gs before) :
  Calls Tryz.prog 8 args W fun e W'=>∃ v,e=.returned v∧Rows.fitExactSpec.post enc Tryz.prog Tryz.f8 false true false false W args v W':=by
 have hW':=hW
 obtain ⟨p,q,hA0,hV,rfl,hfz,hnd⟩:=hW
 obtain ⟨rfl,rfl⟩:=trodVars_none hV
 have hA:DataW.TrodAll enc Tryz.prog W 0 (fun _=>true) true Tryz.f8.params.toList args.toList ds p:=hA0
 have hpar:Tryz.f8.params=#[22,22,3]:=by kernel_rfl
 rw [hpar] at hA hval
 obtain ⟨v0,vs0,d0,ds0,p0,q0,hargs,rfl,rfl,h0,r0⟩:=trodAll_cons hA
 obtain ⟨v1,vs1,d1,ds1,p1,q1,rfl,rfl,rfl,h1,r1⟩:=trodAll_cons r0
 obtain ⟨v2,vs2,d2,ds2,p2,q2,rfl,rfl,rfl,h2,r2⟩:=trodAll_cons r1
 obtain ⟨rfl,rfl,rfl⟩:=trodAll_nil r2
 obtain rfl:args=#[v0,v1,v2]:=Array.ext' hargs
 obtain ⟨l0,hl0,hy0,hm0⟩:=Ij und22 und3 cells3 (hval 0 22 v0 rfl rfl) h0
 have hx0:l0.length<9223372036854775808:=Nat.lt_of_le_of_lt hy0 (by decide)
 obtain ⟨l1,hl1,hy1,hm1⟩:=Ij und22 und3 cells3 (hval 1 22 v1 rfl rfl) h1
 have hx1:l1.length<9223372036854775808:=Nat.lt_of_le_of_lt hy1 (by decide)
 obtain ⟨a2,rfl,rfl,rfl,x2⟩:=open_int und3 (hval 2 3 v2 rfl rfl) h2
 have w2:=M2 x2
 have hfn:=OD l0 l1 a2 hl0 hx0 hl1 hx1 w2
 have hrep:RepL (.bare W (TF W)) #[v0,v1,.int .i64 a2] [X6 l0,X6 l1,I a2]:=by
  refine ⟨rfl,fun j hj=>?_⟩
  match j,hj with
  | 0,_=>exact hm0
  | 1,_=>exact hm1
  | 2,_=>exact .int _ _
 refine (Sn hfn.call hrep).mono ?_
 rintro e W' ⟨rfl,hb⟩
 simp only [List.append_nil] at hW' hA0
 refine ⟨_,rfl,WK (tb:=4) laid hW' hA0 rfl ?_ rfl und4 rfl hb⟩
 rw [hpar]
 simp [read22,read3]
set_option maxRecDepth 100000 in
theorem lifted (os:Os) (started:os.Started) (H:Type) (enc:TypeId×Value→H) :
  ReturnsInHanded {} Tryz.checked os 8 .any (Rows.fitExactSpec.pre6 enc Tryz.prog Tryz.f8 Rows.fitExactRow.domain false) (Rows.fitExactSpec.post enc Tryz.prog Tryz.f8 false true false false):=by
 refine returnsInHanded_of_change (C:=Tryz.checked) own started (by kernel_rfl) Tryz.func8
  (ChangeSpec.witness6 (enc:=enc) (C:=Tryz.checked) false ⟨#[],#[.slice none 0 0,.slice none 0 0,.int .i64 0],[]⟩ 8 (by kernel_rfl) (by kernel_rfl) (by kernel_rfl) (by kernel_rfl)) ?_
 intro W base args ds gs before hval hW _ _
 exact contract H enc W base args ds gs before hval hW
theorem row0:Tryz.pinned.checked.prog.funcNamed Rows.fitExactRow.func=some 8:=by kernel_rfl
theorem row1:joinedFacts Tryz.pinned.checked.prog 8 Tryz.f8 Rows.fitExactSpec Rows.fitExactRow=true:=by kernel_rfl
theorem row2:Func.isInstance Tryz.pinned.checked.prog Tryz.f8 Rows.fitExactRow.origin Rows.fitExactRow.targs:=of_decide_eq_true (by kernel_rfl)
theorem row3:Func.isWrapper Tryz.pinned.checked.prog Tryz.f8 Rows.fitExactRow.wrapper Rows.fitExactRow.mainSum:=by unfold Func.isWrapper; first | (rw [if_pos (by decide +kernel)]; kernel_rfl) | (rw [if_neg (by decide +kernel)]; exact ⟨rfl,rfl⟩)
theorem row4:∀ (os:Os),os.Started→∀ (H:Type) (enc:TypeId×Value→H),(∀ (a b:TypeId×Value),enc a=enc b→a=b)→ReturnsInHanded Rows.fitExactRow.assume Tryz.pinned.checked os 8 Reach.any (OpenClaim.pre enc Tryz.pinned.checked.prog Tryz.f8 (OpenSpec.ofChange Rows.fitExactSpec) Rows.fitExactRow) (ChangeSpec.post enc Tryz.pinned.checked.prog Tryz.f8 Rows.fitExactSpec Rows.fitExactRow.apart Rows.fitExactRow.fresh Rows.fitExactRow.handsOn Rows.fitExactRow.again):=fun os started H enc _=>lifted os started H enc
theorem proved:Rows.FitExactSaid :=
 OpenClaim.holds_of_wide 8 Tryz.f8 rfl rfl rfl rfl rfl rfl rfl ⟨rfl,rfl,rfl,rfl,rfl⟩ rfl rfl rfl rfl rfl row0 Tryz.func8 row1 row2 row3 row4
end Go.Proofs.YtefjhgcndhepeaaGreat.fitExact
