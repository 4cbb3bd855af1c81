/- Contracts of functions, for every argument that fits. -/
import Derived.Test.YtcmfnmceomhgcaaGreatC14
set_option linter.unusedSimpArgs false
set_option linter.unusedVariables false
namespace Go.Ab.N
open Go Go.RowKit Go.Proofs
noncomputable section
set_option maxRecDepth 10000
set_option maxHeartbeats 4000000
open Classical
def JI (t:Rat)(l:List (Rat×Rat)):List (Rat×Rat):=l.map fun p=>(p.1*t,p.2*t)
theorem o8 (p:Rat×Rat):∀j,j<8→((BR p).getD j .any).one=true:=fun j hj=>by
 match j,hj with
 |0,_ |1,_ |2,_ |3,_ |4,_ |5,_ |6,_ |7,_=>rfl
 |j+8,h=>omega
theorem wI (l:List (Rat×Rat)) (i:Nat):XO BR 8 (0,0) l (i*8)=.bool (sg (l.getD i (0,0)).1)∧XO BR 8 (0,0) l (i*8+1)=X8 (X9 (l.getD i (0,0)).1.num.natAbs)∧XO BR 8 (0,0) l (i*8+2)=.bool false∧XO BR 8 (0,0) l (i*8+3)=X8 (X9 (qd (l.getD i (0,0)).1))∧XO BR 8 (0,0) l (i*8+4)=.bool (sg (l.getD i (0,0)).2)∧XO BR 8 (0,0) l (i*8+5)=X8 (X9 (l.getD i (0,0)).2.num.natAbs)∧XO BR 8 (0,0) l (i*8+6)=.bool false∧XO BR 8 (0,0) l (i*8+7)=X8 (X9 (qd (l.getD i (0,0)).2)):=by
 refine⟨?_,?_,?_,?_,?_,?_,?_,?_⟩
 ·rw[Ap _ _ _ _ _ (by omega)];rfl
 all_goals rw[ZU _ _ _ _ _ _ (by omega)];rfl
theorem Gp (l:List (Rat×Rat)) (t:Rat) (hl:l.length<1000) (ht:qb t≤1000) (h:∀x∈l,qb x.1≤2000000∧qb x.2≤2000000):Fn Tryz.prog 33 [FE l,qA t] (FE (JI t l)):=by
 have bV:∀q,Ju q (FE l)=True:=fun q=>eq_true (X6 (Aa l))
 have bO:∀q i,Qc q (.row i 4 (Xh (qC t)))=True:=fun q i=>eq_true (QM (QP t))
 have bR:∀q i n x,Qc q (.row i n (XO BR 8 (0,0) x))=True:=fun q i n x=>eq_true fun j _=>X6 (Xf (Ek _) _)
 refine Fn.intro (fn:=Tryz.f33) Tryz.call33 Tryz.func33 rfl mixed 7 [] [] [] (by kernel_rfl) (Nat.le_of_ble_eq_true rfl) (Kp (Aa l) (Xc t)) (Xm ?_);simp(disch:=omega)only[AS.start,Xe,qA,qC,↓Xd,wG,seval];refine Xl (fun i:Nat=>⟨7,[],[FE l,.any,.any,.ref 0 0 0,.any,.osl 1 i 8 0 i,I i],[],[.row 0 4 (Xh (qC t)),.row i (i*8) (XO BR 8 (0,0) (JI t (l.take i)))]⟩) (fun i=>i≤l.length) (fun i=>l.length-i) 0 (by omega)
  (Sub.trans (Kg 5 8 (XO BR 8 (0,0) []) rfl) (Xk rfl ⟨.inr (Xe l).symm,.inl rfl,.inl rfl,.inr rfl,.inl rfl,.inr rfl,.inr rfl,trivial⟩ trivial rfl)) ?_
 intro i hi next
 have w1:=wj i (by omega);have hlk:∀i,i≤l.length→(JI t (l.take i)).length=i:=fun i hi=>by simp[JI];omega
 by_cases hi2:i<l.length
 ·have f1:(i<l.length)=True:=eq_true hi2
  have v1:=wI l i;obtain⟨s1,s2⟩:=h _ (QN (0,0) hi2);have hk:=hlk i hi;have ht2:JI t (l.take i) ++ [((l.getD i (0,0)).1*t,(l.getD i (0,0)).2*t)]=JI t (l.take (i+1)):=by
   unfold JI;rw[Mv l (0,0) hi2,List.map_append];rfl
  have nx:=next (i+1)
  rw[←ht2]at nx;generalize l.getD i (0,0)=p at *;have c1:=QL p.1 t (by unfold rm;omega) (by unfold rm;omega);have c2:=QL p.2 t (by unfold rm;omega) (by unfold rm;omega);have hap:=Ay BR 8 (0,0) (JI t (l.take i)) (p.1*t,p.2*t) (by omega);rw[hk]at hap;refine Xm ?_;simp(disch:=omega)only[Xe,w1,f1,v1,qC,↓Xd,wG,seval];refine X0 c1 (X1 _) ?_;simp(disch:=omega)only[Xe,w1,f1,v1,qA,qC,↓Xd,wG,seval];refine X0 c2 (X1 _) ?_;simp(disch:=omega)only[qA,qC,↓Xd,wG,seval];exact⟨fun j hj=>o8 (p.1*t,p.2*t) j hj,nx _ (by omega) (by omega) (sS (m:=2) (by simp[Xo,I,Xe]) (by rw[←hap];rfl) (by simp[XM,bV]) (by simp[bO,bR]))⟩
 ·obtain rfl:i=l.length:=by omega
  refine Xm ?_;simp(disch:=omega)only[Xe,↓Xd,wG,seval];refine BX rfl ?_;show Zq _ (.osl 1 l.length 8 0 l.length) (FE (JI t l));have hk:=hlk l.length (Nat.le_refl _);rw[List.take_length]at hk;rw[Xe,hk,List.take_length];refine ZP (.inl rfl) (by omega) (fun h=>by rw[h]) fun j hj=>?_
  rw[Nat.zero_add];exact(Xf (Ek _) _).sees _
theorem Ue (l m n al:List Int)(share more:Int)(h1:ZC l)(h2:ZC m)(h3:ZC n)(h4:ZC al)(h5:Ze share)(h6:Ze more) :
  Fn Tryz.prog 5 [X8 l,X8 m,X8 n,I share,X8 al,I more] (.bool true):=by
 have hr:=UE l;have c1:=P5 l h1;have c2:=GX n (CQ l) h3 hr;have c3:=Pb m (CQ l) h2 hr;obtain⟨sb,gb⟩:=TL n (CQ l) hr;obtain⟨sg,gg⟩:=Pc m (CQ l) hr;generalize CQ l=L at *;generalize PT n L=b at *;generalize C3 m L=g at *;have bb:=Az.1 gb;have gi:=Ka.1 gg;have b13:=Qp share 13 (by omega);have b20:=Qp more 20 (by omega);have b33:=Qp more 33 (by omega);have d1:=Ji share 13 h5 (by omega);have d2:=Ji more 20 h6 (by omega);have d3:=Ji more 33 h6 (by omega);generalize QR share 13=u at *;generalize QR more 20=v at *;generalize QR more 33=y at *;have e1:=XB u 12 ⟨by omega,by omega⟩ ⟨by omega,by omega⟩;have e2:=XB (1+v) 4 ⟨by omega,by omega⟩ ⟨by omega,by omega⟩;have e3:=XB y 2 ⟨by omega,by omega⟩ ⟨by omega,by omega⟩;have e4:=XB 2 1 ⟨by omega,by omega⟩ ⟨by omega,by omega⟩;have q1:=CP u 12 (by omega) (by omega);have q2:=CP (1+v) 4 (by omega) (by omega);have q3:=CP y 2 (by omega) (by omega);have q4:=CP 2 1 (by omega) (by omega);have t0:0≤Rat.divInt u 12:=Rat.divInt_nonneg (by omega) (by omega);have t1:Rat.divInt u 12≤1:=by
  have e:Rat.divInt u 12*((12:Int):Rat)=(u:Rat):=by rw[Rat.divInt_eq_div,Rat.div_mul_cancel (by decide)]
  have h12:(u:Rat)≤((12:Int):Rat):=Rat.intCast_le_intCast.2 (by omega);have:((12:Int):Rat)=12:=rfl;grind
 have a0:0<Rat.divInt (1+v) 4:=Fu (by omega) (by omega);generalize Rat.divInt u 12=t at *;generalize Rat.divInt (1+v) 4=w at *;generalize Rat.divInt y 2=x at *;obtain⟨p,q,M⟩:=Cf b g sb.s sg.s gb gg;have m0:=M.fn;have mm:=M.m;have mo:=M.ok;obtain⟨z1,z2,z3,z4,z5⟩:=M.z;clear M;generalize EY b g=k at *;have e5:=JZ k w (by unfold rm;omega) (by unfold rm;omega);have qa:=Kc k w;have habove:k<k+w:=by grind
 generalize k+w=above at *;have n0:=Qd al 0 100 h4 (by omega);have n1:=Qd al 1 100 h4 (by omega);have n2:=Qd al 2 100 h4 (by omega);have n3:=Qd al 3 100 h4 (by omega);have k0:=Xs al 0 100 (by omega);have k1:=Xs al 1 100 (by omega);have k2:=Xs al 2 100 (by omega);have k3:=Xs al 3 100 (by omega);have f0:=BC (Ab.atF al 0 100) ⟨by omega,by omega⟩;have f1:=BC (Ab.atF al 1 100) ⟨by omega,by omega⟩;have f2:=BC (Ab.atF al 2 100) ⟨by omega,by omega⟩;have f3:=BC (Ab.atF al 3 100) ⟨by omega,by omega⟩;have j0:=Hj (Ab.atF al 0 100);have j1:=Hj (Ab.atF al 1 100);have j2:=Hj (Ab.atF al 2 100);have j3:=Hj (Ab.atF al 3 100);generalize LR (Ab.atF al 0 100)=r0 at *;generalize LR (Ab.atF al 1 100)=r1 at *;generalize LR (Ab.atF al 2 100)=r2 at *;generalize LR (Ab.atF al 3 100)=r3 at *;generalize Ab.atF al 0 100=i0 at *;generalize Ab.atF al 1 100=i1 at *;generalize Ab.atF al 2 100=i2 at *;generalize Ab.atF al 3 100=i3 at *;have t2:=Gp [p,q] (Rat.divInt 2 1) (by simp) (by omega) (by simp;omega);have key:∀P:List (Rat×Rat),P.length=2→(∀a∈P,qb a.1≤1356774∧qb a.2≤1356774)→Fn Tryz.prog 29 [bA b,gA g,qA above,FE P] (I 22)∧(∃c,Fn Tryz.prog 29 [bA b,gA g,qA x,FE P] (I c)∧(c=0→Fn Tryz.prog 29 [bA b,gA g,qA (x*t),FE (JI t P)] (I 0)))∧Fn Tryz.prog 33 [FE P,qA t] (FE (JI t P)):=by
  intro P hP hq;have hq2:∀a∈P,qb a.1≤1500000∧qb a.2≤1500000:=fun a ha=>by have:=hq a ha;omega
  have gc:∀ (κ:Rat) (Q:List (Rat×Rat)),JN b g κ Q=if Q.length=2∧Ru b g κ Q then 0 else 22:=fun κ Q=>by unfold JN;rw[gb,gg];rfl
  refine⟨?_,⟨JN b g x P,AA b g x P sb.s sg.s (by omega) (by omega) hq2,fun hc=>?_⟩,Gp P t (by omega) (by omega) fun a ha=>by have:=hq a ha;omega⟩
  ·have h:=AA b g above P sb.s sg.s (by omega) (by omega) hq2
   rw[gc,if_neg]at h
   ·exact h
   ·rintro⟨_,hh⟩
    exact absurd (mm.2 _ _ _ _ _ hh) (Rat.not_le.2 habove)
  ·rw[gc]at hc
   split at hc
   ·rename_i hh
    have hl:(JI t P).length=2:=by simp[JI,hP]
    have qx:=XT x t;have h:=AA b g (x*t) (JI t P) sb.s sg.s (by omega) (by omega) fun a ha=>by
     unfold JI at ha;obtain⟨a',ha',rfl⟩:=List.mem_map.1 ha;have:=hq a' ha';have:=XT a'.1 t;have:=XT a'.2 t;exact⟨by show qb (a'.1*t)≤_;omega,by show qb (a'.2*t)≤_;omega⟩
    rw[gc,if_pos]at h
    ·exact h
    ·refine⟨hl,?_⟩
     obtain⟨pp,qq,rfl⟩:∃pp qq,P=[pp,qq]:=by
      match P,hP with
      | [pp,qq],_=>exact⟨pp,qq,rfl⟩
     exact Hl hh.2 t0 t1 (Rat.le_of_lt gi.1.1) (Rat.le_of_lt bb.2.2)
   ·cases hc
 have fin1:Fn Tryz.prog 29 [bA b,gA g,qA k,FE [p,q]] (I 0):=by
  have h:=AA b g k [p,q] sb.s sg.s (by omega) (by simp) (by simp;omega);unfold JN at h;rw[gb,gg]at h;rwa[show(true && true)=true from rfl,if_pos rfl,if_pos ⟨rfl,mo⟩]at h
 have fin2:Fn Tryz.prog 29 [bA b,gA g,qA (k*t),FE (JI t [p,q])] (I 0):=by
  have qx:=XT k t;have w1:=XT p.1 t;have w2:=XT p.2 t;have w3:=XT q.1 t;have w4:=XT q.2 t;have h:=AA b g (k*t) (JI t [p,q]) sb.s sg.s (by omega) (by simp[JI]) (by simp[JI];omega);unfold JN at h;rw[gb,gg]at h;rwa[show(true && true)=true from rfl,if_pos rfl,if_pos ⟨rfl,Hl mo t0 t1 (Rat.le_of_lt gi.1.1) (Rat.le_of_lt bb.2.2)⟩]at h
 have cl:=LN;have m1:=K8 k t (by unfold rm;omega) (by unfold rm;omega);have m2:=K8 x t (by unfold rm;omega) (by unfold rm;omega);have kP:=key [p,q] rfl (by simp;omega);have kA:=key [(r0,r1),(r2,r3)] rfl (by simp;omega);have kT:=key (JI (Rat.divInt 2 1) [p,q]) rfl (by
  have w1:=XT p.1 (Rat.divInt 2 1);have w2:=XT p.2 (Rat.divInt 2 1);have w3:=XT q.1 (Rat.divInt 2 1);have w4:=XT q.2 (Rat.divInt 2 1);simp[JI];omega)
 clear key;refine Fq Tryz.call5 Tryz.func5 25 [] [8,9000] [] (by simp[Xb,Xa]) (Xm ?_);simp(disch:=omega)only[AS.start,↓Xd,wG,seval];refine X0 c1 (X1 _) ?_;simp(disch:=omega)only[vA,vC,qA,qC,bA,Xz,gA,Xy,Xe,List.length_cons,List.length_nil,↓Xd,wG,seval];refine X0 c2 (X1 _) ?_;simp(disch:=omega)only[vA,vC,qA,qC,bA,Xz,gA,Xy,Xe,List.length_cons,List.length_nil,↓Xd,wG,seval];refine X0 c3 (X1 _) ?_;simp(disch:=omega)only[vA,vC,qA,qC,bA,Xz,gA,Xy,Xe,List.length_cons,List.length_nil,↓Xd,wG,seval];refine X0 m0 (X1 _) ?_;simp(disch:=omega)only[vA,vC,qA,qC,bA,Xz,gA,Xy,Xe,List.length_cons,List.length_nil,↓Xd,wG,seval];refine X0 d1 (X1 _) ?_;simp(disch:=omega)only[vA,vC,qA,qC,bA,Xz,gA,Xy,Xe,List.length_cons,List.length_nil,↓Xd,wG,seval];refine X0 e1 (X1 _) ?_;simp(disch:=omega)only[vA,vC,qA,qC,bA,Xz,gA,Xy,Xe,List.length_cons,List.length_nil,↓Xd,wG,seval];refine X0 d2 (X1 _) ?_;simp(disch:=omega)only[vA,vC,qA,qC,bA,Xz,gA,Xy,Xe,List.length_cons,List.length_nil,↓Xd,wG,seval];refine X0 e2 (X1 _) ?_;simp(disch:=omega)only[vA,vC,qA,qC,bA,Xz,gA,Xy,Xe,List.length_cons,List.length_nil,↓Xd,wG,seval];refine X0 e5 (X1 _) ?_;simp(disch:=omega)only[vA,vC,qA,qC,bA,Xz,gA,Xy,Xe,List.length_cons,List.length_nil,↓Xd,wG,seval];refine X0 n0 (X1 _) ?_;simp(disch:=omega)only[vA,vC,qA,qC,bA,Xz,gA,Xy,Xe,List.length_cons,List.length_nil,↓Xd,wG,seval];refine X0 f0 (X1 _) ?_;simp(disch:=omega)only[vA,vC,qA,qC,bA,Xz,gA,Xy,Xe,List.length_cons,List.length_nil,↓Xd,wG,seval];refine X0 n1 (X1 _) ?_;simp(disch:=omega)only[vA,vC,qA,qC,bA,Xz,gA,Xy,Xe,List.length_cons,List.length_nil,↓Xd,wG,seval];refine X0 f1 (X1 _) ?_;simp(disch:=omega)only[vA,vC,qA,qC,bA,Xz,gA,Xy,Xe,List.length_cons,List.length_nil,↓Xd,wG,seval];refine X0 n2 (X1 _) ?_;simp(disch:=omega)only[vA,vC,qA,qC,bA,Xz,gA,Xy,Xe,List.length_cons,List.length_nil,↓Xd,wG,seval];refine X0 f2 (X1 _) ?_;simp(disch:=omega)only[vA,vC,qA,qC,bA,Xz,gA,Xy,Xe,List.length_cons,List.length_nil,↓Xd,wG,seval];refine X0 n3 (X1 _) ?_;simp(disch:=omega)only[vA,vC,qA,qC,bA,Xz,gA,Xy,Xe,List.length_cons,List.length_nil,↓Xd,wG,seval];refine X0 f3 (X1 _) ?_;simp(disch:=omega)only[vA,vC,qA,qC,bA,Xz,gA,Xy,Xe,List.length_cons,List.length_nil,↓Xd,wG,seval];refine X0 e4 (X1 _) ?_;simp(disch:=omega)only[vA,vC,qA,qC,bA,Xz,gA,Xy,Xe,List.length_cons,List.length_nil,↓Xd,wG,seval];refine X0 t2 ⟨by rw[Xe];exact Weak.rfl' _,Weak.rfl' _,trivial⟩ ?_;generalize hT:JI (Rat.divInt 2 1) [p,q]=T2 at *;simp(disch:=omega)only[Xe,List.length_cons,List.length_nil,↓Xd,wG,seval];have bI:∀q (l:List Int),Ju q (X8 l)=True:=fun q l=>eq_true (X6 (Xb l))
 have bL:∀q,Ju q (Qh L)=True:=fun q=>eq_true (X6 (Xq L))
 have bP:∀m,Ju m (FE [p,q])=True:=fun m=>eq_true (X6 (Aa [p,q]))
 have sA:∀tt,Settled (.sl 2 16 (Xh (BR (r0,r1) ++ BR (r2,r3))) tt):=fun tt=>QF fun j _=>Xf (by simp[BR,qC,Xb,X5]) j
 have bS':∀q tt,Ju q (.sl 2 16 (Xh (BR (r0,r1) ++ BR (r2,r3))) tt)=True:=fun q tt=>eq_true (X6 (sA tt))
 have bT':∀m,Ju m (.sl 3 3 (Xh [FE [p,q],.sl 2 16 (Xh (BR (r0,r1) ++ BR (r2,r3))) false,FE T2]) true)=True:=fun m=>eq_true (X6 (QF fun j _=>Xf (by simp[Aa,sA]) j))
 have bO:∀q x,Qc q (.row 0 4 (Xh (qC x)))=True:=fun q x=>eq_true (QM (QP x))
 have bG:∀q,Qc q (.row 0 32 (Xh (gC g)))=True:=fun q=>eq_true (QM (K0 g))
 have bB:∀q,Qc q (.row 0 20 (Xh (bC b)))=True:=fun q=>eq_true (QM (AL b))
 refine Xl (fun i:Nat=>⟨25,[],[X8 l,X8 m,X8 n,I share,X8 al,I more,.any,.any,.any,.any,.any,.any,.any,Qh L,.ref 0 0 0,.ref 1 0 0,.ref 2 0 0,FE [p,q],.any,.ref 3 0 0,.ref 4 0 0,.any,.sl 3 3 (Xh [FE [p,q],.sl 2 16 (Xh (BR (r0,r1) ++ BR (r2,r3))) false,FE T2]) true,I i,.any],[],[.row 0 20 (Xh (bC b)),.row 0 32 (Xh (gC g)),.row 0 4 (Xh (qC k)),.row 0 4 (Xh (qC t)),.row 0 4 (Xh (qC above))]⟩) (fun i=>i≤3) (fun i=>3-i) 0 (by omega)
  (Xk rfl ⟨.inr (Xj l).symm,.inr (Xj m).symm,.inr (Xj n).symm,.inr rfl,.inr (Xj al).symm,.inr rfl,.inl rfl,.inl rfl,.inl rfl,.inl rfl,.inl rfl,.inl rfl,.inl rfl,.inr rfl,.inr rfl,.inr rfl,.inr rfl,.inr (Xe [p,q]).symm,.inl rfl,.inr rfl,.inr rfl,.inl rfl,.inr (by rw[Xe,Xe];rfl),.inr rfl,.inl rfl,trivial⟩ trivial rfl) ?_
 intro i hi next
 have nx1:=next 1
 have nx2:=next 2
 have nx3:=next 3
 match i,hi with
 |0,_ =>
  obtain⟨y1,⟨c,y2,y3⟩,y4⟩:=kP;refine Xm ?_;simp(disch:=omega)only[vA,vC,qA,qC,bA,Xz,gA,Xy,Xe,List.length_cons,List.length_nil,↓Xd,wG,seval];refine X0 d3 (X1 _) ?_;simp(disch:=omega)only[vA,vC,qA,qC,bA,Xz,gA,Xy,Xe,List.length_cons,List.length_nil,↓Xd,wG,seval];refine X0 e3 (X1 _) ?_;simp(disch:=omega)only[vA,vC,qA,qC,bA,Xz,gA,Xy,Xe,List.length_cons,List.length_nil,↓Xd,wG,seval];refine X0 y1 ⟨Weak.rfl' _,Weak.rfl' _,Weak.rfl' _,(by rw[Xe];exact Weak.rfl' _),trivial⟩ ?_;simp(disch:=omega)only[vA,vC,qA,qC,bA,Xz,gA,Xy,Xe,List.length_cons,List.length_nil,Int.reduceEq,↓Xd,wG,seval];refine X0 y2 ⟨Weak.rfl' _,Weak.rfl' _,Weak.rfl' _,(by rw[Xe];exact Weak.rfl' _),trivial⟩ ?_;simp(disch:=omega)only[vA,vC,qA,qC,bA,Xz,gA,Xy,Xe,List.length_cons,List.length_nil,↓Xd,wG,seval];refine⟨fun hc=>?_,fun hc=>?_⟩
  ·have y5:=y3 hc
   refine X0 m2 (X1 _) ?_;simp(disch:=omega)only[vA,vC,qA,qC,bA,Xz,gA,Xy,Xe,List.length_cons,List.length_nil,↓Xd,wG,seval];refine X0 y4 ⟨(by rw[Xe];exact Weak.rfl' _),Weak.rfl' _,trivial⟩ ?_;simp(disch:=omega)only[vA,vC,qA,qC,bA,Xz,gA,Xy,Xe,List.length_cons,List.length_nil,↓Xd,wG,seval];refine X0 y5 ⟨Weak.rfl' _,Weak.rfl' _,Weak.rfl' _,(by rw[Xe];exact Weak.rfl' _),trivial⟩ ?_;simp(disch:=omega)only[vA,vC,qA,qC,bA,Xz,gA,Xy,Xe,List.length_cons,List.length_nil,↓Xd,wG,seval];exact nx1 _ (by omega) (by omega) (XI (m:=5) (Nat.zero_le _) rfl ⟨.inr (Xj l).symm,.inr (Xj m).symm,.inr (Xj n).symm,.inr rfl,.inr (Xj al).symm,.inr rfl,.inl rfl,.inl rfl,.inl rfl,.inl rfl,.inl rfl,.inl rfl,.inl rfl,.inr rfl,.inr rfl,.inr rfl,.inr rfl,.inr (Xe [p,q]).symm,.inl rfl,.inr rfl,.inr rfl,.inl rfl,.inr (by rw[Xe,Xe];rfl),.inr rfl,.inl rfl,trivial⟩ (by simp[Xw]) rfl (by simp[XM,bI,bL,bS',bP,bT']) (by simp[XM]) (by simp[bO,bG,bB]))
  ·exact nx1 _ (by omega) (by omega) (XI (m:=5) (Nat.zero_le _) rfl ⟨.inr (Xj l).symm,.inr (Xj m).symm,.inr (Xj n).symm,.inr rfl,.inr (Xj al).symm,.inr rfl,.inl rfl,.inl rfl,.inl rfl,.inl rfl,.inl rfl,.inl rfl,.inl rfl,.inr rfl,.inr rfl,.inr rfl,.inr rfl,.inr (Xe [p,q]).symm,.inl rfl,.inr rfl,.inr rfl,.inl rfl,.inr (by rw[Xe,Xe];rfl),.inr rfl,.inl rfl,trivial⟩ (by simp[Xw]) rfl (by simp[XM,bI,bL,bS',bP,bT']) (by simp[XM]) (by simp[bO,bG,bB]))
 |1,_ =>
  obtain⟨y1,⟨c,y2,y3⟩,y4⟩:=kA;refine Xm ?_;simp(disch:=omega)only[vA,vC,qA,qC,bA,Xz,gA,Xy,Xe,List.length_cons,List.length_nil,↓Xd,wG,seval];refine X0 d3 (X1 _) ?_;simp(disch:=omega)only[vA,vC,qA,qC,bA,Xz,gA,Xy,Xe,List.length_cons,List.length_nil,↓Xd,wG,seval];refine X0 e3 (X1 _) ?_;simp(disch:=omega)only[vA,vC,qA,qC,bA,Xz,gA,Xy,Xe,List.length_cons,List.length_nil,↓Xd,wG,seval];refine X0 y1 ⟨Weak.rfl' _,Weak.rfl' _,Weak.rfl' _,(KK BR 8 (0,0) (fun _=>rfl) [(r0,r1),(r2,r3)] _ _ _ _ rfl rfl rfl),trivial⟩ ?_;simp(disch:=omega)only[vA,vC,qA,qC,bA,Xz,gA,Xy,Xe,List.length_cons,List.length_nil,Int.reduceEq,↓Xd,wG,seval];refine X0 y2 ⟨Weak.rfl' _,Weak.rfl' _,Weak.rfl' _,(KK BR 8 (0,0) (fun _=>rfl) [(r0,r1),(r2,r3)] _ _ _ _ rfl rfl rfl),trivial⟩ ?_;simp(disch:=omega)only[vA,vC,qA,qC,bA,Xz,gA,Xy,Xe,List.length_cons,List.length_nil,↓Xd,wG,seval];refine⟨fun hc=>?_,fun hc=>?_⟩
  ·have y5:=y3 hc
   refine X0 m2 (X1 _) ?_;simp(disch:=omega)only[vA,vC,qA,qC,bA,Xz,gA,Xy,Xe,List.length_cons,List.length_nil,↓Xd,wG,seval];refine X0 y4 ⟨(KK BR 8 (0,0) (fun _=>rfl) [(r0,r1),(r2,r3)] _ _ _ _ rfl rfl rfl),Weak.rfl' _,trivial⟩ ?_;simp(disch:=omega)only[vA,vC,qA,qC,bA,Xz,gA,Xy,Xe,List.length_cons,List.length_nil,↓Xd,wG,seval];refine X0 y5 ⟨Weak.rfl' _,Weak.rfl' _,Weak.rfl' _,(by rw[Xe];exact Weak.rfl' _),trivial⟩ ?_;simp(disch:=omega)only[vA,vC,qA,qC,bA,Xz,gA,Xy,Xe,List.length_cons,List.length_nil,↓Xd,wG,seval];exact nx2 _ (by omega) (by omega) (XI (m:=5) (Nat.zero_le _) rfl ⟨.inr (Xj l).symm,.inr (Xj m).symm,.inr (Xj n).symm,.inr rfl,.inr (Xj al).symm,.inr rfl,.inl rfl,.inl rfl,.inl rfl,.inl rfl,.inl rfl,.inl rfl,.inl rfl,.inr rfl,.inr rfl,.inr rfl,.inr rfl,.inr (Xe [p,q]).symm,.inl rfl,.inr rfl,.inr rfl,.inl rfl,.inr (by rw[Xe,Xe];rfl),.inr rfl,.inl rfl,trivial⟩ (by simp[Xw]) rfl (by simp[XM,bI,bL,bS',bP,bT']) (by simp[XM]) (by simp[bO,bG,bB]))
  ·exact nx2 _ (by omega) (by omega) (XI (m:=5) (Nat.zero_le _) rfl ⟨.inr (Xj l).symm,.inr (Xj m).symm,.inr (Xj n).symm,.inr rfl,.inr (Xj al).symm,.inr rfl,.inl rfl,.inl rfl,.inl rfl,.inl rfl,.inl rfl,.inl rfl,.inl rfl,.inr rfl,.inr rfl,.inr rfl,.inr rfl,.inr (Xe [p,q]).symm,.inl rfl,.inr rfl,.inr rfl,.inl rfl,.inr (by rw[Xe,Xe];rfl),.inr rfl,.inl rfl,trivial⟩ (by simp[Xw]) rfl (by simp[XM,bI,bL,bS',bP,bT']) (by simp[XM]) (by simp[bO,bG,bB]))
 |2,_ =>
  obtain⟨y1,⟨c,y2,y3⟩,y4⟩:=kT;refine Xm ?_;simp(disch:=omega)only[vA,vC,qA,qC,bA,Xz,gA,Xy,Xe,List.length_cons,List.length_nil,↓Xd,wG,seval];refine X0 d3 (X1 _) ?_;simp(disch:=omega)only[vA,vC,qA,qC,bA,Xz,gA,Xy,Xe,List.length_cons,List.length_nil,↓Xd,wG,seval];refine X0 e3 (X1 _) ?_;simp(disch:=omega)only[vA,vC,qA,qC,bA,Xz,gA,Xy,Xe,List.length_cons,List.length_nil,↓Xd,wG,seval];refine X0 y1 ⟨Weak.rfl' _,Weak.rfl' _,Weak.rfl' _,(by rw[Xe];exact Weak.rfl' _),trivial⟩ ?_;simp(disch:=omega)only[vA,vC,qA,qC,bA,Xz,gA,Xy,Xe,List.length_cons,List.length_nil,Int.reduceEq,↓Xd,wG,seval];refine X0 y2 ⟨Weak.rfl' _,Weak.rfl' _,Weak.rfl' _,(by rw[Xe];exact Weak.rfl' _),trivial⟩ ?_;simp(disch:=omega)only[vA,vC,qA,qC,bA,Xz,gA,Xy,Xe,List.length_cons,List.length_nil,↓Xd,wG,seval];refine⟨fun hc=>?_,fun hc=>?_⟩
  ·have y5:=y3 hc
   refine X0 m2 (X1 _) ?_;simp(disch:=omega)only[vA,vC,qA,qC,bA,Xz,gA,Xy,Xe,List.length_cons,List.length_nil,↓Xd,wG,seval];refine X0 y4 ⟨(by rw[Xe];exact Weak.rfl' _),Weak.rfl' _,trivial⟩ ?_;simp(disch:=omega)only[vA,vC,qA,qC,bA,Xz,gA,Xy,Xe,List.length_cons,List.length_nil,↓Xd,wG,seval];refine X0 y5 ⟨Weak.rfl' _,Weak.rfl' _,Weak.rfl' _,(by rw[Xe];exact Weak.rfl' _),trivial⟩ ?_;simp(disch:=omega)only[vA,vC,qA,qC,bA,Xz,gA,Xy,Xe,List.length_cons,List.length_nil,↓Xd,wG,seval];exact nx3 _ (by omega) (by omega) (XI (m:=5) (Nat.zero_le _) rfl ⟨.inr (Xj l).symm,.inr (Xj m).symm,.inr (Xj n).symm,.inr rfl,.inr (Xj al).symm,.inr rfl,.inl rfl,.inl rfl,.inl rfl,.inl rfl,.inl rfl,.inl rfl,.inl rfl,.inr rfl,.inr rfl,.inr rfl,.inr rfl,.inr (Xe [p,q]).symm,.inl rfl,.inr rfl,.inr rfl,.inl rfl,.inr (by rw[Xe,Xe];rfl),.inr rfl,.inl rfl,trivial⟩ (by simp[Xw]) rfl (by simp[XM,bI,bL,bS',bP,bT']) (by simp[XM]) (by simp[bO,bG,bB]))
  ·exact nx3 _ (by omega) (by omega) (XI (m:=5) (Nat.zero_le _) rfl ⟨.inr (Xj l).symm,.inr (Xj m).symm,.inr (Xj n).symm,.inr rfl,.inr (Xj al).symm,.inr rfl,.inl rfl,.inl rfl,.inl rfl,.inl rfl,.inl rfl,.inl rfl,.inl rfl,.inr rfl,.inr rfl,.inr rfl,.inr rfl,.inr (Xe [p,q]).symm,.inl rfl,.inr rfl,.inr rfl,.inl rfl,.inr (by rw[Xe,Xe];rfl),.inr rfl,.inl rfl,trivial⟩ (by simp[Xw]) rfl (by simp[XM,bI,bL,bS',bP,bT']) (by simp[XM]) (by simp[bO,bG,bB]))
 |3,_ =>
  refine Xm ?_;simp(disch:=omega)only[vA,vC,qA,qC,bA,Xz,gA,Xy,Xe,List.length_cons,List.length_nil,↓Xd,wG,seval];refine X0 fin1 ⟨Weak.rfl' _,Weak.rfl' _,Weak.rfl' _,(by rw[Xe];exact Weak.rfl' _),trivial⟩ ?_;simp(disch:=omega)only[vA,vC,qA,qC,bA,Xz,gA,Xy,Xe,List.length_cons,List.length_nil,↓Xd,wG,seval];refine X0 m1 (X1 _) ?_;simp(disch:=omega)only[vA,vC,qA,qC,bA,Xz,gA,Xy,Xe,List.length_cons,List.length_nil,↓Xd,wG,seval];refine X0 kP.2.2 ⟨(by rw[Xe];exact Weak.rfl' _),Weak.rfl' _,trivial⟩ ?_;simp(disch:=omega)only[vA,vC,qA,qC,bA,Xz,gA,Xy,Xe,List.length_cons,List.length_nil,↓Xd,wG,seval];refine X0 fin2 ⟨Weak.rfl' _,Weak.rfl' _,Weak.rfl' _,(by rw[Xe];exact Weak.rfl' _),trivial⟩ ?_;simp(disch:=omega)only[vA,vC,qA,qC,bA,Xz,gA,Xy,Xe,List.length_cons,List.length_nil,↓Xd,wG,seval];refine X0 cl (X1 _) ?_;simp(disch:=omega)only[vA,vC,qA,qC,bA,Xz,gA,Xy,Xe,List.length_cons,List.length_nil,↓Xd,wG,seval];exact Xp (v:=.bool true) rfl rfl (X5 _) rfl
 |i+4,h=>omega
end
end Go.Ab.N
