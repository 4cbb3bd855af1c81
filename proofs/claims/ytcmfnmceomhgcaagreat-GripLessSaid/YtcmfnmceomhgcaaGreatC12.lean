/- Contracts of functions, for every argument that fits. -/
import Derived.Test.YtcmfnmceomhgcaaGreatC11
import Derived.Test.YtcmfnmceomhgcaaGreatC10
set_option linter.unusedSimpArgs false
set_option linter.unusedVariables false
namespace Go.Ab.N
open Go Go.RowKit Go.Proofs
noncomputable section
set_option maxRecDepth 10000
set_option maxHeartbeats 4000000
open Classical
theorem NX (a b:Rat) (ha:qb a≤rm) (hb:qb b≤rm):Fn Tryz.prog 120 [qA a,qA b] (qA (Nz a b)):=by
 have c:=Z2 a b ha hb
 obtain ⟨R,hR⟩:∃ R,R=qA (Nz a b):=⟨_,rfl⟩
 have sR:Settled R:=hR▸Xc _
 rw [← hR]
 unfold Nz at hR
 refine Fn.intro (fn:=Tryz.f120) Tryz.call120 Tryz.func120 rfl mixed 5 [] [] [] (by kernel_rfl) (Nat.le_of_ble_eq_true rfl) (Kp (Xc a) (Xc b)) (Xm ?_)
 simp (disch:=omega) only [AS.start,qA,qC,↓Xd,wG,seval]
 refine X0 c (X1 _) ?_
 simp (disch:=omega) only [Zh,↓Xd,wG,seval]
 refine ⟨fun h=>?_,fun h=>?_⟩
 ·rw [if_neg (Rat.not_lt.2 h)] at hR
  exact Jf rfl XS rfl rfl rfl sR (hR.trans rfl)
 ·rw [if_pos (Rat.not_le.1 h)] at hR
  exact Jf rfl XS rfl rfl rfl sR (hR.trans rfl)
theorem NW (a b:Rat) (ha:qb a≤rm) (hb:qb b≤rm):Fn Tryz.prog 119 [qA a,qA b] (qA (MV a b)):=by
 have c:=Z2 a b ha hb
 obtain ⟨R,hR⟩:∃ R,R=qA (MV a b):=⟨_,rfl⟩
 have sR:Settled R:=hR▸Xc _
 rw [← hR]
 unfold MV at hR
 refine Fn.intro (fn:=Tryz.f119) Tryz.call119 Tryz.func119 rfl mixed 5 [] [] [] (by kernel_rfl) (Nat.le_of_ble_eq_true rfl) (Kp (Xc a) (Xc b)) (Xm ?_)
 simp (disch:=omega) only [AS.start,qA,qC,↓Xd,wG,seval]
 refine X0 c (X1 _) ?_
 simp (disch:=omega) only [P3,↓Xd,wG,seval]
 refine ⟨fun h=>?_,fun h=>?_⟩
 ·by_cases h2:b<a
  ·rw [if_pos h2] at hR
   exact Jf rfl XS rfl rfl rfl sR (hR.trans rfl)
  ·have e:a=b:=by grind
   subst e
   rw [if_neg h2] at hR
   exact Jf rfl XS rfl rfl rfl sR (hR.trans rfl)
 ·rw [if_neg fun h2=>h (Rat.le_of_lt h2)] at hR
  exact Jf rfl XS rfl rfl rfl sR (hR.trans rfl)
theorem CB (a d x:V2) (ha:vb a≤7) (hd:vb d≤15) (hx:vb x≤7):qb (Ae a d x)≤122:=by
 have h1:=QZ x a
 have h2:=KO (x.sub a) d
 have h3:=KO d d
 have h4:=Ec (Q8 (x.sub a) d) (Q8 d d)
 unfold Ae; omega
theorem NS (L:List V2) (i:Nat) (p:V2) (h:QT L 7) (hl:L.length<1000000) (hi:i<L.length) (hp:vb p≤7):Fn Tryz.prog 118 [Qh L,I i,vA p] (qA (Ae (L.getD i v0) ((KG L i).sub (L.getD i v0)) p)):=by
 have hb1:=h i
 have hb2:vb (KG L i)≤7:=h ((i+1) % L.length)
 have c1:=Br L i hl hi
 have e:L.getD ((i+1) % L.length) v0=KG L i:=rfl
 rw [e] at c1
 have v1:=vF L i
 have f2:(i<L.length)=True:=eq_true hi
 obtain ⟨R,hR⟩:∃ R,R=qA (Ae (L.getD i v0) ((KG L i).sub (L.getD i v0)) p):=⟨_,rfl⟩
 have sR:Settled R:=hR▸Xc _
 rw [← hR]
 unfold Ae at hR
 generalize L.getD i v0=a at *
 generalize KG L i=b at *
 have s1:=QZ b a
 have s2:=QZ p a
 have c2:=Ja b a (by unfold rm; omega) (by unfold rm; omega)
 have c3:=Ja p a (by unfold rm; omega) (by unfold rm; omega)
 generalize b.sub a=d at *
 generalize p.sub a=x at *
 have c4:=JY x d (by unfold vm; omega) (by unfold vm; omega)
 have c5:=JY d d (by unfold vm; omega) (by unfold vm; omega)
 have q1:=KO x d
 have q2:=KO d d
 have c6:=Dq (Q8 x d) (Q8 d d) (by unfold vm; omega) (by unfold vm; omega)
 rw [← hR] at c6
 refine Fq Tryz.call118 Tryz.func118 8 [] [1] [] (by simp [Xq,Xa,Xu]) (Xm ?_)
 simp (disch:=omega) only [AS.start,X7,vA,vC,↓Xd,wG,seval]
 refine X0 c1 ⟨by rw [X7]; exact Weak.rfl' _,Weak.rfl' _,trivial⟩ ?_
 simp (disch:=omega) only [vA,vC,v1,f2,↓Xd,wG,seval]
 refine X0 c2 (X1 _) ?_
 simp (disch:=omega) only [vA,vC,v1,f2,↓Xd,wG,seval]
 refine X0 c3 (X1 _) ?_
 simp (disch:=omega) only [vA,vC,v1,f2,↓Xd,wG,seval]
 refine X0 c4 (X1 _) ?_
 simp (disch:=omega) only [qA,qC,↓Xd,wG,seval]
 refine X0 c5 (X1 _) ?_
 simp (disch:=omega) only [qA,qC,↓Xd,wG,seval]
 refine X0 c6 (X1 _) ?_
 simp (disch:=omega) only [hR,qA,qC,↓Xd,wG,seval]
 exact Jf rfl XS rfl rfl rfl sR (hR.trans rfl)
def gZ:GG:=⟨v0,v0,v0,0,0⟩
def bW (l:List GG):AV:=jE gC 32 gZ l
theorem XZ (l:List GG):bW l=.sl l.length (l.length*32) (XO gC 32 gZ l) false:=nrfl rfl
theorem Ei (l:List GG):Settled (bW l):=Z4 fun a x hx=>K0 a x hx
theorem gM (g:GG):∀ j,j<32→((gC g).getD j .any).one=true:=fun j hj=>by
 rw [Xy]
 match j,hj with
 | 0,_ | 1,_ | 2,_ | 3,_ | 4,_ | 5,_ | 6,_ | 7,_ | 8,_ | 9,_ | 10,_ | 11,_ | 12,_ | 13,_ | 14,_ | 15,_ | 16,_ | 17,_ | 18,_ | 19,_ | 20,_ | 21,_ | 22,_ | 23,_ | 24,_ | 25,_ | 26,_ | 27,_ | 28,_ | 29,_ | 30,_ | 31,_=>rfl
 | j+32,h=>omega
def OS (L:List V2) (f r:Rat) (i j:Nat):List GG:=((Ia (JD L i) (JD L j)).toList).map fun x=>⟨x.1,x.2,HN (L.getD i v0) (KG L i),f,r⟩
def Zj (L:List V2) (f r:Rat) (i:Nat):Nat→List GG
 | 0=>[]
 | k+1=>Zj L f r i k ++ OS L f r i (i+1+k)
def Bj (L:List V2) (f r:Rat):Nat→List GG
 | 0=>[]
 | i+1=>Bj L f r i ++ Zj L f r i (L.length - (i+1))
def Nm (L:List V2) (f r:Rat):List GG:=Bj L f r L.length
def ZF (L:List V2) (f r:Rat):List GG:=if ZR L∧Ba f r=true then Nm L f r else []
theorem ns (L:List V2) (f r:Rat) (i j:Nat):(OS L f r i j).length≤1:=by
 unfold OS
 rw [List.length_map]
 cases Ia (JD L i) (JD L j) <;> simp
theorem Gx (L:List V2) (f r:Rat) (i:Nat):∀ k,(Zj L f r i k).length≤k
 | 0=>by simp [Zj]
 | k+1=>by
  have h1:=Gx L f r i k
  have h2:=ns L f r i (i+1+k)
  show (Zj L f r i k ++ OS L f r i (i+1+k)).length≤_
  rw [List.length_append]; omega
theorem E2 (L:List V2) (f r:Rat):∀ i,(Bj L f r i).length≤L.length*i
 | 0=>by simp [Bj]
 | i+1=>by
  have h1:=E2 L f r i
  have h2:=Gx L f r i (L.length - (i+1))
  show (Bj L f r i ++ Zj L f r i (L.length - (i+1))).length≤_
  rw [List.length_append,Nat.mul_succ]; omega
def Vx (L:List V2) (f r:Rat) (g:GG):Prop:=vb g.p≤269∧vb g.q≤931∧vb g.n≤15∧g.n≠v0∧g.force=f∧g.rough=r
theorem Vy {a d:V2} {lo hi:Rat} (ha:vb a≤7) (hd:vb d≤15) (hl:qb lo≤122) (hh:qb hi≤122):vb (MS a d lo hi)≤269:=by
 have h1:=Kc lo hi
 have h2:=XT (lo+hi) (Rat.divInt 1 2)
 have h3:=CP 1 2 (by omega) (by omega)
 have h4:=DD d ((lo+hi)*Rat.divInt 1 2)
 have h5:=Kw a (d.scale ((lo+hi)*Rat.divInt 1 2))
 unfold MS; omega
theorem Vz {p n b:V2} (hp:vb p≤269) (hn:vb n≤15) (hb:vb b≤7):vb (U1 p n b)≤931:=by
 have h1:=QZ b p
 have h2:=KO (b.sub p) n
 have h3:=KO n n
 have h4:=Ec (Q8 (b.sub p) n) (Q8 n n)
 have h5:=DD n (Q8 (b.sub p) n / Q8 n n)
 have h6:=Kw p (n.scale (Q8 (b.sub p) n / Q8 n n))
 unfold U1; omega
theorem iq {s t:Rat} (hs:qb s≤122) (ht:qb t≤122):qb (Tc s t)≤122∧qb (Ta s t)≤122∧qb (Nz s t)≤122∧qb (MV s t)≤122:=by
 have z:=Dm
 have o:qb 1≤122:=by decide +kernel
 have h1:qb (Nz s t)≤122:=by unfold Nz; split <;> assumption
 have h2:qb (MV s t)≤122:=by unfold MV; split <;> assumption
 refine ⟨?_,?_,h1,h2⟩
 ·unfold Tc; split
  ·omega
  ·exact h1
 ·unfold Ta; split
  ·exact o
  ·exact h2
theorem rO (L:List V2) (h:QT L 7) (f r:Rat) (i j:Nat):∀ g∈OS L f r i j,Vx L f r g:=by
 intro g hg
 unfold OS Ia at hg
 obtain ⟨x,hx,rfl⟩:=List.mem_map.1 hg
 have h1:=h i
 have h2:vb (KG L i)≤7:=h ((i+1) % L.length)
 have h3:=h j
 have h4:vb (KG L j)≤7:=h ((j+1) % L.length)
 have hn:=O5 (L.getD i v0) (KG L i)
 have hd:=QZ (KG L i) (L.getD i v0)
 split at hx
 ·rename_i hc
  split at hx
  ·rw [Option.mem_toList] at hx
   cases hx
   have s1:=CB (L.getD i v0) ((KG L i).sub (L.getD i v0)) (L.getD j v0) h1 (by omega) h3
   have s2:=CB (L.getD i v0) ((KG L i).sub (L.getD i v0)) (KG L j) h1 (by omega) h4
   obtain ⟨l1,l2,_,_⟩:=iq s1 s2
   have hp:=Vy (a:=L.getD i v0) (d:=(KG L i).sub (L.getD i v0)) h1 (by omega) l1 l2
   refine ⟨hp,Vz hp (by show vb (HN _ _)≤15; omega) h3,by show vb (HN _ _)≤15; omega,fun e=>?_,rfl,rfl⟩
   have e:HN (L.getD i v0) (KG L i)=v0:=e
   have:=hc.2
   have e2:(JD L i).i=v0:=e
   rw [e2] at this
   unfold Q8 v0 at this
   grind
  ·simp at hx
 ·simp at hx
theorem Wj (L:List V2) (h:QT L 7) (f r:Rat) (i:Nat):∀ k,∀ g∈Zj L f r i k,Vx L f r g
 | 0,g,hg=>by simp [Zj] at hg
 | k+1,g,hg=>by
  rcases List.mem_append.1 (show g∈Zj L f r i k ++ OS L f r i (i+1+k) from hg) with hg | hg
  ·exact Wj L h f r i k g hg
  ·exact rO L h f r i _ g hg
theorem VA (L:List V2) (h:QT L 7) (f r:Rat):∀ i,∀ g∈Bj L f r i,Vx L f r g
 | 0,g,hg=>by simp [Bj] at hg
 | i+1,g,hg=>by
  rcases List.mem_append.1 (show g∈Bj L f r i ++ Zj L f r i (L.length - (i+1)) from hg) with hg | hg
  ·exact VA L h f r i g hg
  ·exact Wj L h f r i _ g hg
theorem VB (L:List V2) (h:QT L 7) (f r:Rat):∀ g∈ZF L f r,Vx L f r g:=by
 unfold ZF
 split
 ·exact VA L h f r _
 ·intro g hg; simp at hg
theorem T3 {α:Type} (e:α→List AV) (s:Nat) (d:α) (f:Nat→AV) (t:Bool):Weak (.sl 0 0 f t) (jE e s d []):=KE rfl (by simp) fun j hj=>absurd hj (by simp)
theorem nw (x:Rat):x / Rat.divInt 2 1=x*Rat.divInt 1 2:=by
 rw [Rat.div_def,show (Rat.divInt 2 1)⁻¹=Rat.divInt 1 2 by decide +kernel]
theorem sw:Rat.divInt 1 1=1:=by decide +kernel
theorem uR (m:Rat):MV m 0=if m<0 then 0 else m:=by
 unfold MV
 by_cases h:m<0
 ·rw [if_pos h,if_neg (by grind)]
 ·rw [if_neg h]
  by_cases h2:0<m
  ·rw [if_pos h2]
  ·rw [if_neg h2]; grind
theorem uI (m:Rat):Nz m 1=if 1<m then 1 else m:=rfl
theorem Nl (L:List V2) (f r:Rat) (i:Nat):Bj L f r (i+1)=Bj L f r i ++ Zj L f r i (L.length - (i+1)):=rfl
theorem Su {H:List AO} {id ver n:Nat} (l:List GG) (ho:H[id]?=some (.row ver (l.length*32) (XO gC 32 gZ l))) (hn:n=l.length):Zq H (.osl id ver 32 0 n) (bW l):=by
 subst hn
 rw [XZ]
 refine ZP (.inl ho) (by omega) (fun h=>by rw [h]) fun j hj=>?_
 rw [Nat.zero_add]
 exact (Xf (K0 _) _).sees _
theorem jo (L:List V2) (f r:Rat) (h:QT L 7) (hl:L.length≤12) (hf:qb f≤40) (hr:qb r≤40):Fn Tryz.prog 47 [Qh L,qA f,qA r] (bW (ZF L f r)):=by
 have c1:=Gt L (fun i=>Nat.le_trans (h i) (by omega)) (by omega)
 have c2:=jp f r (by unfold rm; omega) (by unfold rm; omega)
 obtain ⟨R,hR⟩:∃ R,R=ZF L f r:=⟨_,rfl⟩
 have sR:=Ei R
 rw [← hR]
 unfold ZF at hR
 generalize Ba f r=J at *
 refine Fq Tryz.call47 Tryz.func47 18 [] [18,19012,19,20004,20006,20008,20009] [] (by simp [Xq,Xc]) (Xm ?_)
 simp (disch:=omega) only [AS.start,X7,qA,qC,↓Xd,wG,seval]
 refine X0 c1 ⟨by rw [X7]; exact Weak.rfl' _,trivial⟩ ?_
 simp (disch:=omega) only [↓Xd,wG,seval]
 have nil:∀ (s:AS),s.get 6=.sl 0 0 (fun _=>.any) true→R=[]→RetOk (Jq Tryz.prog Tryz.f47 [18,19012,19,20004,20006,20008,20009] [] (bW R)) s:=fun s hs e=>BX rfl (by rw [hs]; exact XC sR (by rw [e]; exact T3 gC 32 gZ _ _))
 refine ⟨fun hp=>nil _ rfl (by rw [hR,if_neg fun h=>hp h.1]),fun hp=>?_⟩
 refine X0 c2 (X1 _) ?_
 simp (disch:=omega) only [↓Xd,wG,seval]
 refine ⟨fun hj=>nil _ rfl (by rw [hR,if_neg fun h=>by rw [h.2] at hj; exact absurd hj (by simp)]),fun hj=>?_⟩
 have hj:J=true:=by simpa using hj
 rw [if_pos ⟨hp,hj⟩] at hR
 have bV:∀ q,Ju q (Qh L)=True:=fun q=>eq_true (X6 (Xq L))
 have bP:∀ q x,Ju q (KT x)=True:=fun q x=>eq_true (X6 (XV fun j _=>Xf (QP x) j))
 have bO:∀ q i x,Qc q (.con i 4 (Xh (qC x)))=True:=fun q i x=>eq_true fun j _=>X6 (Xf (QP x) j)
 have bR:∀ q i n l,Qc q (.row i n (XO gC 32 gZ l))=True:=fun q i n l=>eq_true fun j _=>X6 (Xf (K0 _) _)
 have fl:=fun i=>E2 L f r i
 refine Run.sub ?_ (Q3 0 rfl)
 refine Run.sub ?_ (Q3 1 rfl)
 refine Run.sub ?_ (Qa 4 rfl rfl (by omega))
 refine Run.sub ?_ (Qa 5 rfl rfl (by omega))
 refine Run.sub ?_ (Kg 7 32 (XO gC 32 gZ []) rfl)
 refine Xl (fun i:Nat=>⟨18,[],[Qh L,.any,.any,.any,KT f,KT r,.any,.osl 2 (Bj L f r i).length 32 0 (Bj L f r i).length,I i,.any,.any,.any,.any,.any,.any,.any,.any,.any],[],[.con 0 4 (Xh (qC f)),.con 0 4 (Xh (qC r)),.row (Bj L f r i).length ((Bj L f r i).length*32) (XO gC 32 gZ (Bj L f r i))]⟩) (fun i=>i≤L.length) (fun i=>L.length - i) 0 (by omega)
  (Xk rfl ⟨.inr (X7 L).symm,.inl rfl,.inl rfl,.inl rfl,.inr rfl,.inr rfl,.inl rfl,.inr rfl,.inr rfl,.inl rfl,.inl rfl,.inl rfl,.inl rfl,.inl rfl,.inl rfl,.inl rfl,.inl rfl,.inl rfl,trivial⟩ trivial rfl) ?_
 intro i hi next
 have w1:=wj i (by omega)
 by_cases hi2:i<L.length
 rotate_left
 ·obtain rfl:i=L.length:=by omega
  refine Xm ?_
  simp (disch:=omega) only [X7,↓Xd,wG,seval]
  exact BX rfl (by rw [hR]; exact Su _ rfl rfl)
 have nx:=next (i+1)
 rw [Nl] at nx
 have f1:(i<L.length)=True:=eq_true hi2
 refine Xm ?_
 simp (disch:=omega) only [X7,w1,f1,↓Xd,wG,seval]
 generalize hF:Bj L f r i=F at *
 refine Xl (fun k:Nat=>⟨18,[],[Qh L,.any,.any,.any,KT f,KT r,.any,.osl 2 (F ++ Zj L f r i k).length 32 0 (F ++ Zj L f r i k).length,I i,I (i+1+k:Nat),.any,.any,.any,.any,.any,.any,.any,.any],[],[.con 0 4 (Xh (qC f)),.con 0 4 (Xh (qC r)),.row (F ++ Zj L f r i k).length ((F ++ Zj L f r i k).length*32) (XO gC 32 gZ (F ++ Zj L f r i k))]⟩) (fun k=>k≤L.length - (i+1)) (fun k=>L.length - k) 0 (by omega)
  (Xk rfl ⟨.inr (X7 L).symm,.inl rfl,.inl rfl,.inl rfl,.inr rfl,.inr rfl,.inl rfl,.inr (by simp [Zj]),.inr rfl,.inr rfl,.inl rfl,.inl rfl,.inl rfl,.inl rfl,.inl rfl,.inl rfl,.inl rfl,.inl rfl,trivial⟩ trivial (by simp only [Zj,List.append_nil]; rfl)) ?_
 intro k hk nextk
 have w2:=wj (i+1+k) (by omega)
 by_cases hk2:i+1+k<L.length
 rotate_left
 ·obtain rfl:k=L.length - (i+1):=by omega
  refine Xm ?_
  simp (disch:=omega) only [X7,w1,w2,↓Xd,wG,seval]
  exact nx _ (by omega) (by omega) (C7 (by simp [Xo,I,X7]) rfl)
 have nk:=nextk (k+1)
 rw [show Zj L f r i (k+1)=Zj L f r i k ++ OS L f r i (i+1+k) from rfl,← List.append_assoc] at nk
 have hln:(F ++ Zj L f r i k).length≤1000:=by
  have g1:=fl i
  have g2:=Gx L f r i k
  rw [hF] at g1
  have g3:L.length*i≤12*12:=Nat.mul_le_mul hl (by omega)
  rw [List.length_append]; omega
 generalize F ++ Zj L f r i k=G at *
 clear hF next nextk fl
 have hk3:i+1+k<1000:=by omega
 generalize hj':i+1+k=j at *
 have f2:(j<L.length)=True:=eq_true hk2
 have hg:OS L f r i j=((Ia (JD L i) (JD L j)).toList).map fun x=>⟨x.1,x.2,HN (L.getD i v0) (KG L i),f,r⟩:=rfl
 have v1:=vF L i
 have v2:=vF L j
 have h7:QT L 1000:=fun i=>Nat.le_trans (h i) (by omega)
 have d1:=Dt L i h7 (by omega) hi2
 have d2:=Dt L j h7 (by omega) hk2
 have d3:=NS L i (L.getD j v0) h (by omega) hi2 (h j)
 have d4:=NS L i (KG L j) h (by omega) hi2 (h _)
 have d5:=Br L j (by omega) hk2
 have d6:=Br L i (by omega) hi2
 have e1:L.getD ((i+1) % L.length) v0=KG L i:=rfl
 have e2:L.getD ((j+1) % L.length) v0=KG L j:=rfl
 rw [e2] at d5
 rw [e1] at d6
 have h1:=h i
 have h2:vb (KG L i)≤7:=h ((i+1) % L.length)
 have h3:=h j
 have h4:vb (KG L j)≤7:=h ((j+1) % L.length)
 have hs1:JD L i=⟨L.getD i v0,KG L i,HN (L.getD i v0) (KG L i)⟩:=rfl
 have hs2:JD L j=⟨L.getD j v0,KG L j,HN (L.getD j v0) (KG L j)⟩:=rfl
 rw [hs1,hs2] at hg
 unfold Ia G5 G6 Rj at hg
 simp only at hg
 generalize L.getD i v0=a at *
 generalize KG L i=a' at *
 generalize L.getD j v0=b at *
 generalize KG L j=b' at *
 have m1:=O5 a a'
 have m2:=O5 b b'
 generalize HN a a'=n at *
 generalize HN b b'=m at *
 have m3:=QZ a' a
 have m4:=QZ b a
 have u1:=og m n (by omega) (by omega)
 have u2:=Ja b a (by unfold rm; omega) (by unfold rm; omega)
 have u3:=JY (b.sub a) n (by unfold vm; omega) (by unfold vm; omega)
 have m5:=KO (b.sub a) n
 have u4:=Kk (Q8 (b.sub a) n) (by unfold rm; omega)
 have s5:(Q8 (b.sub a) n).num.sign≤0↔Q8 (b.sub a) n≤0:=by
  have:=Pa (Q8 (b.sub a) n)
  rw [← Int.not_lt,this,Rat.not_lt]
 have u5:=Ja a' a (by unfold rm; omega) (by unfold rm; omega)
 have k1:=CB a (a'.sub a) b h1 (by omega) h3
 have k2:=CB a (a'.sub a) b' h1 (by omega) h4
 generalize hD:a'.sub a=D at *
 refine Xm ?_
 simp (disch:=omega) only [X7,w1,w2,f1,f2,v1,v2,↓Xd,wG,seval]
 refine X0 d1 ⟨by rw [X7]; exact Weak.rfl' _,Weak.rfl' _,trivial⟩ ?_
 simp (disch:=omega) only [vA,vC,X7,w1,w2,f1,f2,v1,v2,↓Xd,wG,seval]
 refine X0 d2 ⟨by rw [X7]; exact Weak.rfl' _,Weak.rfl' _,trivial⟩ ?_
 simp (disch:=omega) only [vA,vC,X7,w1,w2,f1,f2,v1,v2,↓Xd,wG,seval]
 refine X0 u1 (X1 _) ?_
 simp (disch:=omega) only [vA,vC,qA,qC,X7,w1,w2,f1,f2,v1,v2,↓Xd,wG,seval]
 refine ⟨fun ho=>?_,fun ho=>?_⟩
 ·rw [if_neg fun q=>ho q.1] at hg
  replace hg:OS L f r i j=[]:=hg
  rw [hg,List.append_nil] at nk
  exact nk _ (by omega) (by omega) (sS (m:=3) (by simp [X7,Xo,I]; omega) rfl (by simp [XM,bV,bP]) (by simp [bO,bR]))
 refine X0 u2 (X1 _) ?_
 simp (disch:=omega) only [vA,vC,qA,qC,X7,w1,w2,f1,f2,v1,v2,↓Xd,wG,seval]
 refine X0 u3 (X1 _) ?_
 simp (disch:=omega) only [vA,vC,qA,qC,X7,w1,w2,f1,f2,v1,v2,↓Xd,wG,seval]
 refine X0 u4 (X1 _) ?_
 simp (disch:=omega) only [vA,vC,qA,qC,X7,w1,w2,f1,f2,v1,v2,↓Xd,wG,seval]
 refine ⟨fun ho2=>?_,fun ho2=>?_⟩
 ·rw [if_neg fun q=>by rw [s5] at ho2; exact absurd q.2 (Rat.not_lt.2 ho2)] at hg
  replace hg:OS L f r i j=[]:=hg
  rw [hg,List.append_nil] at nk
  exact nk _ (by omega) (by omega) (sS (m:=3) (by simp [X7,Xo,I]; omega) rfl (by simp [XM,bV,bP]) (by simp [bO,bR]))
 rw [if_pos ⟨ho,Rat.not_le.1 fun q=>ho2 (s5.2 q)⟩] at hg
 generalize Ae a D b=s at *
 generalize Ae a D b'=t at *
 obtain ⟨l1,l2,l3,l4⟩:=iq k1 k2
 have u6:=NX s t (by unfold rm; omega) (by unfold rm; omega)
 have u8:=NW s t (by unfold rm; omega) (by unfold rm; omega)
 have u7:=NW (Nz s t) 0 (by unfold rm; omega) (by unfold rm; exact Nat.le_trans Dm (by omega))
 rw [uR,show (if Nz s t<0 then 0 else Nz s t)=Tc s t from rfl] at u7
 have o1:=XB 1 1 ⟨by omega,by omega⟩ ⟨by omega,by omega⟩
 rw [sw] at o1
 have u9:=NX (MV s t) 1 (by unfold rm; omega) (by unfold rm; decide +kernel)
 rw [uI,show (if 1<MV s t then 1 else MV s t)=Ta s t from rfl] at u9
 have u10:=Z2 (Tc s t) (Ta s t) (by unfold rm; omega) (by unfold rm; omega)
 refine X0 d3 ⟨by rw [X7]; exact Weak.rfl' _,Weak.rfl' _,Weak.rfl' _,trivial⟩ ?_
 simp (disch:=omega) only [vA,vC,qA,qC,X7,w1,w2,f1,f2,v1,v2,↓Xd,wG,seval]
 refine X0 d5 ⟨by rw [X7]; exact Weak.rfl' _,Weak.rfl' _,trivial⟩ ?_
 simp (disch:=omega) only [vA,vC,qA,qC,X7,w1,w2,f1,f2,v1,v2,↓Xd,wG,seval]
 refine X0 d4 ⟨by rw [X7]; exact Weak.rfl' _,Weak.rfl' _,Weak.rfl' _,trivial⟩ ?_
 simp (disch:=omega) only [vA,vC,qA,qC,X7,w1,w2,f1,f2,v1,v2,↓Xd,wG,seval]
 refine X0 u6 (X1 _) ?_
 simp (disch:=omega) only [vA,vC,qA,qC,X7,w1,w2,f1,f2,v1,v2,↓Xd,wG,seval]
 refine X0 u7 ⟨Weak.rfl' _,Bh (KS _),trivial⟩ ?_
 simp (disch:=omega) only [vA,vC,qA,qC,X7,w1,w2,f1,f2,v1,v2,↓Xd,wG,seval]
 refine X0 u8 (X1 _) ?_
 simp (disch:=omega) only [vA,vC,qA,qC,X7,w1,w2,f1,f2,v1,v2,↓Xd,wG,seval]
 refine X0 o1 (X1 _) ?_
 simp (disch:=omega) only [vA,vC,qA,qC,X7,w1,w2,f1,f2,v1,v2,↓Xd,wG,seval]
 refine X0 u9 (X1 _) ?_
 simp (disch:=omega) only [vA,vC,qA,qC,X7,w1,w2,f1,f2,v1,v2,↓Xd,wG,seval]
 refine X0 u10 (X1 _) ?_
 simp (disch:=omega) only [vA,vC,qA,qC,X7,w1,w2,f1,f2,v1,v2,↓Xd,wG,seval]
 have s6:=P3 (Tc s t) (Ta s t)
 refine ⟨fun ho3=>?_,fun ho3=>?_⟩
 ·rw [if_neg fun q=>absurd (s6.1 ho3) (Rat.not_le.2 q)] at hg
  replace hg:OS L f r i j=[]:=hg
  rw [hg,List.append_nil] at nk
  exact nk _ (by omega) (by omega) (sS (m:=3) (by simp [X7,Xo,I]; omega) rfl (by simp [XM,bV,bP]) (by simp [bO,bR]))
 have hlt:Tc s t<Ta s t:=Rat.not_le.1 fun q=>ho3 (s6.2 q)
 rw [if_pos hlt] at hg
 generalize Tc s t=lo at *
 generalize Ta s t=hi at *
 have u11:=JZ lo hi (by unfold rm; omega) (by unfold rm; omega)
 have o2:=XB 2 1 ⟨by omega,by omega⟩ ⟨by omega,by omega⟩
 have q2:=CP 2 1 (by omega) (by omega)
 have q3:=Kc lo hi
 have u12:=Dq (lo+hi) (Rat.divInt 2 1) (by unfold vm; omega) (by unfold vm; omega)
 rw [nw] at u12
 have q4:=XT (lo+hi) (Rat.divInt 1 2)
 have q5:=CP 1 2 (by omega) (by omega)
 have hp:=Vy (a:=a) (d:=D) h1 (by omega) l1 l2
 have hq:=Vz (p:=MS a D lo hi) (n:=n) (b:=b) hp (by omega) h3
 have u13:=Zi D ((lo+hi)*Rat.divInt 1 2) (by unfold vm; omega) (by unfold vm; omega)
 have q6:=DD D ((lo+hi)*Rat.divInt 1 2)
 have u14:=QE a (D.scale ((lo+hi)*Rat.divInt 1 2)) (by unfold vm; omega) (by unfold vm; omega)
 rw [show a.add (D.scale ((lo+hi)*Rat.divInt 1 2))=MS a D lo hi from rfl] at u14
 generalize MS a D lo hi=p at *
 have q7:=QZ b p
 have u15:=Ja b p (by unfold rm; omega) (by unfold rm; omega)
 have u16:=JY (b.sub p) n (by unfold vm; omega) (by unfold vm; omega)
 have u17:=JY n n (by unfold vm; omega) (by unfold vm; omega)
 have q8:=KO (b.sub p) n
 have q9:=KO n n
 have u18:=Dq (Q8 (b.sub p) n) (Q8 n n) (by unfold vm; omega) (by unfold vm; omega)
 have q10:=Ec (Q8 (b.sub p) n) (Q8 n n)
 have u19:=Zi n (Q8 (b.sub p) n / Q8 n n) (by unfold vm; omega) (by unfold vm; omega)
 have q11:=DD n (Q8 (b.sub p) n / Q8 n n)
 have u20:=QE p (n.scale (Q8 (b.sub p) n / Q8 n n)) (by unfold vm; omega) (by unfold vm; omega)
 rw [show p.add (n.scale (Q8 (b.sub p) n / Q8 n n))=U1 p n b from rfl] at u20
 generalize U1 p n b=q at *
 generalize Q8 (b.sub p) n / Q8 n n=far at *
 generalize (lo+hi)*Rat.divInt 1 2=mid at *
 refine X0 u11 (X1 _) ?_
 simp (disch:=omega) only [vA,vC,qA,qC,X7,w1,w2,f1,f2,v1,v2,↓Xd,wG,seval]
 refine X0 o2 (X1 _) ?_
 simp (disch:=omega) only [vA,vC,qA,qC,X7,w1,w2,f1,f2,v1,v2,↓Xd,wG,seval]
 refine X0 u12 (X1 _) ?_
 simp (disch:=omega) only [vA,vC,qA,qC,X7,w1,w2,f1,f2,v1,v2,↓Xd,wG,seval]
 refine X0 d6 ⟨by rw [X7]; exact Weak.rfl' _,Weak.rfl' _,trivial⟩ ?_
 simp (disch:=omega) only [vA,vC,qA,qC,X7,w1,w2,f1,f2,v1,v2,↓Xd,wG,seval]
 refine X0 u5 (X1 _) ?_
 simp (disch:=omega) only [vA,vC,qA,qC,X7,w1,w2,f1,f2,v1,v2,↓Xd,wG,seval]
 refine X0 u13 (X1 _) ?_
 simp (disch:=omega) only [vA,vC,qA,qC,X7,w1,w2,f1,f2,v1,v2,↓Xd,wG,seval]
 refine X0 u14 (X1 _) ?_
 simp (disch:=omega) only [vA,vC,qA,qC,X7,w1,w2,f1,f2,v1,v2,↓Xd,wG,seval]
 refine X0 u15 (X1 _) ?_
 simp (disch:=omega) only [vA,vC,qA,qC,X7,w1,w2,f1,f2,v1,v2,↓Xd,wG,seval]
 refine X0 u16 (X1 _) ?_
 simp (disch:=omega) only [vA,vC,qA,qC,X7,w1,w2,f1,f2,v1,v2,↓Xd,wG,seval]
 refine X0 u17 (X1 _) ?_
 simp (disch:=omega) only [vA,vC,qA,qC,X7,w1,w2,f1,f2,v1,v2,↓Xd,wG,seval]
 refine X0 u18 (X1 _) ?_
 simp (disch:=omega) only [vA,vC,qA,qC,X7,w1,w2,f1,f2,v1,v2,↓Xd,wG,seval]
 refine X0 u19 (X1 _) ?_
 simp (disch:=omega) only [vA,vC,qA,qC,X7,w1,w2,f1,f2,v1,v2,↓Xd,wG,seval]
 refine X0 u20 (X1 _) ?_
 simp (disch:=omega) only [vA,vC,qA,qC,X7,w1,w2,f1,f2,v1,v2,KT,↓Xd,wG,seval]
 replace hg:OS L f r i j=[⟨p,q,n,f,r⟩]:=hg
 have hap:=Ay gC 32 gZ G ⟨p,q,n,f,r⟩ (by omega)
 rw [hg] at nk
 rw [show (G ++ [(⟨p,q,n,f,r⟩:GG)]).length=G.length+1 by simp] at nk
 exact ⟨fun j hj=>gM ⟨p,q,n,f,r⟩ j hj,nk _ (by omega) (by omega) (sS (m:=3) (by simp [X7,Xo,I,KT]; exact ⟨rfl,rfl,by omega⟩) (by rw [← hap]; rfl) (by simp [XM,bV,bP]) (by simp [bO,bR]))⟩
def Lz (L:List V2) (g:GG):Int :=
 if Bm L∧Kj g=true then (if (K1 L).any (Dc g)=true∧(K1 L).any (Bu g)=true then 0 else 17) else 1
theorem sT (L:List V2) (h:QT L 1000) (i:Nat):sU (JD L i) 10000:=by
 have h1:=h i
 have h2:vb (KG L i)≤1000:=h ((i+1) % L.length)
 have h3:=O5 (L.getD i v0) (KG L i)
 refine ⟨?_,?_,?_⟩
 ·show vb (L.getD i v0)≤_; omega
 ·show vb (KG L i)≤_; omega
 ·show vb (HN (L.getD i v0) (KG L i))≤_; omega
theorem VJ (L:List V2) (g:GG) (h:QT L 1000) (hl:L.length<1000000) (hg:gS g):Fn Tryz.prog 15 [Qh L,gA g] (I (Lz L g)):=by
 obtain ⟨g1,g2,g3,g4,g5⟩:=id hg
 have c1:=Hq L h hl
 have c2:=Lt g hg.ok
 have c3:=Nr L h hl
 have hm:∀ x∈K1 L,sU x 10000:=fun x hx=>by
  unfold K1 AM at hx
  obtain ⟨i,_,rfl⟩:=List.mem_map.1 hx
  exact sT L h i
 have hlen:(K1 L).length<1000000:=by unfold K1; rw [Dz]; exact hl
 have c4:=FY (K1 L) 65 [gP g] (Dc g) hlen (fun a ha=>List.mem_singleton.1 ha▸Dy g) fun x hx=>ga g x (hm x hx) ⟨by omega,by omega⟩
 have c5:=FY (K1 L) 68 [gP g] (Bu g) hlen (fun a ha=>List.mem_singleton.1 ha▸Dy g) fun x hx=>aP g x (hm x hx) ⟨by omega,by omega⟩
 have hd:Lz L g=if Bm L∧Kj g=true then (if (K1 L).any (Dc g)=true∧(K1 L).any (Bu g)=true then 0 else 17) else 1:=rfl
 generalize Lz L g=R at *
 generalize (K1 L).any (Dc g)=b1 at *
 generalize (K1 L).any (Bu g)=b2 at *
 have gf:=gF g
 refine Fn.intro (fn:=Tryz.f15) Tryz.call15 Tryz.func15 rfl mixed 8 [] [] [] (by kernel_rfl) (Nat.le_of_ble_eq_true rfl) (Kp (Xq L) (Js g)) (XK 8 ?_)
 simp (disch:=omega) only [AS.start,gA,Xy,X7,↓Xd,wG,seval]
 refine Run.sub ?_ (Q3 0 rfl)
 refine Run.sub ?_ (Qa 3 rfl rfl (by omega))
 refine Xm ?_
 simp (disch:=omega) only [AS.put,List.set,↓Xd,wG,seval]
 refine X0 c1 ⟨by rw [X7]; exact Weak.rfl' _,trivial⟩ ?_
 simp (disch:=omega) only [↓Xd,wG,seval]
 refine ⟨fun h1=>?_,fun h1=>?_⟩
 ·exact Xp (v:=I 1) rfl rfl (Xa _) (by rw [hd,if_neg fun h=>h1 h.1])
 refine X0 c2 (X1 _) ?_
 simp (disch:=omega) only [↓Xd,wG,seval]
 refine ⟨fun h2=>?_,fun h2=>?_⟩
 ·exact Xp (v:=I 1) rfl rfl (Xa _) (by rw [hd,if_neg fun h=>by rw [h.2] at h2; exact absurd h2 (by simp)])
 have h2:Kj g=true:=by simpa using h2
 rw [if_pos ⟨h1,h2⟩] at hd
 refine X0 c3 ⟨by rw [X7]; exact Weak.rfl' _,trivial⟩ ?_
 simp (disch:=omega) only [↓Xd,wG,seval]
 cases b1
 ·refine X0 c4 (X1 _) ?_
  simp (disch:=omega) only [↓Xd,wG,seval]
  exact Xp (v:=I 17) rfl rfl (Xa _) (by rw [hd]; rfl)
 ·refine X0 c4 (X1 _) ?_
  simp (disch:=omega) only [↓Xd,wG,seval]
  cases b2
  ·refine X0 c5 (X1 _) ?_
   simp (disch:=omega) only [↓Xd,wG,seval]
   exact Xp (v:=I 17) rfl rfl (Xa _) (by rw [hd]; rfl)
  ·refine X0 c5 (X1 _) ?_
   simp (disch:=omega) only [↓Xd,wG,seval]
   exact Xp (v:=I 0) rfl rfl (Xa _) (by rw [hd]; rfl)
theorem KF {P:Program} {T id n:Nat} {Z:List AV} {H:List AO} (hk:C6 P T=some (some n)) (ho:H[id]?=some (.row 0 n (Xh Z))) (hn:Z.length=n):Ql P false T (.ref id 0 0) H=some (.agg Z):=by
 subst hn
 rw [AW,hk,JS,ho,JT,aB,H4 Z _ _ (by omega)]
 simp [Q2]
theorem jX {Z W:List AV} (h:W.length=Z.length):FK (Xh Z) 0 W=Xh W:=funext fun j=>by
 rw [Et]
 by_cases hj:j<W.length
 ·rw [if_pos ⟨Nat.zero_le _,by omega⟩,Nat.sub_zero]; rfl
 ·rw [if_neg (by omega)]
  unfold Xh
  rw [List.getD_eq_getElem?_getD,List.getD_eq_getElem?_getD,List.getElem?_eq_none (by omega),List.getElem?_eq_none (by omega)]
theorem JU {P:Program} {T id n:Nat} {Z W:List AV} {H:List AO} (ht:KD P T=some n) (ho:H[id]?=some (.row 0 n (Xh Z))) (hz:Z.length=n) (hw:W.length=n) (h0:n≠0) (h1:W.all AV.one=true):KV P false T (.ref id 0 0) (.agg W) H=some (H.set id (.row 0 n (Xh (W.map AV.loose)))):=by
 subst hz
 have e:Z5 false (.agg W)=W.map AV.loose:=rfl
 have hc:(AV.agg W).cells=W:=rfl
 unfold KV
 simp only [ho]
 unfold Q2
 rw [if_pos ⟨trivial,by rw [ht,hc,hw],by rw [hc]; exact fun g=>by rw [g] at hw; exact h0 hw.symm,by rw [hc,hw]; omega,by rw [hc]; exact h1⟩,e,jX (by rw [List.length_map,hw])]
def zC (t:Bool):List AV:=[.bool false,.sl 0 0 (fun _=>.any) t,.bool false,.sl 0 0 (fun _=>.any) t,.bool false,.sl 0 0 (fun _=>.any) t,.bool false,.sl 0 0 (fun _=>.any) t]
def zO (t:Bool):AO:=.row 0 8 (Xh (zC t))
def rM (o:Option (V2×V2)):AV:=.tup [vA (o.getD (v0,v0)).1,vA (o.getD (v0,v0)).2,.bool o.isSome]
def pD (a b:Sd) (D:V2) (mn mx lo hi:Rat):AS:=⟨14,[],[.any,.any,ou a,ou b,.ref 2 0 0,.ref 3 0 0,.bool false,vP D,.any,.any,.ref 6 0 0,.ref 7 0 0,.any,.any],[],[.con 0 24 (Xh (AJ a)),.con 0 24 (Xh (AJ b)),zO true,zO true,.con 0 8 (Xh (vC D)),.con 0 8 (Xh (qC mn ++ qC mx)),.row 0 4 (Xh (qC lo)),.row 0 4 (Xh (qC hi))]⟩
theorem nM:Rat.divInt 1 1=1:=by decide +kernel
def pE (a b:Sd) (D:V2) (mn mx lo hi:Rat):AS:=⟨14,[],[.any,.any,ou a,ou b,.ref 2 0 0,.ref 3 0 0,.bool false,vP D,.any,.any,.ref 6 0 0,.ref 7 0 0,.any,.any],[],[.con 0 24 (Xh (AJ a)),.con 0 24 (Xh (AJ b)),zO true,zO true,.con 0 8 (Xh (vC D)),.con 0 8 (Xh (qC mn ++ qC mx)),.row 0 4 (Xh (qC lo)),.row 0 4 (Xh (qC hi)),.row 0 4 (Xh (qC 1))]⟩
theorem pN {α:Type} {X:Env} {K:List Item} {Q:Prop} (P:α→Prop) (st:α→AS) (h1:(∀ a,P a→Run X K (st a))→Q) (h2:∀ a,P a→Run X K (st a)):Q:=h1 h2
theorem SL {m:Nat} {s:AS} (id:Nat) {ver n:Nat} {l:List AV} (l':List AV) (ho:s.h[id]?=some (.row ver n (Xh l))) (hn:n=l.length) (h:WeakL l l'):Sub m s { s with h:=s.h.set id (.row ver n (Xh l')) } :=
 QJ id (Xh l') ho fun j hj c v _ _ hv=>(WeakL.spec h).2 j (by omega) v hv
theorem YG (a b:Sd) (a1:vb a.a≤7) (a2:vb a.b≤7) (a3:vb a.i≤15) (b1:vb b.a≤7) (b2:vb b.b≤7) (b3:vb b.i≤15) (h0:a.a≠a.b):Fn Tryz.prog 116 [UH a,UH b] (rM (Ia a b)):=by
 have m1:=QZ b.a a.a
 have hDv:=QZ a.b a.a
 have hd0:Q8 (a.b.sub a.a) (a.b.sub a.a)≠0:=fun e=>h0 (by
  unfold Q8 V2.sub at e
  obtain ⟨e1,e2⟩:=wh e
  cases ha:a.a; cases hb:a.b
  rw [ha,hb] at e1 e2
  simp only [V2.mk.injEq] at *
  exact ⟨by grind,by grind⟩)
 have u1:=VI b.i a.i (by unfold vm; omega) (by unfold vm; omega)
 have u2:=AZ b.a a.a (by unfold rm; omega) (by unfold rm; omega)
 have u3:=Di (b.a.sub a.a) a.i (by unfold vm; omega) (by unfold vm; omega)
 have u4:=Qk (Q8 (b.a.sub a.a) a.i)
 obtain ⟨R,hR⟩:∃ R,R=rM (Ia a b):=⟨_,rfl⟩
 rw [← hR]
 have u5:=AZ a.b a.a (by unfold rm; omega) (by unfold rm; omega)
 have u6:=Ll a (a.b.sub a.a) b.a (by omega) (by omega) (by omega) hd0
 have u7:=Ll a (a.b.sub a.a) b.b (by omega) (by omega) (by omega) hd0
 unfold Ia at hR
 unfold G5 G6 Rj at hR
 have k1:=CB a.a (a.b.sub a.a) b.a a1 (by omega) b1
 have k2:=CB a.a (a.b.sub a.a) b.b a1 (by omega) b2
 generalize Ae a.a (a.b.sub a.a) b.a=s at *
 generalize Ae a.a (a.b.sub a.a) b.b=t at *
 obtain ⟨l1,l2,l3,l4⟩:=iq k1 k2
 generalize hD:a.b.sub a.a=D at *
 have s5:(Q8 (b.a.sub a.a) a.i).num.sign≤0↔Q8 (b.a.sub a.a) a.i≤0:=by
  have:=Pa (Q8 (b.a.sub a.a) a.i)
  rw [← Int.not_lt,this,Rat.not_lt]
 by_cases ho:MW b.i a.i
 ·have tA:=Kp (JQ a) (JQ b)
  refine Fn.intro (fn:=Tryz.f116) Tryz.call116 Tryz.func116 rfl mixed 14 [] [3000000000001,3000000000002,5,7,80000009,15000000000001,15000000000002,16,17002] [6] (by kernel_rfl) (Nat.le_of_ble_eq_true rfl) (Kp (JQ a) (JQ b)) (XK 54 ?_)
  simp (disch:=omega) only [AS.start,UH,Ao,↓Xd,wG,seval]
  refine X0 u1 (X1 _) ?_
  simp (disch:=omega) only [↓Xd,wG,seval]
  simp only [ho,decide_true]
  simp (disch:=omega) only [↓Xd,wG,seval]
  refine X0 u2 (X1 _) ?_
  simp (disch:=omega) only [vA,vC,↓Xd,wG,seval]
  refine X0 u3 (X1 _) ?_
  simp (disch:=omega) only [qA,qC,↓Xd,wG,seval]
  refine X0 u4 (X1 _) ?_
  simp (disch:=omega) only [↓Xd,wG,seval]
  refine ⟨fun ho2=>?_,fun ho2=>?_⟩
  ·rw [if_neg fun q=>absurd q.2 (Rat.not_lt.2 (s5.1 ho2))] at hR
   rw [hR]
   refine XK 1 ?_
   simp (disch:=omega) only [↓Xd,wG,seval]
   show Run _ (_ :: _) _
   refine AH (fun x=>x=3) ?_
   obtain ⟨A,hA⟩:∃ A:AO,A=.row 0 24 (Xh (AJ a)):=⟨_,rfl⟩
   obtain ⟨B,hB⟩:∃ B:AO,B=.row 0 24 (Xh (AJ b)):=⟨_,rfl⟩
   have l0:=KF (P:=Tryz.prog) (T:=30) (id:=2) (Z:=zC true) (H:=[A,B,zO true,zO true]) J5 rfl rfl
   have l1:=KF (P:=Tryz.prog) (T:=30) (id:=3) (Z:=zC true) (H:=[A,B,zO true,zO true]) J5 rfl rfl
   have l2:=JU (P:=Tryz.prog) (T:=30) (id:=2) (Z:=zC true) (W:=zC true) (H:=[A,B,zO true,zO true]) DC rfl rfl rfl (by decide) rfl
   have l3:=JU (P:=Tryz.prog) (T:=30) (id:=3) (Z:=zC true) (W:=zC true) (H:=[A,B,zO false,zO true]) DC rfl rfl rfl (by decide) rfl
   rw [hA,hB] at l0 l1 l2 l3
   show ∃ s',AExecT _ _ _ _ _ _ _ _ _ _ s'∧_
   refine ⟨_,⟨Ib rfl,_,Qs rfl rfl rfl rfl (congrArg (Option.map fun w=>(w,_)) l0),tK rfl rfl (fun o' va off e=>by cases e; rfl),_,Qs rfl rfl rfl rfl (congrArg (Option.map fun w=>(w,_)) l1),
    uH rfl rfl (fun o' va off e=>by cases e; decide),_,Qs rfl rfl rfl rfl (congrArg (Option.map fun w=>(XJ,w)) l2),Ib rfl,_,Qs rfl rfl rfl rfl (congrArg (Option.map fun w=>(XJ,w)) l3),Ib rfl,_,Qs (v:=.bool false) (h':=[.row 0 24 (Xh (AJ a)),.row 0 24 (Xh (AJ b)),zO false,zO false]) rfl rfl rfl rfl rfl,rfl⟩,?fin⟩
   refine Run.sub (s':=⟨14,[],[.any,.any,.any,.any,.ref 2 0 0,.ref 3 0 0,.bool false,.any,.any,.any,.any,.any,.any,.any],[],[A,B,zO false,zO false]⟩) ?_ (Xk rfl ⟨.inl rfl,.inl rfl,.inl rfl,.inl rfl,.inr rfl,.inr rfl,.inr rfl,.inl rfl,.inl rfl,.inl rfl,.inl rfl,.inl rfl,.inl rfl,.inl rfl,trivial⟩ trivial (by rw [hA,hB]; rfl))
   refine Xm ?_
   simp (disch:=omega) only [↓Xd,wG,seval]
   exact Dr (r1:=.cell 4 30) (r2:=.cell 5 30) (r3:=.tmp 6) rfl (Xt J5 rfl rfl rfl) (Xt J5 rfl rfl rfl) rfl (XC (Xu _) (DF _)) (XC (Xu _) (DF _)) (Q6 (X5 _) rfl)
  ·have hi0:a.i≠v0:=fun e=>by
    have:=ho.2
    rw [e] at this
    unfold Q8 v0 at this
    grind
   refine XK 18 ?_
   simp (disch:=omega) only [↓Xd,wG,seval]
   refine X0 u5 (X1 _) ?_
   simp (disch:=omega) only [vA,vC,↓Xd,wG,seval]
   refine Run.sub ?_ (Q3 0 rfl)
   refine Run.sub ?_ (Q3 1 rfl)
   refine Run.sub ?_ (Q3 4 rfl)
   refine Run.sub ?_ (Qa 2 rfl rfl (by omega))
   refine Run.sub ?_ (Qa 3 rfl rfl (by omega))
   refine Run.sub ?_ (Qa 7 rfl rfl (by omega))
   refine XK 71 ?_
   simp (disch:=omega) only [AS.put,List.set,↓Xd,wG,seval]
   refine X0 u6 (X1 _) ?_
   simp (disch:=omega) only [vA,vC,qA,qC,↓Xd,wG,seval]
   refine X0 u7 (X1 _) ?_
   simp (disch:=omega) only [vA,vC,qA,qC,↓Xd,wG,seval]
   have hu:∀ o∈[AO.con 0 24 (Xh (AJ a)),.con 0 24 (Xh (AJ b)),zO true,zO true,.con 0 8 (Xh (vC D))],o≠.unborn:=by simp [zO]
   have cs:=jG (.con 0 24 (Xh (AJ a))) (.con 0 24 (Xh (AJ b))) (zO true) (zO true) (.con 0 8 (Xh (vC D))) hu 0 s t (by unfold rm; omega) (by unfold rm; omega)
   refine XD rfl cs (QC (id:=5) (o:=O0 0 s t) rfl (by simp [O0]) (by simp [O0])) (th hu (by simp [O0])) (X1 _) ?_
   have us:=Qk (Nz s t)
   have uc:=Qo (MV s t) 1 (by unfold rm; omega) (by decide +kernel)
   have uo:=Cw 1 1 ⟨by omega,by omega⟩ ⟨by omega,by omega⟩
   rw [nM] at uo
   have uf:=Qo (Tc s t) (Ta s t) (by unfold rm; omega) (by unfold rm; omega)
   have hlo:Tc s t=if Nz s t<0 then 0 else Nz s t:=rfl
   have hhi:Ta s t=if 1<MV s t then 1 else MV s t:=rfl
   generalize Tc s t=lo at *
   generalize Ta s t=hi at *
   generalize Nz s t=mn at *
   generalize MV s t=mx at *
   simp (disch:=omega) only [O0,qC,zO,zC,Ao,vC,↓Xd,wG,seval]
   refine X0 us (X1 _) ?_
   simp (disch:=omega) only [Bv,↓Xd,wG,seval]
   apply pN (X:=Jq Tryz.prog Tryz.f116 [3000000000001,3000000000002,5,7,80000009,15000000000001,15000000000002,16,17002] [6] R) (fun _:Unit=>True) (fun _=>pD a b D mn mx lo mx)
   case h1 =>
    intro key
    refine ⟨fun hm=>?_,fun hm=>?_⟩
    ·rw [if_pos hm] at hlo
     refine XK 6 ?_
     simp (disch:=omega) only [↓Xd,wG,seval]
     rw [hlo] at key
     refine (key () trivial).sub (Sub.trans (SL 6 (qC 0) rfl rfl (KS false)) (Xk rfl ⟨.inl rfl,.inl rfl,.inr rfl,.inr rfl,.inr rfl,.inr rfl,.inr rfl,.inr rfl,.inl rfl,.inl rfl,.inr rfl,.inr rfl,.inl rfl,.inl rfl,trivial⟩ trivial rfl))
    ·rw [if_neg hm] at hlo
     rw [hlo] at key
     refine XK 1 ?_
     simp (disch:=omega) only [↓Xd,wG,seval]
     exact (key () trivial).sub (Xk rfl ⟨.inl rfl,.inl rfl,.inr rfl,.inr rfl,.inr rfl,.inr rfl,.inr rfl,.inr rfl,.inl rfl,.inl rfl,.inr rfl,.inr rfl,.inl rfl,.inl rfl,trivial⟩ trivial rfl)
   case h2 =>
    intro _ _
    refine XK 22 ?_
    simp (disch:=omega) only [pD,ou,vP,↓Xd,wG,seval]
    refine X0 uo (X1 _) ?_
    simp (disch:=omega) only [qA,qC,↓Xd,wG,seval]
    refine X0 uc (X1 _) ?_
    simp (disch:=omega) only [Zg,↓Xd,wG,seval]
    apply pN (X:=Jq Tryz.prog Tryz.f116 [3000000000001,3000000000002,5,7,80000009,15000000000001,15000000000002,16,17002] [6] R) (fun _:Unit=>True) (fun _=>pE a b D mn mx lo hi)
    case h1 =>
     intro key
     refine ⟨fun hm=>?_,fun hm=>?_⟩
     ·rw [if_pos hm] at hhi
      rw [hhi] at key
      refine XK 6 ?_
      simp (disch:=omega) only [↓Xd,wG,seval]
      exact (key () trivial).sub (Xk rfl ⟨.inl rfl,.inl rfl,.inr rfl,.inr rfl,.inr rfl,.inr rfl,.inr rfl,.inr rfl,.inl rfl,.inl rfl,.inr rfl,.inr rfl,.inl rfl,.inl rfl,trivial⟩ trivial rfl)
     ·rw [if_neg hm] at hhi
      rw [hhi] at key
      refine XK 1 ?_
      simp (disch:=omega) only [↓Xd,wG,seval]
      exact (key () trivial).sub (Xk rfl ⟨.inl rfl,.inl rfl,.inr rfl,.inr rfl,.inr rfl,.inr rfl,.inr rfl,.inr rfl,.inl rfl,.inl rfl,.inr rfl,.inr rfl,.inl rfl,.inl rfl,trivial⟩ trivial rfl)
    case h2 =>
     intro _ _
     refine XK 13 ?_
     simp (disch:=omega) only [pE,ou,vP,↓Xd,wG,seval]
     refine X0 uf (X1 _) ?_
     simp (disch:=omega) only [P3,↓Xd,wG,seval]
     refine ⟨fun hc=>?_,fun hc=>?_⟩
     ·rw [if_neg (Rat.not_lt.2 hc),ite_self] at hR
      rw [hR]
      refine XK 1 ?_
      simp (disch:=omega) only [↓Xd,wG,seval]
      show Run _ (_ :: _) _
      refine AH (fun x=>x=3) ?_
      obtain ⟨A,hA⟩:∃ A:AO,A=.con 0 24 (Xh (AJ a)):=⟨_,rfl⟩
      obtain ⟨B,hB⟩:∃ B:AO,B=.con 0 24 (Xh (AJ b)):=⟨_,rfl⟩
      obtain ⟨C,hC⟩:∃ C:AO,C=.con 0 8 (Xh (vC D)):=⟨_,rfl⟩
      obtain ⟨E,hE⟩:∃ E:AO,E=.con 0 8 (Xh (qC mn ++ qC mx)):=⟨_,rfl⟩
      obtain ⟨F,hF⟩:∃ F:AO,F=.row 0 4 (Xh (qC lo)):=⟨_,rfl⟩
      obtain ⟨G,hG⟩:∃ G:AO,G=.row 0 4 (Xh (qC hi)):=⟨_,rfl⟩
      obtain ⟨J,hJ⟩:∃ J:AO,J=.row 0 4 (Xh (qC 1)):=⟨_,rfl⟩
      have l0:=KF (P:=Tryz.prog) (T:=30) (id:=2) (Z:=zC true) (H:=[A,B,zO true,zO true,C,E,F,G,J]) J5 rfl rfl
      have l1:=KF (P:=Tryz.prog) (T:=30) (id:=3) (Z:=zC true) (H:=[A,B,zO true,zO true,C,E,F,G,J]) J5 rfl rfl
      have l2:=JU (P:=Tryz.prog) (T:=30) (id:=2) (Z:=zC true) (W:=zC true) (H:=[A,B,zO true,zO true,C,E,F,G,J]) DC rfl rfl rfl (by decide) rfl
      have l3:=JU (P:=Tryz.prog) (T:=30) (id:=3) (Z:=zC true) (W:=zC true) (H:=[A,B,zO false,zO true,C,E,F,G,J]) DC rfl rfl rfl (by decide) rfl
      rw [hA,hB,hC,hE,hF,hG,hJ] at l0 l1 l2 l3
      show ∃ s',AExecT _ _ _ _ _ _ _ _ _ _ s'∧_
      refine ⟨_,⟨Ib rfl,_,Qs rfl rfl rfl rfl (congrArg (Option.map fun w=>(w,_)) l0),tK rfl rfl (fun o' va off e=>by cases e; rfl),_,Qs rfl rfl rfl rfl (congrArg (Option.map fun w=>(w,_)) l1),
       uH rfl rfl (fun o' va off e=>by cases e; decide),_,Qs rfl rfl rfl rfl (congrArg (Option.map fun w=>(XJ,w)) l2),Ib rfl,_,Qs rfl rfl rfl rfl (congrArg (Option.map fun w=>(XJ,w)) l3),Ib rfl,_,Qs (v:=.bool false) (h':=[.con 0 24 (Xh (AJ a)),.con 0 24 (Xh (AJ b)),zO false,zO false,.con 0 8 (Xh (vC D)),.con 0 8 (Xh (qC mn ++ qC mx)),.row 0 4 (Xh (qC lo)),.row 0 4 (Xh (qC hi)),.row 0 4 (Xh (qC 1))]) rfl rfl rfl rfl rfl,rfl⟩,?fin2⟩
      refine Run.sub (s':=⟨14,[],[.any,.any,.any,.any,.ref 2 0 0,.ref 3 0 0,.bool false,.any,.any,.any,.any,.any,.any,.any],[],[A,B,zO false,zO false,C,E,F,G,J]⟩) ?_ (Xk rfl ⟨.inl rfl,.inl rfl,.inl rfl,.inl rfl,.inr rfl,.inr rfl,.inr rfl,.inl rfl,.inl rfl,.inl rfl,.inl rfl,.inl rfl,.inl rfl,.inl rfl,trivial⟩ trivial (by rw [hA,hB,hC,hE,hF,hG,hJ]; rfl))
      refine Xm ?_
      simp (disch:=omega) only [↓Xd,wG,seval]
      exact Dr (r1:=.cell 4 30) (r2:=.cell 5 30) (r3:=.tmp 6) rfl (Xt J5 rfl rfl rfl) (Xt J5 rfl rfl rfl) rfl (XC (Xu _) (DF _)) (XC (Xu _) (DF _)) (Q6 (X5 _) rfl)
     ·rw [if_pos ⟨ho,Rat.not_le.1 fun q=>ho2 (s5.2 q)⟩,if_pos (Rat.not_le.1 hc)] at hR
      unfold U1 MS at hR
      have hf:qb (Rat.divInt 1 2)≤3:=by decide +kernel
      have e1:=Kc lo hi
      have w1:=ZQ lo hi (by unfold rm; omega) (by unfold rm; omega)
      have w2:=Cw 1 2 ⟨by omega,by omega⟩ ⟨by omega,by omega⟩
      have e2:=XT (lo+hi) (Rat.divInt 1 2)
      have w3:=K8 (lo+hi) (Rat.divInt 1 2) (by unfold rm; omega) (by unfold rm; omega)
      generalize (lo+hi)*Rat.divInt 1 2=h at *
      have e4:=SV D h
      have w4:=NQ D h (by unfold vm; omega) (by unfold vm; omega)
      have e5:=Kw a.a (D.scale h)
      have w5:=W2 a.a (D.scale h) (by unfold vm; omega) (by unfold vm; omega)
      generalize a.a.add (D.scale h)=p at *
      have e6:=QZ b.a p
      have w6:=AZ b.a p (by unfold rm; omega) (by unfold rm; omega)
      have e7:=KO (b.a.sub p) a.i
      have e8:=KO a.i a.i
      have w7:=Di (b.a.sub p) a.i (by unfold vm; omega) (by unfold vm; omega)
      have w8:=Di a.i a.i (by unfold vm; omega) (by unfold vm; omega)
      have w9:=Iw (Q8 (b.a.sub p) a.i) (Q8 a.i a.i) (fun e=>hi0 (by
       unfold Q8 at e
       obtain ⟨x1,x2⟩:=wh e
       cases hz:a.i
       rw [hz] at x1 x2
       unfold v0
       rw [V2.mk.injEq]
       exact ⟨x1,x2⟩)) (by unfold rm; omega) (by unfold rm; omega)
      have e9:qb (Q8 (b.a.sub p) a.i / Q8 a.i a.i)≤qb (Q8 (b.a.sub p) a.i)+qb (Q8 a.i a.i):=by
       rw [Rat.div_def]
       have:=XT (Q8 (b.a.sub p) a.i) (Q8 a.i a.i)⁻¹
       have:=Ux (Q8 a.i a.i)
       omega
      generalize Q8 (b.a.sub p) a.i / Q8 a.i a.i=k at *
      have e10:=SV a.i k
      have w10:=NQ a.i k (by unfold vm; omega) (by unfold vm; omega)
      have w11:=W2 p (a.i.scale k) (by unfold vm; omega) (by unfold vm; omega)
      generalize p.add (a.i.scale k)=qq at *
      rw [hR]
      refine Xm ?_
      simp (disch:=omega) only [↓Xd,wG,seval]
      refine X0 w1 (X1 _) ?_
      simp (disch:=omega) only [qA,qC,↓Xd,wG,seval]
      refine X0 w2 (X1 _) ?_
      simp (disch:=omega) only [qA,qC,↓Xd,wG,seval]
      refine X0 w3 (X1 _) ?_
      simp (disch:=omega) only [qA,qC,↓Xd,wG,seval]
      refine X0 w4 (X1 _) ?_
      simp (disch:=omega) only [vA,vC,↓Xd,wG,seval]
      refine X0 w5 (X1 _) ?_
      simp (disch:=omega) only [vA,vC,zO,zC,Ao,↓Xd,wG,seval]
      refine X0 w6 (X1 _) ?_
      simp (disch:=omega) only [vA,vC,zO,zC,Ao,↓Xd,wG,seval]
      refine X0 w7 (X1 _) ?_
      simp (disch:=omega) only [qA,qC,zO,zC,Ao,↓Xd,wG,seval]
      refine X0 w8 (X1 _) ?_
      simp (disch:=omega) only [qA,qC,zO,zC,Ao,↓Xd,wG,seval]
      refine X0 w9 (X1 _) ?_
      simp (disch:=omega) only [qA,qC,zO,zC,Ao,↓Xd,wG,seval]
      refine X0 w10 (X1 _) ?_
      simp (disch:=omega) only [vA,vC,zO,zC,Ao,↓Xd,wG,seval]
      refine X0 w11 (X1 _) ?_
      simp (disch:=omega) only [vA,vC,zO,zC,Ao,↓Xd,wG,seval]
      exact Dr (r1:=.cell 4 30) (r2:=.cell 5 30) (r3:=.tmp 6) rfl (Xt J5 rfl rfl rfl) (Xt J5 rfl rfl rfl) rfl (Q6 (Xu _) rfl) (Q6 (Xu _) rfl) (Q6 (X5 _) rfl)
 ·simp only [ho,decide_false] at u1
  refine Fn.intro (fn:=Tryz.f116) Tryz.call116 Tryz.func116 rfl mixed 14 [] [3000000000001,3000000000002,5,7,80000009,15000000000001,15000000000002,16,17002] [6] (by kernel_rfl) (Nat.le_of_ble_eq_true rfl) (Kp (JQ a) (JQ b)) (XK 44 ?_)
  simp (disch:=omega) only [AS.start,UH,Ao,↓Xd,wG,seval]
  refine X0 u1 (X1 _) ?_
  simp (disch:=omega) only [↓Xd,wG,seval]
  rw [if_neg fun q=>absurd q.1 ho] at hR
  rw [hR]
  refine XK 1 ?_
  simp (disch:=omega) only [↓Xd,wG,seval]
  show Run _ (_ :: _) _
  refine AH (fun x=>x=3) ?_
  obtain ⟨A,hA⟩:∃ A:AO,A=.row 0 24 (Xh (AJ a)):=⟨_,rfl⟩
  obtain ⟨B,hB⟩:∃ B:AO,B=.row 0 24 (Xh (AJ b)):=⟨_,rfl⟩
  have l0:=KF (P:=Tryz.prog) (T:=30) (id:=2) (Z:=zC true) (H:=[A,B,zO true,zO true]) J5 rfl rfl
  have l1:=KF (P:=Tryz.prog) (T:=30) (id:=3) (Z:=zC true) (H:=[A,B,zO true,zO true]) J5 rfl rfl
  have l2:=JU (P:=Tryz.prog) (T:=30) (id:=2) (Z:=zC true) (W:=zC true) (H:=[A,B,zO true,zO true]) DC rfl rfl rfl (by decide) rfl
  have l3:=JU (P:=Tryz.prog) (T:=30) (id:=3) (Z:=zC true) (W:=zC true) (H:=[A,B,zO false,zO true]) DC rfl rfl rfl (by decide) rfl
  rw [hA,hB] at l0 l1 l2 l3
  show ∃ s',AExecT _ _ _ _ _ _ _ _ _ _ s'∧_
  refine ⟨_,⟨Ib rfl,_,Qs rfl rfl rfl rfl (congrArg (Option.map fun w=>(w,_)) l0),tK rfl rfl (fun o' va off e=>by cases e; rfl),_,Qs rfl rfl rfl rfl (congrArg (Option.map fun w=>(w,_)) l1),
   uH rfl rfl (fun o' va off e=>by cases e; decide),_,Qs rfl rfl rfl rfl (congrArg (Option.map fun w=>(XJ,w)) l2),Ib rfl,_,Qs rfl rfl rfl rfl (congrArg (Option.map fun w=>(XJ,w)) l3),Ib rfl,_,Qs (v:=.bool false) (h':=[.row 0 24 (Xh (AJ a)),.row 0 24 (Xh (AJ b)),zO false,zO false]) rfl rfl rfl rfl rfl,rfl⟩,?fin3⟩
  refine Run.sub (s':=⟨14,[],[.any,.any,.any,.any,.ref 2 0 0,.ref 3 0 0,.bool false,.any,.any,.any,.any,.any,.any,.any],[],[A,B,zO false,zO false]⟩) ?_ (Xk rfl ⟨.inl rfl,.inl rfl,.inl rfl,.inl rfl,.inr rfl,.inr rfl,.inr rfl,.inl rfl,.inl rfl,.inl rfl,.inl rfl,.inl rfl,.inl rfl,.inl rfl,trivial⟩ trivial (by rw [hA,hB]; rfl))
  refine Xm ?_
  simp (disch:=omega) only [↓Xd,wG,seval]
  exact Dr (r1:=.cell 4 30) (r2:=.cell 5 30) (r3:=.tmp 6) rfl (Xt J5 rfl rfl rfl) (Xt J5 rfl rfl rfl) rfl (XC (Xu _) (DF _)) (XC (Xu _) (DF _)) (Q6 (X5 _) rfl)
def Zy (l:List Int):Rat:=Rat.divInt (1+Ab.atF l 0 20) (1+Ab.atF l 1 2)
def Ke (l:List Int):Rat:=Rat.divInt (Ab.atF l 2 5) (1+Ab.atF l 3 3)
def C3 (l:List Int) (L:List V2):GG :=
 if 0<(ZF L (Zy l) (Ke l)).length∧0<Ab.atF l 4 6 then
  (ZF L (Zy l) (Ke l)).getD (Ab.atF l 5 (ZF L (Zy l) (Ke l)).length).toNat gZ
 else ⟨OU (L.getD (Ab.atF l 6 L.length).toNat v0) (KG L (Ab.atF l 6 L.length).toNat),OU (L.getD (Ab.atF l 7 L.length).toNat v0) (KG L (Ab.atF l 7 L.length).toNat),HN (L.getD (Ab.atF l 6 L.length).toNat v0) (KG L (Ab.atF l 6 L.length).toNat),Zy l,Ke l⟩
theorem v7 (l:List Int):qb (Zy l)≤1∧qb (Ke l)≤1∧0<Zy l∧0≤Ke l∧Ke l≤4:=by
 have b0:=Xs l 0 20 (by omega)
 have b1:=Xs l 1 2 (by omega)
 have b2:=Xs l 2 5 (by omega)
 have b3:=Xs l 3 3 (by omega)
 refine ⟨CP _ _ (by omega) (by omega),CP _ _ (by omega) (by omega),Fu (by omega) (by omega),Rat.divInt_nonneg (by omega) (by omega),?_⟩
 have hb0:(0:Rat)<((1+Ab.atF l 3 3:Int):Rat):=Rat.intCast_pos.2 (by omega)
 have e:Ke l*((1+Ab.atF l 3 3:Int):Rat)=((Ab.atF l 2 5:Int):Rat):=by unfold Ke; rw [Rat.divInt_eq_div,Rat.div_mul_cancel (by grind)]
 have h1:((Ab.atF l 2 5:Int):Rat)≤((4*(1+Ab.atF l 3 3):Int):Rat):=Rat.intCast_le_intCast.2 (by omega)
 rw [Rat.intCast_mul] at h1
 refine Rat.not_lt.1 fun h=>?_
 have:=Rat.mul_pos (show 0<Ke l - 4 by grind) hb0
 have h4:((4:Int):Rat)=4:=rfl
 grind
theorem rR {a b:V2} (h:a≠b):HN a b≠v0:=fun e=>h (by
 unfold HN v0 at e
 simp only [V2.mk.injEq] at e
 cases a; cases b
 simp only [V2.mk.injEq] at *
 exact ⟨by grind,by grind⟩)
def gT (g:GG):Prop:=vb g.p≤1000∧vb g.q≤1000∧vb g.n≤16∧qb g.force≤1∧qb g.rough≤1
theorem gT.s {g:GG} (h:gT g):gS g:=by obtain ⟨h1,h2,h3,h4,h5⟩:=h; unfold gS; omega
theorem Pc (l:List Int) (L:List V2) (h:N3 L):gT (C3 l L)∧Kj (C3 l L)=true:=by
 obtain ⟨h1,h2,h3⟩:=h
 obtain ⟨n1,n2,n3,n4,n5⟩:=v7 l
 have key:vb (C3 l L).p≤1000∧vb (C3 l L).q≤1000∧vb (C3 l L).n≤16∧(C3 l L).n≠v0∧(C3 l L).force=Zy l∧(C3 l L).rough=Ke l:=by
  unfold C3
  split
  ·rename_i hc
   have b:=Xs l 5 (ZF L (Zy l) (Ke l)).length (by omega)
   obtain ⟨a1,a2,a3,a4,a5,a6⟩:=VB L h2 (Zy l) (Ke l) _ (QN gZ (show (Ab.atF l 5 (ZF L (Zy l) (Ke l)).length).toNat<(ZF L (Zy l) (Ke l)).length by omega))
   exact ⟨by omega,by omega,by omega,a4,a5,a6⟩
  ·have b6:=Xs l 6 L.length (by omega)
   have hi:(Ab.atF l 6 L.length).toNat<L.length:=by omega
   have m1:=iy (L.getD (Ab.atF l 6 L.length).toNat v0) (KG L (Ab.atF l 6 L.length).toNat)
   have m2:=iy (L.getD (Ab.atF l 7 L.length).toNat v0) (KG L (Ab.atF l 7 L.length).toNat)
   have m3:=O5 (L.getD (Ab.atF l 6 L.length).toNat v0) (KG L (Ab.atF l 6 L.length).toNat)
   have s1:=h2 (Ab.atF l 6 L.length).toNat
   have s2:vb (KG L (Ab.atF l 6 L.length).toNat)≤7:=h2 _
   have s3:=h2 (Ab.atF l 7 L.length).toNat
   have s4:vb (KG L (Ab.atF l 7 L.length).toNat)≤7:=h2 _
   exact ⟨by show vb (OU _ _)≤_; omega,by show vb (OU _ _)≤_; omega,by show vb (HN _ _)≤_; omega,rR (h3 _ hi),rfl,rfl⟩
 obtain ⟨k1,k2,k3,k4,k5,k6⟩:=key
 refine ⟨⟨k1,k2,k3,by rw [k5]; omega,by rw [k6]; omega⟩,?_⟩
 rw [Ka,k5,k6,Gb]
 exact ⟨⟨n3,n4,n5⟩,k4⟩
theorem Pb (l:List Int) (L:List V2) (hl:ZC l) (h:N3 L):Fn Tryz.prog 12 [X8 l,Qh L] (gA (C3 l L)):=by
 obtain ⟨h1,h2,h3⟩:=h
 obtain ⟨n1,n2,n3,n4,n5⟩:=v7 l
 have h7:QT L 1000:=fun i=>Nat.le_trans (h2 i) (by omega)
 have b0:=Xs l 0 20 (by omega)
 have b1:=Xs l 1 2 (by omega)
 have b2:=Xs l 2 5 (by omega)
 have b3:=Xs l 3 3 (by omega)
 have c0:=Qd l 0 20 hl (by omega)
 have c1:=Qd l 1 2 hl (by omega)
 have c2:=Qd l 2 5 hl (by omega)
 have c3:=Qd l 3 3 hl (by omega)
 have c4:=Qd l 4 6 hl (by omega)
 have c6:=Qd l 6 L.length hl (by omega)
 have c7:=Qd l 7 L.length hl (by omega)
 have b6:=Xs l 6 L.length (by omega)
 have b7:=Xs l 7 L.length (by omega)
 have d1:=XB (1+Ab.atF l 0 20) (1+Ab.atF l 1 2) ⟨by omega,by omega⟩ ⟨by omega,by omega⟩
 have d2:=XB (Ab.atF l 2 5) (1+Ab.atF l 3 3) ⟨by omega,by omega⟩ ⟨by omega,by omega⟩
 rw [show Rat.divInt (1+Ab.atF l 0 20) (1+Ab.atF l 1 2)=Zy l from rfl] at d1
 rw [show Rat.divInt (Ab.atF l 2 5) (1+Ab.atF l 3 3)=Ke l from rfl] at d2
 have d3:=jo L (Zy l) (Ke l) h2 (by omega) (by omega) (by omega)
 have hln:(ZF L (Zy l) (Ke l)).length≤1000:=by
  unfold ZF
  split
  ·have:=E2 L (Zy l) (Ke l) L.length
   have g3:L.length*L.length≤12*12:=Nat.mul_le_mul (by omega) (by omega)
   unfold Nm; omega
  ·simp
 obtain ⟨R,hR⟩:∃ R,R=C3 l L:=⟨_,rfl⟩
 have sR:=Js R
 rw [← hR]
 unfold C3 at hR
 generalize Zy l=f at *
 generalize Ke l=r at *
 generalize ZF L f r=G at *
 refine Fn.intro (fn:=Tryz.f12) Tryz.call12 Tryz.func12 rfl mixed 10 [] [] [] (by kernel_rfl) (Nat.le_of_ble_eq_true rfl) (Kp (Xb l) (Xq L)) (Xm ?_)
 simp (disch:=omega) only [AS.start,X7,↓Xd,wG,seval]
 refine X0 c0 (X1 _) ?_
 simp (disch:=omega) only [↓Xd,wG,seval]
 refine X0 c1 (X1 _) ?_
 simp (disch:=omega) only [↓Xd,wG,seval]
 refine X0 d1 (X1 _) ?_
 simp (disch:=omega) only [qA,qC,↓Xd,wG,seval]
 refine X0 c2 (X1 _) ?_
 simp (disch:=omega) only [↓Xd,wG,seval]
 refine X0 c3 (X1 _) ?_
 simp (disch:=omega) only [↓Xd,wG,seval]
 refine X0 d2 (X1 _) ?_
 simp (disch:=omega) only [qA,qC,↓Xd,wG,seval]
 refine X0 d3 ⟨by rw [X7]; exact Weak.rfl' _,X1 _⟩ ?_
 simp (disch:=omega) only [XZ,↓Xd,wG,seval]
 refine ⟨fun hg=>?_,fun hg=>?_⟩
 ·have hg:0<G.length:=by omega
  refine X0 c4 (X1 _) ?_
  simp (disch:=omega) only [↓Xd,wG,seval]
  refine ⟨fun hq=>?_,fun hq=>?_⟩
  ·rw [if_pos ⟨hg,hq⟩] at hR
   have b5:=Xs l 5 G.length (by omega)
   have c5:=Qd l 5 G.length hl (by omega)
   obtain ⟨k,hk⟩:∃ k:Nat,Ab.atF l 5 G.length=k:=⟨(Ab.atF l 5 G.length).toNat,by omega⟩
   rw [hk,Int.toNat_natCast] at hR
   rw [hk] at c5
   have hkl:k<G.length:=by omega
   have l0:=Ap gC 32 gZ G k (by omega)
   have l1:=ZU gC 32 gZ G k
   refine X0 c5 (X1 _) ?_
   simp (disch:=omega) only [l0,l1,Xy,hkl,↓Xd,wG,seval]
   rw [← hR]
   exact Cv rfl HO rfl rfl rfl (XC sR (Weak.rfl' _))
  ·rw [if_neg fun h=>hq h.2] at hR
   obtain ⟨i,hi⟩:∃ i:Nat,Ab.atF l 6 L.length=i:=⟨(Ab.atF l 6 L.length).toNat,by omega⟩
   obtain ⟨j,hj⟩:∃ j:Nat,Ab.atF l 7 L.length=j:=⟨(Ab.atF l 7 L.length).toNat,by omega⟩
   rw [hi,hj,Int.toNat_natCast,Int.toNat_natCast] at hR
   rw [hi] at c6 b6
   rw [hj] at c7 b7
   have hil:i<L.length:=by omega
   have hjl:j<L.length:=by omega
   have f1:(i<L.length)=True:=eq_true hil
   have f2:(j<L.length)=True:=eq_true hjl
   have v1:=vF L i
   have v2:=vF L j
   have e1:=Br L i (by omega) hil
   have e2:=Br L j (by omega) hjl
   rw [show L.getD ((i+1) % L.length) v0=KG L i from rfl] at e1
   rw [show L.getD ((j+1) % L.length) v0=KG L j from rfl] at e2
   have e5:=Dt L i h7 (by omega) hil
   have s1:=h2 i
   have s2:vb (KG L i)≤7:=h2 _
   have s3:=h2 j
   have s4:vb (KG L j)≤7:=h2 _
   generalize L.getD i v0=a at *
   generalize KG L i=a' at *
   generalize L.getD j v0=b at *
   generalize KG L j=b' at *
   have e3:=EJ a a' (by omega) (by omega)
   have e4:=EJ b b' (by omega) (by omega)
   refine X0 c6 (X1 _) ?_
   simp (disch:=omega) only [vA,vC,qA,qC,X7,v1,v2,f1,f2,↓Xd,wG,seval]
   refine X0 c7 (X1 _) ?_
   simp (disch:=omega) only [vA,vC,qA,qC,X7,v1,v2,f1,f2,↓Xd,wG,seval]
   refine X0 e1 ⟨by rw [X7]; exact Weak.rfl' _,Weak.rfl' _,trivial⟩ ?_
   simp (disch:=omega) only [vA,vC,qA,qC,X7,v1,v2,f1,f2,↓Xd,wG,seval]
   refine X0 e3 (X1 _) ?_
   simp (disch:=omega) only [vA,vC,qA,qC,X7,v1,v2,f1,f2,↓Xd,wG,seval]
   refine X0 e2 ⟨by rw [X7]; exact Weak.rfl' _,Weak.rfl' _,trivial⟩ ?_
   simp (disch:=omega) only [vA,vC,qA,qC,X7,v1,v2,f1,f2,↓Xd,wG,seval]
   refine X0 e4 (X1 _) ?_
   simp (disch:=omega) only [vA,vC,qA,qC,X7,v1,v2,f1,f2,↓Xd,wG,seval]
   refine X0 e5 ⟨by rw [X7]; exact Weak.rfl' _,Weak.rfl' _,trivial⟩ ?_
   simp (disch:=omega) only [vA,vC,qA,qC,X7,v1,v2,f1,f2,↓Xd,wG,seval]
   rw [hR]
   exact Cv rfl HO rfl rfl rfl (XC (Js _) (Weak.rfl' _))
 ·rw [if_neg fun h=>hg (by omega)] at hR
  obtain ⟨i,hi⟩:∃ i:Nat,Ab.atF l 6 L.length=i:=⟨(Ab.atF l 6 L.length).toNat,by omega⟩
  obtain ⟨j,hj⟩:∃ j:Nat,Ab.atF l 7 L.length=j:=⟨(Ab.atF l 7 L.length).toNat,by omega⟩
  rw [hi,hj,Int.toNat_natCast,Int.toNat_natCast] at hR
  rw [hi] at c6 b6
  rw [hj] at c7 b7
  have hil:i<L.length:=by omega
  have hjl:j<L.length:=by omega
  have f1:(i<L.length)=True:=eq_true hil
  have f2:(j<L.length)=True:=eq_true hjl
  have v1:=vF L i
  have v2:=vF L j
  have e1:=Br L i (by omega) hil
  have e2:=Br L j (by omega) hjl
  rw [show L.getD ((i+1) % L.length) v0=KG L i from rfl] at e1
  rw [show L.getD ((j+1) % L.length) v0=KG L j from rfl] at e2
  have e5:=Dt L i h7 (by omega) hil
  have s1:=h2 i
  have s2:vb (KG L i)≤7:=h2 _
  have s3:=h2 j
  have s4:vb (KG L j)≤7:=h2 _
  generalize L.getD i v0=a at *
  generalize KG L i=a' at *
  generalize L.getD j v0=b at *
  generalize KG L j=b' at *
  have e3:=EJ a a' (by omega) (by omega)
  have e4:=EJ b b' (by omega) (by omega)
  refine X0 c6 (X1 _) ?_
  simp (disch:=omega) only [vA,vC,qA,qC,X7,v1,v2,f1,f2,↓Xd,wG,seval]
  refine X0 c7 (X1 _) ?_
  simp (disch:=omega) only [vA,vC,qA,qC,X7,v1,v2,f1,f2,↓Xd,wG,seval]
  refine X0 e1 ⟨by rw [X7]; exact Weak.rfl' _,Weak.rfl' _,trivial⟩ ?_
  simp (disch:=omega) only [vA,vC,qA,qC,X7,v1,v2,f1,f2,↓Xd,wG,seval]
  refine X0 e3 (X1 _) ?_
  simp (disch:=omega) only [vA,vC,qA,qC,X7,v1,v2,f1,f2,↓Xd,wG,seval]
  refine X0 e2 ⟨by rw [X7]; exact Weak.rfl' _,Weak.rfl' _,trivial⟩ ?_
  simp (disch:=omega) only [vA,vC,qA,qC,X7,v1,v2,f1,f2,↓Xd,wG,seval]
  refine X0 e4 (X1 _) ?_
  simp (disch:=omega) only [vA,vC,qA,qC,X7,v1,v2,f1,f2,↓Xd,wG,seval]
  refine X0 e5 ⟨by rw [X7]; exact Weak.rfl' _,Weak.rfl' _,trivial⟩ ?_
  simp (disch:=omega) only [vA,vC,qA,qC,X7,v1,v2,f1,f2,↓Xd,wG,seval]
  rw [hR]
  exact Cv rfl HO rfl rfl rfl (XC (Js _) (Weak.rfl' _))
end
end Go.Ab.N
namespace Go.Ab.N
open Go Go.RowKit Go.Proofs
noncomputable section
set_option maxRecDepth 10000
set_option maxHeartbeats 4000000
def uG (L:List V2) (i k:Nat):Bool:=decide (1<(k+L.length - i) % L.length) && decide ((k+L.length - i) % L.length<L.length - 1) &&
 (List.range 5).all fun j=>!Kz (DO (atF L i) (atF L (i+1)) (atF L k) (atF L (k+1)) j) (atF L i) (atF L (i+1)) (atF L k) (atF L (k+1))
def S0 (L:List V2):Bool:=decide (3≤L.length) && decide (L.length≤12) && ((List.range L.length).all fun i=>!decide (JR (atF L i) (atF L (i+1)) (atF L (i+2))=0) && (List.range L.length).all fun k=>!uG L i k) && decide (0<(KU L).num.sign)
theorem S8 (L:List V2) (h:S0 L=true):ZR L:=by
 unfold S0 at h
 simp only [Bool.and_eq_true,decide_eq_true_eq,List.all_eq_true,List.mem_range,Bool.not_eq_true',decide_eq_false_iff_not] at h
 obtain ⟨⟨⟨h1,h2⟩,h3⟩,h4⟩:=h
 refine ⟨⟨h1,h2⟩,fun i hi=>⟨(h3 i hi).1,fun k hk hg=>?_⟩,h4⟩
 have:=(h3 i hi).2 k hk
 obtain ⟨q1,q2,q3⟩:=hg
 unfold uG at this
 rw [decide_eq_true q1,decide_eq_true q2,Bool.true_and,Bool.true_and] at this
 rw [List.all_eq_true.2] at this
 ·cases this
 ·intro j hj
  rw [q3 j (List.mem_range.1 hj)]; rfl
theorem GF:ZR sqV:=S8 _ (by decide +kernel)
theorem jI:N3 sqV:=by
 have z:vb v0≤1:=by decide +kernel
 refine ⟨by simp [sqV],AP (fun x hx=>?_) (by omega),fun i hi=>?_⟩
 ·simp only [sqV,List.mem_cons,List.not_mem_nil,or_false] at hx
  rcases hx with rfl | rfl | rfl | rfl
  ·omega
  all_goals exact Nat.le_trans (FL _ _ (by omega) (by omega)) (by omega)
 ·have h:=Ix (GF.2.1 i hi).1
  unfold atF at h
  rw [Nat.mod_eq_of_lt hi] at h
  exact h
def OP (a b:Sd):Option (V2×V2) :=
 if Xn b.i a.i=0∧Q8 b.i a.i<0∧0<Q8 (b.a.sub a.a) a.i then
  if Tc (G5 a b) (G6 a b)<Ta (G5 a b) (G6 a b) then
   some (MS a.a (Rj a b) (Tc (G5 a b) (G6 a b)) (Ta (G5 a b) (G6 a b)),U1 (MS a.a (Rj a b) (Tc (G5 a b) (G6 a b)) (Ta (G5 a b) (G6 a b))) a.i b.a)
  else none
 else none
theorem rL (a b:Sd):Ia a b=OP a b:=by
 unfold Ia OP
 by_cases h:MW b.i a.i∧0<Q8 (b.a.sub a.a) a.i
 ·rw [if_pos h,if_pos (show Xn b.i a.i=0∧Q8 b.i a.i<0∧0<Q8 (b.a.sub a.a) a.i from ⟨h.1.1,h.1.2,h.2⟩)]
 ·rw [if_neg h,if_neg fun q=>h ⟨⟨q.1,q.2.1⟩,q.2.2⟩]
def eg1:GG:=⟨pI 1 0,pI 1 2,pI 0 2,Rat.divInt 8 1,Rat.divInt 1 2⟩
def eg2:GG:=⟨pI 2 1,pI 0 1,pI (-2) 0,Rat.divInt 8 1,Rat.divInt 1 2⟩
def tJ (a b:V2):Bool:=decide (a.x=b.x) && decide (a.y=b.y)
theorem Lk {a b:V2} (h:tJ a b=true):a=b:=by
 unfold tJ at h
 simp only [Bool.and_eq_true,decide_eq_true_eq] at h
 cases a; cases b
 simp only [V2.mk.injEq] at *
 exact h
def G4 (o:Option (V2×V2)) (w:Option (V2×V2)):Bool:=match o,w with
 | none,none=>true
 | some x,some y=>tJ x.1 y.1 && tJ x.2 y.2
 | _,_=>false
theorem g9 {o w:Option (V2×V2)} (h:G4 o w=true):o=w:=by
 cases o <;> cases w <;> simp only [G4,Bool.and_eq_true] at h <;> try (first | rfl | (cases h; done))
 exact congrArg some (Prod.ext (Lk h.1) (Lk h.2))
theorem ta:G4 (OP (JD sqV 0) (JD sqV 1)) none=true∧G4 (OP (JD sqV 0) (JD sqV 2)) (some (pI 1 0,pI 1 2))=true∧G4 (OP (JD sqV 0) (JD sqV 3)) none=true∧G4 (OP (JD sqV 1) (JD sqV 2)) none=true∧G4 (OP (JD sqV 1) (JD sqV 3)) (some (pI 2 1,pI 0 1))=true∧G4 (OP (JD sqV 2) (JD sqV 3)) none=true∧tJ (HN (sqV.getD 0 v0) (KG sqV 0)) (pI 0 2)=true∧tJ (HN (sqV.getD 1 v0) (KG sqV 1)) (pI (-2) 0)=true:=by
 refine ⟨?_,?_,?_,?_,?_,?_,?_,?_⟩ <;> decide +kernel
theorem Pd:Ba (Rat.divInt 8 1) (Rat.divInt 1 2)=true:=by unfold Ba; decide +kernel
theorem Ws:ZF sqV (Rat.divInt 8 1) (Rat.divInt 1 2)=[eg1,eg2]:=by
 obtain ⟨h1,h2,h3,h4,h5,h6,h7,h8⟩:=ta
 unfold ZF
 rw [if_pos ⟨GF,Pd⟩]
 have g:∀ i j o,G4 (OP (JD sqV i) (JD sqV j)) o=true→OS sqV (Rat.divInt 8 1) (Rat.divInt 1 2) i j=o.toList.map fun x=>⟨x.1,x.2,HN (sqV.getD i v0) (KG sqV i),Rat.divInt 8 1,Rat.divInt 1 2⟩:=fun i j o h=>by
  unfold OS; rw [rL,g9 h]
 have g01:=g _ _ _ h1
 have g02:=g _ _ _ h2
 have g03:=g _ _ _ h3
 have g12:=g _ _ _ h4
 have g13:=g _ _ _ h5
 have g23:=g _ _ _ h6
 rw [Lk h7] at g02
 rw [Lk h8] at g13
 show Bj sqV _ _ 4=_
 simp only [Bj,show sqV.length=4 from rfl,Nat.reduceAdd,Nat.reduceSub,Zj,Nat.add_zero,g01,g02,g03,g12,g13,g23]
 rfl
theorem ek (n:Int) (h:1≤n∧n≤1000):bS (Ew n)∧ZZ (Ew n)=true:=by
 refine ⟨⟨?_,?_,?_,?_⟩,?_⟩
 ·exact Nat.le_trans (FL 1 1 (by omega) (by omega)) (by omega)
 ·exact Nat.le_trans (CP 1 1 (by omega) (by omega)) (by omega)
 ·exact Nat.le_trans (CP 2 1 (by omega) (by omega)) (by omega)
 ·exact Nat.le_trans (CP n 1 (by omega) (by omega)) (by omega)
 ·rw [Az]
  exact ⟨by show 0<Rat.divInt 1 1; decide +kernel,by show Rat.divInt 1 1≤Rat.divInt 2 1; decide +kernel,Fu (by omega) (by omega)⟩
theorem uz:(gS eg1∧Kj eg1=true)∧gS eg2∧Kj eg2=true:=by
 have q:=CP 8 1 (by omega) (by omega)
 have r:=CP 1 2 (by omega) (by omega)
 have v:∀ x y:Int,-5≤x∧x≤5→-5≤y∧y≤5→vb (pI x y)≤40:=fun x y hx hy=>Nat.le_trans (FL x y (by omega) (by omega)) (by omega)
 have m:∀ x y:Int,-5≤x∧x≤5→-5≤y∧y≤5→vb (pI x y)≤1400:=fun x y hx hy=>Nat.le_trans (v x y hx hy) (by omega)
 refine ⟨⟨⟨m _ _ (by omega) (by omega),m _ _ (by omega) (by omega),v _ _ (by omega) (by omega),Nat.le_trans q (by omega),Nat.le_trans r (by omega)⟩,?_⟩,⟨m _ _ (by omega) (by omega),m _ _ (by omega) (by omega),v _ _ (by omega) (by omega),Nat.le_trans q (by omega),Nat.le_trans r (by omega)⟩,?_⟩
 ·rw [Ka]; decide +kernel
 ·rw [Ka]; decide +kernel
theorem nz:QS eg1.n=2∧QS eg2.n=2:=by decide +kernel
theorem pC (n:Int) (k:Rat) (h:(k=4∧n=100)∨(k=3∧n=6)):Ns (Ew n) eg1 k:=by
 have e1:((0:Int):Rat)=0:=rfl
 have e2:((2:Int):Rat)=2:=rfl
 have e3:((1:Int):Rat)=1:=rfl
 have d2:Rat.divInt 2 1=2:=by decide +kernel
 have d8:Rat.divInt 8 1=8:=by decide +kernel
 have dh:Rat.divInt 1 2=1 / 2:=by decide +kernel
 have hs:(k=4∧Rat.divInt n 1=100)∨(k=3∧Rat.divInt n 1=6):=by
  rcases h with ⟨rfl,rfl⟩ | ⟨rfl,rfl⟩
  ·exact .inl ⟨rfl,by decide +kernel⟩
  ·exact .inr ⟨rfl,by decide +kernel⟩
 constructor
 ·refine ⟨k,0,0,0,?_⟩
  have l:=nz.1
  constructor
  all_goals
   try simp only [l]
   try simp only [eg1,Ew,pI,Xn,V2.sub,e1,e2,e3,d2,d8,dh]
   grind
 ·intro a0 c0 a1 c1 k' hk
  obtain ⟨n0,n1,r0,r1,s0,s1,f0,f1,st,k0,k1,ex,ey,et⟩:=hk
  rw [nz.1] at f0 f1 st
  simp only [eg1,Ew,pI,e1,e2,e3,d2,d8,dh] at *
  grind
theorem fI (n:Int) (k:Rat) (h:(k=4∧n=100)∨(k=Rat.divInt 3 2∧n=6)):Ns (Ew n) eg2 k:=by
 have e1:((0:Int):Rat)=0:=rfl
 have e2:((2:Int):Rat)=2:=rfl
 have e3:((1:Int):Rat)=1:=rfl
 have e4:((-2:Int):Rat) = -2:=rfl
 have d2:Rat.divInt 2 1=2:=by decide +kernel
 have d8:Rat.divInt 8 1=8:=by decide +kernel
 have dh:Rat.divInt 1 2=1 / 2:=by decide +kernel
 have d3:Rat.divInt 3 2=3 / 2:=by decide +kernel
 have hs:(k=4∧Rat.divInt n 1=100)∨(k=3 / 2∧Rat.divInt n 1=6):=by
  rcases h with ⟨rfl,rfl⟩ | ⟨rfl,rfl⟩
  ·exact .inl ⟨rfl,by decide +kernel⟩
  ·exact .inr ⟨d3,by decide +kernel⟩
 constructor
 ·refine ⟨k,-(k / 2),k,k / 2,?_⟩
  have l:=nz.2
  constructor
  all_goals
   try simp only [l]
   try simp only [eg2,Ew,pI,Xn,V2.sub,e1,e2,e3,e4,d2,d8,dh]
   grind
 ·intro a0 c0 a1 c1 k' hk
  obtain ⟨n0,n1,r0,r1,s0,s1,f0,f1,st,k0,k1,ex,ey,et⟩:=hk
  rw [nz.2] at f0 f1 st
  simp only [eg2,Ew,pI,e1,e2,e3,e4,d2,d8,dh] at *
  grind
end
end Go.Ab.N
namespace Go.Ab.N
open Go Go.RowKit Go.Proofs
noncomputable section
set_option maxRecDepth 10000
set_option maxHeartbeats 4000000
open Classical
def EY (b:BB) (g:GG):Rat:=if h:∃ k,Ns b g k then Classical.choose h else 0
theorem Dg {b:BB} {g:GG} {k:Rat} (h:Ns b g k):EY b g=k:=by
 unfold EY
 have hx:∃ k,Ns b g k:=⟨k,h⟩
 rw [dif_pos hx]
 exact ii (Classical.choose_spec hx) h
structure Mg (b:BB) (g:GG) (p q:Rat×Rat):Prop where
 fn:Fn Tryz.prog 22 [bA b,gA g] (.tup [qA (EY b g),FE [p,q],I 0])
 m:Ns b g (EY b g)
 ok:okP b g p.1 p.2 q.1 q.2 (EY b g)
 z:qb p.1≤1356773∧qb p.2≤1356773∧qb q.1≤1356773∧qb q.2≤1356773∧qb (EY b g)≤1356773
theorem Cf (b:BB) (g:GG) (hb:bS b) (hg:gS g) (h1:ZZ b=true) (h2:Kj g=true):∃ p q,Mg b g p q:=by
 obtain ⟨x0,x1,x2,x3,m,c,hm,ho,z0,z1,z2,z3,z4⟩:=U6 b g hb hg h1 h2
 have e:=Dg hm
 exact ⟨(x0,x1),(x2,x3),e▸c,e▸hm,e▸ho,z0,z1,z2,z3,e▸z4⟩
theorem Rw {b:Int} (hb:Ze b) {m:Int} (hm:0<m):Ze (b.tdiv m):=by
 unfold Ze at hb ⊢
 rcases Int.le_total 0 b with h | h
 ·rw [Int.tdiv_eq_ediv_of_nonneg h]
  have:=Int.ediv_le_self m h
  have:=Int.ediv_nonneg h (Int.le_of_lt hm)
  omega
 ·have e:b.tdiv m = -((-b).tdiv m):=by rw [Int.neg_tdiv]; omega
  rw [e,Int.tdiv_eq_ediv_of_nonneg (by omega)]
  have:=Int.ediv_le_self m (show 0≤-b by omega)
  have:=Int.ediv_nonneg (show 0≤-b by omega) (Int.le_of_lt hm)
  omega
theorem Hj (n:Int):qb (LR n)≤1:=by
 have:=Qp n 100 (by omega)
 unfold LR
 generalize QR n 100=k at *
 rw [Int.tmod_eq_emod_of_nonneg this.1,Int.tdiv_eq_ediv_of_nonneg this.1]
 exact CP _ _ (by omega) (by omega)
def oX (l:List Int) (a:Int):V2:=⟨LR (Ab.atF l a 100),LR (Ab.atF l (a+1) 100)⟩
theorem oY (l:List Int) (a:Int):vb (oX l a)≤1:=Nat.max_le.2 ⟨Hj _,Hj _⟩
theorem ko (l:List Int) (a:Int) (hl:ZC l) (ha:0≤a∧a<1000):Fn Tryz.prog 35 [X8 l,I a] (vA (oX l a)):=by
 have b0:=Xs l a 100 (by omega)
 have b1:=Xs l (a+1) 100 (by omega)
 have c0:=Qd l a 100 hl (by omega)
 have c1:=Qd l (a+1) 100 hl (by omega)
 have d0:=BC (Ab.atF l a 100) ⟨by omega,by omega⟩
 have d1:=BC (Ab.atF l (a+1) 100) ⟨by omega,by omega⟩
 obtain ⟨R,hR⟩:∃ R,R=vA (oX l a):=⟨_,rfl⟩
 have sR:Settled R:=hR▸Xu _
 rw [← hR]
 refine Fn.intro (fn:=Tryz.f35) Tryz.call35 Tryz.func35 rfl mixed 5 [] [] [] (by kernel_rfl) (Nat.le_of_ble_eq_true rfl) (Kp (Xb l) (Xa a)) (Xm ?_)
 simp (disch:=omega) only [AS.start,↓Xd,wG,seval]
 refine X0 c0 (X1 _) ?_
 simp (disch:=omega) only [↓Xd,wG,seval]
 refine X0 d0 (X1 _) ?_
 simp (disch:=omega) only [qA,qC,↓Xd,wG,seval]
 refine X0 c1 (X1 _) ?_
 simp (disch:=omega) only [↓Xd,wG,seval]
 refine X0 d1 (X1 _) ?_
 simp (disch:=omega) only [qA,qC,↓Xd,wG,seval]
 exact Zx rfl J5 rfl rfl rfl sR (hR.trans rfl)
theorem jZ {a b:V2} (ha:vb a≤7) (hb:vb b≤7):vb (HN a b)≤15:=by
 have:=O5 a b
 omega
theorem av {L:List V2} (h:Bm L) {i:Nat} (hi:i<L.length):(JD L i).a≠(JD L i).b:=by
 have:=Ix (h.2.1 i hi).1
 unfold atF at this
 rw [Nat.mod_eq_of_lt hi] at this
 exact this
theorem Rn (L:List V2) (f r:Rat) (h:QT L 7) (hl:L.length≤12) (hf:qb f≤40) (hr:qb r≤40):Fn Tryz.prog 45 [Qh L,qA f,qA r] (bW (ZF L f r)):=by
 have c1:=Hq L (fun i=>Nat.le_trans (h i) (by omega)) (by omega)
 have c2:=Lu f r (by unfold rm; omega) (by unfold rm; omega)
 have c3:=Nr L (fun i=>Nat.le_trans (h i) (by omega)) (by omega)
 obtain ⟨R,hR⟩:∃ R,R=ZF L f r:=⟨_,rfl⟩
 have sR:=Ei R
 rw [← hR]
 unfold ZF at hR
 rw [Gn] at hR
 generalize Ba f r=J at *
 obtain ⟨S,hS⟩:∃ S,S=K1 L:=⟨_,rfl⟩
 rw [← hS] at c3
 have hSl:S.length=L.length:=by rw [hS]; exact Dz L L.length
 have hSa:∀ i,i<L.length→S.getD i Id=JD L i:=fun i hi=>by rw [hS]; exact aR L hi
 refine Fq Tryz.call45 Tryz.func45 16 [27,28,29,37,38,39] [] [] (by simp [Xq,Xc]) (Xm ?_)
 simp (disch:=omega) only [AS.start,X7,qA,qC,↓Xd,wG,seval]
 refine X0 c1 ⟨by rw [X7]; exact Weak.rfl' _,trivial⟩ ?_
 simp (disch:=omega) only [↓Xd,wG,seval]
 have nil:∀ (s:AS),s.get 6=.sl 0 0 (fun _=>.any) true→R=[]→RetOk (Jq Tryz.prog Tryz.f45 [] [] (bW R)) s:=fun s hs e=>BX rfl (by rw [hs]; exact XC sR (by rw [e]; exact T3 gC 32 gZ _ _))
 refine ⟨fun hp=>nil _ rfl (by rw [hR,if_neg fun h=>hp h.1]),fun hp=>?_⟩
 refine X0 c2 (X1 _) ?_
 simp (disch:=omega) only [↓Xd,wG,seval]
 refine ⟨fun hj=>nil _ rfl (by rw [hR,if_neg fun h=>by rw [h.2] at hj; exact absurd hj (by simp)]),fun hj=>?_⟩
 have hj:J=true:=by simpa using hj
 rw [if_pos ⟨hp,hj⟩] at hR
 have bV:∀ q,Ju q (UI S)=True:=fun q=>eq_true (X6 (Em S))
 have bL:∀ q,Ju q (Qh L)=True:=fun q=>eq_true (X6 (Xq L))
 have bP:∀ q x,Ju q (KT x)=True:=fun q x=>eq_true (X6 (XV fun j _=>Xf (QP x) j))
 have bO:∀ q i x,Qc q (.con i 4 (Xh (qC x)))=True:=fun q i x=>eq_true fun j _=>X6 (Xf (QP x) j)
 have bR:∀ q i n l,Qc q (.row i n (XO gC 32 gZ l))=True:=fun q i n l=>eq_true fun j _=>X6 (Xf (K0 _) _)
 have fl:=fun i=>E2 L f r i
 refine X0 c3 ⟨by rw [X7]; exact Weak.rfl' _,trivial⟩ ?_
 simp (disch:=omega) only [J4,hSl,↓Xd,wG,seval]
 refine Run.sub ?_ (Q3 0 rfl)
 refine Run.sub ?_ (Q3 1 rfl)
 refine Run.sub ?_ (Qa 4 rfl rfl (by omega))
 refine Run.sub ?_ (Qa 5 rfl rfl (by omega))
 refine Run.sub ?_ (Kg 7 32 (XO gC 32 gZ []) rfl)
 have dS:AV.sl L.length (L.length*24) (XO AJ 24 Id S) false=UI S:=by rw [J4,hSl]
 rw [dS]
 refine Xl (fun i:Nat=>⟨16,[27,28,29,37,38,39],[.any,.any,.any,.any,KT f,KT r,.any,.osl 2 (Bj L f r i).length 32 0 (Bj L f r i).length,UI S,.any,.any,.any,.any,.any,.any,.any],[(27,UI S),(28,I L.length),(29,I i)],[.con 0 4 (Xh (qC f)),.con 0 4 (Xh (qC r)),.row (Bj L f r i).length ((Bj L f r i).length*32) (XO gC 32 gZ (Bj L f r i))]⟩) (fun i=>i≤L.length) (fun i=>L.length - i) 0 (by omega)
  (Xk rfl (by simp [AS.put,Xo,KT,qC,Bj]; exact ⟨rfl,rfl⟩) (by simp [AS.put,Xw,XA,I]) rfl) ?_
 intro i hi next
 have w1:=wj i (by omega)
 by_cases hi2:i<L.length
 rotate_left
 ·obtain rfl:i=L.length:=by omega
  refine Xm ?_
  simp (disch:=omega) only [J4,hSl,↓Xd,wG,seval]
  exact BX rfl (by rw [hR]; exact Su _ rfl rfl)
 have nx:=next (i+1)
 rw [Nl] at nx
 have f1:(i<L.length)=True:=eq_true hi2
 have f3:(i+1≤L.length)=True:=eq_true hi2
 have f4:(i<1000000)=True:=eq_true (by omega)
 obtain ⟨M,hM⟩:∃ M,M=L.length - (i+1):=⟨_,rfl⟩
 have e1:((L.length:Int) - ((i+1:Nat):Int)).toNat=M:=by omega
 have e2:min (M*24) (L.length*24 - (i+1)*24)=M*24:=by omega
 have l0:=Ap AJ 24 Id S i (by omega)
 have l1:=ZU AJ 24 Id S i
 have hx:=hSa i hi2
 rw [hx] at l0 l1
 obtain ⟨x,hX⟩:∃ x,x=JD L i:=⟨_,rfl⟩
 rw [← hX] at l0 l1 hx
 have bX:∀ q x,Qc q (.row 0 24 (Xh (AJ x)))=True:=fun q x=>eq_true fun j _=>X6 (Xf (Z3 x) j)
 have bT:∀ q,Ju q (.sl M (M*24) (fun j=>XO AJ 24 Id S ((i+1)*24+j)) false)=True:=fun q=>eq_true (X6 (QF fun j _=>Xf (Z3 _) _))
 refine Xm ?_
 simp (disch:=omega) only [J4,hSl,w1,f1,f3,l0,l1,Ao,e1,e2,↓Xd,wG,seval]
 generalize hF:Bj L f r i=F at *
 refine Xl (fun k:Nat=>⟨16,[27,28,29,37,38,39],[.any,.any,.any,.any,KT f,KT r,.any,.osl 2 (F ++ Zj L f r i k).length 32 0 (F ++ Zj L f r i k).length,UI S,.any,.ref 3 0 0,.any,.any,.any,.any,.any],[(27,UI S),(28,I L.length),(29,I i),(37,.sl M (M*24) (fun j=>XO AJ 24 Id S ((i+1)*24+j)) false),(38,I M),(39,I k)],[.con 0 4 (Xh (qC f)),.con 0 4 (Xh (qC r)),.row (F ++ Zj L f r i k).length ((F ++ Zj L f r i k).length*32) (XO gC 32 gZ (F ++ Zj L f r i k)),.row 0 24 (Xh (AJ x))]⟩) (fun k=>k≤M) (fun k=>M - k) 0 (by omega)
  (Xk rfl (by simp [Xo,Zj,J4,hSl]) (by simp [Xw,XA,I,J4,hSl]) (by simp only [Zj,List.append_nil]; rfl)) ?_
 intro k hk nextk
 have w2:=wj k (by omega)
 by_cases hk2:k<M
 rotate_left
 ·obtain rfl:k=M:=by omega
  refine Xm ?_
  simp (disch:=omega) only [J4,hSl,w1,w2,↓Xd,wG,seval]
  rw [← hM] at nx
  exact nx _ (by omega) (by omega) (XI (m:=3) (Nat.zero_le _) rfl (by simp [J4,hSl,Xo,I]) (by simp [Xw,XA,J4,hSl,I]) rfl (by simp [XM,bV,bP]) (by simp [XM,bV]) (by simp [bO,bR]))
 have nk:=nextk (k+1)
 rw [show Zj L f r i (k+1)=Zj L f r i k ++ OS L f r i (i+1+k) from rfl,← List.append_assoc] at nk
 have hln:(F ++ Zj L f r i k).length≤1000:=by
  have g1:=fl i
  have g2:=Gx L f r i k
  rw [hF] at g1
  have g3:L.length*i≤12*12:=Nat.mul_le_mul hl (by omega)
  rw [List.length_append]; omega
 generalize F ++ Zj L f r i k=G at *
 clear hF next nextk fl
 have f2:(k<M)=True:=eq_true hk2
 have y0:XO AJ 24 Id S ((i+1)*24+k*24)=(AJ (S.getD (i+1+k) Id)).getD 0 .any:=by
  rw [show (i+1)*24+k*24=(i+1+k)*24 by omega]; exact Ap AJ 24 Id S _ (by omega)
 have y1:∀ j,j<24→XO AJ 24 Id S ((i+1)*24+(k*24+j))=(AJ (S.getD (i+1+k) Id)).getD j .any:=fun j hj=>by
  rw [show (i+1)*24+(k*24+j)=(i+1+k)*24+j by omega]; exact ZU AJ 24 Id S _ _ hj
 have hg:OS L f r i (i+1+k)=((Ia (JD L i) (JD L (i+1+k))).toList).map fun x=>⟨x.1,x.2,HN (L.getD i v0) (KG L i),f,r⟩:=rfl
 have hn:HN (L.getD i v0) (KG L i)=x.i:=by rw [hX]; rfl
 rw [hn] at hg
 have hy:=hSa (i+1+k) (by omega)
 rw [hy] at y0 y1
 have uf:=YG (JD L i) (JD L (i+1+k)) (h _) (h _) (jZ (h _) (h _)) (h _) (h _) (jZ (h _) (h _)) (av hp hi2)
 unfold rM at uf
 rw [← hX] at hg uf
 generalize JD L (i+1+k)=y at *
 refine Xm ?_
 simp (disch:=omega) only [J4,hSl,w1,w2,f1,f2,y0,y1,Ao,↓Xd,wG,seval]
 refine X0 uf ⟨by rw [UH,Ao]; exact Weak.rfl' _,by rw [UH,Ao]; exact Weak.rfl' _,trivial⟩ ?_
 generalize Ia x y=o at *
 rcases o with _ | ⟨p,q⟩
 ·replace hg:OS L f r i (i+1+k)=[]:=hg
  rw [hg,List.append_nil] at nk
  simp (disch:=omega) only [vA,vC,Option.getD_none,Option.isSome_none,↓Xd,wG,seval]
  exact nk _ (by omega) (by omega) (XI (m:=4) (Nat.zero_le _) rfl (by simp [J4,hSl,Xo,I]) (by simp [Xw,XA,J4,hSl,I]) rfl (by simp [XM,bV,bP]) (by simp [XM,bV,bT]) (by simp [bO,bR,bX]))
 ·replace hg:OS L f r i (i+1+k)=[⟨p,q,x.i,f,r⟩]:=hg
  have hap:=Ay gC 32 gZ G ⟨p,q,x.i,f,r⟩ (by omega)
  rw [hg] at nk
  rw [show (G ++ [(⟨p,q,x.i,f,r⟩:GG)]).length=G.length+1 by simp] at nk
  simp (disch:=omega) only [vA,vC,KT,qC,Option.getD_some,Option.isSome_some,↓Xd,wG,seval]
  exact ⟨fun j hj=>gM ⟨p,q,x.i,f,r⟩ j hj,nk _ (by omega) (by omega) (XI (m:=4) (Nat.zero_le _) rfl (by simp [J4,hSl,Xo,I,KT]; exact ⟨rfl,rfl⟩) (by simp [Xw,XA,J4,hSl,I]) (by rw [← hap]; rfl) (by simp [XM,bV,bP]) (by simp [XM,bV,bT]) (by simp [bO,bR,bX]))⟩
 done
end
end Go.Ab.N
