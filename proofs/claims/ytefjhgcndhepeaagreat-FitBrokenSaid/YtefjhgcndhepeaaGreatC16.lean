/- Contracts of functions of these chapters, for every argument that fits, and what they need. -/
import Derived.Test.YtefjhgcndhepeaaGreatC15
import Derived.Test.YtefjhgcndhepeaaGreatC13
import Derived.Test.YtefjhgcndhepeaaGreatC14
import Derived.Test.YtefjhgcndhepeaaGreatC7
set_option linter.unusedSimpArgs false
set_option linter.unusedVariables false
open Nat renaming reducePow → Y1, reduceLT → Y2, reduceLeDiff → Y3, reduceEqDiff → Y4, reduceAdd → Y5, reduceMul → Y6, reduceSub → Y7, reduceBEq → Y8, reduceDiv → Y9, reduceMod → YA
namespace Go.Ab.N
open Go Go.RowKit Go.Proofs
noncomputable section
set_option maxRecDepth 10000
set_option maxHeartbeats 4000000
open Classical
def fQ (n:Nat) (R:List Nat):Prop:=∀ r∈R,r<n
theorem Kz {n:Nat} {R:List Nat} (h0:0<n) (h:fQ n R) (i:Nat):R.getD i 0<n:=by
 rw [List.getD_eq_getElem?_getD]
 cases e:R[i]? with
 | none=>exact h0
 | some r=>exact h r (List.mem_of_getElem? e)
theorem FZ {n:Nat} {R:List Nat} (h0:0<n) (h:fQ n R) (m:Nat):nr R m<n:=Kz h0 h _
theorem Mq {n:Nat} {R:List Nat} (h:fQ n R) (i:Nat):fQ n (R.eraseIdx i):=fun r hr=>h r (List.mem_of_mem_eraseIdx hr)
theorem ij {g k:V2→V2} (I:Iso g k) (L:List V2) {R:List Nat} (h0:0<L.length) (h:fQ L.length R) (p:Nat):LG (L.map g) R p=LG L R p:=by
 unfold LG
 rw [JI _ _ _ (FZ h0 h _),JI _ _ _ (FZ h0 h _),JI _ _ _ (Kz h0 h _),CW I]
theorem kV {g k:V2→V2} (I:Iso g k) (L:List V2) {R:List Nat} (h0:0<L.length) (h:fQ L.length R) (p:Nat):AR (L.map g) R p=AR L R p:=by
 unfold AR
 rw [ij I L h0 h]
 refine decide_eq_decide.2 (and_congr_right fun _=>forall_congr' fun j=>imp_congr_right fun _=>?_)
 unfold CQ o9
 rw [JI _ _ _ (FZ h0 h _),JI _ _ _ (FZ h0 h _),JI _ _ _ (Kz h0 h _),JI _ _ _ (Kz h0 h _),CW I,CW I,CW I]
theorem eH {g k:V2→V2} (I:Iso g k) (L:List V2) {R:List Nat} (h0:0<L.length) (h:fQ L.length R):CN (L.map g) R=CN L R:=by
 unfold CN
 rw [show AR (L.map g) R=AR L R from funext fun p=>kV I L h0 h p]
theorem ft {g k:V2→V2} (I:Iso g k) (L:List V2) {R:List Nat} (h0:0<L.length) (h:fQ L.length R):Zc (L.map g) R=Zc L R:=by
 unfold Zc
 congr 1
 funext p
 rw [ij I L h0 h]
theorem UG {g k:V2→V2} (I:Iso g k) (L:List V2) (h0:0<L.length):∀ (f:Nat) (R:List Nat),fQ L.length R→ZZ (L.map g) f R=ZZ L f R∧fQ L.length (ZZ L f R)
 | 0,R,h=>⟨rfl,h⟩
 | f+1,R,h=>by
  unfold ZZ
  rw [ft I L h0 h]
  obtain ⟨h1,h2⟩:=UG I L h0 f _ (Mq h (Zc L R))
  split
  ·exact ⟨h1,h2⟩
  ·exact ⟨rfl,h⟩
def uk (n:Nat) (d:Nat×Nat×Nat):Prop:=d.1<n∧d.2.1<n∧d.2.2<n
theorem UO {g k:V2→V2} (I:Iso g k) (L:List V2) (h0:0<L.length):∀ (f:Nat) (R:List Nat),fQ L.length R→Ay (L.map g) f R=Ay L f R∧∀ d∈Ay L f R,uk L.length d
 | 0,R,h=>⟨rfl,fun d hd=>by
   obtain rfl:=List.mem_singleton.1 hd
   exact ⟨Kz h0 h _,Kz h0 h _,Kz h0 h _⟩⟩
 | f+1,R,h=>by
  unfold Ay CK
  rw [eH I L h0 h]
  obtain ⟨c1,c2⟩:=UG I L h0 (R.length - 1) _ (Mq h (CN L R))
  rw [c1]
  obtain ⟨h1,h2⟩:=UO I L h0 f _ c2
  split
  ·refine ⟨by rw [h1],fun d hd=>?_⟩
   rcases List.mem_cons.1 hd with rfl | hd
   ·exact ⟨FZ h0 h _,Kz h0 h _,FZ h0 h _⟩
   ·exact h2 d hd
  ·refine ⟨rfl,fun d hd=>?_⟩
   obtain rfl:=List.mem_singleton.1 hd
   exact ⟨Kz h0 h _,Kz h0 h _,Kz h0 h _⟩
theorem M0 {g k:V2→V2} (I:Iso g k) (L:List V2) (h0:0<L.length):Qf (L.map g)=(Qf L).map fun c=>c.map g:=by
 unfold Qf CJ
 rw [List.length_map]
 obtain ⟨h1,h2⟩:=UO I L h0 L.length (List.range L.length) (fun r hr=>List.mem_range.1 hr)
 rw [h1,List.map_map]
 refine List.map_congr_left fun d hd=>?_
 obtain ⟨d1,d2,d3⟩:=h2 d hd
 unfold aG
 simp only [Function.comp,List.map_cons,List.map_nil]
 rw [JI _ _ _ d1,JI _ _ _ d2,JI _ _ _ d3]
def Gz (q:Nat) (d:Int×Int) (a:V2):V2:=(XY q a).add (Qc d)
theorem mz (q:Nat) (d:Int×Int) (R:List (Int×Int)):Xp (R.map (Ol q d))=(Xp R).map (Gz q d):=by
 unfold Xp
 rw [List.map_map,List.map_map]
 refine List.map_congr_left fun p _=>?_
 show Qc (Ol q d p)=Gz q d (Qc p)
 unfold Gz
 rw [← Iy]
 unfold Ol Qc V2.add
 simp only [Rat.intCast_add]
theorem EP (L:List V2) (h0:0<L.length):∀ q,Qf (L.map (XY q))=(Qf L).map fun c=>c.map (XY q)
 | 0=>by
  rw [show XY 0=id from rfl,List.map_id]
  simp
 | q+1=>by
  have e:L.map (XY (q+1))=(L.map (XY q)).map QO:=by rw [List.map_map]; rfl
  rw [e,M0 quart_iso _ (by simpa using h0),EP L h0 q,List.map_map]
  refine List.map_congr_left fun c _=>?_
  show (c.map (XY q)).map QO=c.map (XY (q+1))
  rw [List.map_map]; rfl
theorem dJ (q:Nat) (d:Int×Int) (L:List V2) (h0:0<L.length):Qf (L.map (Gz q d))=(Qf L).map fun c=>c.map (Gz q d):=by
 have e:L.map (Gz q d)=(L.map (XY q)).map fun a=>a.add (Qc d):=by rw [List.map_map]; rfl
 rw [e,M0 (Uq (Qc d)) _ (by simpa using h0),EP L h0 q,List.map_map]
 refine List.map_congr_left fun c _=>?_
 show (c.map (XY q)).map _=c.map (Gz q d)
 rw [List.map_map]; rfl
theorem Iz (q:Nat) (hq:q<4) (d:Int×Int) (a:V2):put (XY ((4 - q) % 4) Qm) (v0.sub (ZB (XY ((4 - q) % 4) Qm) (Qc d))) (Gz q d a)=a:=by
 unfold Gz put
 match q,hq with
 | 0,_ =>
  show (ZB Qm ((XY 0 a).add (Qc d))).add (v0.sub (ZB Qm (Qc d)))=a
  unfold XY Qm ZB V2.add V2.sub v0; rw [V2.ext']; exact ⟨by simp only; grind,by simp only; grind⟩
 | 1,_ =>
  show (ZB (QO (QO (QO Qm))) ((QO a).add (Qc d))).add (v0.sub (ZB (QO (QO (QO Qm))) (Qc d)))=a
  unfold QO Qm ZB V2.add V2.sub v0; rw [V2.ext']; exact ⟨by simp only; grind,by simp only; grind⟩
 | 2,_ =>
  show (ZB (QO (QO Qm)) ((QO (QO a)).add (Qc d))).add (v0.sub (ZB (QO (QO Qm)) (Qc d)))=a
  unfold QO Qm ZB V2.add V2.sub v0; rw [V2.ext']; exact ⟨by simp only; grind,by simp only; grind⟩
 | 3,_ =>
  show (ZB (QO Qm) ((QO (QO (QO a))).add (Qc d))).add (v0.sub (ZB (QO Qm) (Qc d)))=a
  unfold QO Qm ZB V2.add V2.sub v0; rw [V2.ext']; exact ⟨by simp only; grind,by simp only; grind⟩
 | q+4,h=>omega
theorem T3 (p:PV) (R:List (Int×Int)) (q:Nat) (hq:q<4) (d:Int×Int) (hR:0<R.length) (hp:p.rim=R.map (Ol q d)):JD p (XY ((4 - q) % 4) Qm) (v0.sub (ZB (XY ((4 - q) % 4) Qm) (Qc d)))=Qf (Xp R):=by
 unfold JD
 rw [hp,mz,dJ q d _ (by simpa [Xp] using hR),List.map_map]
 have:(Zw (XY ((4 - q) % 4) Qm) (v0.sub (ZB (XY ((4 - q) % 4) Qm) (Qc d)))∘fun c=>c.map (Gz q d))=id:=by
  funext c
  show (c.map (Gz q d)).map _=c
  rw [List.map_map]
  have e:(put (XY ((4 - q) % 4) Qm) (v0.sub (ZB (XY ((4 - q) % 4) Qm) (Qc d)))∘Gz q d)=id:=funext fun a=>Iz q hq d a
  rw [e,List.map_id]
 rw [this,List.map_id]
theorem Oz {a b:List (Int×Int)} {f:FV} {c:V2} {e:Rat} (h1:Ev a.length b.length f) (h2:Z9 f.turn) (hc:∀ k,k≤f.M.toNat→AX a b f k=c) (he:0≤e):XU a b f e=(c.sub ⟨e,e⟩,c.add ⟨e,e⟩,true):=by
 have e1:EG a b f f.M.toNat=c:=by
  unfold EG
  rw [V2.ext']
  obtain ⟨k,hk,e⟩:=go (fun j=>(AX a b f j).x) f.M.toNat
  obtain ⟨l,hl,e2⟩:=go (fun j=>(AX a b f j).y) f.M.toNat
  exact ⟨by rw [e,hc k hk],by rw [e2,hc l hl]⟩
 have e2:EF a b f f.M.toNat=c:=by
  unfold EF
  rw [V2.ext']
  obtain ⟨k,hk,e⟩:=gi (fun j=>(AX a b f j).x) f.M.toNat
  obtain ⟨l,hl,e2⟩:=gi (fun j=>(AX a b f j).y) f.M.toNat
  exact ⟨by rw [e,hc k hk],by rw [e2,hc l hl]⟩
 unfold XU
 rw [if_pos ⟨h1,h2⟩]
 simp only [e1,e2]
 rw [if_neg]
 unfold V2.add V2.sub
 rintro (g | g) <;> simp only at g <;> grind
theorem Wj {t u:V2} (ht:Z9 t) (hu:Q4 u u≠0):JX u (ZB t u)=(t,0):=by
 unfold Z9 at ht
 have e1:Q4 (ZB t u) (ZB t u)=Q4 u u:=by unfold Q4 ZB; simp only; grind
 refine cU ⟨hu,e1.symm,?_,?_⟩
 ·have:Q4 u (ZB t u)=t.x*Q4 u u:=by unfold Q4 ZB; simp only; grind
  rw [this]; grind
 ·have:Q8 u (ZB t u)=t.y*Q4 u u:=by unfold Q4 Q8 ZB; simp only; grind
  rw [this]; grind
theorem Dz (g:Int×Int→Int×Int) (R:List (Int×Int)) (i:Nat) (h:i<R.length):(R.map g).getD i (0,0)=g (R.getD i (0,0)):=by
 rw [List.getD_eq_getElem?_getD,List.getElem?_map,List.getD_eq_getElem?_getD,List.getElem?_eq_getElem h]; rfl
theorem K0 (l:List Int) (W H M:Nat):(Xo l W H M).length=M+3:=by unfold Xo QX; simp
theorem Kh (l:List Int) (W H M:Nat):(Xs l W H M).length=M+3:=by unfold Xs; rw [Da]; omega
theorem Bz (l:List Int) (W H M k:Nat) (h:k≤M):(Xo l W H M).getD (k+1) (0,0)=Xj l W H M k:=by
 unfold Xo
 rw [UJ _ _ _ _ (by simp [QX]; omega),I4 l W H M k h]
theorem Ym (l:List Int) (W H M:Nat):(Xo l W H M).getD (M+2) (0,0)=(0,(H:Int)):=by
 unfold Xo
 rw [List.cons_append,List.getD_cons_succ,List.getD_eq_getElem?_getD,List.getElem?_append_right (by simp [QX])]
 simp [QX]
theorem au (l:List Int) (W H M i:Nat) (h:i<M):(Xs l W H M).getD (3+i) (0,0)=Xj l W H M (M - i):=by
 unfold Xs Kg
 rw [List.getD_eq_getElem?_getD,List.getElem?_append_right (by simp),List.getElem?_map]
 simp [h]
theorem Ci (l:List Int) (W H M k:Nat) (h:k≤M) (i:Nat) (hi:i=if k=0 then 0 else M+3 - k):(Xs l W H M).getD i (0,0)=Xj l W H M k:=by
 subst hi
 split
 ·rename_i h0
  subst h0; rfl
 ·rename_i h0
  rw [show M+3 - k=3+(M - k) by omega,au l W H M (M - k) (by omega),show M - (M - k)=k by omega]
theorem TU (l:List Int):D6 l<4:=by
 have:=XM l 7 4 (by omega)
 unfold D6; omega
theorem Hd (l:List Int) (a:V2):ZB (Jd l) (Gz (D6 l) (Cx l) a)=a.sub (Qp l):=by
 have h:=Iz (D6 l) (TU l) (Cx l) a
 have h:put (Jd l) (Qp l) (Gz (D6 l) (Cx l) a)=a:=h
 unfold put at h
 generalize ZB (Jd l) (Gz (D6 l) (Cx l) a)=x at *
 rw [← h]
 unfold V2.add V2.sub; rw [V2.ext']; exact ⟨by simp only; grind,by simp only; grind⟩
def Iw (l:List Int) (M:Nat):FV:=Jr 1 (M+2) M (Jd l)
theorem PT (q:Nat) (d p:Int×Int):Qc (Ol q d p)=Gz q d (Qc p):=by
 unfold Gz
 rw [← Iy]
 unfold Ol Qc V2.add
 simp only [Rat.intCast_add]
theorem eo (l:List Int) (W H M k:Nat) (hM:1≤M) (hk:k≤M):AX (Xo l W H M) (Xz l W H M) (Iw l M) k=Qp l:=by
 have hx:xK (Xo l W H M).length (Iw l M) k=k+1:=by
  rw [K0]
  show ((((1:Nat):Int)+(k:Int)) % ((M+3:Nat):Int)).toNat=k+1
  rw [Int.emod_eq_of_lt (by omega) (by omega)]; omega
 have hl:(Xz l W H M).length=M+3:=by unfold Xz; rw [List.length_map,Kh]
 obtain ⟨i,hi⟩:∃ i,i=if k=0 then 0 else M+3 - k:=⟨_,rfl⟩
 have hlt:i<M+3:=by rw [hi]; split <;> omega
 have hy:(((Iw l M).EB+1 - (k:Int)) % ((Xz l W H M).length:Int)).toNat=i:=by
  rw [hl]
  show ((((M+2:Nat):Int)+1 - (k:Int)) % ((M+3:Nat):Int)).toNat=i
  by_cases h0:k=0
  ·rw [hi,if_pos h0,h0]
   rw [show (((M+2:Nat):Int)+1 - ((0:Nat):Int))=((M+3:Nat):Int) by omega,Int.emod_self]; rfl
  ·rw [hi,if_neg h0,Int.emod_eq_of_lt (by omega) (by omega)]; omega
 unfold AX
 rw [hx,hy,Bz l W H M k hk]
 have e:(Xz l W H M).getD i (0,0)=Ol (D6 l) (Cx l) (Xj l W H M k):=by
  unfold Xz
  rw [Dz _ _ _ (by rw [Kh]; exact hlt),Ci l W H M k hk i hi]
 rw [e,PT]
 show (Qc (Xj l W H M k)).sub (ZB (Jd l) (Gz (D6 l) (Cx l) (Qc (Xj l W H M k))))=Qp l
 rw [Hd]
 generalize Qc (Xj l W H M k)=P
 generalize Qp l=A
 unfold V2.sub; rw [V2.ext']; exact ⟨by simp only; grind,by simp only; grind⟩
theorem GO (t:V2) (h:Z9 t):∀ q,Z9 (XY q t)
 | 0=>h
 | q+1=>by
  have:=GO t h q
  unfold Z9 at *
  show (-(XY q t).y)*(-(XY q t).y)+(XY q t).x*(XY q t).x=1
  grind
theorem Gb (l:List Int):Z9 (Jd l):=GO Qm (by unfold Z9 Qm; decide +kernel) _
theorem K9 (l:List Int) (W H M:Nat):(Xz l W H M).length=M+3:=by unfold Xz; rw [List.length_map,Kh]
theorem RU (l:List Int) (W H M:Nat) (hM:1≤M):Ev (Xo l W H M).length (Xz l W H M).length (Iw l M):=by
 rw [K0,K9]
 show (0≤((1:Nat):Int)∧((1:Nat):Int)<((M+3:Nat):Int))∧(0≤((M+2:Nat):Int)∧((M+2:Nat):Int)<((M+3:Nat):Int))∧1≤((M:Nat):Int)∧((M:Nat):Int)<((M+3:Nat):Int)∧((M:Nat):Int)<((M+3:Nat):Int)
 omega
theorem EK (l:List Int) (W H M:Nat) (hM:1≤M) (hH:1≤H):Kr (Xo l W H M) (Xz l W H M) ((1:Nat):Int) ((M+2:Nat):Int)=(Jd l,true):=by
 have e1:GV (Xo l W H M) 1=(Qc (Xj l W H M 1)).sub (Qc (Xj l W H M 0)):=by
  unfold GV
  rw [K0,Nat.mod_eq_of_lt (by omega),Bz l W H M 1 hM,Bz l W H M 0 (Nat.zero_le _)]
 have e2:D3 (GV (Xz l W H M) (M+2))=(Gz (D6 l) (Cx l) (Qc (Xj l W H M 1))).sub (Gz (D6 l) (Cx l) (Qc (Xj l W H M 0))):=by
  unfold GV
  rw [K9,show M+2+1=M+3 from rfl,Nat.mod_self]
  have a0:(Xz l W H M).getD 0 (0,0)=Ol (D6 l) (Cx l) (Xj l W H M 0):=by
   unfold Xz
   rw [Dz _ _ _ (by rw [Kh]; omega),Ci l W H M 0 (Nat.zero_le _) 0 rfl]
  have a1:(Xz l W H M).getD (M+2) (0,0)=Ol (D6 l) (Cx l) (Xj l W H M 1):=by
   unfold Xz
   rw [Dz _ _ _ (by rw [Kh]; omega),Ci l W H M 1 hM (M+2) (by rw [if_neg (by omega)]; omega)]
  rw [a0,a1,PT,PT]
  unfold D3 V2.sub; rw [V2.ext']; exact ⟨by simp only; grind,by simp only; grind⟩
 have e3:ZB (Jd l) ((Gz (D6 l) (Cx l) (Qc (Xj l W H M 1))).sub (Gz (D6 l) (Cx l) (Qc (Xj l W H M 0))))=(Qc (Xj l W H M 1)).sub (Qc (Xj l W H M 0)):=by
  have b1:=Hd l (Qc (Xj l W H M 1))
  have b0:=Hd l (Qc (Xj l W H M 0))
  have hr:∀ x y:V2,ZB (Jd l) (x.sub y)=(ZB (Jd l) x).sub (ZB (Jd l) y):=fun x y=>by
   unfold ZB V2.sub; rw [V2.ext']; exact ⟨by simp only; grind,by simp only; grind⟩
  rw [hr,b1,b0]
  unfold V2.sub; rw [V2.ext']; exact ⟨by simp only; grind,by simp only; grind⟩
 have hu:Q4 ((Gz (D6 l) (Cx l) (Qc (Xj l W H M 1))).sub (Gz (D6 l) (Cx l) (Qc (Xj l W H M 0)))) ((Gz (D6 l) (Cx l) (Qc (Xj l W H M 1))).sub (Gz (D6 l) (Cx l) (Qc (Xj l W H M 0))))≠0:=by
  have hd:∀ u:V2,Q4 (ZB (Jd l) u) (ZB (Jd l) u)=Q4 u u:=fun u=>by
   have:=Gb l
   unfold Z9 at this
   unfold Q4 ZB; simp only; grind
  rw [← hd,e3,← e1,NH]
  intro h0
  have h1:aT (Xo l W H M) 1=0:=by exact_mod_cast h0
  unfold aT Mc at h1
  rw [K0,Nat.mod_eq_of_lt (by omega),Bz l W H M 1 hM,Bz l W H M 0 (Nat.zero_le _)] at h1
  have hy:1≤(Xj l W H M 1).2 - (Xj l W H M 0).2:=by
   unfold Xj
   simp only
   rw [if_neg (show ¬ 0=M by omega)]
   split <;> omega
  simp only at h1
  have k1:=Int.mul_le_mul hy hy (by omega) (by omega)
  have k2:0≤((Xj l W H M 1).1 - (Xj l W H M 0).1)*((Xj l W H M 1).1 - (Xj l W H M 0).1):=by
   rcases Int.le_total 0 ((Xj l W H M 1).1 - (Xj l W H M 0).1) with h | h
   ·exact Int.mul_nonneg h h
   ·exact Int.mul_nonneg_of_nonpos_of_nonpos h h
  omega
 unfold Kr
 rw [if_pos (by rw [K0,K9]; unfold lQ; omega),Int.toNat_natCast,Int.toNat_natCast,e1,e2,← e3,Wj (Gb l) hu]
 rfl
theorem Y0 (l:List Int) (W H M:Nat) (hM:1≤M) {e:Rat} (he:0≤e):XU (Xo l W H M) (Xz l W H M) (Iw l M) e=((Qp l).sub ⟨e,e⟩,(Qp l).add ⟨e,e⟩,true) :=
 Oz (RU l W H M hM) (Gb l) (fun k hk=>eo l W H M k hM (by have:(Iw l M).M.toNat=M:=rfl; omega)) he
theorem Gn {A B:PV} (l:List Int) (W H M:Nat) (hM:1≤M) (hH:1≤H) (rA:A.rim=Xo l W H M) (rB:B.rim=Xz l W H M) (hw:∀ k,OT A B (Iw l M) k=false) {e:Rat} (he:0≤e)
  (hc:Cu (Qf (Xp (Xo l W H M))) (Qf (Xp (Xs l W H M))) 0=true):FM A B (J7 A B (Iw l M) e) e=0∧(J7 A B (Iw l M) e).lo=(Qp l).sub ⟨e,e⟩∧(J7 A B (Iw l M) e).hi=(Qp l).add ⟨e,e⟩:=by
 have hb:=Y0 l W H M hM he
 have hlo:(J7 A B (Iw l M) e).lo=(Qp l).sub ⟨e,e⟩:=by unfold J7; rw [rA,rB,hb]
 have hhi:(J7 A B (Iw l M) e).hi=(Qp l).add ⟨e,e⟩:=by unfold J7; rw [rA,rB,hb]
 refine ⟨(Hh _ _ _ _).2 ⟨?_,fun k _=>hw k,⟨0,?_,?_,?_⟩,⟨?_,rfl,rfl⟩,?_⟩,hlo,hhi⟩
 ·rw [rA,rB]; exact RU l W H M hM
 ·show 0<((M:Nat):Int).toNat; omega
 all_goals try
  have hx:xK A.rim.length (J7 A B (Iw l M) e) 0=1:=by
   rw [rA,K0]
   show ((((1:Nat):Int)+((0:Nat):Int)) % ((M+3:Nat):Int)).toNat=1
   rw [Int.emod_eq_of_lt (by omega) (by omega)]; omega
  have hy:yK B.rim.length (J7 A B (Iw l M) e) 0=M+2:=by
   rw [rB,K9]
   show ((((M+2:Nat):Int) - ((0:Nat):Int)) % ((M+3:Nat):Int)).toNat=M+2
   rw [Int.emod_eq_of_lt (by omega) (by omega)]; omega
 ·unfold LR; rw [hx,hy,rA,rB,EK l W H M hM hH]
 ·unfold LR; rw [hx,hy,rA,rB,EK l W H M hM hH]; rfl
 ·show (XU A.rim B.rim (Iw l M) e).2.2=true
  rw [rA,rB,hb]
 ·unfold Bk
  have hm:H3 (J7 A B (Iw l M) e)=Qp l:=by
   unfold H3
   rw [hlo,hhi,show Rat.divInt 1 2=1 / 2 by decide +kernel]
   unfold V2.scale V2.add V2.sub; rw [V2.ext']; exact ⟨by simp only; grind,by simp only; grind⟩
  have hq:JD B (Jd l) (Qp l)=Qf (Xp (Xs l W H M)):=T3 B (Xs l W H M) (D6 l) (TU l) (Cx l) (by rw [Kh]; omega) rB
  rw [hm,OY,rA]
  show Cu _ (JD B (Jd l) (Qp l)) (-e)=true
  rw [hq]
  exact Wk hc (by grind)
theorem UP (l:List Int) (W H M:Nat) {g:FV} {k i j:Nat} {c:Int×Int} (ht:g.turn=Jd l) (hx:xK (Xo l W H M).length g k=i) (hy:yL (Xz l W H M).length g k=j) (hj:j<M+3) (hc:(Xs l W H M).getD j (0,0)=c) :
  AX (Xo l W H M) (Xz l W H M) g k=(Qc ((Xo l W H M).getD i (0,0))).sub ((Qc c).sub (Qp l)):=by
 have hy:((g.EB+1 - (k:Int)) % ((Xz l W H M).length:Int)).toNat=j:=hy
 unfold AX
 rw [hx,hy,ht]
 have e:(Xz l W H M).getD j (0,0)=Ol (D6 l) (Cx l) c:=by
  unfold Xz
  rw [Dz _ _ _ (by rw [Kh]; exact hj),hc]
 rw [e,PT,Hd]
theorem Ya (l:List Int) (W H M:Nat) (hM:1≤M∧M≤3) {g:FV} (ht:g.turn=Jd l) (h1:0≤g.EA∧g.EA<((M+3:Nat):Int)) (h2:0≤g.EB∧g.EB<((M+3:Nat):Int)) (h3:(M:Int)<g.M) (h4:g.M<((M+3:Nat):Int))
  (p2:(1 - g.EA) % ((M+3:Nat):Int)+M≤g.M) (p3:(g.EB - (1 - g.EA) % ((M+3:Nat):Int)) % ((M+3:Nat):Int)=M+2) :
  ∃ i j,i≤g.M.toNat∧j≤g.M.toNat∧(AX (Xo l W H M) (Xz l W H M) g i).x=(Qp l).x∧(AX (Xo l W H M) (Xz l W H M) g j).x=(Qp l).x - W:=by
 have at0:∀ P:V2,(P.sub (P.sub (Qp l))).x=(Qp l).x:=fun P=>by unfold V2.sub; simp only; grind
 have f0:(Xo l W H M).getD 0 (0,0)=(0,0):=rfl
 have f1:=Bz l W H M 0 (Nat.zero_le _)
 have f2:=Ym l W H M
 have s0:(Xs l W H M).getD 0 (0,0)=Xj l W H M 0:=rfl
 have s1:(Xs l W H M).getD 1 (0,0)=((W:Int),0):=rfl
 have s2:(Xs l W H M).getD 2 (0,0)=((W:Int),(H:Int)):=rfl
 have lf:=K0 l W H M
 have ls:=K9 l W H M
 have w:∀ y:Int,((Qc (0,y)).sub ((Qc ((W:Int),y)).sub (Qp l))).x=(Qp l).x - W:=fun y=>by
  unfold Qc V2.sub; simp only
  have:((0:Int):Rat)=0:=rfl
  have h:(((W:Nat):Int):Rat)=((W:Nat):Rat):=rfl
  rw [this,h]; grind
 obtain ⟨d,hd⟩:∃ d:Nat,(1 - g.EA) % ((M+3:Nat):Int)=d:=⟨((1 - g.EA) % ((M+3:Nat):Int)).toNat,by have:=Int.emod_nonneg (1 - g.EA) (show ((M+3:Nat):Int)≠0 by omega); omega⟩
 rw [hd] at p2 p3
 by_cases h0:d=0
 ·refine ⟨0,M+1,by omega,by omega,?_,?_⟩
  ·rw [UP l W H M (i:=1) (j:=0) ht ?_ ?_ (by omega) s0]
   ·rw [f1]; exact at0 _
   ·rw [lf]; unfold xK; rcases (show M=1∨M=2∨M=3 by omega) with rfl | rfl | rfl <;> omega
   ·rw [ls]; unfold yL; rcases (show M=1∨M=2∨M=3 by omega) with rfl | rfl | rfl <;> omega
  ·rw [UP l W H M (i:=M+2) (j:=2) ht ?_ ?_ (by omega) s2]
   ·rw [f2]; exact w _
   ·rw [lf]; unfold xK; rcases (show M=1∨M=2∨M=3 by omega) with rfl | rfl | rfl <;> omega
   ·rw [ls]; unfold yL; rcases (show M=1∨M=2∨M=3 by omega) with rfl | rfl | rfl <;> omega
 ·refine ⟨d,d - 1,by omega,by omega,?_,?_⟩
  ·rw [UP l W H M (i:=1) (j:=0) ht ?_ ?_ (by omega) s0]
   ·rw [f1]; exact at0 _
   ·rw [lf]; unfold xK; rcases (show M=1∨M=2∨M=3 by omega) with rfl | rfl | rfl <;> omega
   ·rw [ls]; unfold yL; rcases (show M=1∨M=2∨M=3 by omega) with rfl | rfl | rfl <;> omega
  ·rw [UP l W H M (i:=0) (j:=1) ht ?_ ?_ (by omega) s1]
   ·rw [f0]; exact w _
   ·rw [lf]; unfold xK; rcases (show M=1∨M=2∨M=3 by omega) with rfl | rfl | rfl <;> omega
   ·rw [ls]; unfold yL; rcases (show M=1∨M=2∨M=3 by omega) with rfl | rfl | rfl <;> omega
theorem P0 {A B:PV} (l:List Int) (W H M:Nat) (hM:1≤M∧M≤3) (hH:1≤H) (hW:4≤W) (rA:A.rim=Xo l W H M) (rB:B.rim=Xz l W H M) (hw:∀ k,OT A B (Iw l M) k=false) {e:Rat} (he:0≤e) (h1:e≤1)
  (hc:Cu (Qf (Xp (Xo l W H M))) (Qf (Xp (Xs l W H M))) 0=true):J7 A B (Iw l M) e∈Mf A B e:=by
 have nA:A.rim.length=M+3:=by rw [rA,K0]
 have nB:B.rim.length=M+3:=by rw [rB,K9]
 have hk:=(Gn l W H M hM.1 hH rA rB hw he hc).1
 refine List.mem_filter.2 ⟨WM hk rfl rfl (by omega) (by omega),?_⟩
 rw [Bool.not_eq_true',Bool.eq_false_iff]
 intro h
 obtain ⟨g,hg,hp⟩:=List.any_eq_true.1 h
 obtain ⟨p1,p2,p3,p4⟩:=of_decide_eq_true hp
 obtain ⟨_,_,q1,q2,q3,q4,q5⟩:=HH hg (by omega) (by omega)
 have hcg:=Gm hg (by omega) (by omega)
 obtain ⟨_,_,_,⟨ha,_⟩,_⟩:=(Hh A B g e).1 hcg
 rw [rA,rB] at ha
 obtain ⟨_,_,_,hx,_⟩:=cQ ha
 rw [nA] at q1 q4 p2 p3
 rw [nB] at q2 p3
 obtain ⟨i,j,hi,hj,di,dj⟩:=Ya l W H M hM (g:=g) p4.symm q1 q2 p1 q4 p2 p3
 have m1:=ol (fun k=>(AX (Xo l W H M) (Xz l W H M) g k).x) g.M.toNat i hi
 have m2:=og (fun k=>(AX (Xo l W H M) (Xz l W H M) g k).x) g.M.toNat j hj
 have m1:(AX (Xo l W H M) (Xz l W H M) g i).x≤_:=m1
 have m2:_≤(AX (Xo l W H M) (Xz l W H M) g j).x:=m2
 rw [di] at m1
 rw [dj] at m2
 unfold EG EF at hx
 simp only at hx
 have hWr:(4:Rat)≤(W:Rat):=by exact_mod_cast hW
 grind
theorem UX (l:List Int) (W H:Nat):Xo l W H 1=[(0,0),((Xj l W H 1 0).1,0),((Xj l W H 1 1).1,(H:Int)),(0,(H:Int))]:=rfl
theorem RD (l:List Int) (W H:Nat):Xs l W H 1=[((Xj l W H 1 0).1,0),((W:Int),0),((W:Int),(H:Int)),((Xj l W H 1 1).1,(H:Int))]:=rfl
theorem UY (l:List Int) (W H:Nat):Xo l W H 2=[(0,0),((Xj l W H 2 0).1,0),((Xj l W H 2 1).1,1),((Xj l W H 2 2).1,(H:Int)),(0,(H:Int))]:=rfl
theorem RE (l:List Int) (W H:Nat):Xs l W H 2=[((Xj l W H 2 0).1,0),((W:Int),0),((W:Int),(H:Int)),((Xj l W H 2 2).1,(H:Int)),((Xj l W H 2 1).1,1)]:=rfl
theorem UZ (l:List Int) (W H:Nat):Xo l W H 3=[(0,0),((Xj l W H 3 0).1,0),((Xj l W H 3 1).1,1),((Xj l W H 3 2).1,2),((Xj l W H 3 3).1,(H:Int)),(0,(H:Int))]:=rfl
theorem RF (l:List Int) (W H:Nat):Xs l W H 3=[((Xj l W H 3 0).1,0),((W:Int),0),((W:Int),(H:Int)),((Xj l W H 3 3).1,(H:Int)),((Xj l W H 3 2).1,2),((Xj l W H 3 1).1,1)]:=rfl
theorem dh (l:List Int) (W H M:Nat) (hM:1≤M∧M≤3):JA (Xp (Xo l W H M))+JA (Xp (Xs l W H M))=(W:Rat)*(H:Rat):=by
 have hr:Rat.divInt 1 2=1 / 2:=by decide +kernel
 rcases (show M=1∨M=2∨M=3 by omega) with rfl | rfl | rfl
 ·rw [UX,RD]
  unfold JA Xp
  simp only [List.map_cons,List.map_nil,List.length_cons,List.length_nil,Nat.zero_add,Nat.reduceAdd,JY,Nat.reduceMod,List.getD_cons_zero,List.getD_cons_succ,Q8,Qc,hr]
  have e1:(((W:Nat):Int):Rat)=((W:Nat):Rat):=rfl
  have e2:(((H:Nat):Int):Rat)=((H:Nat):Rat):=rfl
  have e0:((0:Int):Rat)=0:=rfl
  rw [e1,e2,e0]
  grind
 ·rw [UY,RE]
  unfold JA Xp
  simp only [List.map_cons,List.map_nil,List.length_cons,List.length_nil,Nat.zero_add,Nat.reduceAdd,JY,Nat.reduceMod,List.getD_cons_zero,List.getD_cons_succ,Q8,Qc,hr]
  have e1:(((W:Nat):Int):Rat)=((W:Nat):Rat):=rfl
  have e2:(((H:Nat):Int):Rat)=((H:Nat):Rat):=rfl
  have e0:((0:Int):Rat)=0:=rfl
  have e3:((1:Int):Rat)=1:=rfl
  rw [e1,e2,e0,e3]
  grind
 ·rw [UZ,RF]
  unfold JA Xp
  simp only [List.map_cons,List.map_nil,List.length_cons,List.length_nil,Nat.zero_add,Nat.reduceAdd,JY,Nat.reduceMod,List.getD_cons_zero,List.getD_cons_succ,Q8,Qc,hr]
  have e1:(((W:Nat):Int):Rat)=((W:Nat):Rat):=rfl
  have e2:(((H:Nat):Int):Rat)=((H:Nat):Rat):=rfl
  have e0:((0:Int):Rat)=0:=rfl
  have e3:((1:Int):Rat)=1:=rfl
  have e4:((2:Int):Rat)=2:=rfl
  rw [e1,e2,e0,e3,e4]
  grind
theorem nP (g:Nat→Rat):∀ n k,k<n→dp g n≤g k
 | n+1,k,h=>by
  unfold dp Mz
  by_cases hk:k=n
  ·subst hk
   split
   ·exact Rat.le_refl
   ·rename_i h; exact Rat.not_lt.1 h
  ·have ih:=nP g n k (by omega)
   split
   ·rename_i h; exact Rat.le_trans (Rat.le_of_lt h) ih
   ·exact ih
theorem nN (g:Nat→Rat):∀ n,∃ k,k≤n - 1∧dp g n=g k
 | 0=>⟨0,Nat.le_refl _,rfl⟩
 | n+1=>by
  obtain ⟨k,hk,e⟩:=nN g n
  unfold dp Mz
  split
  ·exact ⟨n,by omega,rfl⟩
  ·exact ⟨k,by omega,e⟩
theorem nU (g:Nat→Rat):∀ n k,k<n→g k≤dI g n
 | n+1,k,h=>by
  unfold dI MC
  by_cases hk:k=n
  ·subst hk
   split
   ·exact Rat.le_refl
   ·rename_i h; exact Rat.not_lt.1 h
  ·have ih:=nU g n k (by omega)
   split
   ·rename_i h; exact Rat.le_trans ih (Rat.le_of_lt h)
   ·exact ih
theorem nR (g:Nat→Rat):∀ n,∃ k,k≤n - 1∧dI g n=g k
 | 0=>⟨0,Nat.le_refl _,rfl⟩
 | n+1=>by
  obtain ⟨k,hk,e⟩:=nR g n
  unfold dI MC
  split
  ·exact ⟨n,by omega,rfl⟩
  ·exact ⟨k,by omega,e⟩
theorem nO {g:Nat→Rat} {n:Nat} {c:Rat} (h0:0<n) (h:∀ k,k<n→c≤g k) (he:∃ k,k<n∧g k=c):dp g n=c:=by
 obtain ⟨k,hk,e⟩:=nN g n
 obtain ⟨j,hj,e2⟩:=he
 refine Rat.le_antisymm ?_ ?_
 ·rw [← e2]; exact nP g n j hj
 ·rw [e]; exact h k (by omega)
theorem nT {g:Nat→Rat} {n:Nat} {c:Rat} (h0:0<n) (h:∀ k,k<n→g k≤c) (he:∃ k,k<n∧g k=c):dI g n=c:=by
 obtain ⟨k,hk,e⟩:=nR g n
 obtain ⟨j,hj,e2⟩:=he
 refine Rat.le_antisymm ?_ ?_
 ·rw [e]; exact h k (by omega)
 ·rw [← e2]; exact nU g n j hj
theorem se (l:List Int) (W H M:Nat) (hW:4≤W∧W≤7) (hM:1≤M∧M≤3) (hH:3≤H∧H≤6):∀ c∈Xs l W H M ++ Xo l W H M,(0≤c.1∧c.1≤W)∧0≤c.2∧c.2≤H:=by
 have hc:∀ k,k≤M→(0≤(Xj l W H M k).1∧(Xj l W H M k).1≤W)∧0≤(Xj l W H M k).2∧(Xj l W H M k).2≤H:=fun k hk=>by
  have b:=(EQ l W H M k hW hH.2 (by omega)).1
  refine ⟨by omega,?_⟩
  unfold Xj
  simp only
  split <;> omega
 intro c h
 rcases List.mem_append.1 h with h | h
 ·unfold Xs Kg at h
  rcases List.mem_append.1 h with h | h
  ·simp only [List.mem_cons,List.not_mem_nil,or_false] at h
   rcases h with rfl | rfl | rfl
   ·exact hc 0 (by omega)
   ·simp only; omega
   ·simp only; omega
  ·obtain ⟨i,hi,rfl⟩:=List.mem_map.1 h
   exact hc _ (by omega)
 ·unfold Xo QX at h
  rcases List.mem_append.1 h with h | h
  ·rcases List.mem_cons.1 h with rfl | h
   ·simp only; omega
   ·obtain ⟨i,hi,rfl⟩:=List.mem_map.1 h
    exact hc _ (by have:=List.mem_range.1 hi; omega)
  ·obtain rfl:=List.mem_singleton.1 h
   simp only; omega
theorem jU (l:List Int) (W H M:Nat) (hW:4≤W∧W≤7) (hM:1≤M∧M≤3) (hH:3≤H∧H≤6) (P:List V2) (hP:P=Xp (Xs l W H M ++ Xo l W H M)):CG P P.length=⟨0,0⟩∧CF P P.length=⟨(W:Rat),(H:Rat)⟩:=by
 subst hP
 have hin:=se l W H M hW hM hH
 have hlen:(Xp (Xs l W H M ++ Xo l W H M)).length=(Xs l W H M ++ Xo l W H M).length:=by simp [Xp]
 have l1:=Kh l W H M
 have l2:=K0 l W H M
 have hl:(Xs l W H M ++ Xo l W H M).length=2*(M+3):=by rw [List.length_append,l1,l2]; omega
 have s0:(Xs l W H M ++ Xo l W H M).getD 2 (0,0)=((W:Int),(H:Int)):=rfl
 have f0:(Xs l W H M ++ Xo l W H M).getD (M+3) (0,0)=(0,0):=by
  rw [List.getD_eq_getElem?_getD,List.getElem?_append_right (by omega),l1,Nat.sub_self]; rfl
 rw [hlen,hl]
 have hk:∀ k,k<2*(M+3)→(Xs l W H M ++ Xo l W H M).getD k (0,0)∈Xs l W H M ++ Xo l W H M:=fun k h=>Js (by rw [hl]; exact h)
 generalize Xs l W H M ++ Xo l W H M=R at *
 have c0:((0:Int):Rat)=0:=rfl
 unfold CG CF
 simp only [Z4]
 rw [V2.ext',V2.ext']
 refine ⟨⟨nO (by omega) (fun k h=>?_) ⟨M+3,by omega,by rw [f0]; rfl⟩,nO (by omega) (fun k h=>?_) ⟨M+3,by omega,by rw [f0]; rfl⟩⟩,nT (by omega) (fun k h=>?_) ⟨2,by omega,by rw [s0]; rfl⟩,nT (by omega) (fun k h=>?_) ⟨2,by omega,by rw [s0]; rfl⟩⟩
 ·exact Rat.intCast_nonneg.2 (hin _ (hk k h)).1.1
 ·exact Rat.intCast_nonneg.2 (hin _ (hk k h)).2.1
 ·have:=(hin _ (hk k h)).1.2
  show (((R.getD k (0,0)).1:Int):Rat)≤(((W:Nat):Int):Rat)
  exact Rat.intCast_le_intCast.2 this
 ·have:=(hin _ (hk k h)).2.2
  show (((R.getD k (0,0)).2:Int):Rat)≤(((H:Nat):Int):Rat)
  exact Rat.intCast_le_intCast.2 this
end
end Go.Ab.N
namespace Go.Ab.N
open Go Go.RowKit Go.Proofs
set_option maxRecDepth 10000
set_option maxHeartbeats 4000000
theorem qz (p q b a:Int×Int):(nI p q).1*(b.1 - a.1)+(nI p q).2*(b.2 - a.2)=GX p q a - GX p q b:=by
 unfold nI GX; grind
theorem qg (p q:Int×Int):GX p q p=0:=by unfold GX; grind
theorem qh (p q:Int×Int):GX p q q=0:=by unfold GX; grind
def av (p q r d e f:Nat×Nat):Bool:=Nat.ble (M3 p q d) (M2 p q d) && Nat.ble (M3 p q e) (M2 p q e) && Nat.ble (M3 p q f) (M2 p q f) && Nat.ble (M2 p q r) (M3 p q r)
def N1 (p q r a b c:Nat×Nat):Bool:=Nat.ble (M2 p q a) (M3 p q a) && Nat.ble (M2 p q b) (M3 p q b) && Nat.ble (M2 p q c) (M3 p q c) && Nat.ble (M3 p q r) (M2 p q r)
theorem il {n:Int×Int} {A B:List (Int×Int)} (h:∀ a∈A,∀ b∈B,0≤n.1*(b.1 - a.1)+n.2*(b.2 - a.2)):LH n A B=true :=
 List.all_eq_true.2 fun a ha=>List.all_eq_true.2 fun b hb=>decide_eq_true (h a ha b hb)
theorem BK {p q:Nat×Nat} {A B:List (Nat×Nat)} (hA:∀ a∈A,0≤GX (ci p) (ci q) (ci a)) (hB:∀ b∈B,GX (ci p) (ci q) (ci b)≤0):LH (nI (ci p) (ci q)) (Cz A) (Cz B)=true:=by
 refine il fun x hx y hy=>?_
 obtain ⟨a,ha,rfl⟩:=List.mem_map.1 hx
 obtain ⟨b,hb,rfl⟩:=List.mem_map.1 hy
 rw [qz]
 have:=hA a ha; have:=hB b hb
 omega
theorem Af {p q d:Nat×Nat} (h:Nat.ble (M3 p q d) (M2 p q d)=true):GX (ci p) (ci q) (ci d)≤0:=by
 have:=Nat.le_of_ble_eq_true h
 rw [Px]; omega
theorem Ae {p q d:Nat×Nat} (h:Nat.ble (M2 p q d) (M3 p q d)=true):0≤GX (ci p) (ci q) (ci d):=by
 have:=Nat.le_of_ble_eq_true h
 rw [Px]; omega
theorem sG (p q:Nat×Nat):GX (ci p) (ci q) (ci p)=0:=qg _ _
theorem sH (p q:Nat×Nat):GX (ci p) (ci q) (ci q)=0:=qh _ _
def Ri (A B:List (Nat×Nat)):Bool :=
 match A,B with
 | [a,b,c],[d,e,f]=>av a b c d e f || av b c a d e f || av c a b d e f || N1 e d f a b c || N1 f e d a b c || N1 d f e a b c || gE A B
 | _,_=>false
theorem gG {A B:List (Nat×Nat)} (h:Ri A B=true):MK (Cz A) (Cz B)=true:=by
 unfold Ri at h
 split at h
 rotate_left
 ·cases h
 rename_i a b c d e f
 simp only [Bool.or_eq_true] at h
 rcases h with (((((h | h) | h) | h) | h) | h) | h
 rotate_right
 ·exact gF h
 all_goals
  unfold MK
  rw [show I8 (Cz [a,b,c]) (Cz [d,e,f])=_ from UQ (ci a) (ci b) (ci c) (ci d) (ci e) (ci f)]
  simp only [List.any_cons,List.any_nil,Bool.or_false,Bool.or_eq_true]
  first | unfold av at h | unfold N1 at h
  simp only [Bool.and_eq_true] at h
  obtain ⟨⟨⟨h1,h2⟩,h3⟩,h4⟩:=h
 ·refine .inl (BK (fun x hx=>?_) (fun x hx=>?_)) <;> simp only [List.mem_cons,List.not_mem_nil,or_false] at hx <;> rcases hx with rfl | rfl | rfl
  all_goals first | exact Af h1 | exact Af h2 | exact Af h3 | exact Ae h4 | exact Int.le_of_eq (sG _ _).symm | exact Int.le_of_eq (sH _ _).symm
 ·refine .inr (.inl (BK (fun x hx=>?_) (fun x hx=>?_))) <;> simp only [List.mem_cons,List.not_mem_nil,or_false] at hx <;> rcases hx with rfl | rfl | rfl
  all_goals first | exact Af h1 | exact Af h2 | exact Af h3 | exact Ae h4 | exact Int.le_of_eq (sG _ _).symm | exact Int.le_of_eq (sH _ _).symm
 ·refine .inr (.inr (.inl (BK (fun x hx=>?_) (fun x hx=>?_)))) <;> simp only [List.mem_cons,List.not_mem_nil,or_false] at hx <;> rcases hx with rfl | rfl | rfl
  all_goals first | exact Af h1 | exact Af h2 | exact Af h3 | exact Ae h4 | exact Int.le_of_eq (sG _ _).symm | exact Int.le_of_eq (sH _ _).symm
 ·refine .inr (.inr (.inr (.inl (BK (fun x hx=>?_) (fun x hx=>?_))))) <;> simp only [List.mem_cons,List.not_mem_nil,or_false] at hx <;> rcases hx with rfl | rfl | rfl
  all_goals first | exact Ae h1 | exact Ae h2 | exact Ae h3 | exact Af h4 | exact Int.le_of_eq (sG _ _) | exact Int.le_of_eq (sH _ _)
 ·refine .inr (.inr (.inr (.inr (.inl (BK (fun x hx=>?_) (fun x hx=>?_)))))) <;> simp only [List.mem_cons,List.not_mem_nil,or_false] at hx <;> rcases hx with rfl | rfl | rfl
  all_goals first | exact Ae h1 | exact Ae h2 | exact Ae h3 | exact Af h4 | exact Int.le_of_eq (sG _ _) | exact Int.le_of_eq (sH _ _)
 ·refine .inr (.inr (.inr (.inr (.inr (.inl (BK (fun x hx=>?_) (fun x hx=>?_))))))) <;> simp only [List.mem_cons,List.not_mem_nil,or_false] at hx <;> rcases hx with rfl | rfl | rfl
  all_goals first | exact Ae h1 | exact Ae h2 | exact Ae h3 | exact Af h4 | exact Int.le_of_eq (sG _ _) | exact Int.le_of_eq (sH _ _)
def T5 (P Q:List (Nat×Nat)):Bool:=(HX P).all fun x=>(HX Q).all fun y=>Ri x y
theorem FN {P Q:List (Nat×Nat)} (h:T5 P Q=true):Cu (Qf (Xp (Cz P))) (Qf (Xp (Cz Q))) 0=true:=by
 refine WO ?_
 unfold dN
 rw [LZ,LZ]
 refine List.all_eq_true.2 fun x hx=>List.all_eq_true.2 fun y hy=>?_
 obtain ⟨a,ha,rfl⟩:=List.mem_map.1 hx
 obtain ⟨b,hb,rfl⟩:=List.mem_map.1 hy
 exact gG (List.all_eq_true.1 (List.all_eq_true.1 h a ha) b hb)
end Go.Ab.N
namespace Go.Ab.N
set_option maxRecDepth 10000
set_option maxHeartbeats 4000000
noncomputable section
def bR {α:Type} (x y:α) (b:Bool):α:=Bool.rec x y b
def BN {α:Type} (d:α) (l:List α):Nat→α:=List.rec (fun _=>d) (fun a _ ih n=>Nat.rec a (fun m _=>ih m) n) l
theorem C4 {α:Type} (d:α):∀ (l:List α) (i:Nat),BN d l i=l.getD i d
 | [],_=>rfl
 | _ :: _,0=>rfl
 | _ :: l,i+1=>C4 d l i
def Wl {α:Type} (p:α→Bool) (l:List α):Bool:=List.rec true (fun a _ ih=>Bool.rec false ih (p a)) l
theorem H9 {α:Type} (p:α→Bool):∀ l:List α,Wl p l=l.all p
 | []=>rfl
 | a :: l=>by
  show bR false (Wl p l) (p a)=(p a && l.all p)
  rw [H9 p l]; cases p a <;> rfl
def GZ (p:Nat→Bool) (n:Nat):Nat→Nat:=Nat.rec (fun i=>i) (fun _ ih i=>Bool.rec (ih (Nat.succ i)) i (p i)) n
theorem NN (p:Nat→Bool):∀ n i:Nat,GZ p n i=i+(List.range' i n).findIdx p
 | 0,i=>by show i=i+0; omega
 | n+1,i=>by
  show bR (GZ p n (i+1)) i (p i)=_
  rw [List.range'_succ,List.findIdx_cons,NN p n (i+1)]
  cases p i
  ·show i+1+_=i+(_+1); omega
  ·show i=i+0; omega
def Yh (l:List Nat):Nat→List Nat:=List.rec (fun _=>[]) (fun a t ih n=>Nat.rec t (fun m _=>a :: ih m) n) l
theorem NJ:∀ (l:List Nat) (i:Nat),Yh l i=l.eraseIdx i
 | [],_=>rfl
 | _ :: _,0=>rfl
 | a :: l,i+1=>by show a :: Yh l i=a :: l.eraseIdx i; rw [NJ l i]
def Ln (a b:Bool):Bool:=Bool.rec false b a
def mi (a b:Bool):Bool:=Bool.rec b true a
theorem Ha (a b:Bool):Ln a b=(a && b):=by cases a <;> rfl
theorem gz (a b:Bool):mi a b=(a || b):=by cases a <;> rfl
def ux (a b c:Nat×Nat):Nat:=Nat.add (Nat.add (Nat.mul b.1 c.2) (Nat.mul a.2 c.1)) (Nat.mul a.1 b.2)
def uw (a b c:Nat×Nat):Nat:=Nat.add (Nat.add (Nat.mul b.2 c.1) (Nat.mul a.1 c.2)) (Nat.mul a.2 b.1)
def V6 (a b c:Nat×Nat):Bool:=Nat.ble (uw a b c) (ux a b c)
def nY (a b c:Nat×Nat):Bool:=Nat.ble (ux a b c) (uw a b c)
def vH (a b c:Nat×Nat):Bool:=Nat.ble (Nat.succ (uw a b c)) (ux a b c)
def uN (P:List (Nat×Nat)) (a b c:Nat) (A B C:Nat×Nat) (k:Nat):Bool:=mi (Nat.beq k a) (mi (Nat.beq k c) (mi (Nat.beq k b) (Bool.rec true false (Ln (V6 A B (BN (0,0) P k)) (Ln (V6 B C (BN (0,0) P k)) (V6 C A (BN (0,0) P k)))))))
theorem qc (P:List (Nat×Nat)) (a b c k:Nat):uN P a b c (P.getD a (0,0)) (P.getD b (0,0)) (P.getD c (0,0)) k=Pq P a b c k:=by
 unfold uN Pq ql
 simp only [gz,Ha,C4]
 have e:∀ x:Bool,(Bool.rec true false x:Bool)=!x:=fun x=>by cases x <;> rfl
 rw [e]
 show _=(Nat.beq k a || Nat.beq k c || Nat.beq k b || !(V6 _ _ _ && V6 _ _ _ && V6 _ _ _))
 simp only [Bool.or_assoc,Bool.and_assoc]
def vo (P:List (Nat×Nat)) (R:List Nat) (a b c:Nat) (A B C:Nat×Nat):Bool:=Ln (vH A B C) (Wl (fun k=>uN P a b c A B C k) R)
def kP (P:List (Nat×Nat)) (R:List Nat) (n p:Nat):Bool:=(fun a b c=>vo P R a b c (BN (0,0) P a) (BN (0,0) P b) (BN (0,0) P c)) (BN 0 R (Nat.mod (Nat.sub (Nat.add p n) 1) n)) (BN 0 R p) (BN 0 R (Nat.mod (Nat.succ (Nat.add p n)) n))
theorem pN (P:List (Nat×Nat)) (R:List Nat) (n p:Nat):kP P R n p=Tl P R n p:=by
 unfold kP vo Tl
 simp only [C4,Ha,H9,qc]
 rfl
def tJ (P:List (Nat×Nat)) (R:List Nat) (n p:Nat):Bool:=(fun A B C=>Nat.beq (ux A B C) (uw A B C)) (BN (0,0) P (BN 0 R (Nat.mod (Nat.sub (Nat.add p n) 1) n))) (BN (0,0) P (BN 0 R p)) (BN (0,0) P (BN 0 R (Nat.mod (Nat.succ (Nat.add p n)) n)))
theorem kU (P:List (Nat×Nat)) (R:List Nat) (n:Nat):GZ (kP P R n) (n - 1) 0=Mb P R n:=by
 rw [NN,Nat.zero_add,show kP P R n=Tl P R n from funext (pN P R n)]
 unfold Mb; rw [List.range_eq_range']
theorem l7 (P:List (Nat×Nat)) (R:List Nat) (n:Nat):GZ (tJ P R n) n 0=CP P R n:=by
 rw [NN,Nat.zero_add]
 unfold CP; rw [List.range_eq_range']
 congr 1
 funext p
 unfold tJ
 simp only [C4]
 rfl
def Zk (l:List Nat):Nat:=List.rec 0 (fun _ _ ih=>Nat.succ ih) l
theorem NO:∀ l:List Nat,Zk l=l.length
 | []=>rfl
 | _ :: l=>by show Nat.succ (Zk l)=_; rw [NO l]; rfl
def vv (R:List Nat) (n q:Nat) (ih:List Nat→List Nat):List Nat:=Bool.rec R (ih (Yh R q)) (Nat.ble (Nat.succ q) n)
def uv (P:List (Nat×Nat)) (f:Nat):List Nat→List Nat:=Nat.rec (fun R=>R) (fun _ ih R=>Bool.rec R (vv R (Zk R) (GZ (tJ P R (Zk R)) (Zk R) 0) ih) (Nat.ble 4 (Zk R))) f
theorem dM (P:List (Nat×Nat)):∀ (f:Nat) (R:List Nat),uv P f R=WR P f R
 | 0,_=>rfl
 | f+1,R=>by
  show bR R (bR R (uv P f (Yh R (GZ (tJ P R (Zk R)) (Zk R) 0))) (Nat.ble (Nat.succ (GZ (tJ P R (Zk R)) (Zk R) 0)) (Zk R))) (Nat.ble 4 (Zk R))=_
  unfold WR
  rw [NO,l7,NJ,dM P f]
  show bR R (bR R _ (Nat.blt (CP P R R.length) R.length)) (Nat.blt 3 R.length)=_
  cases Nat.blt 3 R.length <;> cases Nat.blt (CP P R R.length) R.length <;> rfl
def vw (P:List (Nat×Nat)) (R:List Nat) (n q:Nat) (ih:List Nat→List (Nat×Nat×Nat)):List (Nat×Nat×Nat):=(BN 0 R (Nat.mod (Nat.sub (Nat.add q n) 1) n),BN 0 R q,BN 0 R (Nat.mod (Nat.succ (Nat.add q n)) n)) :: ih (uv P (n - 1) (Yh R q))
def tw (P:List (Nat×Nat)) (f:Nat):List Nat→List (Nat×Nat×Nat):=Nat.rec (fun R=>[(BN 0 R 0,BN 0 R 1,BN 0 R 2)]) (fun _ ih R=>Bool.rec [(BN 0 R 0,BN 0 R 1,BN 0 R 2)] (vw P R (Zk R) (GZ (kP P R (Zk R)) (Zk R - 1) 0) ih) (Nat.ble 4 (Zk R))) f
theorem Tb (P:List (Nat×Nat)):∀ (f:Nat) (R:List Nat),tw P f R=Tc P f R
 | 0,R=>by show [_]=[_]; rw [C4,C4,C4]
 | f+1,R=>by
  show bR [(BN 0 R 0,BN 0 R 1,BN 0 R 2)] ((BN 0 R (Nat.mod (Nat.sub (Nat.add (GZ (kP P R (Zk R)) (Zk R - 1) 0) (Zk R)) 1) (Zk R)),BN 0 R (GZ (kP P R (Zk R)) (Zk R - 1) 0),BN 0 R (Nat.mod (Nat.succ (Nat.add (GZ (kP P R (Zk R)) (Zk R - 1) 0) (Zk R))) (Zk R))) :: tw P f (uv P (Zk R - 1) (Yh R (GZ (kP P R (Zk R)) (Zk R - 1) 0)))) (Nat.ble 4 (Zk R))=_
  unfold Tc
  rw [NO,kU,NJ,dM,Tb P f]
  simp only [C4]
  show bR _ _ (Nat.blt 3 R.length)=_
  cases Nat.blt 3 R.length <;> rfl
def ug (p q r d e f:Nat×Nat):Bool:=Ln (nY p q d) (Ln (nY p q e) (Ln (nY p q f) (V6 p q r)))
def uf (p q r a b c:Nat×Nat):Bool:=Ln (V6 p q a) (Ln (V6 p q b) (Ln (V6 p q c) (nY p q r)))
def uz (a b c d e f:Nat×Nat):Bool:=mi (ug a b c d e f) (mi (ug b c a d e f) (mi (ug c a b d e f) (mi (uf e d f a b c) (mi (uf f e d a b c) (uf d f e a b c)))))
theorem rM {a b c d e f:Nat×Nat} (h:uz a b c d e f=true):Ri [a,b,c] [d,e,f]=true:=by
 have h1:∀ p q r d e f,ug p q r d e f=av p q r d e f:=fun p q r d e f=>by
  unfold ug av; simp only [Ha]
  show _=(nY p q d && nY p q e && nY p q f && V6 p q r)
  simp only [Bool.and_assoc]
 have h2:∀ p q r d e f,uf p q r d e f=N1 p q r d e f:=fun p q r d e f=>by
  unfold uf N1; simp only [Ha]
  show _=(V6 p q d && V6 p q e && V6 p q f && nY p q r)
  simp only [Bool.and_assoc]
 unfold uz at h
 simp only [gz,h1,h2,Bool.or_eq_true] at h
 unfold Ri
 simp only [Bool.or_eq_true]
 rcases h with h | h | h | h | h | h <;> simp [h]
def nV (P:List (Nat×Nat)) (d:Nat×Nat×Nat) (k:(Nat×Nat)→(Nat×Nat)→(Nat×Nat)→Bool):Bool:=k (BN (0,0) P d.1) (BN (0,0) P d.2.1) (BN (0,0) P d.2.2)
def HZ (P Q:List (Nat×Nat)) (f g:Nat) (R S:List Nat):Bool:=Wl (fun x=>nV P x fun a b c=>Wl (fun y=>nV Q y fun d e f=>uz a b c d e f) (tw Q g S)) (tw P f R)
theorem FO {P Q:List (Nat×Nat)} (h:HZ P Q P.length Q.length (List.range P.length) (List.range Q.length)=true):T5 P Q=true:=by
 unfold HZ at h
 rw [H9,Tb] at h
 unfold T5 HX
 rw [List.all_map]
 refine List.all_eq_true.2 fun x hx=>?_
 have h1:=List.all_eq_true.1 h x hx
 replace h1:Wl (fun y=>uz (BN (0,0) P x.1) (BN (0,0) P x.2.1) (BN (0,0) P x.2.2) (BN (0,0) Q y.1) (BN (0,0) Q y.2.1) (BN (0,0) Q y.2.2)) (tw Q Q.length (List.range Q.length))=true:=h1
 rw [H9,Tb] at h1
 show ((Tc Q Q.length (List.range Q.length)).map (sa Q)).all _=true
 rw [List.all_map]
 refine List.all_eq_true.2 fun y hy=>?_
 have h2:=List.all_eq_true.1 h1 y hy
 simp only [C4] at h2
 exact rM h2
def jg (W:Nat) (p:Nat→Bool):Bool:=Nat.rec (motive:=fun _=>Nat→Bool) (fun _=>true) (fun _ ih i=>Bool.rec false (ih (Nat.succ i)) (p i)) (W - 1) 1
end
end Go.Ab.N
namespace Go.Ab.N
open Go Go.RowKit Go.Proofs
set_option maxRecDepth 10000
set_option maxHeartbeats 4000000
theorem Us {p:Nat→Bool}:∀ (n i:Nat),(Nat.rec (motive:=fun _=>Nat→Bool) (fun _=>true) (fun _ ih i=>Bool.rec false (ih (Nat.succ i)) (p i)) n i:Bool)=true→∀ x,i≤x→x<i+n→p x=true
 | 0,i,_,x,h1,h2=>absurd h2 (by omega)
 | n+1,i,h,x,h1,h2=>by
  replace h:bR false (Nat.rec (motive:=fun _=>Nat→Bool) (fun _=>true) (fun _ ih i=>Bool.rec false (ih (Nat.succ i)) (p i)) n (i+1)) (p i)=true:=h
  cases hp:p i with
  | false=>rw [hp] at h; cases h
  | true =>
   rw [hp] at h
   by_cases e:x=i
   ·rw [e]; exact hp
   ·exact Us n (i+1) h x (by omega) (by omega)
theorem BP {W:Nat} {p:Nat→Bool} (h:jg W p=true) {x:Nat} (h1:1≤x) (h2:x<W):p x=true:=Us (W - 1) 1 h x h1 (by omega)
noncomputable def R4 (W H:Nat):Bool:=jg W fun a=>jg W fun b=>HZ [(0,0),(a,0),(b,H),(0,H)] [(a,0),(W,0),(W,H),(b,H)] 4 4 [0,1,2,3] [0,1,2,3]
noncomputable def R5 (W H:Nat):Bool:=jg W fun a=>jg W fun b=>jg W fun c=>HZ [(0,0),(a,0),(b,1),(c,H),(0,H)] [(a,0),(W,0),(W,H),(c,H),(b,1)] 5 5 [0,1,2,3,4] [0,1,2,3,4]
noncomputable def R6 (W H:Nat):Bool:=jg W fun a=>jg W fun b=>jg W fun c=>jg W fun d=>HZ [(0,0),(a,0),(b,1),(c,2),(d,H),(0,H)] [(a,0),(W,0),(W,H),(d,H),(c,2),(b,1)] 6 6 [0,1,2,3,4,5] [0,1,2,3,4,5]
theorem qF:R4 4 3=true:=by decide +kernel
theorem qX:R5 4 3=true:=by decide +kernel
theorem qG:R4 4 4=true:=by decide +kernel
theorem qY:R5 4 4=true:=by decide +kernel
theorem qI:R4 4 5=true:=by decide +kernel
theorem qZ:R5 4 5=true:=by decide +kernel
theorem qJ:R4 4 6=true:=by decide +kernel
theorem r5:R5 4 6=true:=by decide +kernel
theorem qK:R4 5 3=true:=by decide +kernel
theorem r6:R5 5 3=true:=by decide +kernel
theorem qL:R4 5 4=true:=by decide +kernel
theorem r7:R5 5 4=true:=by decide +kernel
theorem qM:R4 5 5=true:=by decide +kernel
theorem r8:R5 5 5=true:=by decide +kernel
theorem qN:R4 5 6=true:=by decide +kernel
theorem r9:R5 5 6=true:=by decide +kernel
theorem qO:R4 6 3=true:=by decide +kernel
theorem rc:R5 6 3=true:=by decide +kernel
theorem qP:R4 6 4=true:=by decide +kernel
theorem re:R5 6 4=true:=by decide +kernel
theorem qQ:R4 6 5=true:=by decide +kernel
theorem rf:R5 6 5=true:=by decide +kernel
theorem qR:R4 6 6=true:=by decide +kernel
theorem rg:R5 6 6=true:=by decide +kernel
theorem qS:R4 7 3=true:=by decide +kernel
theorem rh:R5 7 3=true:=by decide +kernel
theorem qT:R4 7 4=true:=by decide +kernel
theorem ri:R5 7 4=true:=by decide +kernel
theorem qU:R4 7 5=true:=by decide +kernel
theorem rj:R5 7 5=true:=by decide +kernel
theorem qV:R4 7 6=true:=by decide +kernel
theorem rk:R5 7 6=true:=by decide +kernel
theorem rl:R6 4 3=true:=by decide +kernel
theorem rn:R6 4 4=true:=by decide +kernel
theorem rp:R6 4 5=true:=by decide +kernel
theorem rq:R6 4 6=true:=by decide +kernel
theorem rr:R6 5 3=true:=by decide +kernel
theorem rs:R6 5 4=true:=by decide +kernel
theorem rt:R6 5 5=true:=by decide +kernel
theorem ru:R6 5 6=true:=by decide +kernel
theorem ry:R6 6 3=true:=by decide +kernel
theorem rz:R6 6 4=true:=by decide +kernel
theorem rC:R6 6 5=true:=by decide +kernel
theorem rD:R6 6 6=true:=by decide +kernel
theorem rE:R6 7 3=true:=by decide +kernel
theorem rF:R6 7 4=true:=by decide +kernel
theorem rG:R6 7 5=true:=by decide +kernel
theorem rH:R6 7 6=true:=by decide +kernel
theorem ma {W H:Nat} (hW:4≤W∧W≤7) (hH:3≤H∧H≤6):R4 W H=true:=by
 obtain ⟨h1,h2⟩:=hW
 obtain ⟨h3,h4⟩:=hH
 rcases (show W=4∨W=5∨W=6∨W=7 by omega) with rfl | rfl | rfl | rfl <;> rcases (show H=3∨H=4∨H=5∨H=6 by omega) with rfl | rfl | rfl | rfl
 ·exact qF
 ·exact qG
 ·exact qI
 ·exact qJ
 ·exact qK
 ·exact qL
 ·exact qM
 ·exact qN
 ·exact qO
 ·exact qP
 ·exact qQ
 ·exact qR
 ·exact qS
 ·exact qT
 ·exact qU
 ·exact qV
theorem mb {W H:Nat} (hW:4≤W∧W≤7) (hH:3≤H∧H≤6):R5 W H=true:=by
 obtain ⟨h1,h2⟩:=hW
 obtain ⟨h3,h4⟩:=hH
 rcases (show W=4∨W=5∨W=6∨W=7 by omega) with rfl | rfl | rfl | rfl <;> rcases (show H=3∨H=4∨H=5∨H=6 by omega) with rfl | rfl | rfl | rfl
 ·exact qX
 ·exact qY
 ·exact qZ
 ·exact r5
 ·exact r6
 ·exact r7
 ·exact r8
 ·exact r9
 ·exact rc
 ·exact re
 ·exact rf
 ·exact rg
 ·exact rh
 ·exact ri
 ·exact rj
 ·exact rk
theorem mc {W H:Nat} (hW:4≤W∧W≤7) (hH:3≤H∧H≤6):R6 W H=true:=by
 obtain ⟨h1,h2⟩:=hW
 obtain ⟨h3,h4⟩:=hH
 rcases (show W=4∨W=5∨W=6∨W=7 by omega) with rfl | rfl | rfl | rfl <;> rcases (show H=3∨H=4∨H=5∨H=6 by omega) with rfl | rfl | rfl | rfl
 ·exact rl
 ·exact rn
 ·exact rp
 ·exact rq
 ·exact rr
 ·exact rs
 ·exact rt
 ·exact ru
 ·exact ry
 ·exact rz
 ·exact rC
 ·exact rD
 ·exact rE
 ·exact rF
 ·exact rG
 ·exact rH
theorem Gp (l:List Int) (W H M:Nat) (hW:4≤W∧W≤7) (hM:1≤M∧M≤3) (hH:3≤H∧H≤6):Cu (Qf (Xp (Xo l W H M))) (Qf (Xp (Xs l W H M))) 0=true:=by
 have hx:∀ k,k≤M→∃ x:Nat,(1≤x∧x<W)∧(Xj l W H M k).1=(x:Int):=fun k hk=>by
  have b:=(EQ l W H M k hW hH.2 (by omega)).1
  exact ⟨(Xj l W H M k).1.toNat,by omega,by omega⟩
 rcases (show M=1∨M=2∨M=3 by omega) with rfl | rfl | rfl
 ·obtain ⟨a,ha,ea⟩:=hx 0 (by omega)
  obtain ⟨b,hb,eb⟩:=hx 1 (by omega)
  rw [UX,RD,ea,eb]
  exact FN (FO (P:=[(0,0),(a,0),(b,H),(0,H)]) (Q:=[(a,0),(W,0),(W,H),(b,H)]) (BP (BP (ma hW hH) ha.1 ha.2) hb.1 hb.2))
 ·obtain ⟨a,ha,ea⟩:=hx 0 (by omega)
  obtain ⟨b,hb,eb⟩:=hx 1 (by omega)
  obtain ⟨c,hc,ec⟩:=hx 2 (by omega)
  rw [UY,RE,ea,eb,ec]
  exact FN (FO (P:=[(0,0),(a,0),(b,1),(c,H),(0,H)]) (Q:=[(a,0),(W,0),(W,H),(c,H),(b,1)]) (BP (BP (BP (mb hW hH) ha.1 ha.2) hb.1 hb.2) hc.1 hc.2))
 ·obtain ⟨a,ha,ea⟩:=hx 0 (by omega)
  obtain ⟨b,hb,eb⟩:=hx 1 (by omega)
  obtain ⟨c,hc,ec⟩:=hx 2 (by omega)
  obtain ⟨d,hd,ed⟩:=hx 3 (by omega)
  rw [UZ,RF,ea,eb,ec,ed]
  exact FN (FO (P:=[(0,0),(a,0),(b,1),(c,2),(d,H),(0,H)]) (Q:=[(a,0),(W,0),(W,H),(d,H),(c,2),(b,1)]) (BP (BP (BP (BP (mc hW hH) ha.1 ha.2) hb.1 hb.2) hc.1 hc.2) hd.1 hd.2))
end Go.Ab.N
namespace Go.Ab.N
open Go Go.RowKit Go.Proofs
noncomputable section
set_option maxRecDepth 10000
set_option maxHeartbeats 4000000
open Classical
theorem iy {m:Nat} {s:AS} (id:Nat) {ver n:Nat} {a b c x y x' y':AV} {r:List AV} (ho:s.h[id]?=some (.row ver n (Xk (a :: b :: c :: x :: y :: r)))) (hx:Ko s.h x x') (hy:Ko s.h y y') :
  Sub m s { s with h:=s.h.set id (.row ver n (Xk (a :: b :: c :: x' :: y' :: r))) }:=Z1 id _ ho fun j hj =>
 match j with
 | 0=>Qa _ _
 | 1=>Qa _ _
 | 2=>Qa _ _
 | 3=>hx
 | 4=>hy
 | j+5=>Qa _ _
theorem Sg {H:List AO} {id n:Nat} (ho:H[id]?=some (.con 0 n fun _=>.bool false)):Ko H (.osl id 0 1 0 n) (Zx (List.replicate n false)):=by
 rw [XR,List.length_replicate]
 refine AQ ho (Nat.le_refl _) (fun h=>h) fun j hj=>?_
 rw [Kq,List.getD_eq_getElem?_getD,List.getElem?_replicate]
 split <;> exact Qa _ _
theorem VS {H:List AO} {id n:Nat} (ho:H[id]?=some (.con 0 n fun _=>.int .i64 0)):Ko H (.osl id 0 1 0 n) (X3 (List.replicate n 0)):=by
 rw [X4,List.length_replicate]
 refine AQ ho (Nat.le_refl _) (fun h=>h) fun j hj=>?_
 rw [Kq,List.getD_eq_getElem?_getD,List.getElem?_replicate]
 split <;> exact Qa _ _
def Jt (A:PV):PV:={ A with worn:=List.replicate A.rim.length false,marks:=List.replicate A.rim.length 0 }
theorem Vc {A:PV} {t:Rat} (h:GP A t):GP (Jt A) t:=⟨⟨h.even.rim,List.length_replicate,List.length_replicate,h.even.near⟩,h.poly,h.tol,h.qt⟩
theorem mw {α:Type} (n i:Nat) (a:α):(List.replicate n a).getD i a=a:=by
 rw [List.getD_eq_getElem?_getD,List.getElem?_replicate]; split <;> rfl
theorem PW (A B:PV) (f:FV) (k:Nat):OT (Jt A) (Jt B) f k=false:=by
 unfold OT Jt
 simp only [mw]
 rfl
theorem iD {l:List Int} (p:Nat):0≤Rat.divInt (Ab.atF l p 3) 4∧Rat.divInt (Ab.atF l p 3) 4≤Rat.divInt 1 2:=by
 have b:=XM l p 3 (by omega)
 generalize Ab.atF l p 3=x at *
 rcases (show x=0∨x=1∨x=2 by omega) with rfl | rfl | rfl <;> decide +kernel
theorem lU (a b c d:Int):(a≤0∧b≤0∧c≤0∧d≤0)∨¬ a≤0∨(a≤0∧¬ b≤0)∨(a≤0∧b≤0∧¬ c≤0)∨(a≤0∧b≤0∧c≤0∧¬ d≤0):=by omega
theorem kX (a b c x y z:Int):((a=x)=True∧(b=y)=True∧(c=z)=True)∨((a=x)=False∧True)∨((a=x)=True∧(b=y)=False)∨((a=x)=True∧(b=y)=True∧(c=z)=False):=by
 by_cases h1:a=x
 ·by_cases h2:b=y
  ·by_cases h3:c=z
   ·exact .inl ⟨eq_true h1,eq_true h2,eq_true h3⟩
   ·exact .inr (.inr (.inr ⟨eq_true h1,eq_true h2,eq_false h3⟩))
  ·exact .inr (.inr (.inl ⟨eq_true h1,eq_false h2⟩))
 ·exact .inr (.inl ⟨eq_false h1,trivial⟩)
theorem Oj (l:List Int) (W H M:Nat):Zw (Jd l) (Qp l) (Xp (Xz l W H M))=Xp (Xs l W H M):=by
 unfold Zw Xz Xp
 rw [List.map_map,List.map_map]
 refine List.map_congr_left fun p _=>?_
 show put (Jd l) (Qp l) (Qc (Ol (D6 l) (Cx l) p))=Qc p
 rw [PT]
 exact Iz (D6 l) (TU l) (Cx l) (Qc p)
theorem jK (A B:List V2) (f g:Nat→AV) (hf:∀ j,j<A.length*8→f j=Xt vC 8 v0 A j) (hg:∀ j,j<B.length*8→g j=Xt vC 8 v0 B j):∀ j,j<(A ++ B).length*8→QD (A.length*8) f (B.length*8) g j=Xt vC 8 v0 (A ++ B) j:=fun j hj=>by
 rw [List.length_append] at hj
 unfold QD
 by_cases h:j<A.length*8
 ·rw [if_pos h,hf j h]
  unfold Xt
  rw [List.getD_eq_getElem?_getD (l:=A ++ B),List.getElem?_append_left (by omega),← List.getD_eq_getElem?_getD]
 ·rw [if_neg h,if_pos (by omega),hg _ (by omega)]
  unfold Xt
  rw [List.getD_eq_getElem?_getD (l:=A ++ B),List.getElem?_append_right (by omega),← List.getD_eq_getElem?_getD,show (j - A.length*8) / 8=j / 8 - A.length by omega,show (j - A.length*8) % 8=j % 8 by omega]
theorem Ny (l:List Int) (hl:Gi l) (hl2:l.length<9223372036854775808):Fn Tryz.prog 11 [X3 l] (.bool true):=by
 obtain ⟨L,W,H,M,hL,hW,hH,hM,p1,p2,cP⟩:=gH l hl
 have g1:=V9 (Xo L W H M) L 10 (C2 L W H M hW (by omega) (by omega)) p1
 have g2:=V9 (Xz L W H M) L 20 (Dk L W H M hW (by omega) (by omega)) (mn _ _ _ p2)
 have t1:=iD (l:=L) (10+1:Nat)
 have t2:=iD (l:=L) (20+1:Nat)
 have rA:(Kk (Xo L W H M) L 10).rim=Xo L W H M:=rfl
 have rB:(Kk (Xz L W H M) L 20).rim=Xz L W H M:=rfl
 generalize Kk (Xo L W H M) L 10=A at *
 generalize Kk (Xz L W H M) L 20=B at *
 replace g1:=g1.1
 replace g2:=g2.1
 generalize Rat.divInt (Ab.atF L (10+1:Nat) 3) 4=ta at *
 generalize Rat.divInt (Ab.atF L (20+1:Nat) 3) 4=tb at *
 have gA:=Vc g1
 have gB:=Vc g2
 have rA0:(Jt A).rim=Xo L W H M:=rA
 have rB0:(Jt B).rim=Xz L W H M:=rB
 have h2:Rat.divInt 1 2+Rat.divInt 1 2=1:=by decide +kernel
 have hfo:=P0 L W H M hM (by omega) hW.1 rA0 rB0 (PW A B _) (e:=ta+tb) (by grind) (by grind) (Gp L W H M hW hM hH)
 have hlo:=Gn L W H M hM.1 (by omega) rA0 rB0 (PW A B _) (e:=ta+tb) (by grind) (Gp L W H M hW hM hH)
 have he0:0≤ta+tb:=by grind
 have co:=fi _ _ gA gB
 have ho:=fl gA gB
 have pA:=Hx gA; have pB:=Hx gB
 have hsh:∀ f∈Mf (Jt A) (Jt B) (ta+tb),(0≤f.EA∧f.EA<(Jt A).rim.length)∧(0≤f.EB∧f.EB<(Jt B).rim.length)∧1≤f.M∧f.M<(Jt A).rim.length∧f.M<(Jt B).rim.length:=fun f hf=>(HH (List.mem_filter.1 hf).1 pA.1 pB.1).2.2
 have cr1:=IK (Jt A) gA.even.rim (Zr gA.even.near)
 have cr2:=IK (Jt B) gB.even.rim (Zr gB.even.near)
 rw [rA0] at cr1
 rw [rB0] at cr2
 have nA:(Jt A).rim.length=M+3:=by rw [rA0,K0]
 have nB:(Jt B).rim.length=M+3:=by rw [rB0,K9]
 have lA:A.rim.length=M+3:=nA
 have lB:B.rim.length=M+3:=nB
 have hps:=Iv L
 have hT:∀ e,(J7 (Jt A) (Jt B) (Iw L M) e).turn=Jd L∧(J7 (Jt A) (Jt B) (Iw L M) e).EA=1∧(J7 (Jt A) (Jt B) (Iw L M) e).EB=(M+2:Nat)∧(J7 (Jt A) (Jt B) (Iw L M) e).M=M:=fun e=>⟨rfl,rfl,rfl,rfl⟩
 have hT:=hT (ta+tb)
 obtain ⟨-,hl1,hl3⟩:=hlo
 generalize J7 (Jt A) (Jt B) (Iw L M) (ta+tb)=G at *
 generalize Mf (Jt A) (Jt B) (ta+tb)=LL at *
 have lL:=ho.len
 obtain ⟨x,hx,ex⟩:∃ x,x<LL.length∧LL.getD x Cs=G:=by
  obtain ⟨x,hx,e⟩:=List.getElem_of_mem hfo
  exact ⟨x,hx,by rw [List.getD_eq_getElem?_getD,List.getElem?_eq_getElem hx,e]; rfl⟩
 have s1:=Bb (Zr (C2 L W H M hW hH.2 hM.2))
 have s2:=Bb (Zr (Dk L W H M hW hH.2 hM.2))
 have hsn:Jc (Xs L W H M):=fun c hc=>by have:=Db L W H M hW hH.2 hM.2 c hc; omega
 have s3:=Bb (Zr hsn)
 have n1:(Xp (Xo L W H M)).length=M+3:=by simp [Xp,K0]
 have n2:(Xp (Xz L W H M)).length=M+3:=by simp [Xp,K9]
 have n3:(Xp (Xs L W H M)).length=M+3:=by simp [Xp,Kh]
 have cm:=Rk (Jd L) (Qp L) (Xp (Xz L W H M)) 1000 s2 (by omega) (by omega) (by omega) (by omega)
 rw [Oj] at cm
 have ca1:=Ns _ 1000 s3 (by omega) (by omega)
 have ca2:=Ns _ 1000 s1 (by omega) (by omega)
 have qa1:=(Hb _ 1000 s3 (by omega) (by omega)).2
 have qa2:=(Hb _ 1000 s1 (by omega) (by omega)).2
 have ha:=dh L W H M hM
 have cs:=ZW (JA (Xp (Xs L W H M))) (JA (Xp (Xo L W H M))) (by unfold rm; omega) (by unfold rm; omega)
 rw [Rat.add_comm,ha] at cs
 have hbx:=jU L W H M hW hM hH _ rfl
 rw [show Xp (Xs L W H M ++ Xo L W H M)=Xp (Xs L W H M) ++ Xp (Xo L W H M) by simp [Xp]] at hbx
 have nS:(Xp (Xs L W H M) ++ Xp (Xo L W H M)).length=M+3+(M+3):=by rw [List.length_append,n3,n1]
 have sS:Qk (Xp (Xs L W H M) ++ Xp (Xo L W H M)) 1000:=by
  have:Xp (Xs L W H M) ++ Xp (Xo L W H M)=Xp (Xs L W H M ++ Xo L W H M):=by simp [Xp]
  rw [this]
  refine Bb (Zr fun c hc=>?_)
  rcases List.mem_append.1 hc with h | h
  ·exact hsn c h
  ·exact C2 L W H M hW hH.2 hM.2 c h
 have hff:=jK (Xp (Xs L W H M)) (Xp (Xo L W H M))
 clear ha
 have hff':=hff (QD 0 (Xk []) ((M+3)*8) (Xt vC 8 v0 (Xp (Xs L W H M)))) (Xt vC 8 v0 (Xp (Xo L W H M))) (fun j hj=>by
  unfold QD
  rw [if_neg (Nat.not_lt_zero _),if_pos (by rw [n3] at hj; omega),Nat.sub_zero]) (fun j hj=>rfl)
 rw [n3,n1,nS] at hff'
 clear hff
 generalize Xp (Xo L W H M)=R1 at *
 generalize Xp (Xz L W H M)=RT at *
 generalize Xp (Xs L W H M)=R2 at *
 generalize JA R1=a1 at *
 generalize JA R2=a2 at *
 have cB:=pF (R2 ++ R1) 1000 (by omega) (by omega) sS (by omega)
 rw [hbx.1,hbx.2,X5,nS] at cB
 have qW:=Z8 (W:Int) 3 (by omega) (QJ ⟨by omega,by omega⟩)
 have qH:=Z8 (H:Int) 3 (by omega) (QJ ⟨by omega,by omega⟩)
 have qW:qb (W:Rat)≤3:=qW
 have qH:qb (H:Rat)≤3:=qH
 have zb:=Ap
 have cd:=B8 ⟨(W:Rat),(H:Rat)⟩ ⟨0,0⟩ (by show max (qb (W:Rat)) (qb (H:Rat))≤rm; unfold rm; omega) (by show max (qb 0) (qb 0)≤rm; unfold rm; omega)
 have hd:V2.sub ⟨(W:Rat),(H:Rat)⟩ ⟨0,0⟩=⟨(W:Rat),(H:Rat)⟩:=by unfold V2.sub; rw [V2.ext']; exact ⟨by simp only; grind,by simp only; grind⟩
 rw [hd] at cd
 have ck:=JW (W:Rat) (H:Rat) (by unfold rm; omega) (by unfold rm; omega)
 have qm:=Qu (W:Rat) (H:Rat)
 have ce:=ah ((W:Rat)*(H:Rat)) ((W:Rat)*(H:Rat)) (by unfold rm; omega) (by unfold rm; omega)
 rw [decide_eq_true rfl] at ce
 generalize ((W:Nat):Rat)=w at *
 generalize ((H:Nat):Rat)=h at *
 generalize w*h=wh at *
 clear hd hbx sS
 have f0:FV.near (Jj L M):=PU (n:=M+3) (m:=M+3) (by omega) (by omega) (by show (0≤(1:Int)∧(1:Int)<((M+3:Nat):Int))∧(0≤((M+2:Nat):Int)∧((M+2:Nat):Int)<((M+3:Nat):Int))∧1≤((M:Nat):Int)∧((M:Nat):Int)<((M+3:Nat):Int)∧((M:Nat):Int)<((M+3:Nat):Int); omega)
 have f1:vb (Jj L M).turn≤vm:=by show vb (Jd L)≤vm; unfold vm; omega
 have eF:Jj L M=⟨0,1,1,((M+2:Nat):Int),((M:Nat):Int),Jd L,Qp L,Qp L⟩:=rfl
 generalize Jd L=T at *
 generalize Qp L=at' at *
 have bA:XW 8 (.con 0 25 (Xk (QC (Jt A))))=True:=eq_true (fun j _=>X7 (Xe (XP _) _))
 have bB:XW 8 (.con 0 25 (Xk (QC (Jt B))))=True:=eq_true (fun j _=>X7 (Xe (XP _) _))
 have f2':vb T≤vm:=by unfold vm; omega
 have bO:XW 8 (.con 0 79 (Xk (Lq A B (Jj L M))))=True:=eq_true (fun j _=>X7 (Xe (fun a ha=>by
  unfold Lq at ha
  rcases List.mem_append.1 ha with h | h
  ·exact XP _ a h
  rcases List.mem_append.1 h with h | h
  ·exact XP _ a h
  ·exact Qq _ a h) _))
 have bT:XW 8 (.con 0 8 (Xk (vC at')))=True:=eq_true (fun j _=>X7 (Xe (l:=vC at') (by simp [vC,X8,X2]) _))
 have bD:XW 8 .dead=True:=eq_true trivial
 have bL:Kn 8 (NL LL)=True:=eq_true (X7 (Zi LL))
 have tgt:∀ i,i<LL.length→i=x→LL.getD i Cs=G:=fun i _ e=>by rw [e]; exact ex
 refine Fq Tryz.call11 Tryz.func11 18 [] [19,20,21,23,240000014,240000017] [21] (by simp [X8]) (J8 112 ?_)
 simp (disch:=omega) only [AS.start,↓XK,wG,seval]
 refine X0 cP rfl ?_
 simp (disch:=omega) only [Lq,QC,Jp,List.cons_append,List.nil_append,eF,↓XK,wG,seval]
 refine Run.sub ?_ (Sub.trans (Qy 3 rfl) (Sub.trans (Qy 4 rfl) (Sub.trans (Qy 5 rfl) (Qy 6 rfl))))
 dsimp only [List.set]
 refine Run.sub ?_ (Sub.trans (iy 1 rfl (Sg rfl) (VS rfl)) (iy 2 rfl (Sg rfl) (VS rfl)))
 dsimp only [List.set]
 refine Run.sub ?_ (Sub.trans (AP 3 rfl (by simp [AO.info])) (Sub.trans (AP 4 rfl (by simp [AO.info])) (Sub.trans (AP 5 rfl (by simp [AO.info])) (AP 6 rfl (by simp [AO.info])))))
 dsimp only [List.set]
 refine Run.sub ?_ (Sub.trans (Qy 0 rfl) (Sub.trans (Qy 1 rfl) (Sub.trans (Qy 2 rfl) (Qy 7 rfl))))
 dsimp only [List.set]
 refine Run.sub (s':=⟨18,[],[.any,.any,.any,.ref 0 0 0,.ref 1 0 0,.ref 2 0 0,.ref 7 0 0,.any,.any,.any,.any,.any,.any,.any,.any,.any,.any,.any],[],[.con 0 79 (Xk (Lq A B (Jj L M))),.con 0 25 (Xk (QC (Jt A))),.con 0 25 (Xk (QC (Jt B))),.dead,.dead,.dead,.dead,.con 0 8 (Xk (vC at'))]⟩) ?_ (Ku (by simp [Xg]) (by simp [Lq,QC,Jp,Jt,eF,vC,qC,Xu,XR,X4,I,sg]))
 refine Xi ?_
 simp (disch:=omega) only [QC,↓XK,wG,seval]
 refine X0 co rfl ?_
 simp (disch:=omega) only [XF,↓XK,wG,seval]
 refine Xd (fun p:Nat×Bool=>⟨18,[],[.any,.any,.any,.ref 0 0 0,.ref 1 0 0,.ref 2 0 0,.ref 7 0 0,NL LL,.bool p.2,I p.1,.any,.any,.any,.any,.any,.any,.any,.any],[],[.con 0 79 (Xk (Lq A B (Jj L M))),.con 0 25 (Xk (QC (Jt A))),.con 0 25 (Xk (QC (Jt B))),.dead,.dead,.dead,.dead,.con 0 8 (Xk (vC at'))]⟩)
  (fun p=>p.1≤LL.length∧(x<p.1→p.2=true)) (fun p=>LL.length - p.1) (0,false) ⟨Nat.zero_le _,fun h=>absurd h (Nat.not_lt_zero _)⟩ (Ku (by simp [Xg,XF,I]) (by rfl)) ?_
 rintro ⟨i,B0⟩ ⟨hi,hb⟩ next
 replace hi:i≤LL.length:=hi
 replace hb:x<i→B0=true:=hb
 by_cases hi2:i<LL.length
 rotate_left
 ·sorry
 have hm:=Js (d:=Cs) hi2
 have hgf:=ho.fine _ hm
 have hgs:=hsh _ hm
 have z1:=fF LL i
 have z2:=uM LL i
 have htg:=tgt i hi2
 generalize LL.getD i Cs=f at *
 obtain ⟨w1,w2,w3⟩:=fm hgf
 have u1:=QL f.lo; have u2:=QG f.lo; have u3:=QL f.hi; have u4:=QG f.hi; have u5:=QL at'; have u6:=QG at'
 have w4:vm≤rm:=by unfold vm rm; omega
 have k0:=B7 f.turn T w1 f2'
 have k1:=Qw f.lo.x at'.x (by omega) (by unfold rm; omega)
 have k2:=Qw f.lo.y at'.y (by omega) (by unfold rm; omega)
 have k3:=Qw at'.x f.hi.x (by unfold rm; omega) (by omega)
 have k4:=Qw at'.y f.hi.y (by unfold rm; omega) (by omega)
 have kp:=mj (Jt A) (Jt B) (Jj L M) f (by omega) (by omega) f0 (PU pA.2 pB.2 hgs) f1 w1
 have hall:i=x→f.turn=T∧QZ f.lo.x at'.x≤0∧QZ f.lo.y at'.y≤0∧QZ at'.x f.hi.x≤0∧QZ at'.y f.hi.y≤0∧f.EA=1∧f.EB=((M+2:Nat):Int)∧f.M=((M:Nat):Int):=fun e=>by
  rw [htg e,hl1,hl3]
  refine ⟨hT.1,?_,?_,?_,?_,hT.2.1,hT.2.2.1,hT.2.2.2⟩
  ·rw [Fg]; show at'.x - (ta+tb)≤at'.x; grind
  ·rw [Fg]; show at'.y - (ta+tb)≤at'.y; grind
  ·rw [Fg]; show at'.x≤at'.x+(ta+tb); grind
  ·rw [Fg]; show at'.y≤at'.y+(ta+tb); grind
 generalize QZ f.lo.x at'.x=v1 at *
 generalize QZ f.lo.y at'.y=v2 at *
 generalize QZ at'.x f.hi.x=v3 at *
 generalize QZ at'.y f.hi.y=v4 at *
 generalize decide (Fc (Jt A).rim.length (Jt B).rim.length (Jj L M) f)=Dp at *
 have e52:Xk (Lq A B (Jj L M)) 52=.int .i64 1:=by rw [eF]; rfl
 have e53:Xk (Lq A B (Jj L M)) 53=.int .i64 ((M+2:Nat):Int):=by rw [eF]; rfl
 have e54:Xk (Lq A B (Jj L M)) 54=.int .i64 (M:Int):=by rw [eF]; rfl
 rw [← show (Jj L M).turn=T by rw [eF]] at k0
 have bF:XW 8 (.con 0 29 (Xk (Jp f)))=True:=eq_true (fun j _=>X7 (Xe (Qq _) _))
 have f2:Xk (Jp f) 2=.int .i64 f.EA:=rfl
 have f3:Xk (Jp f) 3=.int .i64 f.EB:=rfl
 have f4:Xk (Jp f) 4=.int .i64 f.M:=rfl
 refine J8 32 ?_
 simp (disch:=omega) only [z1,z2,XF,Jp,List.cons_append,List.nil_append,↓XK,wG,seval]
 refine Run.sub (s':=⟨18,[],[.any,.any,.any,.ref 0 0 0,.ref 1 0 0,.ref 2 0 0,.ref 7 0 0,NL LL,.bool B0,I i,.ref 8 0 0,.any,.any,.any,.any,.any,.any,.any],[],[.con 0 79 (Xk (Lq A B (Jj L M))),.con 0 25 (Xk (QC (Jt A))),.con 0 25 (Xk (QC (Jt B))),.dead,.dead,.dead,.dead,.con 0 8 (Xk (vC at')),.con 0 29 (Xk (Jp f))]⟩) ?_ (Sub.trans (Qy 8 rfl) (Ku (by simp [Xg,XF,I]) (by simp [Jp,vC,qC,X4,I,sg])))
 by_cases hD:f.turn=T
 rotate_left
 ·rw [decide_eq_false (by rw [eF]; exact hD)] at k0
  refine Xi ?_
  simp (disch:=omega) only [↓XK,wG,seval]
  refine X0 k0 rfl ?_
  simp (disch:=omega) only [XF,↓XK,wG,seval]
  exact next (i+1,B0) _ ⟨by show i+1≤LL.length; omega,fun h=>hb (by have h:x<i+1:=h; have:¬ i=x:=fun e=>hD (hall e).1; omega)⟩ (by show LL.length - (i+1)<LL.length - i; omega) (sI (m:=8) (by simp [Xg,XF,I]) (by rfl) (by simp [XA,bL]) (by simp [bA,bB,bO,bT,bD]))
 rw [decide_eq_true (by rw [eF]; exact hD)] at k0
 refine J8 20 ?_
 simp (disch:=omega) only [↓XK,wG,seval]
 refine X0 k0 rfl ?_
 simp (disch:=omega) only [↓XK,wG,seval]
 refine Run.sub (s':=⟨18,[],[.any,.any,.any,.ref 0 0 0,.ref 1 0 0,.ref 2 0 0,.ref 7 0 0,NL LL,.bool B0,I i,.ref 8 0 0,.any,.any,.any,.any,.any,.any,.any],[],[.con 0 79 (Xk (Lq A B (Jj L M))),.con 0 25 (Xk (QC (Jt A))),.con 0 25 (Xk (QC (Jt B))),.dead,.dead,.dead,.dead,.con 0 8 (Xk (vC at')),.con 0 29 (Xk (Jp f))]⟩) ?_ (Ku (by simp [Xg,XF,I]) (by rfl))
 apply od (X:=QV Tryz.prog Tryz.f11 [19,20,21,23,240000014,240000017] [21] (.bool true)) (fun b:Bool=>i=x→b=true) (fun b=>⟨18,[],[.any,.any,.any,.ref 0 0 0,.ref 1 0 0,.ref 2 0 0,.ref 7 0 0,NL LL,.bool B0,I i,.ref 8 0 0,.bool b,.any,.any,.any,.any,.any,.any],[],[.con 0 79 (Xk (Lq A B (Jj L M))),.con 0 25 (Xk (QC (Jt A))),.con 0 25 (Xk (QC (Jt B))),.dead,.dead,.dead,.dead,.con 0 8 (Xk (vC at')),.con 0 29 (Xk (Jp f))]⟩)
 case h1 =>
  intro key
  rcases lU v1 v2 v3 v4 with g5 | g5 | g5 | g5 | g5
  ·refine J8 73 ?_
   simp (disch:=omega) only [↓XK,wG,seval]
   refine X0 k1 rfl ?_
   simp (disch:=omega) only [g5,↓XK,wG,seval]
   refine X0 k2 rfl ?_
   simp (disch:=omega) only [g5,↓XK,wG,seval]
   refine X0 k3 rfl ?_
   simp (disch:=omega) only [g5,↓XK,wG,seval]
   refine X0 k4 rfl ?_
   simp (disch:=omega) only [g5,↓XK,wG,seval]
   exact (key true (fun _=>rfl)).sub (Ku (by simp [Xg,XF,I]) (by rfl))
  ·refine J8 52 ?_
   simp (disch:=omega) only [↓XK,wG,seval]
   refine X0 k1 rfl ?_
   simp (disch:=omega) only [g5,↓XK,wG,seval]
   exact (key false (fun e=>absurd (hall e).2.1 g5)).sub (Ku (by simp [Xg,XF,I]) (by rfl))
  ·refine J8 59 ?_
   simp (disch:=omega) only [↓XK,wG,seval]
   refine X0 k1 rfl ?_
   simp (disch:=omega) only [g5,↓XK,wG,seval]
   refine X0 k2 rfl ?_
   simp (disch:=omega) only [g5,↓XK,wG,seval]
   exact (key false (fun e=>absurd (hall e).2.2.1 g5.2)).sub (Ku (by simp [Xg,XF,I]) (by rfl))
  ·refine J8 66 ?_
   simp (disch:=omega) only [↓XK,wG,seval]
   refine X0 k1 rfl ?_
   simp (disch:=omega) only [g5,↓XK,wG,seval]
   refine X0 k2 rfl ?_
   simp (disch:=omega) only [g5,↓XK,wG,seval]
   refine X0 k3 rfl ?_
   simp (disch:=omega) only [g5,↓XK,wG,seval]
   exact (key false (fun e=>absurd (hall e).2.2.2.1 g5.2.2)).sub (Ku (by simp [Xg,XF,I]) (by rfl))
  ·refine J8 73 ?_
   simp (disch:=omega) only [↓XK,wG,seval]
   refine X0 k1 rfl ?_
   simp (disch:=omega) only [g5,↓XK,wG,seval]
   refine X0 k2 rfl ?_
   simp (disch:=omega) only [g5,↓XK,wG,seval]
   refine X0 k3 rfl ?_
   simp (disch:=omega) only [g5,↓XK,wG,seval]
   refine X0 k4 rfl ?_
   simp (disch:=omega) only [g5,↓XK,wG,seval]
   exact (key false (fun e=>absurd (hall e).2.2.2.2.1 g5.2.2.2)).sub (Ku (by simp [Xg,XF,I]) (by rfl))
 intro I0 hI
 apply od (X:=QV Tryz.prog Tryz.f11 [19,20,21,23,240000014,240000017] [21] (.bool true)) (fun b:Bool=>i=x→b=true) (fun b=>⟨18,[],[.any,.any,.any,.ref 0 0 0,.ref 1 0 0,.ref 2 0 0,.ref 7 0 0,NL LL,.bool B0,I i,.ref 8 0 0,.bool I0,.bool b,.any,.any,.any,.any,.any],[],[.con 0 79 (Xk (Lq A B (Jj L M))),.con 0 25 (Xk (QC (Jt A))),.con 0 25 (Xk (QC (Jt B))),.dead,.dead,.dead,.dead,.con 0 8 (Xk (vC at')),.con 0 29 (Xk (Jp f))]⟩)
 case h1 =>
  intro key
  rcases kX f.EA f.EB f.M 1 ((M+2:Nat):Int) (M:Int) with g4 | g4 | g4 | g4
  ·refine J8 48 ?_
   simp (disch:=omega) only [e52,e53,e54,f2,f3,f4,g4,↓XK,wG,seval]
   exact (key true (fun _=>rfl)).sub (Ku (by simp [Xg,XF,I]) (by rfl))
  ·refine J8 36 ?_
   simp (disch:=omega) only [e52,e53,e54,f2,f3,f4,g4,↓XK,wG,seval]
   exact (key false (fun e=>absurd (hall e).2.2.2.2.2.1 (of_eq_false g4.1))).sub (Ku (by simp [Xg,XF,I]) (by rfl))
  ·refine J8 42 ?_
   simp (disch:=omega) only [e52,e53,e54,f2,f3,f4,g4,↓XK,wG,seval]
   exact (key false (fun e=>absurd (hall e).2.2.2.2.2.2.1 (of_eq_false g4.2))).sub (Ku (by simp [Xg,XF,I]) (by rfl))
  ·refine J8 48 ?_
   simp (disch:=omega) only [e52,e53,e54,f2,f3,f4,g4,↓XK,wG,seval]
   exact (key false (fun e=>absurd (hall e).2.2.2.2.2.2.2 (of_eq_false g4.2.2))).sub (Ku (by simp [Xg,XF,I]) (by rfl))
 intro S0 hS
 cases B0
 ·cases I0
  ·refine Xi ?_
   simp (disch:=omega) only [XF,↓XK,wG,seval]
   exact next (i+1,false) _ ⟨by show i+1≤LL.length; omega,fun h=>by
     have h:x<i+1:=h
     by_cases e:i=x
     ·exact absurd (hI e) (by simp)
     ·exact absurd (hb (by omega)) (by simp)⟩ (by show LL.length - (i+1)<LL.length - i; omega) (sI (m:=8) (by simp [Xg,XF,I]) (by rfl) (by simp [XA,bL]) (by simp [bA,bB,bO,bT,bD]))
  ·cases S0
   ·refine Xi ?_
    simp (disch:=omega) only [XF,↓XK,wG,seval]
    refine X0 kp rfl ?_
    simp (disch:=omega) only [XF,↓XK,wG,seval]
    exact next (i+1,Dp) _ ⟨by show i+1≤LL.length; omega,fun h=>by
      have h:x<i+1:=h
      by_cases e:i=x
      ·exact absurd (hS e) (by simp)
      ·exact absurd (hb (by omega)) (by simp)⟩ (by show LL.length - (i+1)<LL.length - i; omega) (sI (m:=8) (by simp [Xg,XF,I]) (by rfl) (by simp [XA,bL]) (by simp [bA,bB,bO,bT,bD]))
   ·refine Xi ?_
    simp (disch:=omega) only [XF,↓XK,wG,seval]
    exact next (i+1,true) _ ⟨by show i+1≤LL.length; omega,fun h=>by
     have h:x<i+1:=h
     rfl⟩ (by show LL.length - (i+1)<LL.length - i; omega) (sI (m:=8) (by simp [Xg,XF,I]) (by rfl) (by simp [XA,bL]) (by simp [bA,bB,bO,bT,bD]))
 ·refine Xi ?_
  simp (disch:=omega) only [XF,↓XK,wG,seval]
  exact next (i+1,true) _ ⟨by show i+1≤LL.length; omega,fun h=>by
     have h:x<i+1:=h
     rfl⟩ (by show LL.length - (i+1)<LL.length - i; omega) (sI (m:=8) (by simp [Xg,XF,I]) (by rfl) (by simp [XA,bL]) (by simp [bA,bB,bO,bT,bD]))
end
end Go.Ab.N
