/- Contracts of functions of these chapters, for every argument that fits, and what they need. -/
import Derived.Test.YtefjhgcndhepeaaGreatC15
import Derived.Test.YtefjhgcndhepeaaGreatC13
import Derived.Test.YtefjhgcndhepeaaGreatC14
import Derived.Test.YtefjhgcndhepeaaGreatC7
set_option linter.unusedSimpArgs false
set_option linter.unusedVariables false
open Nat renaming reducePow → Y1, reduceLT → Y2, reduceLeDiff → Y3, reduceEqDiff → Y4, reduceAdd → Y5, reduceMul → Y6, reduceSub → Y7, reduceBEq → Y8, reduceDiv → Y9, reduceMod → YA
namespace Go.Ab.N
open Go Go.RowKit Go.Proofs
noncomputable section
set_option maxRecDepth 10000
set_option maxHeartbeats 4000000
open Classical
def ij (n:Nat) (R:List Nat):Prop:=∀ r∈R,r<n
theorem KB {n:Nat} {R:List Nat} (h0:0<n) (h:ij n R) (i:Nat):R.getD i 0<n:=by
 rw [List.getD_eq_getElem?_getD]
 cases e:R[i]? with
 | none=>exact h0
 | some r=>exact h r (List.mem_of_getElem? e)
theorem Gu {n:Nat} {R:List Nat} (h0:0<n) (h:ij n R) (m:Nat):nr R m<n:=KB h0 h _
theorem N6 {n:Nat} {R:List Nat} (h:ij n R) (i:Nat):ij n (R.eraseIdx i):=fun r hr=>h r (List.mem_of_mem_eraseIdx hr)
theorem jC {g k:V2→V2} (I:Iso g k) (L:List V2) {R:List Nat} (h0:0<L.length) (h:ij L.length R) (p:Nat):Mm (L.map g) R p=Mm L R p:=by
 unfold Mm
 rw [JL _ _ _ (Gu h0 h _),JL _ _ _ (Gu h0 h _),JL _ _ _ (KB h0 h _),Dg I]
theorem mG {g k:V2→V2} (I:Iso g k) (L:List V2) {R:List Nat} (h0:0<L.length) (h:ij L.length R) (p:Nat):B9 (L.map g) R p=B9 L R p:=by
 unfold B9
 rw [jC I L h0 h]
 refine decide_eq_decide.2 (and_congr_right fun _=>forall_congr' fun j=>imp_congr_right fun _=>?_)
 unfold Db pQ
 rw [JL _ _ _ (Gu h0 h _),JL _ _ _ (Gu h0 h _),JL _ _ _ (KB h0 h _),JL _ _ _ (KB h0 h _),Dg I,Dg I,Dg I]
theorem gi {g k:V2→V2} (I:Iso g k) (L:List V2) {R:List Nat} (h0:0<L.length) (h:ij L.length R):D5 (L.map g) R=D5 L R:=by
 unfold D5
 rw [show B9 (L.map g) R=B9 L R from funext fun p=>mG I L h0 h p]
theorem gN {g k:V2→V2} (I:Iso g k) (L:List V2) {R:List Nat} (h0:0<L.length) (h:ij L.length R):Zd (L.map g) R=Zd L R:=by
 unfold Zd
 congr 1
 funext p
 rw [jC I L h0 h]
theorem Vy {g k:V2→V2} (I:Iso g k) (L:List V2) (h0:0<L.length):∀ (f:Nat) (R:List Nat),ij L.length R→A5 (L.map g) f R=A5 L f R∧ij L.length (A5 L f R)
 | 0,R,h=>⟨rfl,h⟩
 | f+1,R,h=>by
  unfold A5
  rw [gN I L h0 h]
  obtain ⟨h1,h2⟩:=Vy I L h0 f _ (N6 h (Zd L R))
  split
  ·exact ⟨h1,h2⟩
  ·exact ⟨rfl,h⟩
def wo (n:Nat) (d:Nat×Nat×Nat):Prop:=d.1<n∧d.2.1<n∧d.2.2<n
theorem VF {g k:V2→V2} (I:Iso g k) (L:List V2) (h0:0<L.length):∀ (f:Nat) (R:List Nat),ij L.length R→AH (L.map g) f R=AH L f R∧∀ d∈AH L f R,wo L.length d
 | 0,R,h=>⟨rfl,fun d hd=>by
   obtain rfl:=List.mem_singleton.1 hd
   exact ⟨KB h0 h _,KB h0 h _,KB h0 h _⟩⟩
 | f+1,R,h=>by
  unfold AH D0
  rw [gi I L h0 h]
  obtain ⟨c1,c2⟩:=Vy I L h0 (R.length - 1) _ (N6 h (D5 L R))
  rw [c1]
  obtain ⟨h1,h2⟩:=VF I L h0 f _ c2
  split
  ·refine ⟨by rw [h1],fun d hd=>?_⟩
   rcases List.mem_cons.1 hd with rfl | hd
   ·exact ⟨Gu h0 h _,KB h0 h _,Gu h0 h _⟩
   ·exact h2 d hd
  ·refine ⟨rfl,fun d hd=>?_⟩
   obtain rfl:=List.mem_singleton.1 hd
   exact ⟨KB h0 h _,KB h0 h _,KB h0 h _⟩
theorem MG {g k:V2→V2} (I:Iso g k) (L:List V2) (h0:0<L.length):Qg (L.map g)=(Qg L).map fun c=>c.map g:=by
 unfold Qg CK
 rw [List.length_map]
 obtain ⟨h1,h2⟩:=VF I L h0 L.length (List.range L.length) (fun r hr=>List.mem_range.1 hr)
 rw [h1,List.map_map]
 refine List.map_congr_left fun d hd=>?_
 obtain ⟨d1,d2,d3⟩:=h2 d hd
 unfold V0
 simp only [Function.comp,List.map_cons,List.map_nil]
 rw [JL _ _ _ d1,JL _ _ _ d2,JL _ _ _ d3]
def Hd (q:Nat) (d:Int×Int) (a:V2):V2:=(XZ q a).add (Qe d)
theorem ov (q:Nat) (d:Int×Int) (R:List (Int×Int)):Xr (R.map (P4 q d))=(Xr R).map (Hd q d):=by
 unfold Xr
 rw [List.map_map,List.map_map]
 refine List.map_congr_left fun p _=>?_
 show Qe (P4 q d p)=Hd q d (Qe p)
 unfold Hd
 rw [← La]
 unfold P4 Qe V2.add
 simp only [Rat.intCast_add]
theorem Fh (L:List V2) (h0:0<L.length):∀ q,Qg (L.map (XZ q))=(Qg L).map fun c=>c.map (XZ q)
 | 0=>by
  rw [show XZ 0=id from rfl,List.map_id]
  simp
 | q+1=>by
  have e:L.map (XZ (q+1))=(L.map (XZ q)).map QW:=by rw [List.map_map]; rfl
  rw [e,MG quart_iso _ (by simpa using h0),Fh L h0 q,List.map_map]
  refine List.map_congr_left fun c _=>?_
  show (c.map (XZ q)).map QW=c.map (XZ (q+1))
  rw [List.map_map]; rfl
theorem fx (q:Nat) (d:Int×Int) (L:List V2) (h0:0<L.length):Qg (L.map (Hd q d))=(Qg L).map fun c=>c.map (Hd q d):=by
 have e:L.map (Hd q d)=(L.map (XZ q)).map fun a=>a.add (Qe d):=by rw [List.map_map]; rfl
 rw [e,MG (Vg (Qe d)) _ (by simpa using h0),Fh L h0 q,List.map_map]
 refine List.map_congr_left fun c _=>?_
 show (c.map (XZ q)).map _=c.map (Hd q d)
 rw [List.map_map]; rfl
theorem Lb (q:Nat) (hq:q<4) (d:Int×Int) (a:V2):put (XZ ((4 - q) % 4) Qq) (v0.sub (ZE (XZ ((4 - q) % 4) Qq) (Qe d))) (Hd q d a)=a:=by
 unfold Hd put
 match q,hq with
 | 0,_ =>
  show (ZE Qq ((XZ 0 a).add (Qe d))).add (v0.sub (ZE Qq (Qe d)))=a
  unfold XZ Qq ZE V2.add V2.sub v0; rw [V2.ext']; exact ⟨by simp only; grind,by simp only; grind⟩
 | 1,_ =>
  show (ZE (QW (QW (QW Qq))) ((QW a).add (Qe d))).add (v0.sub (ZE (QW (QW (QW Qq))) (Qe d)))=a
  unfold QW Qq ZE V2.add V2.sub v0; rw [V2.ext']; exact ⟨by simp only; grind,by simp only; grind⟩
 | 2,_ =>
  show (ZE (QW (QW Qq)) ((QW (QW a)).add (Qe d))).add (v0.sub (ZE (QW (QW Qq)) (Qe d)))=a
  unfold QW Qq ZE V2.add V2.sub v0; rw [V2.ext']; exact ⟨by simp only; grind,by simp only; grind⟩
 | 3,_ =>
  show (ZE (QW Qq) ((QW (QW (QW a))).add (Qe d))).add (v0.sub (ZE (QW Qq) (Qe d)))=a
  unfold QW Qq ZE V2.add V2.sub v0; rw [V2.ext']; exact ⟨by simp only; grind,by simp only; grind⟩
 | q+4,h=>omega
theorem TL (p:PV) (R:List (Int×Int)) (q:Nat) (hq:q<4) (d:Int×Int) (hR:0<R.length) (hp:p.rim=R.map (P4 q d)):Jw p (XZ ((4 - q) % 4) Qq) (v0.sub (ZE (XZ ((4 - q) % 4) Qq) (Qe d)))=Qg (Xr R):=by
 unfold Jw
 rw [hp,ov,fx q d _ (by simpa [Xr] using hR),List.map_map]
 have:(Zs (XZ ((4 - q) % 4) Qq) (v0.sub (ZE (XZ ((4 - q) % 4) Qq) (Qe d)))∘fun c=>c.map (Hd q d))=id:=by
  funext c
  show (c.map (Hd q d)).map _=c
  rw [List.map_map]
  have e:(put (XZ ((4 - q) % 4) Qq) (v0.sub (ZE (XZ ((4 - q) % 4) Qq) (Qe d)))∘Hd q d)=id:=funext fun a=>Lb q hq d a
  rw [e,List.map_id]
 rw [this,List.map_id]
theorem Pg {a b:List (Int×Int)} {f:FV} {c:V2} {e:Rat} (h1:BZ a.length b.length f) (h2:Zb f.turn) (hc:∀ k,k≤f.M.toNat→ZZ a b f k=c) (he:0≤e):XH a b f e=(c.sub ⟨e,e⟩,c.add ⟨e,e⟩,true):=by
 have e1:DT a b f f.M.toNat=c:=by
  unfold DT
  rw [V2.ext']
  obtain ⟨k,hk,e⟩:=iN (fun j=>(ZZ a b f j).x) f.M.toNat
  obtain ⟨l,hl,e2⟩:=iN (fun j=>(ZZ a b f j).y) f.M.toNat
  exact ⟨by rw [e,hc k hk],by rw [e2,hc l hl]⟩
 have e2:DQ a b f f.M.toNat=c:=by
  unfold DQ
  rw [V2.ext']
  obtain ⟨k,hk,e⟩:=iG (fun j=>(ZZ a b f j).x) f.M.toNat
  obtain ⟨l,hl,e2⟩:=iG (fun j=>(ZZ a b f j).y) f.M.toNat
  exact ⟨by rw [e,hc k hk],by rw [e2,hc l hl]⟩
 unfold XH
 rw [if_pos ⟨h1,h2⟩]
 simp only [e1,e2]
 rw [if_neg]
 unfold V2.add V2.sub
 rintro (g | g) <;> simp only at g <;> grind
theorem Ym {t u:V2} (ht:Zb t) (hu:Q1 u u≠0):K0 u (ZE t u)=(t,0):=by
 unfold Zb at ht
 have e1:Q1 (ZE t u) (ZE t u)=Q1 u u:=by unfold Q1 ZE; simp only; grind
 refine Pl ⟨hu,e1.symm,?_,?_⟩
 ·have:Q1 u (ZE t u)=t.x*Q1 u u:=by unfold Q1 ZE; simp only; grind
  rw [this]; grind
 ·have:Q6 u (ZE t u)=t.y*Q1 u u:=by unfold Q1 Q6 ZE; simp only; grind
  rw [this]; grind
theorem DV (g:Int×Int→Int×Int) (R:List (Int×Int)) (i:Nat) (h:i<R.length):(R.map g).getD i (0,0)=g (R.getD i (0,0)):=by
 rw [List.getD_eq_getElem?_getD,List.getElem?_map,List.getD_eq_getElem?_getD,List.getElem?_eq_getElem h]; rfl
theorem K3 (l:List Int) (W H M:Nat):(Xp l W H M).length=M+3:=by unfold Xp J1; simp
theorem Km (l:List Int) (W H M:Nat):(Xu l W H M).length=M+3:=by unfold Xu; rw [Dw]; omega
theorem BL (l:List Int) (W H M k:Nat) (h:k≤M):(Xp l W H M).getD (k+1) (0,0)=Xl l W H M k:=by
 unfold Xp
 rw [VB _ _ _ _ (by simp [J1]; omega),IB l W H M k h]
theorem aE (l:List Int) (W H M:Nat):(Xp l W H M).getD (M+2) (0,0)=(0,(H:Int)):=by
 unfold Xp
 rw [List.cons_append,List.getD_cons_succ,List.getD_eq_getElem?_getD,List.getElem?_append_right (by simp [J1])]
 simp [J1]
theorem cK (l:List Int) (W H M i:Nat) (h:i<M):(Xu l W H M).getD (3+i) (0,0)=Xl l W H M (M - i):=by
 unfold Xu Kl
 rw [List.getD_eq_getElem?_getD,List.getElem?_append_right (by simp),List.getElem?_map]
 simp [h]
theorem Cx (l:List Int) (W H M k:Nat) (h:k≤M) (i:Nat) (hi:i=if k=0 then 0 else M+3 - k):(Xu l W H M).getD i (0,0)=Xl l W H M k:=by
 subst hi
 split
 ·rename_i h0
  subst h0; rfl
 ·rename_i h0
  rw [show M+3 - k=3+(M - k) by omega,cK l W H M (M - k) (by omega),show M - (M - k)=k by omega]
theorem UG (l:List Int):Do l<4:=by
 have:=XR l 7 4 (by omega)
 unfold Do; omega
theorem HP (l:List Int) (a:V2):ZE (Ji l) (Hd (Do l) (CJ l) a)=a.sub (Qw l):=by
 have h:=Lb (Do l) (UG l) (CJ l) a
 have h:put (Ji l) (Qw l) (Hd (Do l) (CJ l) a)=a:=h
 unfold put at h
 generalize ZE (Ji l) (Hd (Do l) (CJ l) a)=x at *
 rw [← h]
 unfold V2.add V2.sub; rw [V2.ext']; exact ⟨by simp only; grind,by simp only; grind⟩
def L7 (l:List Int) (M:Nat):FV:=Jx 1 (M+2) M (Ji l)
theorem RH (q:Nat) (d p:Int×Int):Qe (P4 q d p)=Hd q d (Qe p):=by
 unfold Hd
 rw [← La]
 unfold P4 Qe V2.add
 simp only [Rat.intCast_add]
theorem g9 (l:List Int) (W H M k:Nat) (hM:1≤M) (hk:k≤M):ZZ (Xp l W H M) (XE l W H M) (L7 l M) k=Qw l:=by
 have hx:xK (Xp l W H M).length (L7 l M) k=k+1:=by
  rw [K3]
  show ((((1:Nat):Int)+(k:Int)) % ((M+3:Nat):Int)).toNat=k+1
  rw [Int.emod_eq_of_lt (by omega) (by omega)]; omega
 have hl:(XE l W H M).length=M+3:=by unfold XE; rw [List.length_map,Km]
 obtain ⟨i,hi⟩:∃ i,i=if k=0 then 0 else M+3 - k:=⟨_,rfl⟩
 have hlt:i<M+3:=by rw [hi]; split <;> omega
 have hy:(((L7 l M).EB+1 - (k:Int)) % ((XE l W H M).length:Int)).toNat=i:=by
  rw [hl]
  show ((((M+2:Nat):Int)+1 - (k:Int)) % ((M+3:Nat):Int)).toNat=i
  by_cases h0:k=0
  ·rw [hi,if_pos h0,h0]
   rw [show (((M+2:Nat):Int)+1 - ((0:Nat):Int))=((M+3:Nat):Int) by omega,Int.emod_self]; rfl
  ·rw [hi,if_neg h0,Int.emod_eq_of_lt (by omega) (by omega)]; omega
 unfold ZZ
 rw [hx,hy,BL l W H M k hk]
 have e:(XE l W H M).getD i (0,0)=P4 (Do l) (CJ l) (Xl l W H M k):=by
  unfold XE
  rw [DV _ _ _ (by rw [Km]; exact hlt),Cx l W H M k hk i hi]
 rw [e,RH]
 show (Qe (Xl l W H M k)).sub (ZE (Ji l) (Hd (Do l) (CJ l) (Qe (Xl l W H M k))))=Qw l
 rw [HP]
 generalize Qe (Xl l W H M k)=P
 generalize Qw l=A
 unfold V2.sub; rw [V2.ext']; exact ⟨by simp only; grind,by simp only; grind⟩
theorem Ht (t:V2) (h:Zb t):∀ q,Zb (XZ q t)
 | 0=>h
 | q+1=>by
  have:=Ht t h q
  unfold Zb at *
  show (-(XZ q t).y)*(-(XZ q t).y)+(XZ q t).x*(XZ q t).x=1
  grind
theorem GM (l:List Int):Zb (Ji l):=Ht Qq (by unfold Zb Qq; decide +kernel) _
theorem Kd (l:List Int) (W H M:Nat):(XE l W H M).length=M+3:=by unfold XE; rw [List.length_map,Km]
theorem SI (l:List Int) (W H M:Nat) (hM:1≤M):BZ (Xp l W H M).length (XE l W H M).length (L7 l M):=by
 rw [K3,Kd]
 show (0≤((1:Nat):Int)∧((1:Nat):Int)<((M+3:Nat):Int))∧(0≤((M+2:Nat):Int)∧((M+2:Nat):Int)<((M+3:Nat):Int))∧1≤((M:Nat):Int)∧((M:Nat):Int)<((M+3:Nat):Int)∧((M:Nat):Int)<((M+3:Nat):Int)
 omega
theorem Fc (l:List Int) (W H M:Nat) (hM:1≤M) (hH:1≤H):Qy (Xp l W H M) (XE l W H M) ((1:Nat):Int) ((M+2:Nat):Int)=(Ji l,true):=by
 have e1:Bu (Xp l W H M) 1=(Qe (Xl l W H M 1)).sub (Qe (Xl l W H M 0)):=by
  unfold Bu
  rw [K3,Nat.mod_eq_of_lt (by omega),BL l W H M 1 hM,BL l W H M 0 (Nat.zero_le _)]
 have e2:Zu (Bu (XE l W H M) (M+2))=(Hd (Do l) (CJ l) (Qe (Xl l W H M 1))).sub (Hd (Do l) (CJ l) (Qe (Xl l W H M 0))):=by
  unfold Bu
  rw [Kd,show M+2+1=M+3 from rfl,Nat.mod_self]
  have a0:(XE l W H M).getD 0 (0,0)=P4 (Do l) (CJ l) (Xl l W H M 0):=by
   unfold XE
   rw [DV _ _ _ (by rw [Km]; omega),Cx l W H M 0 (Nat.zero_le _) 0 rfl]
  have a1:(XE l W H M).getD (M+2) (0,0)=P4 (Do l) (CJ l) (Xl l W H M 1):=by
   unfold XE
   rw [DV _ _ _ (by rw [Km]; omega),Cx l W H M 1 hM (M+2) (by rw [if_neg (by omega)]; omega)]
  rw [a0,a1,RH,RH]
  unfold Zu V2.sub; rw [V2.ext']; exact ⟨by simp only; grind,by simp only; grind⟩
 have e3:ZE (Ji l) ((Hd (Do l) (CJ l) (Qe (Xl l W H M 1))).sub (Hd (Do l) (CJ l) (Qe (Xl l W H M 0))))=(Qe (Xl l W H M 1)).sub (Qe (Xl l W H M 0)):=by
  have b1:=HP l (Qe (Xl l W H M 1))
  have b0:=HP l (Qe (Xl l W H M 0))
  have hr:∀ x y:V2,ZE (Ji l) (x.sub y)=(ZE (Ji l) x).sub (ZE (Ji l) y):=fun x y=>by
   unfold ZE V2.sub; rw [V2.ext']; exact ⟨by simp only; grind,by simp only; grind⟩
  rw [hr,b1,b0]
  unfold V2.sub; rw [V2.ext']; exact ⟨by simp only; grind,by simp only; grind⟩
 have hu:Q1 ((Hd (Do l) (CJ l) (Qe (Xl l W H M 1))).sub (Hd (Do l) (CJ l) (Qe (Xl l W H M 0)))) ((Hd (Do l) (CJ l) (Qe (Xl l W H M 1))).sub (Hd (Do l) (CJ l) (Qe (Xl l W H M 0))))≠0:=by
  have hd:∀ u:V2,Q1 (ZE (Ji l) u) (ZE (Ji l) u)=Q1 u u:=fun u=>by
   have:=GM l
   unfold Zb at this
   unfold Q1 ZE; simp only; grind
  rw [← hd,e3,← e1,Ol]
  intro h0
  have h1:P6 (Xp l W H M) 1=0:=by exact_mod_cast h0
  unfold P6 Fo at h1
  rw [K3,Nat.mod_eq_of_lt (by omega),BL l W H M 1 hM,BL l W H M 0 (Nat.zero_le _)] at h1
  have hy:1≤(Xl l W H M 1).2 - (Xl l W H M 0).2:=by
   unfold Xl
   simp only
   rw [if_neg (show ¬ 0=M by omega)]
   split <;> omega
  simp only at h1
  have k1:=Int.mul_le_mul hy hy (by omega) (by omega)
  have k2:0≤((Xl l W H M 1).1 - (Xl l W H M 0).1)*((Xl l W H M 1).1 - (Xl l W H M 0).1):=by
   rcases Int.le_total 0 ((Xl l W H M 1).1 - (Xl l W H M 0).1) with h | h
   ·exact Int.mul_nonneg h h
   ·exact Int.mul_nonneg_of_nonpos_of_nonpos h h
  omega
 unfold Qy
 rw [if_pos (by rw [K3,Kd]; unfold dl; omega),Int.toNat_natCast,Int.toNat_natCast,e1,e2,← e3,Ym (GM l) hu]
 rfl
theorem ak (l:List Int) (W H M:Nat) (hM:1≤M) {e:Rat} (he:0≤e):XH (Xp l W H M) (XE l W H M) (L7 l M) e=((Qw l).sub ⟨e,e⟩,(Qw l).add ⟨e,e⟩,true) :=
 Pg (SI l W H M hM) (GM l) (fun k hk=>g9 l W H M k hM (by have:(L7 l M).M.toNat=M:=rfl; omega)) he
theorem GZ {A B:PV} (l:List Int) (W H M:Nat) (hM:1≤M) (hH:1≤H) (rA:A.rim=Xp l W H M) (rB:B.rim=XE l W H M) (hw:∀ k,O6 A B (L7 l M) k=false) {e:Rat} (he:0≤e)
  (hc:CG (Qg (Xr (Xp l W H M))) (Qg (Xr (Xu l W H M))) 0=true):Ap A B (Jc A B (L7 l M) e) e=0∧(Jc A B (L7 l M) e).lo=(Qw l).sub ⟨e,e⟩∧(Jc A B (L7 l M) e).hi=(Qw l).add ⟨e,e⟩:=by
 have hb:=ak l W H M hM he
 have hlo:(Jc A B (L7 l M) e).lo=(Qw l).sub ⟨e,e⟩:=by unfold Jc; rw [rA,rB,hb]
 have hhi:(Jc A B (L7 l M) e).hi=(Qw l).add ⟨e,e⟩:=by unfold Jc; rw [rA,rB,hb]
 refine ⟨(DL _ _ _ _).2 ⟨?_,fun k _=>hw k,⟨0,?_,?_,?_⟩,⟨?_,rfl,rfl⟩,?_⟩,hlo,hhi⟩
 ·rw [rA,rB]; exact SI l W H M hM
 ·show 0<((M:Nat):Int).toNat; omega
 all_goals try
  have hx:xK A.rim.length (Jc A B (L7 l M) e) 0=1:=by
   rw [rA,K3]
   show ((((1:Nat):Int)+((0:Nat):Int)) % ((M+3:Nat):Int)).toNat=1
   rw [Int.emod_eq_of_lt (by omega) (by omega)]; omega
  have hy:yK B.rim.length (Jc A B (L7 l M) e) 0=M+2:=by
   rw [rB,Kd]
   show ((((M+2:Nat):Int) - ((0:Nat):Int)) % ((M+3:Nat):Int)).toNat=M+2
   rw [Int.emod_eq_of_lt (by omega) (by omega)]; omega
 ·unfold HL; rw [hx,hy,rA,rB,Fc l W H M hM hH]
 ·unfold HL; rw [hx,hy,rA,rB,Fc l W H M hM hH]; rfl
 ·show (XH A.rim B.rim (L7 l M) e).2.2=true
  rw [rA,rB,hb]
 ·unfold ZL
  have hm:Gx (Jc A B (L7 l M) e)=Qw l:=by
   unfold Gx
   rw [hlo,hhi,show Rat.divInt 1 2=1 / 2 by decide +kernel]
   unfold V2.scale V2.add V2.sub; rw [V2.ext']; exact ⟨by simp only; grind,by simp only; grind⟩
  have hq:Jw B (Ji l) (Qw l)=Qg (Xr (Xu l W H M)):=TL B (Xu l W H M) (Do l) (UG l) (CJ l) (by rw [Km]; omega) rB
  rw [hm,PG,rA]
  show CG _ (Jw B (Ji l) (Qw l)) (-e)=true
  rw [hq]
  exact Yn hc (by grind)
theorem VG (l:List Int) (W H M:Nat) {g:FV} {k i j:Nat} {c:Int×Int} (ht:g.turn=Ji l) (hx:xK (Xp l W H M).length g k=i) (hy:yL (XE l W H M).length g k=j) (hj:j<M+3) (hc:(Xu l W H M).getD j (0,0)=c) :
  ZZ (Xp l W H M) (XE l W H M) g k=(Qe ((Xp l W H M).getD i (0,0))).sub ((Qe c).sub (Qw l)):=by
 have hy:((g.EB+1 - (k:Int)) % ((XE l W H M).length:Int)).toNat=j:=hy
 unfold ZZ
 rw [hx,hy,ht]
 have e:(XE l W H M).getD j (0,0)=P4 (Do l) (CJ l) c:=by
  unfold XE
  rw [DV _ _ _ (by rw [Km]; exact hj),hc]
 rw [e,RH,HP]
theorem am (l:List Int) (W H M:Nat) (hM:1≤M∧M≤3) {g:FV} (ht:g.turn=Ji l) (h1:0≤g.EA∧g.EA<((M+3:Nat):Int)) (h2:0≤g.EB∧g.EB<((M+3:Nat):Int)) (h3:(M:Int)<g.M) (h4:g.M<((M+3:Nat):Int))
  (p2:(1 - g.EA) % ((M+3:Nat):Int)+M≤g.M) (p3:(g.EB - (1 - g.EA) % ((M+3:Nat):Int)) % ((M+3:Nat):Int)=M+2) :
  ∃ i j,i≤g.M.toNat∧j≤g.M.toNat∧(ZZ (Xp l W H M) (XE l W H M) g i).x=(Qw l).x∧(ZZ (Xp l W H M) (XE l W H M) g j).x=(Qw l).x - W:=by
 have at0:∀ P:V2,(P.sub (P.sub (Qw l))).x=(Qw l).x:=fun P=>by unfold V2.sub; simp only; grind
 have f0:(Xp l W H M).getD 0 (0,0)=(0,0):=rfl
 have f1:=BL l W H M 0 (Nat.zero_le _)
 have f2:=aE l W H M
 have s0:(Xu l W H M).getD 0 (0,0)=Xl l W H M 0:=rfl
 have s1:(Xu l W H M).getD 1 (0,0)=((W:Int),0):=rfl
 have s2:(Xu l W H M).getD 2 (0,0)=((W:Int),(H:Int)):=rfl
 have lf:=K3 l W H M
 have ls:=Kd l W H M
 have w:∀ y:Int,((Qe (0,y)).sub ((Qe ((W:Int),y)).sub (Qw l))).x=(Qw l).x - W:=fun y=>by
  unfold Qe V2.sub; simp only
  have:((0:Int):Rat)=0:=rfl
  have h:(((W:Nat):Int):Rat)=((W:Nat):Rat):=rfl
  rw [this,h]; grind
 obtain ⟨d,hd⟩:∃ d:Nat,(1 - g.EA) % ((M+3:Nat):Int)=d:=⟨((1 - g.EA) % ((M+3:Nat):Int)).toNat,by have:=Int.emod_nonneg (1 - g.EA) (show ((M+3:Nat):Int)≠0 by omega); omega⟩
 rw [hd] at p2 p3
 by_cases h0:d=0
 ·refine ⟨0,M+1,by omega,by omega,?_,?_⟩
  ·rw [VG l W H M (i:=1) (j:=0) ht ?_ ?_ (by omega) s0]
   ·rw [f1]; exact at0 _
   ·rw [lf]; unfold xK; rcases (show M=1∨M=2∨M=3 by omega) with rfl | rfl | rfl <;> omega
   ·rw [ls]; unfold yL; rcases (show M=1∨M=2∨M=3 by omega) with rfl | rfl | rfl <;> omega
  ·rw [VG l W H M (i:=M+2) (j:=2) ht ?_ ?_ (by omega) s2]
   ·rw [f2]; exact w _
   ·rw [lf]; unfold xK; rcases (show M=1∨M=2∨M=3 by omega) with rfl | rfl | rfl <;> omega
   ·rw [ls]; unfold yL; rcases (show M=1∨M=2∨M=3 by omega) with rfl | rfl | rfl <;> omega
 ·refine ⟨d,d - 1,by omega,by omega,?_,?_⟩
  ·rw [VG l W H M (i:=1) (j:=0) ht ?_ ?_ (by omega) s0]
   ·rw [f1]; exact at0 _
   ·rw [lf]; unfold xK; rcases (show M=1∨M=2∨M=3 by omega) with rfl | rfl | rfl <;> omega
   ·rw [ls]; unfold yL; rcases (show M=1∨M=2∨M=3 by omega) with rfl | rfl | rfl <;> omega
  ·rw [VG l W H M (i:=0) (j:=1) ht ?_ ?_ (by omega) s1]
   ·rw [f0]; exact w _
   ·rw [lf]; unfold xK; rcases (show M=1∨M=2∨M=3 by omega) with rfl | rfl | rfl <;> omega
   ·rw [ls]; unfold yL; rcases (show M=1∨M=2∨M=3 by omega) with rfl | rfl | rfl <;> omega
theorem PI {A B:PV} (l:List Int) (W H M:Nat) (hM:1≤M∧M≤3) (hH:1≤H) (hW:4≤W) (rA:A.rim=Xp l W H M) (rB:B.rim=XE l W H M) (hw:∀ k,O6 A B (L7 l M) k=false) {e:Rat} (he:0≤e) (h1:e≤1)
  (hc:CG (Qg (Xr (Xp l W H M))) (Qg (Xr (Xu l W H M))) 0=true):Jc A B (L7 l M) e∈H4 A B e:=by
 have nA:A.rim.length=M+3:=by rw [rA,K3]
 have nB:B.rim.length=M+3:=by rw [rB,Kd]
 have hk:=(GZ l W H M hM.1 hH rA rB hw he hc).1
 refine List.mem_filter.2 ⟨MI hk rfl rfl (by omega) (by omega),?_⟩
 rw [Bool.not_eq_true',Bool.eq_false_iff]
 intro h
 obtain ⟨g,hg,hp⟩:=List.any_eq_true.1 h
 obtain ⟨p1,p2,p3,p4⟩:=of_decide_eq_true hp
 obtain ⟨_,_,q1,q2,q3,q4,q5⟩:=Ew hg (by omega) (by omega)
 have hcg:=CZ hg (by omega) (by omega)
 obtain ⟨_,_,_,⟨ha,_⟩,_⟩:=(DL A B g e).1 hcg
 rw [rA,rB] at ha
 obtain ⟨_,_,_,hx,_⟩:=Ph ha
 rw [nA] at q1 q4 p2 p3
 rw [nB] at q2 p3
 obtain ⟨i,j,hi,hj,di,dj⟩:=am l W H M hM (g:=g) p4.symm q1 q2 p1 q4 p2 p3
 have m1:=W3 (fun k=>(ZZ (Xp l W H M) (XE l W H M) g k).x) g.M.toNat i hi
 have m2:=W1 (fun k=>(ZZ (Xp l W H M) (XE l W H M) g k).x) g.M.toNat j hj
 have m1:(ZZ (Xp l W H M) (XE l W H M) g i).x≤_:=m1
 have m2:_≤(ZZ (Xp l W H M) (XE l W H M) g j).x:=m2
 rw [di] at m1
 rw [dj] at m2
 unfold DT DQ at hx
 simp only at hx
 have hWr:(4:Rat)≤(W:Rat):=by exact_mod_cast hW
 grind
theorem VO (l:List Int) (W H:Nat):Xp l W H 1=[(0,0),((Xl l W H 1 0).1,0),((Xl l W H 1 1).1,(H:Int)),(0,(H:Int))]:=rfl
theorem Ss (l:List Int) (W H:Nat):Xu l W H 1=[((Xl l W H 1 0).1,0),((W:Int),0),((W:Int),(H:Int)),((Xl l W H 1 1).1,(H:Int))]:=rfl
theorem VP (l:List Int) (W H:Nat):Xp l W H 2=[(0,0),((Xl l W H 2 0).1,0),((Xl l W H 2 1).1,1),((Xl l W H 2 2).1,(H:Int)),(0,(H:Int))]:=rfl
theorem Su (l:List Int) (W H:Nat):Xu l W H 2=[((Xl l W H 2 0).1,0),((W:Int),0),((W:Int),(H:Int)),((Xl l W H 2 2).1,(H:Int)),((Xl l W H 2 1).1,1)]:=rfl
theorem VQ (l:List Int) (W H:Nat):Xp l W H 3=[(0,0),((Xl l W H 3 0).1,0),((Xl l W H 3 1).1,1),((Xl l W H 3 2).1,2),((Xl l W H 3 3).1,(H:Int)),(0,(H:Int))]:=rfl
theorem Sv (l:List Int) (W H:Nat):Xu l W H 3=[((Xl l W H 3 0).1,0),((W:Int),0),((W:Int),(H:Int)),((Xl l W H 3 3).1,(H:Int)),((Xl l W H 3 2).1,2),((Xl l W H 3 1).1,1)]:=rfl
theorem f9 (l:List Int) (W H M:Nat) (hM:1≤M∧M≤3):JF (Xr (Xp l W H M))+JF (Xr (Xu l W H M))=(W:Rat)*(H:Rat):=by
 have hr:Rat.divInt 1 2=1 / 2:=by decide +kernel
 rcases (show M=1∨M=2∨M=3 by omega) with rfl | rfl | rfl
 ·rw [VO,Ss]
  unfold JF Xr
  simp only [List.map_cons,List.map_nil,List.length_cons,List.length_nil,Nat.zero_add,Nat.reduceAdd,K1,Nat.reduceMod,List.getD_cons_zero,List.getD_cons_succ,Q6,Qe,hr]
  have e1:(((W:Nat):Int):Rat)=((W:Nat):Rat):=rfl
  have e2:(((H:Nat):Int):Rat)=((H:Nat):Rat):=rfl
  have e0:((0:Int):Rat)=0:=rfl
  rw [e1,e2,e0]
  grind
 ·rw [VP,Su]
  unfold JF Xr
  simp only [List.map_cons,List.map_nil,List.length_cons,List.length_nil,Nat.zero_add,Nat.reduceAdd,K1,Nat.reduceMod,List.getD_cons_zero,List.getD_cons_succ,Q6,Qe,hr]
  have e1:(((W:Nat):Int):Rat)=((W:Nat):Rat):=rfl
  have e2:(((H:Nat):Int):Rat)=((H:Nat):Rat):=rfl
  have e0:((0:Int):Rat)=0:=rfl
  have e3:((1:Int):Rat)=1:=rfl
  rw [e1,e2,e0,e3]
  grind
 ·rw [VQ,Sv]
  unfold JF Xr
  simp only [List.map_cons,List.map_nil,List.length_cons,List.length_nil,Nat.zero_add,Nat.reduceAdd,K1,Nat.reduceMod,List.getD_cons_zero,List.getD_cons_succ,Q6,Qe,hr]
  have e1:(((W:Nat):Int):Rat)=((W:Nat):Rat):=rfl
  have e2:(((H:Nat):Int):Rat)=((H:Nat):Rat):=rfl
  have e0:((0:Int):Rat)=0:=rfl
  have e3:((1:Int):Rat)=1:=rfl
  have e4:((2:Int):Rat)=2:=rfl
  rw [e1,e2,e0,e3,e4]
  grind
theorem pF (g:Nat→Rat):∀ n k,k<n→fi g n≤g k
 | n+1,k,h=>by
  unfold fi Mi
  by_cases hk:k=n
  ·subst hk
   split
   ·exact Rat.le_refl
   ·rename_i h; exact Rat.not_lt.1 h
  ·have ih:=pF g n k (by omega)
   split
   ·rename_i h; exact Rat.le_trans (Rat.le_of_lt h) ih
   ·exact ih
theorem pD (g:Nat→Rat):∀ n,∃ k,k≤n - 1∧fi g n=g k
 | 0=>⟨0,Nat.le_refl _,rfl⟩
 | n+1=>by
  obtain ⟨k,hk,e⟩:=pD g n
  unfold fi Mi
  split
  ·exact ⟨n,by omega,rfl⟩
  ·exact ⟨k,by omega,e⟩
theorem pJ (g:Nat→Rat):∀ n k,k<n→g k≤fw g n
 | n+1,k,h=>by
  unfold fw Mj
  by_cases hk:k=n
  ·subst hk
   split
   ·exact Rat.le_refl
   ·rename_i h; exact Rat.not_lt.1 h
  ·have ih:=pJ g n k (by omega)
   split
   ·rename_i h; exact Rat.le_trans ih (Rat.le_of_lt h)
   ·exact ih
theorem pH (g:Nat→Rat):∀ n,∃ k,k≤n - 1∧fw g n=g k
 | 0=>⟨0,Nat.le_refl _,rfl⟩
 | n+1=>by
  obtain ⟨k,hk,e⟩:=pH g n
  unfold fw Mj
  split
  ·exact ⟨n,by omega,rfl⟩
  ·exact ⟨k,by omega,e⟩
theorem pE {g:Nat→Rat} {n:Nat} {c:Rat} (h0:0<n) (h:∀ k,k<n→c≤g k) (he:∃ k,k<n∧g k=c):fi g n=c:=by
 obtain ⟨k,hk,e⟩:=pD g n
 obtain ⟨j,hj,e2⟩:=he
 refine Rat.le_antisymm ?_ ?_
 ·rw [← e2]; exact pF g n j hj
 ·rw [e]; exact h k (by omega)
theorem pI {g:Nat→Rat} {n:Nat} {c:Rat} (h0:0<n) (h:∀ k,k<n→g k≤c) (he:∃ k,k<n∧g k=c):fw g n=c:=by
 obtain ⟨k,hk,e⟩:=pH g n
 obtain ⟨j,hj,e2⟩:=he
 refine Rat.le_antisymm ?_ ?_
 ·rw [e]; exact h k (by omega)
 ·rw [← e2]; exact pJ g n j hj
theorem ud (l:List Int) (W H M:Nat) (hW:4≤W∧W≤7) (hM:1≤M∧M≤3) (hH:3≤H∧H≤6):∀ c∈Xu l W H M ++ Xp l W H M,(0≤c.1∧c.1≤W)∧0≤c.2∧c.2≤H:=by
 have hc:∀ k,k≤M→(0≤(Xl l W H M k).1∧(Xl l W H M k).1≤W)∧0≤(Xl l W H M k).2∧(Xl l W H M k).2≤H:=fun k hk=>by
  have b:=(Fi l W H M k hW hH.2 (by omega)).1
  refine ⟨by omega,?_⟩
  unfold Xl
  simp only
  split <;> omega
 intro c h
 rcases List.mem_append.1 h with h | h
 ·unfold Xu Kl at h
  rcases List.mem_append.1 h with h | h
  ·simp only [List.mem_cons,List.not_mem_nil,or_false] at h
   rcases h with rfl | rfl | rfl
   ·exact hc 0 (by omega)
   ·simp only; omega
   ·simp only; omega
  ·obtain ⟨i,hi,rfl⟩:=List.mem_map.1 h
   exact hc _ (by omega)
 ·unfold Xp J1 at h
  rcases List.mem_append.1 h with h | h
  ·rcases List.mem_cons.1 h with rfl | h
   ·simp only; omega
   ·obtain ⟨i,hi,rfl⟩:=List.mem_map.1 h
    exact hc _ (by have:=List.mem_range.1 hi; omega)
  ·obtain rfl:=List.mem_singleton.1 h
   simp only; omega
theorem lF (l:List Int) (W H M:Nat) (hW:4≤W∧W≤7) (hM:1≤M∧M≤3) (hH:3≤H∧H≤6) (P:List V2) (hP:P=Xr (Xu l W H M ++ Xp l W H M)):CW P P.length=⟨0,0⟩∧CV P P.length=⟨(W:Rat),(H:Rat)⟩:=by
 subst hP
 have hin:=ud l W H M hW hM hH
 have hlen:(Xr (Xu l W H M ++ Xp l W H M)).length=(Xu l W H M ++ Xp l W H M).length:=by simp [Xr]
 have l1:=Km l W H M
 have l2:=K3 l W H M
 have hl:(Xu l W H M ++ Xp l W H M).length=2*(M+3):=by rw [List.length_append,l1,l2]; omega
 have s0:(Xu l W H M ++ Xp l W H M).getD 2 (0,0)=((W:Int),(H:Int)):=rfl
 have f0:(Xu l W H M ++ Xp l W H M).getD (M+3) (0,0)=(0,0):=by
  rw [List.getD_eq_getElem?_getD,List.getElem?_append_right (by omega),l1,Nat.sub_self]; rfl
 rw [hlen,hl]
 have hk:∀ k,k<2*(M+3)→(Xu l W H M ++ Xp l W H M).getD k (0,0)∈Xu l W H M ++ Xp l W H M:=fun k h=>Ju (by rw [hl]; exact h)
 generalize Xu l W H M ++ Xp l W H M=R at *
 have c0:((0:Int):Rat)=0:=rfl
 unfold CW CV
 simp only [Z7]
 rw [V2.ext',V2.ext']
 refine ⟨⟨pE (by omega) (fun k h=>?_) ⟨M+3,by omega,by rw [f0]; rfl⟩,pE (by omega) (fun k h=>?_) ⟨M+3,by omega,by rw [f0]; rfl⟩⟩,pI (by omega) (fun k h=>?_) ⟨2,by omega,by rw [s0]; rfl⟩,pI (by omega) (fun k h=>?_) ⟨2,by omega,by rw [s0]; rfl⟩⟩
 ·exact Rat.intCast_nonneg.2 (hin _ (hk k h)).1.1
 ·exact Rat.intCast_nonneg.2 (hin _ (hk k h)).2.1
 ·have:=(hin _ (hk k h)).1.2
  show (((R.getD k (0,0)).1:Int):Rat)≤(((W:Nat):Int):Rat)
  exact Rat.intCast_le_intCast.2 this
 ·have:=(hin _ (hk k h)).2.2
  show (((R.getD k (0,0)).2:Int):Rat)≤(((H:Nat):Int):Rat)
  exact Rat.intCast_le_intCast.2 this
end
end Go.Ab.N
namespace Go.Ab.N
open Go Go.RowKit Go.Proofs
set_option maxRecDepth 10000
set_option maxHeartbeats 4000000
theorem sd (p q b a:Int×Int):(nI p q).1*(b.1 - a.1)+(nI p q).2*(b.2 - a.2)=Hz p q a - Hz p q b:=by
 unfold nI Hz; grind
theorem rP (p q:Int×Int):Hz p q p=0:=by unfold Hz; grind
theorem rQ (p q:Int×Int):Hz p q q=0:=by unfold Hz; grind
def cL (p q r d e f:Nat×Nat):Bool:=Nat.ble (MK p q d) (MJ p q d) && Nat.ble (MK p q e) (MJ p q e) && Nat.ble (MK p q f) (MJ p q f) && Nat.ble (MJ p q r) (MK p q r)
def NF (p q r a b c:Nat×Nat):Bool:=Nat.ble (MJ p q a) (MK p q a) && Nat.ble (MJ p q b) (MK p q b) && Nat.ble (MJ p q c) (MK p q c) && Nat.ble (MK p q r) (MJ p q r)
theorem jD {n:Int×Int} {A B:List (Int×Int)} (h:∀ a∈A,∀ b∈B,0≤n.1*(b.1 - a.1)+n.2*(b.2 - a.2)):Mn n A B=true :=
 List.all_eq_true.2 fun a ha=>List.all_eq_true.2 fun b hb=>decide_eq_true (h a ha b hb)
theorem BX {p q:Nat×Nat} {A B:List (Nat×Nat)} (hA:∀ a∈A,0≤Hz (ci p) (ci q) (ci a)) (hB:∀ b∈B,Hz (ci p) (ci q) (ci b)≤0):Mn (nI (ci p) (ci q)) (CO A) (CO B)=true:=by
 refine jD fun x hx y hy=>?_
 obtain ⟨a,ha,rfl⟩:=List.mem_map.1 hx
 obtain ⟨b,hb,rfl⟩:=List.mem_map.1 hy
 rw [sd]
 have:=hA a ha; have:=hB b hb
 omega
theorem Ao {p q d:Nat×Nat} (h:Nat.ble (MK p q d) (MJ p q d)=true):Hz (ci p) (ci q) (ci d)≤0:=by
 have:=Nat.le_of_ble_eq_true h
 rw [Rl]; omega
theorem An {p q d:Nat×Nat} (h:Nat.ble (MJ p q d) (MK p q d)=true):0≤Hz (ci p) (ci q) (ci d):=by
 have:=Nat.le_of_ble_eq_true h
 rw [Rl]; omega
theorem ux (p q:Nat×Nat):Hz (ci p) (ci q) (ci p)=0:=rP _ _
theorem uy (p q:Nat×Nat):Hz (ci p) (ci q) (ci q)=0:=rQ _ _
def S8 (A B:List (Nat×Nat)):Bool :=
 match A,B with
 | [a,b,c],[d,e,f]=>cL a b c d e f || cL b c a d e f || cL c a b d e f || NF e d f a b c || NF f e d a b c || NF d f e a b c || j8 A B
 | _,_=>false
theorem ja {A B:List (Nat×Nat)} (h:S8 A B=true):Np (CO A) (CO B)=true:=by
 unfold S8 at h
 split at h
 rotate_left
 ·cases h
 rename_i a b c d e f
 simp only [Bool.or_eq_true] at h
 rcases h with (((((h | h) | h) | h) | h) | h) | h
 rotate_right
 ·exact j9 h
 all_goals
  unfold Np
  rw [show IF (CO [a,b,c]) (CO [d,e,f])=_ from VH (ci a) (ci b) (ci c) (ci d) (ci e) (ci f)]
  simp only [List.any_cons,List.any_nil,Bool.or_false,Bool.or_eq_true]
  first | unfold cL at h | unfold NF at h
  simp only [Bool.and_eq_true] at h
  obtain ⟨⟨⟨h1,h2⟩,h3⟩,h4⟩:=h
 ·refine .inl (BX (fun x hx=>?_) (fun x hx=>?_)) <;> simp only [List.mem_cons,List.not_mem_nil,or_false] at hx <;> rcases hx with rfl | rfl | rfl
  all_goals first | exact Ao h1 | exact Ao h2 | exact Ao h3 | exact An h4 | exact Int.le_of_eq (ux _ _).symm | exact Int.le_of_eq (uy _ _).symm
 ·refine .inr (.inl (BX (fun x hx=>?_) (fun x hx=>?_))) <;> simp only [List.mem_cons,List.not_mem_nil,or_false] at hx <;> rcases hx with rfl | rfl | rfl
  all_goals first | exact Ao h1 | exact Ao h2 | exact Ao h3 | exact An h4 | exact Int.le_of_eq (ux _ _).symm | exact Int.le_of_eq (uy _ _).symm
 ·refine .inr (.inr (.inl (BX (fun x hx=>?_) (fun x hx=>?_)))) <;> simp only [List.mem_cons,List.not_mem_nil,or_false] at hx <;> rcases hx with rfl | rfl | rfl
  all_goals first | exact Ao h1 | exact Ao h2 | exact Ao h3 | exact An h4 | exact Int.le_of_eq (ux _ _).symm | exact Int.le_of_eq (uy _ _).symm
 ·refine .inr (.inr (.inr (.inl (BX (fun x hx=>?_) (fun x hx=>?_))))) <;> simp only [List.mem_cons,List.not_mem_nil,or_false] at hx <;> rcases hx with rfl | rfl | rfl
  all_goals first | exact An h1 | exact An h2 | exact An h3 | exact Ao h4 | exact Int.le_of_eq (ux _ _) | exact Int.le_of_eq (uy _ _)
 ·refine .inr (.inr (.inr (.inr (.inl (BX (fun x hx=>?_) (fun x hx=>?_)))))) <;> simp only [List.mem_cons,List.not_mem_nil,or_false] at hx <;> rcases hx with rfl | rfl | rfl
  all_goals first | exact An h1 | exact An h2 | exact An h3 | exact Ao h4 | exact Int.le_of_eq (ux _ _) | exact Int.le_of_eq (uy _ _)
 ·refine .inr (.inr (.inr (.inr (.inr (.inl (BX (fun x hx=>?_) (fun x hx=>?_))))))) <;> simp only [List.mem_cons,List.not_mem_nil,or_false] at hx <;> rcases hx with rfl | rfl | rfl
  all_goals first | exact An h1 | exact An h2 | exact An h3 | exact Ao h4 | exact Int.le_of_eq (ux _ _) | exact Int.le_of_eq (uy _ _)
def TN (P Q:List (Nat×Nat)):Bool:=(Iv P).all fun x=>(Iv Q).all fun y=>S8 x y
theorem Gh {P Q:List (Nat×Nat)} (h:TN P Q=true):CG (Qg (Xr (CO P))) (Qg (Xr (CO Q))) 0=true:=by
 refine YV ?_
 unfold fD
 rw [MF,MF]
 refine List.all_eq_true.2 fun x hx=>List.all_eq_true.2 fun y hy=>?_
 obtain ⟨a,ha,rfl⟩:=List.mem_map.1 hx
 obtain ⟨b,hb,rfl⟩:=List.mem_map.1 hy
 exact ja (List.all_eq_true.1 (List.all_eq_true.1 h a ha) b hb)
end Go.Ab.N
namespace Go.Ab.N
set_option maxRecDepth 10000
set_option maxHeartbeats 4000000
noncomputable section
def bR {α:Type} (x y:α) (b:Bool):α:=Bool.rec x y b
def C2 {α:Type} (d:α) (l:List α):Nat→α:=List.rec (fun _=>d) (fun a _ ih n=>Nat.rec a (fun m _=>ih m) n) l
theorem Ci {α:Type} (d:α):∀ (l:List α) (i:Nat),C2 d l i=l.getD i d
 | [],_=>rfl
 | _ :: _,0=>rfl
 | _ :: l,i+1=>Ci d l i
def Yo {α:Type} (p:α→Bool) (l:List α):Bool:=List.rec true (fun a _ ih=>Bool.rec false ih (p a)) l
theorem HK {α:Type} (p:α→Bool):∀ l:List α,Yo p l=l.all p
 | []=>rfl
 | a :: l=>by
  show bR false (Yo p l) (p a)=(p a && l.all p)
  rw [HK p l]; cases p a <;> rfl
def HB (p:Nat→Bool) (n:Nat):Nat→Nat:=Nat.rec (fun i=>i) (fun _ ih i=>Bool.rec (ih (Nat.succ i)) i (p i)) n
theorem Ot (p:Nat→Bool):∀ n i:Nat,HB p n i=i+(List.range' i n).findIdx p
 | 0,i=>by show i=i+0; omega
 | n+1,i=>by
  show bR (HB p n (i+1)) i (p i)=_
  rw [List.range'_succ,List.findIdx_cons,Ot p n (i+1)]
  cases p i
  ·show i+1+_=i+(_+1); omega
  ·show i=i+0; omega
def az (l:List Nat):Nat→List Nat:=List.rec (fun _=>[]) (fun a t ih n=>Nat.rec t (fun m _=>a :: ih m) n) l
theorem On:∀ (l:List Nat) (i:Nat),az l i=l.eraseIdx i
 | [],_=>rfl
 | _ :: _,0=>rfl
 | a :: l,i+1=>by show a :: az l i=a :: l.eraseIdx i; rw [On l i]
def M2 (a b:Bool):Bool:=Bool.rec false b a
def nZ (a b:Bool):Bool:=Bool.rec b true a
theorem HM (a b:Bool):M2 a b=(a && b):=by cases a <;> rfl
theorem iX (a b:Bool):nZ a b=(a || b):=by cases a <;> rfl
def wC (a b c:Nat×Nat):Nat:=Nat.add (Nat.add (Nat.mul b.1 c.2) (Nat.mul a.2 c.1)) (Nat.mul a.1 b.2)
def wB (a b c:Nat×Nat):Nat:=Nat.add (Nat.add (Nat.mul b.2 c.1) (Nat.mul a.1 c.2)) (Nat.mul a.2 b.1)
def VW (a b c:Nat×Nat):Bool:=Nat.ble (wB a b c) (wC a b c)
def pO (a b c:Nat×Nat):Bool:=Nat.ble (wC a b c) (wB a b c)
def xF (a b c:Nat×Nat):Bool:=Nat.ble (Nat.succ (wB a b c)) (wC a b c)
def x8 (P:List (Nat×Nat)) (a b c:Nat) (A B C:Nat×Nat) (k:Nat):Bool:=nZ (Nat.beq k a) (nZ (Nat.beq k c) (nZ (Nat.beq k b) (Bool.rec true false (M2 (VW A B (C2 (0,0) P k)) (M2 (VW B C (C2 (0,0) P k)) (VW C A (C2 (0,0) P k)))))))
theorem rM (P:List (Nat×Nat)) (a b c k:Nat):x8 P a b c (P.getD a (0,0)) (P.getD b (0,0)) (P.getD c (0,0)) k=Re P a b c k:=by
 unfold x8 Re rU
 simp only [iX,HM,Ci]
 have e:∀ x:Bool,(Bool.rec true false x:Bool)=!x:=fun x=>by cases x <;> rfl
 rw [e]
 show _=(Nat.beq k a || Nat.beq k c || Nat.beq k b || !(VW _ _ _ && VW _ _ _ && VW _ _ _))
 simp only [Bool.or_assoc,Bool.and_assoc]
def xw (P:List (Nat×Nat)) (R:List Nat) (a b c:Nat) (A B C:Nat×Nat):Bool:=M2 (xF A B C) (Yo (fun k=>x8 P a b c A B C k) R)
def mA (P:List (Nat×Nat)) (R:List Nat) (n p:Nat):Bool:=(fun a b c=>xw P R a b c (C2 (0,0) P a) (C2 (0,0) P b) (C2 (0,0) P c)) (C2 0 R (Nat.mod (Nat.sub (Nat.add p n) 1) n)) (C2 0 R p) (C2 0 R (Nat.mod (Nat.succ (Nat.add p n)) n))
theorem rp (P:List (Nat×Nat)) (R:List Nat) (n p:Nat):mA P R n p=U3 P R n p:=by
 unfold mA xw U3
 simp only [Ci,HM,HK,rM]
 rfl
def vu (P:List (Nat×Nat)) (R:List Nat) (n p:Nat):Bool:=(fun A B C=>Nat.beq (wC A B C) (wB A B C)) (C2 (0,0) P (C2 0 R (Nat.mod (Nat.sub (Nat.add p n) 1) n))) (C2 (0,0) P (C2 0 R p)) (C2 (0,0) P (C2 0 R (Nat.mod (Nat.succ (Nat.add p n)) n)))
theorem mF (P:List (Nat×Nat)) (R:List Nat) (n:Nat):HB (mA P R n) (n - 1) 0=MT P R n:=by
 rw [Ot,Nat.zero_add,show mA P R n=U3 P R n from funext (rp P R n)]
 unfold MT; rw [List.range_eq_range']
theorem mO (P:List (Nat×Nat)) (R:List Nat) (n:Nat):HB (vu P R n) n 0=Da P R n:=by
 rw [Ot,Nat.zero_add]
 unfold Da; rw [List.range_eq_range']
 congr 1
 funext p
 unfold vu
 simp only [Ci]
 rfl
def Zl (l:List Nat):Nat:=List.rec 0 (fun _ _ ih=>Nat.succ ih) l
theorem Ou:∀ l:List Nat,Zl l=l.length
 | []=>rfl
 | _ :: l=>by show Nat.succ (Zl l)=_; rw [Ou l]; rfl
def xA (R:List Nat) (n q:Nat) (ih:List Nat→List Nat):List Nat:=Bool.rec R (ih (az R q)) (Nat.ble (Nat.succ q) n)
def wz (P:List (Nat×Nat)) (f:Nat):List Nat→List Nat:=Nat.rec (fun R=>R) (fun _ ih R=>Bool.rec R (xA R (Zl R) (HB (vu P R (Zl R)) (Zl R) 0) ih) (Nat.ble 4 (Zl R))) f
theorem fz (P:List (Nat×Nat)):∀ (f:Nat) (R:List Nat),wz P f R=YY P f R
 | 0,_=>rfl
 | f+1,R=>by
  show bR R (bR R (wz P f (az R (HB (vu P R (Zl R)) (Zl R) 0))) (Nat.ble (Nat.succ (HB (vu P R (Zl R)) (Zl R) 0)) (Zl R))) (Nat.ble 4 (Zl R))=_
  unfold YY
  rw [Ou,mO,On,fz P f]
  show bR R (bR R _ (Nat.blt (Da P R R.length) R.length)) (Nat.blt 3 R.length)=_
  cases Nat.blt 3 R.length <;> cases Nat.blt (Da P R R.length) R.length <;> rfl
def xB (P:List (Nat×Nat)) (R:List Nat) (n q:Nat) (ih:List Nat→List (Nat×Nat×Nat)):List (Nat×Nat×Nat):=(C2 0 R (Nat.mod (Nat.sub (Nat.add q n) 1) n),C2 0 R q,C2 0 R (Nat.mod (Nat.succ (Nat.add q n)) n)) :: ih (wz P (n - 1) (az R q))
def v8 (P:List (Nat×Nat)) (f:Nat):List Nat→List (Nat×Nat×Nat):=Nat.rec (fun R=>[(C2 0 R 0,C2 0 R 1,C2 0 R 2)]) (fun _ ih R=>Bool.rec [(C2 0 R 0,C2 0 R 1,C2 0 R 2)] (xB P R (Zl R) (HB (mA P R (Zl R)) (Zl R - 1) 0) ih) (Nat.ble 4 (Zl R))) f
theorem TT (P:List (Nat×Nat)):∀ (f:Nat) (R:List Nat),v8 P f R=TU P f R
 | 0,R=>by show [_]=[_]; rw [Ci,Ci,Ci]
 | f+1,R=>by
  show bR [(C2 0 R 0,C2 0 R 1,C2 0 R 2)] ((C2 0 R (Nat.mod (Nat.sub (Nat.add (HB (mA P R (Zl R)) (Zl R - 1) 0) (Zl R)) 1) (Zl R)),C2 0 R (HB (mA P R (Zl R)) (Zl R - 1) 0),C2 0 R (Nat.mod (Nat.succ (Nat.add (HB (mA P R (Zl R)) (Zl R - 1) 0) (Zl R))) (Zl R))) :: v8 P f (wz P (Zl R - 1) (az R (HB (mA P R (Zl R)) (Zl R - 1) 0)))) (Nat.ble 4 (Zl R))=_
  unfold TU
  rw [Ou,mF,On,fz,TT P f]
  simp only [Ci]
  show bR _ _ (Nat.blt 3 R.length)=_
  cases Nat.blt 3 R.length <;> rfl
def wk (p q r d e f:Nat×Nat):Bool:=M2 (pO p q d) (M2 (pO p q e) (M2 (pO p q f) (VW p q r)))
def wg (p q r a b c:Nat×Nat):Bool:=M2 (VW p q a) (M2 (VW p q b) (M2 (VW p q c) (pO p q r)))
def wK (a b c d e f:Nat×Nat):Bool:=nZ (wk a b c d e f) (nZ (wk b c a d e f) (nZ (wk c a b d e f) (nZ (wg e d f a b c) (nZ (wg f e d a b c) (wg d f e a b c)))))
theorem tK {a b c d e f:Nat×Nat} (h:wK a b c d e f=true):S8 [a,b,c] [d,e,f]=true:=by
 have h1:∀ p q r d e f,wk p q r d e f=cL p q r d e f:=fun p q r d e f=>by
  unfold wk cL; simp only [HM]
  show _=(pO p q d && pO p q e && pO p q f && VW p q r)
  simp only [Bool.and_assoc]
 have h2:∀ p q r d e f,wg p q r d e f=NF p q r d e f:=fun p q r d e f=>by
  unfold wg NF; simp only [HM]
  show _=(VW p q d && VW p q e && VW p q f && pO p q r)
  simp only [Bool.and_assoc]
 unfold wK at h
 simp only [iX,h1,h2,Bool.or_eq_true] at h
 unfold S8
 simp only [Bool.or_eq_true]
 rcases h with h | h | h | h | h | h <;> simp [h]
def pK (P:List (Nat×Nat)) (d:Nat×Nat×Nat) (k:(Nat×Nat)→(Nat×Nat)→(Nat×Nat)→Bool):Bool:=k (C2 (0,0) P d.1) (C2 (0,0) P d.2.1) (C2 (0,0) P d.2.2)
def Ix (P Q:List (Nat×Nat)) (f g:Nat) (R S:List Nat):Bool:=Yo (fun x=>pK P x fun a b c=>Yo (fun y=>pK Q y fun d e f=>wK a b c d e f) (v8 Q g S)) (v8 P f R)
theorem Gi {P Q:List (Nat×Nat)} (h:Ix P Q P.length Q.length (List.range P.length) (List.range Q.length)=true):TN P Q=true:=by
 unfold Ix at h
 rw [HK,TT] at h
 unfold TN Iv
 rw [List.all_map]
 refine List.all_eq_true.2 fun x hx=>?_
 have h1:=List.all_eq_true.1 h x hx
 replace h1:Yo (fun y=>wK (C2 (0,0) P x.1) (C2 (0,0) P x.2.1) (C2 (0,0) P x.2.2) (C2 (0,0) Q y.1) (C2 (0,0) Q y.2.1) (C2 (0,0) Q y.2.2)) (v8 Q Q.length (List.range Q.length))=true:=h1
 rw [HK,TT] at h1
 show ((TU Q Q.length (List.range Q.length)).map (u9 Q)).all _=true
 rw [List.all_map]
 refine List.all_eq_true.2 fun y hy=>?_
 have h2:=List.all_eq_true.1 h1 y hy
 simp only [Ci] at h2
 exact tK h2
def kH (W:Nat) (p:Nat→Bool):Bool:=Nat.rec (motive:=fun _=>Nat→Bool) (fun _=>true) (fun _ ih i=>Bool.rec false (ih (Nat.succ i)) (p i)) (W - 1) 1
end
end Go.Ab.N
namespace Go.Ab.N
open Go Go.RowKit Go.Proofs
set_option maxRecDepth 10000
set_option maxHeartbeats 4000000
theorem Vj {p:Nat→Bool}:∀ (n i:Nat),(Nat.rec (motive:=fun _=>Nat→Bool) (fun _=>true) (fun _ ih i=>Bool.rec false (ih (Nat.succ i)) (p i)) n i:Bool)=true→∀ x,i≤x→x<i+n→p x=true
 | 0,i,_,x,h1,h2=>absurd h2 (by omega)
 | n+1,i,h,x,h1,h2=>by
  replace h:bR false (Nat.rec (motive:=fun _=>Nat→Bool) (fun _=>true) (fun _ ih i=>Bool.rec false (ih (Nat.succ i)) (p i)) n (i+1)) (p i)=true:=h
  cases hp:p i with
  | false=>rw [hp] at h; cases h
  | true =>
   rw [hp] at h
   by_cases e:x=i
   ·rw [e]; exact hp
   ·exact Vj n (i+1) h x (by omega) (by omega)
theorem C4 {W:Nat} {p:Nat→Bool} (h:kH W p=true) {x:Nat} (h1:1≤x) (h2:x<W):p x=true:=Vj (W - 1) 1 h x h1 (by omega)
noncomputable def RM (W H:Nat):Bool:=kH W fun a=>kH W fun b=>Ix [(0,0),(a,0),(b,H),(0,H)] [(a,0),(W,0),(W,H),(b,H)] 4 4 [0,1,2,3] [0,1,2,3]
noncomputable def RN (W H:Nat):Bool:=kH W fun a=>kH W fun b=>kH W fun c=>Ix [(0,0),(a,0),(b,1),(c,H),(0,H)] [(a,0),(W,0),(W,H),(c,H),(b,1)] 5 5 [0,1,2,3,4] [0,1,2,3,4]
noncomputable def RO (W H:Nat):Bool:=kH W fun a=>kH W fun b=>kH W fun c=>kH W fun d=>Ix [(0,0),(a,0),(b,1),(c,2),(d,H),(0,H)] [(a,0),(W,0),(W,H),(d,H),(c,2),(b,1)] 6 6 [0,1,2,3,4,5] [0,1,2,3,4,5]
theorem sn:RM 4 3=true:=by decide +kernel
theorem sL:RN 4 3=true:=by decide +kernel
theorem so:RM 4 4=true:=by decide +kernel
theorem sM:RN 4 4=true:=by decide +kernel
theorem sq:RM 4 5=true:=by decide +kernel
theorem sN:RN 4 5=true:=by decide +kernel
theorem sr:RM 4 6=true:=by decide +kernel
theorem sP:RN 4 6=true:=by decide +kernel
theorem ss:RM 5 3=true:=by decide +kernel
theorem sT:RN 5 3=true:=by decide +kernel
theorem su:RM 5 4=true:=by decide +kernel
theorem sU:RN 5 4=true:=by decide +kernel
theorem sv:RM 5 5=true:=by decide +kernel
theorem sW:RN 5 5=true:=by decide +kernel
theorem sw:RM 5 6=true:=by decide +kernel
theorem sX:RN 5 6=true:=by decide +kernel
theorem sD:RM 6 3=true:=by decide +kernel
theorem sY:RN 6 3=true:=by decide +kernel
theorem sE:RM 6 4=true:=by decide +kernel
theorem sZ:RN 6 4=true:=by decide +kernel
theorem sF:RM 6 5=true:=by decide +kernel
theorem t8:RN 6 5=true:=by decide +kernel
theorem sG:RM 6 6=true:=by decide +kernel
theorem tc:RN 6 6=true:=by decide +kernel
theorem sH:RM 7 3=true:=by decide +kernel
theorem td:RN 7 3=true:=by decide +kernel
theorem sI:RM 7 4=true:=by decide +kernel
theorem te:RN 7 4=true:=by decide +kernel
theorem sJ:RM 7 5=true:=by decide +kernel
theorem tf:RN 7 5=true:=by decide +kernel
theorem sK:RM 7 6=true:=by decide +kernel
theorem tg:RN 7 6=true:=by decide +kernel
theorem th:RO 4 3=true:=by decide +kernel
theorem ti:RO 4 4=true:=by decide +kernel
theorem tj:RO 4 5=true:=by decide +kernel
theorem tk:RO 4 6=true:=by decide +kernel
theorem tp:RO 5 3=true:=by decide +kernel
theorem tq:RO 5 4=true:=by decide +kernel
theorem tr:RO 5 5=true:=by decide +kernel
theorem tu:RO 5 6=true:=by decide +kernel
theorem tv:RO 6 3=true:=by decide +kernel
theorem tw:RO 6 4=true:=by decide +kernel
theorem tx:RO 6 5=true:=by decide +kernel
theorem tz:RO 6 6=true:=by decide +kernel
theorem tA:RO 7 3=true:=by decide +kernel
theorem tB:RO 7 4=true:=by decide +kernel
theorem tD:RO 7 5=true:=by decide +kernel
theorem tE:RO 7 6=true:=by decide +kernel
theorem nQ {W H:Nat} (hW:4≤W∧W≤7) (hH:3≤H∧H≤6):RM W H=true:=by
 obtain ⟨h1,h2⟩:=hW
 obtain ⟨h3,h4⟩:=hH
 rcases (show W=4∨W=5∨W=6∨W=7 by omega) with rfl | rfl | rfl | rfl <;> rcases (show H=3∨H=4∨H=5∨H=6 by omega) with rfl | rfl | rfl | rfl
 ·exact sn
 ·exact so
 ·exact sq
 ·exact sr
 ·exact ss
 ·exact su
 ·exact sv
 ·exact sw
 ·exact sD
 ·exact sE
 ·exact sF
 ·exact sG
 ·exact sH
 ·exact sI
 ·exact sJ
 ·exact sK
theorem nR {W H:Nat} (hW:4≤W∧W≤7) (hH:3≤H∧H≤6):RN W H=true:=by
 obtain ⟨h1,h2⟩:=hW
 obtain ⟨h3,h4⟩:=hH
 rcases (show W=4∨W=5∨W=6∨W=7 by omega) with rfl | rfl | rfl | rfl <;> rcases (show H=3∨H=4∨H=5∨H=6 by omega) with rfl | rfl | rfl | rfl
 ·exact sL
 ·exact sM
 ·exact sN
 ·exact sP
 ·exact sT
 ·exact sU
 ·exact sW
 ·exact sX
 ·exact sY
 ·exact sZ
 ·exact t8
 ·exact tc
 ·exact td
 ·exact te
 ·exact tf
 ·exact tg
theorem nT {W H:Nat} (hW:4≤W∧W≤7) (hH:3≤H∧H≤6):RO W H=true:=by
 obtain ⟨h1,h2⟩:=hW
 obtain ⟨h3,h4⟩:=hH
 rcases (show W=4∨W=5∨W=6∨W=7 by omega) with rfl | rfl | rfl | rfl <;> rcases (show H=3∨H=4∨H=5∨H=6 by omega) with rfl | rfl | rfl | rfl
 ·exact th
 ·exact ti
 ·exact tj
 ·exact tk
 ·exact tp
 ·exact tq
 ·exact tr
 ·exact tu
 ·exact tv
 ·exact tw
 ·exact tx
 ·exact tz
 ·exact tA
 ·exact tB
 ·exact tD
 ·exact tE
theorem H0 (l:List Int) (W H M:Nat) (hW:4≤W∧W≤7) (hM:1≤M∧M≤3) (hH:3≤H∧H≤6):CG (Qg (Xr (Xp l W H M))) (Qg (Xr (Xu l W H M))) 0=true:=by
 have hx:∀ k,k≤M→∃ x:Nat,(1≤x∧x<W)∧(Xl l W H M k).1=(x:Int):=fun k hk=>by
  have b:=(Fi l W H M k hW hH.2 (by omega)).1
  exact ⟨(Xl l W H M k).1.toNat,by omega,by omega⟩
 rcases (show M=1∨M=2∨M=3 by omega) with rfl | rfl | rfl
 ·obtain ⟨a,ha,ea⟩:=hx 0 (by omega)
  obtain ⟨b,hb,eb⟩:=hx 1 (by omega)
  rw [VO,Ss,ea,eb]
  exact Gh (Gi (P:=[(0,0),(a,0),(b,H),(0,H)]) (Q:=[(a,0),(W,0),(W,H),(b,H)]) (C4 (C4 (nQ hW hH) ha.1 ha.2) hb.1 hb.2))
 ·obtain ⟨a,ha,ea⟩:=hx 0 (by omega)
  obtain ⟨b,hb,eb⟩:=hx 1 (by omega)
  obtain ⟨c,hc,ec⟩:=hx 2 (by omega)
  rw [VP,Su,ea,eb,ec]
  exact Gh (Gi (P:=[(0,0),(a,0),(b,1),(c,H),(0,H)]) (Q:=[(a,0),(W,0),(W,H),(c,H),(b,1)]) (C4 (C4 (C4 (nR hW hH) ha.1 ha.2) hb.1 hb.2) hc.1 hc.2))
 ·obtain ⟨a,ha,ea⟩:=hx 0 (by omega)
  obtain ⟨b,hb,eb⟩:=hx 1 (by omega)
  obtain ⟨c,hc,ec⟩:=hx 2 (by omega)
  obtain ⟨d,hd,ed⟩:=hx 3 (by omega)
  rw [VQ,Sv,ea,eb,ec,ed]
  exact Gh (Gi (P:=[(0,0),(a,0),(b,1),(c,2),(d,H),(0,H)]) (Q:=[(a,0),(W,0),(W,H),(d,H),(c,2),(b,1)]) (C4 (C4 (C4 (C4 (nT hW hH) ha.1 ha.2) hb.1 hb.2) hc.1 hc.2) hd.1 hd.2))
end Go.Ab.N
namespace Go.Ab.N
open Go Go.RowKit Go.Proofs
noncomputable section
set_option maxRecDepth 10000
set_option maxHeartbeats 4000000
open Classical
theorem Ug {P:Program} {g:FuncId} {id ver es n N M:Nat} {f gf:Nat→AV} {r:AV} {H:List AO} (h:Fn P g [.sl n M gf false] r) (ho:H[id]?=some (.row ver N f)) (hle:M≤N) (hM:n=0→M=0) (hf:∀ j,j<M→f j=gf j) :
  HCall P g [.osl id ver es 0 n] H r (H.set id .dead):=by
 refine ⟨h.call.1,?_⟩
 rintro c vs rfl hr hv
 have hlt:id<c.H.length:=(List.getElem?_eq_some_iff.1 ho).1
 have hst:St 1 c { tmps:=vs,defers:=[] } ⟨1,[],[.osl id ver es 0 n],[],c.H⟩:=⟨hv.1,rfl,fun i=>by
  match i with
  | 0=>exact hv.2 0 (by simp)
  | i+1 =>
   rw [show (⟨1,[],[.osl id ver es 0 n],[],c.H⟩:AS).get (i+1)=.any by simp [AS.get,Xq]]
   exact .any _,rfl,hr⟩
 have g1:(c.H.set id (.con ver N f))[id]?=some (.con ver N f):=by rw [List.getElem?_set_self hlt]
 have hs:Sub c.H.length ⟨1,[],[.osl id ver es 0 n],[],c.H⟩ ⟨1,[],[.sl n M (fun j=>f (0+j)) false],[],c.H.set id .dead⟩:=by
  have h3:=Al (m:=c.H.length) (s:=⟨1,[],[.sl n M (fun j=>f (0+j)) false],[],c.H.set id (.con ver N f)⟩) id g1 (by simp [AO.info])
  rw [show (⟨1,[],[.sl n M (fun j=>f (0+j)) false],[],c.H.set id (.con ver N f)⟩:AS).h.set id .dead=c.H.set id .dead from List.set_set _] at h3
  exact Sub.trans (Qk id ho) (Sub.trans (LC (es:=es) (off:=0) (M:=M) 0 rfl g1 (by omega) hM) h3)
 obtain ⟨⟨w1,S1,γ1,H1⟩,hw,hx,hst'⟩:=hs _ c _ hst
 replace hw:w1=c.w:=hw
 subst hw
 have hx':=hx.toExt (Nat.le_refl _)
 have hrep:=hst'.slots 0
 have hrep:Rep ⟨c.w,S1,γ1,H1⟩ (vs.getD 0 undef) (.sl n M gf false):=OZ (Nat.le_refl M) (fun j hj=>by rw [Nat.zero_add]; exact hf j hj) _ _ hrep
 refine (h.call.2 c.w S1 vs hst'.hrel.bound ⟨hv.1,fun j hj=>?_⟩).mono ?_
 ·obtain rfl:j=0:=by simpa using hj
  exact h.settled _ (by simp) ⟨c.w,S1,γ1,H1⟩ _ hrep
 ·rintro e w' ⟨x,S',rfl,h1,h2,h3⟩
  obtain ⟨q1,q2⟩:=EK hst'.hrel h3 h2 S' (fun _ h=>h) h3.smono (fun b h=>by
   rcases h3.snew b h with h | h | h
   ·exact .inl h
   ·exact .inr h
   ·exact absurd h AB)
  have hH:H1=c.H.set id .dead:=hst'.heap
  subst hH
  exact ⟨x,S',γ1,rfl,Dt h1 _ _,q1,hx'.trans q2⟩
theorem YL {X:Env} {M0:Md} {o:Oper} {g:FuncId} {K:AS→Prop} {s:AS} {r:AV} {id ver es n N M:Nat} {f gf:Nat→AV} (hb:M0.hcall=true) (h:Fn X.P g [.sl n M gf false] r) (ho:s.h[id]?=some (.row ver N f)) (hle:M≤N) (hM:n=0→M=0) (hf:∀ j,j<M→f j=gf j)
  (hK:K (({ s with h:=s.h.set id .dead }:AS).putO o.dst r)):Ec X M0 o (.fn g []) [.osl id ver es 0 n] K s:=by
 have hlt:id<s.h.length:=(List.getElem?_eq_some_iff.1 ho).1
 refine ⟨r,s.h.set id .dead,⟨.inl g,[],rfl,.inr (.inr ⟨hb,[.osl id ver es 0 n],Qj _,fun h2=>h2.set id .dead,fun h2 hov=>?_,rfl,fun i v k q=>?_,fun h2 i ob _ hi=>?_,fun i hi=>?_⟩)⟩,hK⟩
 ·exact Ug h ((hov id (by rw [ho]; simp)).trans ho) hle hM hf
 ·by_cases e:id=i
  ·subst e
   rw [List.getElem?_set_self hlt,ho]; simp
  ·rw [List.getElem?_set_ne e]
 ·have e:i≠id:=fun e=>by rw [e,ho] at hi; simp at hi
  exact (List.set_comm _ _ e)
 ·have e:id≠i:=fun e=>by rw [← e,ho] at hi; simp at hi
  rw [List.getElem?_set_ne e]; exact hi
theorem jN {m:Nat} {s:AS} (id:Nat) {ver n:Nat} {a b c x y x' y':AV} {r:List AV} (ho:s.h[id]?=some (.row ver n (Xk (a :: b :: c :: x :: y :: r)))) (hx:Kt s.h x x') (hy:Kt s.h y y') :
  Sub m s { s with h:=s.h.set id (.row ver n (Xk (a :: b :: c :: x' :: y' :: r))) }:=Z4 id _ ho fun j hj =>
 match j with
 | 0=>Qc _ _
 | 1=>Qc _ _
 | 2=>Qc _ _
 | 3=>hx
 | 4=>hy
 | j+5=>Qc _ _
theorem SZ {H:List AO} {id n:Nat} (ho:H[id]?=some (.con 0 n fun _=>.bool false)):Kt H (.osl id 0 1 0 n) (Zo (List.replicate n false)):=by
 rw [Xz,List.length_replicate]
 refine B8 ho (Nat.le_refl _) (fun h=>h) fun j hj=>?_
 rw [K7,List.getD_eq_getElem?_getD,List.getElem?_replicate]
 split <;> exact Qc _ _
theorem WK {H:List AO} {id n:Nat} (ho:H[id]?=some (.con 0 n fun _=>.int .i64 0)):Kt H (.osl id 0 1 0 n) (X4 (List.replicate n 0)):=by
 rw [X3,List.length_replicate]
 refine B8 ho (Nat.le_refl _) (fun h=>h) fun j hj=>?_
 rw [K7,List.getD_eq_getElem?_getD,List.getElem?_replicate]
 split <;> exact Qc _ _
def JA (A:PV):PV:={ A with worn:=List.replicate A.rim.length false,marks:=List.replicate A.rim.length 0 }
theorem W4 {A:PV} {t:Rat} (h:GP A t):GP (JA A) t:=⟨⟨h.even.rim,List.length_replicate,List.length_replicate,h.even.near⟩,h.poly,h.tol,h.qt⟩
theorem ot {α:Type} (n i:Nat) (a:α):(List.replicate n a).getD i a=a:=by
 rw [List.getD_eq_getElem?_getD,List.getElem?_replicate]; split <;> rfl
theorem RJ (A B:PV) (f:FV) (k:Nat):O6 (JA A) (JA B) f k=false:=by
 unfold O6 JA
 simp only [ot]
 rfl
theorem jR {l:List Int} (p:Nat):0≤Rat.divInt (Ab.atF l p 3) 4∧Rat.divInt (Ab.atF l p 3) 4≤Rat.divInt 1 2:=by
 have b:=XR l p 3 (by omega)
 generalize Ab.atF l p 3=x at *
 rcases (show x=0∨x=1∨x=2 by omega) with rfl | rfl | rfl <;> decide +kernel
theorem nG (a b c d:Int):(a≤0∧b≤0∧c≤0∧d≤0)∨¬ a≤0∨(a≤0∧¬ b≤0)∨(a≤0∧b≤0∧¬ c≤0)∨(a≤0∧b≤0∧c≤0∧¬ d≤0):=by omega
theorem mI (a b c x y z:Int):((a=x)=True∧(b=y)=True∧(c=z)=True)∨((a=x)=False∧True)∨((a=x)=True∧(b=y)=False)∨((a=x)=True∧(b=y)=True∧(c=z)=False):=by
 by_cases h1:a=x
 ·by_cases h2:b=y
  ·by_cases h3:c=z
   ·exact .inl ⟨eq_true h1,eq_true h2,eq_true h3⟩
   ·exact .inr (.inr (.inr ⟨eq_true h1,eq_true h2,eq_false h3⟩))
  ·exact .inr (.inr (.inl ⟨eq_true h1,eq_false h2⟩))
 ·exact .inr (.inl ⟨eq_false h1,trivial⟩)
theorem P1 (l:List Int) (W H M:Nat):Zs (Ji l) (Qw l) (Xr (XE l W H M))=Xr (Xu l W H M):=by
 unfold Zs XE Xr
 rw [List.map_map,List.map_map]
 refine List.map_congr_left fun p _=>?_
 show put (Ji l) (Qw l) (Qe (P4 (Do l) (CJ l) p))=Qe p
 rw [RH]
 exact Lb (Do l) (UG l) (CJ l) (Qe p)
theorem lk (A B:List V2) (f g:Nat→AV) (hf:∀ j,j<A.length*8→f j=Xt vC 8 v0 A j) (hg:∀ j,j<B.length*8→g j=Xt vC 8 v0 B j):∀ j,j<(A ++ B).length*8→QK (A.length*8) f (B.length*8) g j=Xt vC 8 v0 (A ++ B) j:=fun j hj=>by
 rw [List.length_append] at hj
 unfold QK
 by_cases h:j<A.length*8
 ·rw [if_pos h,hf j h]
  unfold Xt
  rw [List.getD_eq_getElem?_getD (l:=A ++ B),List.getElem?_append_left (by omega),← List.getD_eq_getElem?_getD]
 ·rw [if_neg h,if_pos (by omega),hg _ (by omega)]
  unfold Xt
  rw [List.getD_eq_getElem?_getD (l:=A ++ B),List.getElem?_append_right (by omega),← List.getD_eq_getElem?_getD,show (j - A.length*8) / 8=j / 8 - A.length by omega,show (j - A.length*8) % 8=j % 8 by omega]
theorem iQ (R:List V2) (j:Nat):(Xt vC 8 v0 R j).one=true:=by
 unfold Xt
 generalize R.getD (j / 8) v0=a
 have h:j % 8<8:=Nat.mod_lt _ (by omega)
 generalize j % 8=k at *
 match k,h with
 | 0,_=>rfl
 | 1,_=>rfl
 | 2,_=>rfl
 | 3,_=>rfl
 | 4,_=>rfl
 | 5,_=>rfl
 | 6,_=>rfl
 | 7,_=>rfl
 | k+8,h=>omega
theorem Oa (l:List Int) (hl:GV l) (hl2:l.length<9223372036854775808):Fn Tryz.prog 11 [X4 l] (.bool true):=by
 obtain ⟨L,W,H,M,hL,hW,hH,hM,p1,p2,cP⟩:=jb l hl
 have g1:=VZ (Xp L W H M) L 10 (Cg L W H M hW (by omega) (by omega)) p1
 have g2:=VZ (XE L W H M) L 20 (DF L W H M hW (by omega) (by omega)) (od _ _ _ p2)
 have t1:=jR (l:=L) (10+1:Nat)
 have t2:=jR (l:=L) (20+1:Nat)
 have rA:(Kp (Xp L W H M) L 10).rim=Xp L W H M:=rfl
 have rB:(Kp (XE L W H M) L 20).rim=XE L W H M:=rfl
 generalize Kp (Xp L W H M) L 10=A at *
 generalize Kp (XE L W H M) L 20=B at *
 replace g1:=g1.1
 replace g2:=g2.1
 generalize Rat.divInt (Ab.atF L (10+1:Nat) 3) 4=ta at *
 generalize Rat.divInt (Ab.atF L (20+1:Nat) 3) 4=tb at *
 have gA:=W4 g1
 have gB:=W4 g2
 have rA0:(JA A).rim=Xp L W H M:=rA
 have rB0:(JA B).rim=XE L W H M:=rB
 have h2:Rat.divInt 1 2+Rat.divInt 1 2=1:=by decide +kernel
 have hfo:=PI L W H M hM (by omega) hW.1 rA0 rB0 (RJ A B _) (e:=ta+tb) (by grind) (by grind) (H0 L W H M hW hM hH)
 have hlo:=GZ L W H M hM.1 (by omega) rA0 rB0 (RJ A B _) (e:=ta+tb) (by grind) (H0 L W H M hW hM hH)
 have he0:0≤ta+tb:=by grind
 have co:=R5 _ _ gA gB
 have ho:=R6 gA gB
 have pA:=I7 gA; have pB:=I7 gB
 have hsh:∀ f∈H4 (JA A) (JA B) (ta+tb),(0≤f.EA∧f.EA<(JA A).rim.length)∧(0≤f.EB∧f.EB<(JA B).rim.length)∧1≤f.M∧f.M<(JA A).rim.length∧f.M<(JA B).rim.length:=fun f hf=>(Ew (List.mem_filter.1 hf).1 pA.1 pB.1).2.2
 have cr1:=Lm (JA A) gA.even.rim (Zt gA.even.near)
 have cr2:=Lm (JA B) gB.even.rim (Zt gB.even.near)
 rw [rA0] at cr1
 rw [rB0] at cr2
 have nA:(JA A).rim.length=M+3:=by rw [rA0,K3]
 have nB:(JA B).rim.length=M+3:=by rw [rB0,Kd]
 have lA:A.rim.length=M+3:=nA
 have lB:B.rim.length=M+3:=nB
 have hps:=L6 L
 have hT:∀ e,(Jc (JA A) (JA B) (L7 L M) e).turn=Ji L∧(Jc (JA A) (JA B) (L7 L M) e).EA=1∧(Jc (JA A) (JA B) (L7 L M) e).EB=(M+2:Nat)∧(Jc (JA A) (JA B) (L7 L M) e).M=M:=fun e=>⟨rfl,rfl,rfl,rfl⟩
 have hT:=hT (ta+tb)
 obtain ⟨-,hl1,hl3⟩:=hlo
 generalize Jc (JA A) (JA B) (L7 L M) (ta+tb)=G at *
 generalize H4 (JA A) (JA B) (ta+tb)=LL at *
 have lL:=ho.len
 obtain ⟨x,hx,ex⟩:∃ x,x<LL.length∧LL.getD x BO=G:=by
  obtain ⟨x,hx,e⟩:=List.getElem_of_mem hfo
  exact ⟨x,hx,by rw [List.getD_eq_getElem?_getD,List.getElem?_eq_getElem hx,e]; rfl⟩
 have s1:=Bk (Zt (Cg L W H M hW hH.2 hM.2))
 have s2:=Bk (Zt (DF L W H M hW hH.2 hM.2))
 have hsn:QV (Xu L W H M):=fun c hc=>by have:=Dx L W H M hW hH.2 hM.2 c hc; omega
 have s3:=Bk (Zt hsn)
 have n1:(Xr (Xp L W H M)).length=M+3:=by simp [Xr,K3]
 have n2:(Xr (XE L W H M)).length=M+3:=by simp [Xr,Kd]
 have n3:(Xr (Xu L W H M)).length=M+3:=by simp [Xr,Km]
 have cm:=Sa (Ji L) (Qw L) (Xr (XE L W H M)) 1000 s2 (by omega) (by omega) (by omega) (by omega)
 rw [P1] at cm
 have ca1:=O3 _ 1000 s3 (by omega) (by omega)
 have ca2:=O3 _ 1000 s1 (by omega) (by omega)
 have qa1:=(HN _ 1000 s3 (by omega) (by omega)).2
 have qa2:=(HN _ 1000 s1 (by omega) (by omega)).2
 have ha:=f9 L W H M hM
 have cs:=A2 (JF (Xr (Xu L W H M))) (JF (Xr (Xp L W H M))) (by unfold rm; omega) (by unfold rm; omega)
 rw [Rat.add_comm,ha] at cs
 have hbx:=lF L W H M hW hM hH _ rfl
 rw [show Xr (Xu L W H M ++ Xp L W H M)=Xr (Xu L W H M) ++ Xr (Xp L W H M) by simp [Xr]] at hbx
 have nS:(Xr (Xu L W H M) ++ Xr (Xp L W H M)).length=M+3+(M+3):=by rw [List.length_append,n3,n1]
 have sS:Qs (Xr (Xu L W H M) ++ Xr (Xp L W H M)) 1000:=by
  have:Xr (Xu L W H M) ++ Xr (Xp L W H M)=Xr (Xu L W H M ++ Xp L W H M):=by simp [Xr]
  rw [this]
  refine Bk (Zt fun c hc=>?_)
  rcases List.mem_append.1 hc with h | h
  ·exact hsn c h
  ·exact Cg L W H M hW hH.2 hM.2 c h
 have hff:=lk (Xr (Xu L W H M)) (Xr (Xp L W H M))
 clear ha
 have hff':=hff (QK 0 (Xk []) ((M+3)*8) (Xt vC 8 v0 (Xr (Xu L W H M)))) (Xt vC 8 v0 (Xr (Xp L W H M))) (fun j hj=>by
  unfold QK
  rw [if_neg (Nat.not_lt_zero _),if_pos (by rw [n3] at hj; omega),Nat.sub_zero]) (fun j hj=>rfl)
 rw [n3,n1,nS] at hff'
 clear hff
 generalize Xr (Xp L W H M)=R1 at *
 generalize Xr (XE L W H M)=RT at *
 generalize Xr (Xu L W H M)=R2 at *
 generalize JF R1=a1 at *
 generalize JF R2=a2 at *
 have cB:=rf (R2 ++ R1) 1000 (by omega) (by omega) sS (by omega)
 rw [hbx.1,hbx.2,X5,nS] at cB
 have qW:=Za (W:Int) 3 (by omega) (QR ⟨by omega,by omega⟩)
 have qH:=Za (H:Int) 3 (by omega) (QR ⟨by omega,by omega⟩)
 have qW:qb (W:Rat)≤3:=qW
 have qH:qb (H:Rat)≤3:=qH
 have zb:=Zx
 have cd:=Bh ⟨(W:Rat),(H:Rat)⟩ ⟨0,0⟩ (by show max (qb (W:Rat)) (qb (H:Rat))≤rm; unfold rm; omega) (by show max (qb 0) (qb 0)≤rm; unfold rm; omega)
 have hd:V2.sub ⟨(W:Rat),(H:Rat)⟩ ⟨0,0⟩=⟨(W:Rat),(H:Rat)⟩:=by unfold V2.sub; rw [V2.ext']; exact ⟨by simp only; grind,by simp only; grind⟩
 rw [hd] at cd
 have ck:=JZ (W:Rat) (H:Rat) (by unfold rm; omega) (by unfold rm; omega)
 have qm:=QA (W:Rat) (H:Rat)
 have ce:=cw ((W:Rat)*(H:Rat)) ((W:Rat)*(H:Rat)) (by unfold rm; omega) (by unfold rm; omega)
 rw [decide_eq_true rfl] at ce
 generalize ((W:Nat):Rat)=w at *
 generalize ((H:Nat):Rat)=h at *
 generalize w*h=wh at *
 clear hd hbx sS
 have f0:FV.near (Jo L M):=RI (n:=M+3) (m:=M+3) (by omega) (by omega) (by show (0≤(1:Int)∧(1:Int)<((M+3:Nat):Int))∧(0≤((M+2:Nat):Int)∧((M+2:Nat):Int)<((M+3:Nat):Int))∧1≤((M:Nat):Int)∧((M:Nat):Int)<((M+3:Nat):Int)∧((M:Nat):Int)<((M+3:Nat):Int); omega)
 have f1:vb (Jo L M).turn≤vm:=by show vb (Ji L)≤vm; unfold vm; omega
 have eF:Jo L M=⟨0,1,1,((M+2:Nat):Int),((M:Nat):Int),Ji L,Qw L,Qw L⟩:=rfl
 generalize Ji L=T at *
 generalize Qw L=at' at *
 have bA:XT 8 (.con 0 25 (Xk (Q0 (JA A))))=True:=eq_true (fun j _=>X7 (Xe (XI _) _))
 have bB:XT 8 (.con 0 25 (Xk (Q0 (JA B))))=True:=eq_true (fun j _=>X7 (Xe (XI _) _))
 have f2':vb T≤vm:=by unfold vm; omega
 have bO:XT 8 (.con 0 79 (Xk (LQ A B (Jo L M))))=True:=eq_true (fun j _=>X7 (Xe (fun a ha=>by
  unfold LQ at ha
  rcases List.mem_append.1 ha with h | h
  ·exact XI _ a h
  rcases List.mem_append.1 h with h | h
  ·exact XI _ a h
  ·exact Q8 _ a h) _))
 have bT:XT 8 (.con 0 8 (Xk (vC at')))=True:=eq_true (fun j _=>X7 (Xe (l:=vC at') (by simp [vC,X6,X2]) _))
 have bD:XT 8 .dead=True:=eq_true trivial
 have bL:Ko 8 (N1 LL)=True:=eq_true (X7 (Zj LL))
 have tgt:∀ i,i<LL.length→i=x→LL.getD i BO=G:=fun i _ e=>by rw [e]; exact ex
 refine Fq Tryz.call11 Tryz.func11 18 [] [19,20,21,23,240000014,240000017] [21] (by simp [X6]) (Je 112 ?_)
 simp (disch:=omega) only [AS.start,↓Xy,wG,seval]
 refine X0 cP rfl ?_
 simp (disch:=omega) only [LQ,Q0,Qr,List.cons_append,List.nil_append,eF,↓Xy,wG,seval]
 refine Run.sub ?_ (Sub.trans (Qk 3 rfl) (Sub.trans (Qk 4 rfl) (Sub.trans (Qk 5 rfl) (Qk 6 rfl))))
 dsimp only [List.set]
 refine Run.sub ?_ (Sub.trans (jN 1 rfl (SZ rfl) (WK rfl)) (jN 2 rfl (SZ rfl) (WK rfl)))
 dsimp only [List.set]
 refine Run.sub ?_ (Sub.trans (Al 3 rfl (by simp [AO.info])) (Sub.trans (Al 4 rfl (by simp [AO.info])) (Sub.trans (Al 5 rfl (by simp [AO.info])) (Al 6 rfl (by simp [AO.info])))))
 dsimp only [List.set]
 refine Run.sub ?_ (Sub.trans (Qk 0 rfl) (Sub.trans (Qk 1 rfl) (Sub.trans (Qk 2 rfl) (Qk 7 rfl))))
 dsimp only [List.set]
 refine Run.sub (s':=⟨18,[],[.any,.any,.any,.ref 0 0 0,.ref 1 0 0,.ref 2 0 0,.ref 7 0 0,.any,.any,.any,.any,.any,.any,.any,.any,.any,.any,.any],[],[.con 0 79 (Xk (LQ A B (Jo L M))),.con 0 25 (Xk (Q0 (JA A))),.con 0 25 (Xk (Q0 (JA B))),.dead,.dead,.dead,.dead,.con 0 8 (Xk (vC at'))]⟩) ?_ (Kq (by simp [Xf]) (by simp [LQ,Q0,Qr,JA,eF,vC,qC,Xi,Xz,X3,I,sg]))
 refine Xj ?_
 simp (disch:=omega) only [Q0,↓Xy,wG,seval]
 refine X0 co rfl ?_
 simp (disch:=omega) only [XB,↓Xy,wG,seval]
 refine Xd (fun p:Nat×Bool=>⟨18,[],[.any,.any,.any,.ref 0 0 0,.ref 1 0 0,.ref 2 0 0,.ref 7 0 0,N1 LL,.bool p.2,I p.1,.any,.any,.any,.any,.any,.any,.any,.any],[],[.con 0 79 (Xk (LQ A B (Jo L M))),.con 0 25 (Xk (Q0 (JA A))),.con 0 25 (Xk (Q0 (JA B))),.dead,.dead,.dead,.dead,.con 0 8 (Xk (vC at'))]⟩)
  (fun p=>p.1≤LL.length∧(x<p.1→p.2=true)) (fun p=>LL.length - p.1) (0,false) ⟨Nat.zero_le _,fun h=>absurd h (Nat.not_lt_zero _)⟩ (Kq (by simp [Xf,XB,I]) (by rfl)) ?_
 rintro ⟨i,B0⟩ ⟨hi,hb⟩ next
 replace hi:i≤LL.length:=hi
 replace hb:x<i→B0=true:=hb
 by_cases hi2:i<LL.length
 rotate_left
 ·obtain rfl:i=LL.length:=by omega
  obtain rfl:B0=true:=hb hx
  clear next
  refine Xj ?_
  simp (disch:=omega) only [XB,LQ,Q0,Qr,eF,List.cons_append,List.nil_append,↓Xy,wG,seval]
  refine X0 cr2 rfl ?_
  simp (disch:=omega) only [X5,↓Xy,wG,seval]
  refine X0 cm rfl ?_
  simp (disch:=omega) only [X5,↓Xy,wG,seval]
  refine X0 ca1 rfl ?_
  simp (disch:=omega) only [Q0,↓Xy,wG,seval]
  refine X0 cr1 rfl ?_
  simp (disch:=omega) only [X5,↓Xy,wG,seval]
  refine X0 ca2 rfl ?_
  simp (disch:=omega) only [qA,qC,↓Xy,wG,seval]
  refine X0 cs rfl ?_
  simp (disch:=omega) only [X5,Q0,n3,n1,iQ,↓Xy,wG,seval]
  refine X0 cr1 rfl ?_
  simp (disch:=omega) only [X5,n3,n1,iQ,↓Xy,wG,seval]
  refine YL rfl cB rfl (by omega) (by omega) hff' ?_
  simp (disch:=omega) only [↓Xy,wG,seval]
  refine X0 cd rfl ?_
  simp (disch:=omega) only [vC,qC,qA,↓Xy,wG,seval]
  refine X0 ck rfl ?_
  simp (disch:=omega) only [qA,qC,↓Xy,wG,seval]
  refine X0 ce rfl ?_
  simp (disch:=omega) only [↓Xy,wG,seval]
  refine X0 Ui rfl ?_
  simp (disch:=omega) only [↓Xy,wG,seval]
  exact Xv rfl rfl (X2 _) rfl
 have hm:=Ju (d:=BO) hi2
 have hgf:=ho.fine _ hm
 have hgs:=hsh _ hm
 have z1:=fF LL i
 have z2:=wH LL i
 have htg:=tgt i hi2
 generalize LL.getD i BO=f at *
 obtain ⟨w1,w2,w3⟩:=gJ hgf
 have u1:=QM f.lo; have u2:=QG f.lo; have u3:=QM f.hi; have u4:=QG f.hi; have u5:=QM at'; have u6:=QG at'
 have w4:vm≤rm:=by unfold vm rm; omega
 have k0:=A9 f.turn T w1 f2'
 have k1:=QD f.lo.x at'.x (by omega) (by unfold rm; omega)
 have k2:=QD f.lo.y at'.y (by omega) (by unfold rm; omega)
 have k3:=QD at'.x f.hi.x (by unfold rm; omega) (by omega)
 have k4:=QD at'.y f.hi.y (by unfold rm; omega) (by omega)
 have kp:=o9 (JA A) (JA B) (Jo L M) f (by omega) (by omega) f0 (RI pA.2 pB.2 hgs) f1 w1
 have hall:i=x→f.turn=T∧J3 f.lo.x at'.x≤0∧J3 f.lo.y at'.y≤0∧J3 at'.x f.hi.x≤0∧J3 at'.y f.hi.y≤0∧f.EA=1∧f.EB=((M+2:Nat):Int)∧f.M=((M:Nat):Int):=fun e=>by
  rw [htg e,hl1,hl3]
  refine ⟨hT.1,?_,?_,?_,?_,hT.2.1,hT.2.2.1,hT.2.2.2⟩
  ·rw [FN]; show at'.x - (ta+tb)≤at'.x; grind
  ·rw [FN]; show at'.y - (ta+tb)≤at'.y; grind
  ·rw [FN]; show at'.x≤at'.x+(ta+tb); grind
  ·rw [FN]; show at'.y≤at'.y+(ta+tb); grind
 generalize J3 f.lo.x at'.x=v1 at *
 generalize J3 f.lo.y at'.y=v2 at *
 generalize J3 at'.x f.hi.x=v3 at *
 generalize J3 at'.y f.hi.y=v4 at *
 generalize decide (Em (JA A).rim.length (JA B).rim.length (Jo L M) f)=Dp at *
 have e52:Xk (LQ A B (Jo L M)) 52=.int .i64 1:=by rw [eF]; rfl
 have e53:Xk (LQ A B (Jo L M)) 53=.int .i64 ((M+2:Nat):Int):=by rw [eF]; rfl
 have e54:Xk (LQ A B (Jo L M)) 54=.int .i64 (M:Int):=by rw [eF]; rfl
 rw [← show (Jo L M).turn=T by rw [eF]] at k0
 have bF:XT 8 (.con 0 29 (Xk (Qr f)))=True:=eq_true (fun j _=>X7 (Xe (Q8 _) _))
 have f2:Xk (Qr f) 2=.int .i64 f.EA:=rfl
 have f3:Xk (Qr f) 3=.int .i64 f.EB:=rfl
 have f4:Xk (Qr f) 4=.int .i64 f.M:=rfl
 refine Je 32 ?_
 simp (disch:=omega) only [z1,z2,XB,Qr,List.cons_append,List.nil_append,↓Xy,wG,seval]
 refine Run.sub (s':=⟨18,[],[.any,.any,.any,.ref 0 0 0,.ref 1 0 0,.ref 2 0 0,.ref 7 0 0,N1 LL,.bool B0,I i,.ref 8 0 0,.any,.any,.any,.any,.any,.any,.any],[],[.con 0 79 (Xk (LQ A B (Jo L M))),.con 0 25 (Xk (Q0 (JA A))),.con 0 25 (Xk (Q0 (JA B))),.dead,.dead,.dead,.dead,.con 0 8 (Xk (vC at')),.con 0 29 (Xk (Qr f))]⟩) ?_ (Sub.trans (Qk 8 rfl) (Kq (by simp [Xf,XB,I]) (by simp [Qr,vC,qC,X3,I,sg])))
 by_cases hD:f.turn=T
 rotate_left
 ·rw [decide_eq_false (by rw [eF]; exact hD)] at k0
  refine Xj ?_
  simp (disch:=omega) only [↓Xy,wG,seval]
  refine X0 k0 rfl ?_
  simp (disch:=omega) only [XB,↓Xy,wG,seval]
  exact next (i+1,B0) _ ⟨by show i+1≤LL.length; omega,fun h=>hb (by have h:x<i+1:=h; have:¬ i=x:=fun e=>hD (hall e).1; omega)⟩ (by show LL.length - (i+1)<LL.length - i; omega) (uz (m:=8) (by simp [Xf,XB,I]) (by rfl) (by simp [XA,bL]) (by simp [bA,bB,bO,bT,bD]))
 rw [decide_eq_true (by rw [eF]; exact hD)] at k0
 refine Je 20 ?_
 simp (disch:=omega) only [↓Xy,wG,seval]
 refine X0 k0 rfl ?_
 simp (disch:=omega) only [↓Xy,wG,seval]
 refine Run.sub (s':=⟨18,[],[.any,.any,.any,.ref 0 0 0,.ref 1 0 0,.ref 2 0 0,.ref 7 0 0,N1 LL,.bool B0,I i,.ref 8 0 0,.any,.any,.any,.any,.any,.any,.any],[],[.con 0 79 (Xk (LQ A B (Jo L M))),.con 0 25 (Xk (Q0 (JA A))),.con 0 25 (Xk (Q0 (JA B))),.dead,.dead,.dead,.dead,.con 0 8 (Xk (vC at')),.con 0 29 (Xk (Qr f))]⟩) ?_ (Kq (by simp [Xf,XB,I]) (by rfl))
 apply pS (X:=QS Tryz.prog Tryz.f11 [19,20,21,23,240000014,240000017] [21] (.bool true)) (fun b:Bool=>i=x→b=true) (fun b=>⟨18,[],[.any,.any,.any,.ref 0 0 0,.ref 1 0 0,.ref 2 0 0,.ref 7 0 0,N1 LL,.bool B0,I i,.ref 8 0 0,.bool b,.any,.any,.any,.any,.any,.any],[],[.con 0 79 (Xk (LQ A B (Jo L M))),.con 0 25 (Xk (Q0 (JA A))),.con 0 25 (Xk (Q0 (JA B))),.dead,.dead,.dead,.dead,.con 0 8 (Xk (vC at')),.con 0 29 (Xk (Qr f))]⟩)
 case h1 =>
  intro key
  rcases nG v1 v2 v3 v4 with g5 | g5 | g5 | g5 | g5
  ·refine Je 73 ?_
   simp (disch:=omega) only [↓Xy,wG,seval]
   refine X0 k1 rfl ?_
   simp (disch:=omega) only [g5,↓Xy,wG,seval]
   refine X0 k2 rfl ?_
   simp (disch:=omega) only [g5,↓Xy,wG,seval]
   refine X0 k3 rfl ?_
   simp (disch:=omega) only [g5,↓Xy,wG,seval]
   refine X0 k4 rfl ?_
   simp (disch:=omega) only [g5,↓Xy,wG,seval]
   exact (key true (fun _=>rfl)).sub (Kq (by simp [Xf,XB,I]) (by rfl))
  ·refine Je 52 ?_
   simp (disch:=omega) only [↓Xy,wG,seval]
   refine X0 k1 rfl ?_
   simp (disch:=omega) only [g5,↓Xy,wG,seval]
   exact (key false (fun e=>absurd (hall e).2.1 g5)).sub (Kq (by simp [Xf,XB,I]) (by rfl))
  ·refine Je 59 ?_
   simp (disch:=omega) only [↓Xy,wG,seval]
   refine X0 k1 rfl ?_
   simp (disch:=omega) only [g5,↓Xy,wG,seval]
   refine X0 k2 rfl ?_
   simp (disch:=omega) only [g5,↓Xy,wG,seval]
   exact (key false (fun e=>absurd (hall e).2.2.1 g5.2)).sub (Kq (by simp [Xf,XB,I]) (by rfl))
  ·refine Je 66 ?_
   simp (disch:=omega) only [↓Xy,wG,seval]
   refine X0 k1 rfl ?_
   simp (disch:=omega) only [g5,↓Xy,wG,seval]
   refine X0 k2 rfl ?_
   simp (disch:=omega) only [g5,↓Xy,wG,seval]
   refine X0 k3 rfl ?_
   simp (disch:=omega) only [g5,↓Xy,wG,seval]
   exact (key false (fun e=>absurd (hall e).2.2.2.1 g5.2.2)).sub (Kq (by simp [Xf,XB,I]) (by rfl))
  ·refine Je 73 ?_
   simp (disch:=omega) only [↓Xy,wG,seval]
   refine X0 k1 rfl ?_
   simp (disch:=omega) only [g5,↓Xy,wG,seval]
   refine X0 k2 rfl ?_
   simp (disch:=omega) only [g5,↓Xy,wG,seval]
   refine X0 k3 rfl ?_
   simp (disch:=omega) only [g5,↓Xy,wG,seval]
   refine X0 k4 rfl ?_
   simp (disch:=omega) only [g5,↓Xy,wG,seval]
   exact (key false (fun e=>absurd (hall e).2.2.2.2.1 g5.2.2.2)).sub (Kq (by simp [Xf,XB,I]) (by rfl))
 intro I0 hI
 apply pS (X:=QS Tryz.prog Tryz.f11 [19,20,21,23,240000014,240000017] [21] (.bool true)) (fun b:Bool=>i=x→b=true) (fun b=>⟨18,[],[.any,.any,.any,.ref 0 0 0,.ref 1 0 0,.ref 2 0 0,.ref 7 0 0,N1 LL,.bool B0,I i,.ref 8 0 0,.bool I0,.bool b,.any,.any,.any,.any,.any],[],[.con 0 79 (Xk (LQ A B (Jo L M))),.con 0 25 (Xk (Q0 (JA A))),.con 0 25 (Xk (Q0 (JA B))),.dead,.dead,.dead,.dead,.con 0 8 (Xk (vC at')),.con 0 29 (Xk (Qr f))]⟩)
 case h1 =>
  intro key
  rcases mI f.EA f.EB f.M 1 ((M+2:Nat):Int) (M:Int) with g4 | g4 | g4 | g4
  ·refine Je 48 ?_
   simp (disch:=omega) only [e52,e53,e54,f2,f3,f4,g4,↓Xy,wG,seval]
   exact (key true (fun _=>rfl)).sub (Kq (by simp [Xf,XB,I]) (by rfl))
  ·refine Je 36 ?_
   simp (disch:=omega) only [e52,e53,e54,f2,f3,f4,g4,↓Xy,wG,seval]
   exact (key false (fun e=>absurd (hall e).2.2.2.2.2.1 (of_eq_false g4.1))).sub (Kq (by simp [Xf,XB,I]) (by rfl))
  ·refine Je 42 ?_
   simp (disch:=omega) only [e52,e53,e54,f2,f3,f4,g4,↓Xy,wG,seval]
   exact (key false (fun e=>absurd (hall e).2.2.2.2.2.2.1 (of_eq_false g4.2))).sub (Kq (by simp [Xf,XB,I]) (by rfl))
  ·refine Je 48 ?_
   simp (disch:=omega) only [e52,e53,e54,f2,f3,f4,g4,↓Xy,wG,seval]
   exact (key false (fun e=>absurd (hall e).2.2.2.2.2.2.2 (of_eq_false g4.2.2))).sub (Kq (by simp [Xf,XB,I]) (by rfl))
 intro S0 hS
 cases B0
 ·cases I0
  ·refine Xj ?_
   simp (disch:=omega) only [XB,↓Xy,wG,seval]
   exact next (i+1,false) _ ⟨by show i+1≤LL.length; omega,fun h=>by
     have h:x<i+1:=h
     by_cases e:i=x
     ·exact absurd (hI e) (by simp)
     ·exact absurd (hb (by omega)) (by simp)⟩ (by show LL.length - (i+1)<LL.length - i; omega) (uz (m:=8) (by simp [Xf,XB,I]) (by rfl) (by simp [XA,bL]) (by simp [bA,bB,bO,bT,bD]))
  ·cases S0
   ·refine Xj ?_
    simp (disch:=omega) only [XB,↓Xy,wG,seval]
    refine X0 kp rfl ?_
    simp (disch:=omega) only [XB,↓Xy,wG,seval]
    exact next (i+1,Dp) _ ⟨by show i+1≤LL.length; omega,fun h=>by
      have h:x<i+1:=h
      by_cases e:i=x
      ·exact absurd (hS e) (by simp)
      ·exact absurd (hb (by omega)) (by simp)⟩ (by show LL.length - (i+1)<LL.length - i; omega) (uz (m:=8) (by simp [Xf,XB,I]) (by rfl) (by simp [XA,bL]) (by simp [bA,bB,bO,bT,bD]))
   ·refine Xj ?_
    simp (disch:=omega) only [XB,↓Xy,wG,seval]
    exact next (i+1,true) _ ⟨by show i+1≤LL.length; omega,fun h=>by
     have h:x<i+1:=h
     rfl⟩ (by show LL.length - (i+1)<LL.length - i; omega) (uz (m:=8) (by simp [Xf,XB,I]) (by rfl) (by simp [XA,bL]) (by simp [bA,bB,bO,bT,bD]))
 ·refine Xj ?_
  simp (disch:=omega) only [XB,↓Xy,wG,seval]
  exact next (i+1,true) _ ⟨by show i+1≤LL.length; omega,fun h=>by
     have h:x<i+1:=h
     rfl⟩ (by show LL.length - (i+1)<LL.length - i; omega) (uz (m:=8) (by simp [Xf,XB,I]) (by rfl) (by simp [XA,bL]) (by simp [bA,bB,bO,bT,bD]))
end
end Go.Ab.N
