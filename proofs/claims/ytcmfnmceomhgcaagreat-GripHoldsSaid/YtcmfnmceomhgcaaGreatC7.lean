/- Contracts of functions, for every argument that fits. -/
import Derived.Test.YtcmfnmceomhgcaaGreatC6
import Derived.Test.YtcmfnmceomhgcaaGreatC3
import Derived.Test.YtcmfnmceomhgcaaGreatC5
import Derived.Test.YtcmfnmceomhgcaaGreatAb4
set_option linter.unusedSimpArgs false
set_option linter.unusedVariables false
open And renaming intro→Q'
open Go.Ab.AO renaming row→ZAu
open Go.Ab.AS renaming start→O_
open Go.Ab.AV renaming ref→ZDz
open Int renaming natCast_mul→ZBL
open Nat renaming lt_or_eq_of_le→ZAj,lt_succ_iff→ZBF,pow_succ→ZB1,mul_one→ZCS,succ_mul→ZCy,pow_zero→ZDp,mul_add→ZD4,div_lt_of_lt_mul→ZD5,div_add_mod→ZEY
open Option renaming map→ZAF
open Rat renaming divInt→P',intCast_mul→ZBE,intCast_eq_zero_iff→ZBa,le_antisymm→ZBw,divInt_eq_div→ZCx,num_divInt_den→ZC5,mul_comm→ZDq,intCast_neg→ZEZ
namespace Go.Ab.N
set_option maxRecDepth 10000
set_option maxHeartbeats 4000000
structure Cyc (m n e N:Nat)(S:Nat→Tb)(p r:Nat→Nat):Prop where
 pos:0<N
 le:e≤n
 ok:∀k,(S k).Ok m n e
 st:∀k,Step m n e (S k) (p k) (r k) (S (k+1))
 per:∀k,S (k+N)=S k
section
variable {m n e N:Nat} {S:Nat→Tb} {p r:Nat→Nat}
theorem Cyc.bas (h:Cyc m n e N S p r)(k i:Nat)(hi:i<m):(S (k+1)).b i=if i=r k then p k else(S k).b i:=(h.st k).piv.2.2 i hi
theorem Cyc.TBd (h:Cyc m n e N S p r){i u:Nat}(hi:i<m):∀d,(S (u+d)).b i≠(S u).b i→∃v,u≤v∧v<u+d∧r v=i∧(S v).b i=(S u).b i
 |0,hn=>absurd rfl hn
 |d+1,hn=>by
  by_cases g:(S (u+d)).b i=(S u).b i
  ·refine⟨u+d,by omega,by omega,?_,g⟩
   have:=h.bas (u+d) i hi;by_cases g2:i=r (u+d)
   ·exact g2.symm
   ·rw[M_ g2]at this
    exact absurd (this.trans g) hn
  ·obtain⟨v,h1,h2,h3⟩:=h.TBd hi d g
   exact⟨v,h1,by omega,h3⟩
theorem Cyc.TCq (h:Cyc m n e N S p r){i v:Nat}(hi:i<m)(hv:r v=i):∀d,∃w,p w=(S (v+1+d)).b i
 |0=>⟨v,by have:=h.bas v i hi;rw[N_ hv.symm]at this;exact this.symm⟩
 |d+1=>by
  have:=h.bas (v+1+d) i hi;by_cases g:i=r (v+1+d)
  ·rw[N_ g]at this;exact⟨_,this.symm⟩
  ·rw[M_ g]at this
   obtain⟨w,hw⟩:=h.TCq hi hv d;exact⟨w,hw.trans this.symm⟩
theorem Cyc.ratio (h:Cyc m n e N S p r)(k:Nat):0≤(S k).t (r k) n/(S k).t (r k) (p k):=by
 have l:=(h.st k).lv;rw[ZAr];exact ZAS ((h.ok k).rhs _ l.1) (ZBI (Rat.inv_pos.2 l.2.1))
theorem Cyc.up (h:Cyc m n e N S p r)(k:Nat):(S (k+1)).c n=(S k).c n-(S k).c (p k)*((S k).t (r k) n/(S k).t (r k) (p k)):=(h.st k).piv.2.1 n (N' _)
theorem Cyc.mono (h:Cyc m n e N S p r)(k:Nat):∀d,(S k).c n≤(S (k+d)).c n
 |0=>ZCt
 |d+1=>by
  have h1:=h.mono k d;have h2:=h.up (k+d);have h3:=ZAS (a:=-(S (k+d)).c (p (k+d))) (by have:=(h.st (k+d)).ent.2.1;grind) (h.ratio (k+d));show _≤(S (k+d+1)).c n;rw[h2];grind
theorem Cyc.zero (h:Cyc m n e N S p r)(k:Nat):(S k).t (r k) n=0:=by
 have h1:=h.mono (k+1) (N-1);have hN:=h.pos;rw[show k+1+(N-1)=k+N by omega,h.per,h.up k]at h1;have hc:=(h.st k).ent.2.1;have hq:=h.ratio k;have l:=(h.st k).lv;have hz:(S k).t (r k) n/(S k).t (r k) (p k)=0:=by
  by_cases g:0<(S k).t (r k) n/(S k).t (r k) (p k)
  ·have:=ZBJ (a:=-(S k).c (p k)) (by grind) g
   grind
  ·exact ZBw (ZAf.1 g) hq
 have:=ZCT (a:=(S k).t (r k) n) (b:=(S k).t (r k) (p k)) (by have:=l.2.1;grind);rw[hz]at this;grind
theorem Cyc.rhs (h:Cyc m n e N S p r){i:Nat}(hi:i<m)(k:Nat):∀d,(S (k+d)).t i n=(S k).t i n
 |0=>rfl
 |d+1=>by
  have h1:=(h.st (k+d)).piv.1 i n hi (N' _);have h0:=h.zero (k+d);show(S (k+d+1)).t i n=_;rw[h1,←h.rhs hi k d];unfold Cd;simp only
  split
  ·rename_i g;rw[g,h0,ZAr];grind
  ·rw[h0,ZAr];grind
theorem Cyc.sim (h:Cyc m n e N S p r)(k:Nat):∀d,(S k).Sim m n (S (k+d))
 |0=>Tb.Sim.refl _ _ _
 |d+1=>(h.sim k d).trans (h.st (k+d)).sim
theorem ww (p:Nat→Nat)(e:Nat)(hp:∀k,p k<e):∃a,∀k,p k≤p a:=by
 apply Y';intro hn;have hn:∀a,∃k,p a<p k:=fun a=>by
  apply Y';intro g;exact hn ⟨a,fun k=>Nat.le_of_not_lt fun hk=>g ⟨k,hk⟩⟩
 have:∀B,∃k,B≤p k:=fun B=>by
  induction B with
  |zero=>exact⟨0,p_ _⟩
  |succ B ih =>
   obtain⟨k,hk⟩:=ih;obtain⟨k2,hk2⟩:=hn k;exact⟨k2,by omega⟩
 obtain⟨k,hk⟩:=this e;have:=hp k;omega
theorem m7 (h:Cyc m n e N S p r):False:=by
 obtain⟨a,ha⟩:=ww p e fun k=>(h.st k).ent.1
 have hN:=h.pos;obtain⟨i0,hi0⟩:∃i0,i0=r a:=⟨_,rfl⟩
 have hm0:i0<m:=hi0▸(h.st a).lv.1;have hin:(S (a+1)).b i0=p a:=by rw[h.bas a i0 hm0,N_ hi0]
 have hca:=(h.st a).ent;have TBj:(S (a+1+(N-1))).b i0≠(S (a+1)).b i0:=by
  rw[show a+1+(N-1)=a+N by omega,h.per,hin];intro g;have:=(h.ok a).cost i0 hm0;rw[g]at this;have:=hca.2.1;grind
 obtain⟨u,u1,u2,u3,u4⟩:=h.TBd hm0 _ TBj;rw[hin]at u4;have hcu:=(h.st u).ent;have hlu:=(h.st u).lv;rw[u3]at hlu;have hlt:p u<p a:=by
  rcases ZAj (ha u)with g |g
  ·exact g
  ·exfalso
   have h1:=(h.ok u).cost i0 hm0;rw[u4,←g]at h1;have:=hcu.2.1;grind
 have TDU:=h.sim a (u-a);rw[show a+(u-a)=u by omega]at TDU;have hid:=GR TDU (h.ok u) h.le (p:=p u) (by have:=hcu.1;have:=h.le;omega);have hge:=hca.2.2 (p u) hlt;have TBE:=hcu.2.1;obtain⟨i,hi,TA2⟩:=Uu (f:=fun i=>(S a).c ((S u).b i)*(S u).t i (p u)) (n:=m) (by grind);have TA2:0<(S a).c ((S u).b i)*(S u).t i (p u):=TA2;by_cases hii:i=i0
 ·subst hii
  rw[u4]at TA2;have h1:=hca.2.1;have h2:=hlu.2.1;have:=ZBJ (a:=-(S a).c (p a)) (by grind) h2;grind
 have hjq:(S u).b i≠p a:=fun g=>by
  have h1:=(h.ok u).unit i0 i hm0 hi;have h2:=(h.ok u).unit i0 i0 hm0 hm0;rw[M_ (w_ hii),g]at h1;rw[N_ rfl,u4,h1]at h2;exact absurd h2 (by decide)
 have hcj:(S a).c ((S u).b i)≠0:=fun g=>by rw[g]at TA2;grind
 have TEv:(S (u+(a+N-u))).b i≠(S u).b i:=by
  rw[show u+(a+N-u)=a+N by omega,h.per];intro g;exact hcj (by rw[←g];exact(h.ok a).cost i hi)
 obtain⟨v,v1,v2,v3,v4⟩:=h.TBd hi _ TEv;have hz0:=h.zero v;rw[v3]at hz0;have hzi:(S u).t i n=0:=by
  have:=h.rhs hi u (v-u);rw[show u+(v-u)=v by omega]at this;rw[←this,hz0]
 have hzr:=h.zero u;rw[u3]at hzr;obtain⟨w,hw⟩:=h.TCq hi v3 (u+N-(v+1));rw[show v+1+(u+N-(v+1))=u+N by omega,h.per]at hw;have hle:=ha w;have TFt:(S u).b i<p a:=by omega
 have hc0:=hca.2.2 _ TFt;have htp:0<(S u).t i (p u):=by
  apply Y';intro g;have:=ZAS (b:=-(S u).t i (p u)) hc0 (by grind);grind
 have hz:∀d:Rat,(0:Rat)/d=0:=fun d=>by rw[ZAr,Rat.zero_mul]
 rcases hlu.2.2 i hi htp with g |g
 ·rw[hzr,hzi,hz,hz]at g
  exact absurd g (by decide)
 ·rw[u4]at g
  have:=g.2;omega
end
theorem Wb:∀ (K:Nat) (f:Nat→Nat),(∀k,k≤K→f k<K)→∃a b,a<b∧b≤K∧f a=f b
 |0,f,h=>absurd (h 0 (N' _)) (by omega)
 |K+1,f,h=>by
  by_cases g:∃a,a≤K∧f a=f (K+1)
  ·obtain⟨a,h1,h2⟩:=g
   exact⟨a,K+1,by omega,N' _,h2⟩
  ·have g:∀a,a≤K→f a≠f (K+1):=fun a ha e=>g ⟨a,ha,e⟩
   obtain⟨a,b,h1,h2,h3⟩:=Wb K (fun k=>if f k=K then f (K+1)else f k) fun k hk=>by
    have h1:=h k (by omega);have h2:=h (K+1) (by omega);have h3:=g k hk
    split <;> omega
   have g1:=g a (by omega);have g2:=g b (by omega);refine⟨a,b,h1,by omega,?_⟩
   split at h3 <;> split at h3 <;> omega
def EH (e:Nat)(f:Nat→Nat):Nat→Nat
 |0=>0
 |n+1=>f n+e*EH e f n
theorem Mq {e:Nat}{f:Nat→Nat}:∀ {n:Nat},(∀i,i<n→f i<e)→EH e f n<e ^ n
 |0,_=>by show 0<e ^ 0;rw[ZDp];omega
 |n+1,h=>by
  unfold EH;have h1:=Mq (e:=e) (f:=f) (n:=n) fun i hi=>h i (by omega)
  have h2:=h n (by omega);have h3:=Nat.mul_le_mul_left e (show EH e f n+1≤e ^ n from h1);rw[ZB1,ZBH (e ^ n) e];rw[ZD4,ZCS]at h3;omega
theorem Ia {e:Nat}{f g:Nat→Nat}:∀ {n:Nat},(∀i,i<n→f i<e)→(∀i,i<n→g i<e)→EH e f n=EH e g n→∀i,i<n→f i=g i
  |0,_,_,_,i,hi=>absurd hi (by omega)
  |n+1,hf,hg,h,i,hi=>by
    unfold EH at h;have h1:=hf n (by omega);have h2:=hg n (by omega);have h3:f n=g n:=by
      have:=y_ (· % e) h
      simpa only[Nat.add_mul_mod_self_left,ZAJ h1,ZAJ h2]using this
    have h4:EH e f n=EH e g n:=by
      rw[h3]at h;exact Nat.eq_of_mul_eq_mul_left (show 0<e by omega) (Nat.add_left_cancel h)
    rcases ZAj (ZBF.1 hi)with k |k
    · exact Ia (fun i hi=>hf i (by omega)) (fun i hi=>hg i (by omega)) h4 i k
    · rw[k];exact h3
theorem Tb.Eqv.symm {m n:Nat}{T U:Tb}(h:T.Eqv m n U):U.Eqv m n T:=⟨fun i k hi hk=>(h.1 i k hi hk).symm,fun k hk=>(h.2.1 k hk).symm,fun i hi=>(h.2.2 i hi).symm⟩
theorem Tb.Eqv.trans {m n:Nat}{T U V:Tb}(h:T.Eqv m n U)(g:U.Eqv m n V):T.Eqv m n V:=⟨fun i k hi hk=>(h.1 i k hi hk).trans (g.1 i k hi hk),fun k hk=>(h.2.1 k hk).trans (g.2.1 k hk),fun i hi=>(h.2.2 i hi).trans (g.2.2 i hi)⟩
theorem mT {m n e K:Nat}{S:Nat→Tb}{p r:Nat→Nat}(he:e≤n)(h0:(S 0).Ok m n e) (hs:∀k,k<K→Step m n e (S k) (p k) (r k) (S (k+1))):∀k,k≤K→(S k).Ok m n e∧(S 0).Sim m n (S k)
 |0,_=>⟨h0,Tb.Sim.refl _ _ _⟩
 |k+1,hk=>by
  obtain⟨h1,h2⟩:=mT he h0 hs k (by omega);exact⟨(hs k (by omega)).ok h1 he,h2.trans (hs k (by omega)).sim⟩
theorem Tp {m n e K:Nat}{S:Nat→Tb}{p r:Nat→Nat}(he:e≤n)(h0:(S 0).Ok m n e) (hs:∀k,k<K→Step m n e (S k) (p k) (r k) (S (k+1))):K<e ^ m:=by
 apply Y';intro hK;have hok:=mT he h0 hs;obtain⟨a,b,h1,h2,h3⟩:=Wb (e ^ m) (fun k=>EH e (S k).b m) fun k hk=>Mq fun i hi=>(hok k (by omega)).1.bas i hi
 have hb:=Ia (fun i hi=>(hok a (by omega)).1.bas i hi) (fun i hi=>(hok b (by omega)).1.bas i hi) h3;have TDU:(S a).Sim m n (S b):=(hok a (by omega)).2.symm.trans (hok b (by omega)).2;have heq:=Rg TDU (hok a (by omega)).1 (hok b (by omega)).1 he hb;have hlt:∀k,k%(b-a)<b-a:=fun k=>ZAI _ (by omega)
 refine m7 (m:=m) (n:=n) (e:=e) (N:=b-a) (S:=fun k=>S (a+k%(b-a))) (p:=fun k=>p (a+k%(b-a))) (r:=fun k=>r (a+k%(b-a))) ⟨by omega,he,fun k=>(hok _ (by have:=hlt k;omega)).1,fun k=>?_,fun k=>by simp only[Nat.add_mod_right]⟩;have hk:=hlt k;have h5:=hs (a+k%(b-a)) (by omega);by_cases g:k%(b-a)+1<b-a
 ·have:(k+1)%(b-a)=k%(b-a)+1:=by rw[Nat.add_mod,ZAJ (show 1<b-a by omega),ZAJ g]
  simp only[this];exact h5
 ·have h6:k%(b-a)+1=b-a:=by omega
  have:(k+1)%(b-a)=0:=by
   by_cases g1:b-a=1
   ·rw[g1,Nat.mod_one]
   ·rw[Nat.add_mod,ZAJ (show 1<b-a by omega),h6,ZC6]
  simp only[this,ZAm];refine⟨h5.ent,h5.lv,?_⟩;rw[show a+k%(b-a)+1=b by omega]at h5;exact heq.trans h5.piv
def Mz (T:Tb):Nat→Option Nat
 |0=>none
 |k+1=>match Mz T k with
  |some p=>some p
  |none=>if T.c k<0 then some k else none
theorem Fx {T:Tb}:∀ {e:Nat},Mz T e=none→∀j,j<e→0≤T.c j
 |e+1,h,j,hj=>by
  unfold Mz at h;cases g:Mz T e with
  |some p=>rw[g]at h;cases h
  |none =>
   rw[g]at h;simp only at h;rcases ZAj (ZBF.1 hj)with k |k
   ·exact Fx g j k
   ·subst k
    split at h
    ·cases h
    ·rename_i q;exact ZAf.1 q
theorem Fy {T:Tb}{p:Nat}:∀ {e:Nat},Mz T e=some p→Ie e T p
 |e+1,h=>by
  unfold Mz at h;cases g:Mz T e with
  |some q =>
   rw[g]at h;cases h;have:=Fy g;exact⟨by have:=this.1;omega,this.2⟩
  |none =>
   rw[g]at h;simp only at h
   split at h
   ·rename_i q
    cases h;exact⟨by omega,q,Fx g⟩
   ·cases h
def Tb.q (T:Tb)(n p i:Nat):Rat:=T.t i n/T.t i p
def JI (T:Tb)(n p:Nat):Nat→Option Nat
 |0=>none
 |k+1=>if 0<T.t k p then
   match JI T n p k with
   |none=>some k
   |some r=>if T.q n p k<T.q n p r∨(T.q n p k=T.q n p r∧T.b k<T.b r)then some k else some r
  else JI T n p k
theorem Gk {T:Tb}{n p:Nat}:∀ {m:Nat},JI T n p m=none→∀i,i<m→¬0<T.t i p
 |m+1,h,i,hi=>by
  unfold JI at h
  split at h
  ·split at h
   ·cases h
   ·split at h <;> cases h
  ·rename_i g
   rcases ZAj (ZBF.1 hi)with k |k
   ·exact Gk h i k
   ·rw[k];exact g
theorem ZI {T:Tb}{n p:Nat}:∀ {m r:Nat},JI T n p m=some r→lC m n T p r
 |m+1,r,h=>by
  unfold JI at h
  split at h
  ·rename_i hp
   split at h
   ·rename_i g
    cases h;refine⟨by omega,hp,fun i hi hi2=>?_⟩;rcases ZAj (ZBF.1 hi)with k |k
    ·exact absurd hi2 (Gk g i k)
    ·rw[k];exact .inr ⟨rfl,N' _⟩
   ·rename_i r0 g
    obtain⟨g1,g2,g3⟩:=ZI g
    split at h
    ·rename_i hl
     cases h;refine⟨by omega,hp,fun i hi hi2=>?_⟩;rcases ZAj (ZBF.1 hi)with k |k
     ·have h3:=g3 i k hi2
      unfold Tb.q at hl;rcases hl with hl | ⟨hl,hb⟩
      ·rcases h3 with h3 | ⟨h3,_⟩
       ·exact .inl (by grind)
       ·exact .inl (by rw[←h3];exact hl)
      ·rcases h3 with h3 | ⟨h3,h4⟩
       ·exact .inl (by rw[hl];exact h3)
       ·exact .inr ⟨hl.trans h3,by omega⟩
     ·rw[k];exact .inr ⟨rfl,N' _⟩
    ·rename_i hl
     cases h;refine⟨by omega,g2,fun i hi hi2=>?_⟩;rcases ZAj (ZBF.1 hi)with k |k
     ·exact g3 i k hi2
     ·subst k
      unfold Tb.q at hl;simp only[not_or,ZAf,not_and,Nat.not_lt]at hl;by_cases e:T.t r n/T.t r p=T.t i n/T.t i p
      ·exact .inr ⟨e,hl.2 e.symm⟩
      ·refine .inl ?_
       apply Y';intro w;exact e (ZBw hl.1 (ZAf.1 w))
  ·obtain⟨g1,g2,g3⟩:=ZI h
   rename_i hp;refine⟨by omega,g2,fun i hi hi2=>?_⟩;rcases ZAj (ZBF.1 hi)with k |k
   ·exact g3 i k hi2
   ·subst k;exact absurd hi2 hp
def CB (m n e:Nat)(T:Tb):Option Tb:=match Mz T e with
 |none=>none
 |some p=>match JI T n p m with
  |none=>none
  |some r=>some (Cd T r p)
def Bn (m n e:Nat)(T:Tb):Nat→Tb
 |0=>T
 |k+1=>(CB m n e (Bn m n e T k)).getD (Bn m n e T k)
theorem N3 {m n e:Nat}{T U:Tb}(h:CB m n e T=some U):∃p r,Step m n e T p r U:=by
 unfold CB at h
 split at h
 ·cases h
 ·rename_i p hp
  split at h
  ·cases h
  ·rename_i r hr
   cases h;exact⟨p,r,Fy hp,ZI hr,⟨fun _ _ _ _=>rfl,fun _ _=>rfl,fun _ _=>rfl⟩⟩
theorem mQ {m n e:Nat}(T:Tb)(he:e≤n)(h0:T.Ok m n e):∃K,CB m n e (Bn m n e T K)=none∧∀k,k<K→CB m n e (Bn m n e T k)=some (Bn m n e T (k+1)):=by
 have TDo:∀k,CB m n e (Bn m n e T k)≠none→CB m n e (Bn m n e T k)=some (Bn m n e T (k+1)):=fun k hk=>by
  cases g:CB m n e (Bn m n e T k)with
  |none=>exact absurd g hk
  |some U=>show some U=some ((CB m n e (Bn m n e T k)).getD _);rw[g];rfl
 have hex:∃K,CB m n e (Bn m n e T K)=none:=by
  apply Y';intro hn;have hn:∀k,CB m n e (Bn m n e T k)=some (Bn m n e T (k+1)):=fun k=>TDo k fun g=>hn ⟨k,g⟩
  have hs:=fun k=>N3 (hn k)
  let p:Nat→Nat:=fun k=>(hs k).choose
  let r:Nat→Nat:=fun k=>(hs k).choose_spec.choose
  have hst:∀k,Step m n e (Bn m n e T k) (p k) (r k) (Bn m n e T (k+1)):=fun k=>(hs k).choose_spec.choose_spec
  have:=Tp (K:=e ^ m) (S:=Bn m n e T) he h0 fun k _=>hst k
  omega
 obtain⟨K,hK⟩:=hex
 induction K using Nat.strongRecOn with
 |_ K ih =>
  by_cases g:∃k,k<K∧CB m n e (Bn m n e T k)=none
  ·obtain⟨k,h1,h2⟩:=g
   exact ih k h1 h2
  ·exact⟨K,hK,fun k hk=>TDo k fun h=>g ⟨k,hk,h⟩⟩
theorem aA {m n e K:Nat}{T:Tb}(he:e≤n)(h0:T.Ok m n e)(hs:∀k,k<K→CB m n e (Bn m n e T k)=some (Bn m n e T (k+1))):∀k,k≤K→(Bn m n e T k).Ok m n e∧T.Sim m n (Bn m n e T k)
 |0,_=>⟨h0,Tb.Sim.refl _ _ _⟩
 |k+1,hk=>by
  obtain⟨h1,h2⟩:=aA he h0 hs k (by omega);obtain⟨p,r,h3⟩:=N3 (hs k (by omega));exact⟨h3.ok h1 he,h2.trans h3.sim⟩
theorem CJ (f:Nat→Rat)(a:Nat):∀b,XO f (a+b)=XO f a+XO (fun i=>f (a+i)) b
 |0=>by show XO f a=XO f a+0;grind
 |b+1=>by
  show XO f (a+b)+f (a+b)=XO f a+(XO _ b+f (a+b));rw[CJ f a b];grind
def K0 (v m:Nat)(A:Nat→Nat→Rat)(B G:Nat→Rat):Tb where
 t i k:=if k<v then A i k else if k<2*v then -A i (k-v)else if k=2*v+i then 1 else if k=2*v+2*m then B i else 0
 c k:=if k<v then -G k else if k<2*v then G (k-v)else 0
 b i:=2*v+i
section
variable {v m:Nat} {A:Nat→Nat→Rat} {B G:Nat→Rat}
theorem aQ (hB:∀i,i<m→0≤B i):(K0 v m A B G).Ok m (2*v+2*m) (2*v+m):=by
 refine⟨fun i hi=>?_,fun i k hi hk=>?_,fun i hi=>?_,fun i hi=>?_⟩
 ·show 2*v+i<2*v+m;omega
 ·show(if 2*v+k<v then _ else if 2*v+k<2*v then _ else if 2*v+k=2*v+i then(1:Rat)else if 2*v+k=2*v+2*m then _ else _)=_
  rw[M_ (by omega),M_ (by omega)];by_cases h:i=k
  ·rw[N_ h,N_ (by omega)]
  ·rw[M_ h,M_ (by omega),M_ (by omega)]
 ·show(if 2*v+i<v then _ else if 2*v+i<2*v then _ else(0:Rat))=0
  rw[M_ (by omega),M_ (by omega)]
 ·show 0≤(if 2*v+2*m<v then _ else if 2*v+2*m<2*v then _ else if 2*v+2*m=2*v+i then(1:Rat)else if 2*v+2*m=2*v+2*m then B i else _)
  rw[M_ (by omega),M_ (by omega),M_ (by omega),N_ rfl];exact hB i hi
theorem rH (y:Nat→Rat){i:Nat}(hi:i<m):XO (fun j=>(K0 v m A B G).t i j*y j) (2*v+2*m+1)=XO (fun k=>A i k*(y k-y (v+k))) v+y (2*v+i)+B i*y (2*v+2*m):=by
 rw[show 2*v+2*m+1=v+(v+(2*m+1))by omega,CJ,CJ];have e1:XO (fun j=>(K0 v m A B G).t i j*y j) v=XO (fun k=>A i k*y k) v:=XQ fun k hk=>by
  show(if k<v then _ else _)*y k=_;rw[N_ hk]
 have e2:XO (fun k=>(K0 v m A B G).t i (v+k)*y (v+k)) v=XO (fun k=>(-1)*(A i k*y (v+k))) v:=XQ fun k hk=>by
  show(if v+k<v then _ else if v+k<2*v then -A i (v+k-v)else _)*y (v+k)=_;rw[M_ (by omega),N_ (by omega),show v+k-v=k by omega];grind
 have e3:∀l,l<2*m+1→(K0 v m A B G).t i (v+(v+l))*y (v+(v+l))=(if l=i then y (2*v+i)else if l=2*m then B i*y (2*v+2*m)else 0):=fun l hl=>by
  show(if v+(v+l)<v then _ else if v+(v+l)<2*v then _ else if v+(v+l)=2*v+i then(1:Rat)else if v+(v+l)=2*v+2*m then B i else 0)*y (v+(v+l))=_;rw[M_ (by omega),M_ (by omega)];by_cases h:l=i
  ·rw[N_ (by omega),N_ h,show v+(v+l)=2*v+i by omega];grind
  ·rw[M_ (by omega),M_ h]
   by_cases h2:l=2*m
   ·rw[N_ (by omega),N_ h2,show v+(v+l)=2*v+2*m by omega]
   ·rw[M_ (by omega),M_ h2];grind
 have e4:XO (fun l=>(K0 v m A B G).t i (v+(v+l))*y (v+(v+l))) (2*m+1)=y (2*v+i)+B i*y (2*v+2*m):=by
  rw[XQ e3];show XO _ (2*m)+_=_;rw[Aw (k:=i) (by omega) fun l hl hn=>by rw[M_ hn,M_ (by omega)],N_ rfl];simp only[M_ (show ¬2*m=i by omega),if_true]
 rw[e1,e2,e4,Ji];rw[show(fun k=>A i k*(y k-y (v+k)))=fun k=>A i k*y k-A i k*y (v+k)from funext fun k=>by grind,DD];grind
theorem tD (y:Nat→Rat):XO (fun j=>(K0 v m A B G).c j*y j) (2*v+2*m+1) = -XO (fun k=>G k*(y k-y (v+k))) v:=by
 rw[show 2*v+2*m+1=v+(v+(2*m+1))by omega,CJ,CJ];have e1:XO (fun j=>(K0 v m A B G).c j*y j) v=XO (fun k=>(-1)*(G k*y k)) v:=XQ fun k hk=>by
  show(if k<v then _ else _)*y k=_;rw[N_ hk];grind
 have e2:XO (fun k=>(K0 v m A B G).c (v+k)*y (v+k)) v=XO (fun k=>G k*y (v+k)) v:=XQ fun k hk=>by
  show(if v+k<v then _ else if v+k<2*v then G (v+k-v)else _)*y (v+k)=_;rw[M_ (by omega),N_ (by omega),show v+k-v=k by omega]
 have e3:XO (fun l=>(K0 v m A B G).c (v+(v+l))*y (v+(v+l))) (2*m+1)=0:=Kp fun l hl=>by
  show(if v+(v+l)<v then _ else if v+(v+l)<2*v then _ else(0:Rat))*y (v+(v+l))=0;rw[M_ (by omega),M_ (by omega)];grind
 rw[e1,e2,e3,Ji];rw[show(fun k=>G k*(y k-y (v+k)))=fun k=>G k*y k-G k*y (v+k)from funext fun k=>by grind,DD];grind
structure TAx (v m:Nat)(A:Nat→Nat→Rat)(B G:Nat→Rat)(x y:Nat→Rat)(val:Rat):Prop where
 TC7:∀i,i<m→XO (fun k=>A i k*x k) v≤B i
 TEw:∀i,i<m→0≤y i
 TEx:∀k,k<v→XO (fun i=>A i k*y i) m=G k
 TCf:XO (fun k=>G k*x k) v=val
 TEy:XO (fun i=>B i*y i) m=val
theorem s9 {f g:Nat→Rat}{n:Nat}(h:∀i,i<n→f i≤g i):XO f n≤XO g n:=by
 have:=D2 (f:=fun i=>g i-f i) (n:=n) fun i hi=>by have:=h i hi;grind
 rw[DD]at this;grind
theorem TAx.most {x y:Nat→Rat}{val:Rat}(h:TAx v m A B G x y val){z:Nat→Rat}(hz:∀i,i<m→XO (fun k=>A i k*z k) v≤B i):XO (fun k=>G k*z k) v≤val:=by
 have e:XO (fun k=>G k*z k) v=XO (fun i=>y i*XO (fun k=>A i k*z k) v) m:=by
  rw[XQ fun i hi=>(Ji (y i) (fun k=>A i k*z k) v).symm,FQ];refine XQ fun k hk=>?_
  rw[←h.TEx k hk,ZDq,←Ji];exact XQ fun i hi=>by grind
 rw[e,←h.TEy];refine s9 fun i hi=>?_
 have:=Rat.mul_le_mul_of_nonneg_right (hz i hi) (h.TEw i hi);grind
theorem TAx.uniq {x y x' y':Nat→Rat}{val TEz:Rat}(h:TAx v m A B G x y val)(h':TAx v m A B G x' y' TEz):val=TEz:=by
 refine ZBw ?_ ?_
 ·rw[←h.TCf];exact h'.most h.TC7
 ·rw[←h'.TCf];exact h.most h'.TC7
def Jq (m n:Nat)(T:Tb)(j:Nat):Rat:=XO (fun i=>if T.b i=j then T.t i n else 0) m
theorem re {n e:Nat}{T:Tb}(h:T.Ok m n e)(j:Nat):0≤Jq m n T j:=D2 fun i hi=>by
 split
 ·exact h.rhs i hi
 ·exact ZCt
theorem m8 {n e:Nat}{T:Tb}(h:T.Ok m n e)(he:e≤n)(j:Nat)(hj:j≠n):Gh m T n j = -Jq m n T j:=by
 unfold Gh Jq;rw[M_ hj];grind
theorem wK {n e:Nat}{T:Tb}(h:T.Ok m n e)(he:e≤n):Gh m T n n=1:=by
 unfold Gh;rw[N_ rfl,Kp fun i hi=>by rw[M_ (by have:=h.bas i hi;omega)]];grind
theorem fo {T:Tb}(hB:∀ i,i<m→0≤B i)(hs:(K0 v m A B G).Sim m (2*v+2*m) T) (hT:T.Ok m (2*v+2*m) (2*v+m)) (hc:∀j,j<2*v+m→0≤T.c j) :
  TAx v m A B G (fun k=>Jq m (2*v+2*m) T k-Jq m (2*v+2*m) T (v+k)) (fun i=>T.c (2*v+i)) (T.c (2*v+2*m)):=by
 have he:2*v+m≤2*v+2*m:=by omega
 have hk:=hT.TBh he (N' _);have hd:=fun j hj=>m8 hT he j hj
 have hn:=wK hT he;have hby:=fun p hp=>GR (p:=p) hs.symm (aQ hB) he hp
 have TEI:∀p,p≤2*v+2*m→T.c p=(K0 v m A B G).c p+XO (fun i=>(K0 v m A B G).t i p*T.c (2*v+i)) m:=fun p hp=>by
  have:=hby p hp;have e:XO (fun i=>T.c ((K0 v m A B G).b i)*(K0 v m A B G).t i p) m=XO (fun i=>(K0 v m A B G).t i p*T.c (2*v+i)) m:=XQ fun i _=>ZDq _ _
  rw[e]at this;grind
 refine⟨fun i hi=>?_,fun i hi=>hc _ (by omega),fun k hk'=>?_,?_,?_⟩
 ·have:=(hs _).1.2 hk i hi
  rw[rH _ hi,hn,hd _ (by omega),XQ (g:=fun k=>(-1)*(A i k*(Jq m (2*v+2*m) T k-Jq m (2*v+2*m) T (v+k)))) fun k hk=>by rw[hd _ (by omega),hd _ (by omega)];grind,Ji]at this;have:=re hT (2*v+i);grind
 ·have h1:=TEI k (by omega)
  have h2:=TEI (v+k) (by omega);have g1:=hc k (by omega);have g2:=hc (v+k) (by omega);rw[XQ (g:=fun i=>A i k*T.c (2*v+i)) fun i _=>by
   show(if k<v then _ else _)*_=_;rw[N_ hk'],show(K0 v m A B G).c k = -G k by show(if k<v then _ else _)=_;rw[N_ hk']]at h1
  rw[XQ (g:=fun i=>(-1)*(A i k*T.c (2*v+i))) fun i _=>by
   show(if v+k<v then _ else if v+k<2*v then -A i (v+k-v)else _)*_=_;rw[M_ (by omega),N_ (by omega),show v+k-v=k by omega];grind,Ji,show(K0 v m A B G).c (v+k)=G k by
    show(if v+k<v then _ else if v+k<2*v then G (v+k-v)else _)=_;rw[M_ (by omega),N_ (by omega),show v+k-v=k by omega]]at h2
  refine ZBw ?_ ?_ <;> grind
 ·have h1:=(hs _).2 ((hs _).1.2 hk)
  rw[hT.TBy he (N' _),tD,XQ (g:=fun k=>(-1)*(G k*(Jq m (2*v+2*m) T k-Jq m (2*v+2*m) T (v+k)))) fun k hk=>by rw[hd _ (by omega),hd _ (by omega)];grind,Ji]at h1;rw[←h1];grind
 ·have h1:=TEI (2*v+2*m) (N' _)
  rw[h1,show(K0 v m A B G).c (2*v+2*m)=0 by
   show(if 2*v+2*m<v then _ else if 2*v+2*m<2*v then _ else _)=_;rw[M_ (by omega),M_ (by omega)]]
  rw[XQ (f:=fun i=>(K0 v m A B G).t i (2*v+2*m)*T.c (2*v+i)) (g:=fun i=>B i*T.c (2*v+i)) fun i hi=>by
   show(if 2*v+2*m<v then _ else if 2*v+2*m<2*v then _ else if 2*v+2*m=2*v+i then(1:Rat)else if 2*v+2*m=2*v+2*m then B i else 0)*_=_;rw[M_ (by omega),M_ (by omega),M_ (by omega),N_ rfl]]
  grind
theorem wJ {T:Tb}{p i0:Nat}(hs:(K0 v m A B G).Sim m (2*v+2*m) T) (hT:T.Ok m (2*v+2*m) (2*v+m)) (hp:Ie (2*v+m) T p) (hl:∀i,i<m→¬0<T.t i p) (hi0:i0<m) (hA:∀k,k<v→A i0 k=G k):False:=by
 have he:2*v+m≤2*v+2*m:=by omega
 have hpn:p≤2*v+2*m:=by have:=hp.1;omega
 have hk:=(hs _).1.2 (hT.TBh he hpn);have hd:∀j,0≤Gh m T p j:=fun j=>by
  unfold Gh;have:0≤XO (fun i=>if T.b i=j then -T.t i p else 0) m:=D2 fun i hi=>by
   split
   ·have:=hl i hi;grind
   ·exact ZCt
  rw[XQ (g:=fun i=>(-1)*(if T.b i=j then T.t i p else 0)) fun i _=>by split <;> grind,Ji]at this
  split <;> grind
 have hn0:Gh m T p (2*v+2*m)=0:=by
  unfold Gh;rw[M_ (by have:=hp.1;omega),Kp fun i hi=>by rw[M_ (by have:=hT.bas i hi;omega)]];grind
 have h1:=hk i0 hi0;rw[rH _ hi0,hn0,XQ (g:=fun k=>G k*(Gh m T p k-Gh m T p (v+k))) fun k hk=>by rw[hA k hk]]at h1;have h2:=(hs _).2 hk;rw[hT.TBy he hpn,tD]at h2;have h3:=hp.2.1;have h4:=hd (2*v+i0);grind
end
end Go.Ab.N
namespace Go.Ab.N
set_option maxRecDepth 10000
set_option maxHeartbeats 4000000
def FV (f:Nat→Int):Nat→Int
 |0=>0
 |n+1=>FV f n+f n
theorem NC {f g:Nat→Int}:∀ {n:Nat},(∀i,i<n→f i=g i)→FV f n=FV g n
 |0,_=>rfl
 |n+1,h=>by
  unfold FV;rw[NC fun i hi=>h i (by omega),h n (by omega)]
theorem Ux (f g:Nat→Int):∀n,FV (fun i=>f i-g i) n=FV f n-FV g n
 |0=>rfl
 |n+1=>by unfold FV;rw[Ux f g n];omega
theorem aP {f:Nat→Int}{c:Int}:∀ {n:Nat},(∀i,i<n→-c≤f i∧f i≤c)→-(n*c)≤FV f n∧FV f n≤n*c
 |0,_=>by unfold FV;simp
 |n+1,h=>by
  unfold FV;have h1:=aP (f:=f) (c:=c) (n:=n) fun i hi=>h i (by omega)
  have h2:=h n (by omega);have h3:((n+1:Nat):Int)*c=n*c+c:=by rw[Int.natCast_add,Int.add_mul];simp
  rw[h3];omega
theorem Uw (f:Nat→Int):∀n,((FV f n:Int):Rat)=XO (fun i=>(f i:Rat)) n
 |0=>rfl
 |n+1=>by unfold FV XO;rw[Rat.intCast_add,Uw f n]
def Dn (L x k:Nat):Nat:=x/L ^ k%L
theorem R7 {L:Nat}(hL:0<L)(x k:Nat):Dn L x k<L:=ZAI _ hL
theorem Ov (L x k:Nat):Dn L x (k+1)=Dn L (x/L) k:=by
 unfold Dn;rw[Nat.div_div_eq_div_mul,ZB1,ZBH (L ^ k) L]
theorem SJ {L:Nat}(hL:0<L):∀ (n x y:Nat),x<L ^ n→y<L ^ n→(∀k,k<n→Dn L x k=Dn L y k)→x=y
 |0,x,y,hx,hy,_=>by rw[ZDp]at hx hy;omega
 |n+1,x,y,hx,hy,h=>by
  have h0:=h 0 (by omega);unfold Dn at h0;rw[ZDp,Nat.div_one,Nat.div_one]at h0;have h1:=SJ hL n (x/L) (y/L) (ZD5 (by rw[ZB1,ZBH]at hx;exact hx)) (ZD5 (by rw[ZB1,ZBH]at hy;exact hy)) fun k hk=>by
   rw[←Ov,←Ov];exact h (k+1) (by omega)
  rw[←ZEY x L,←ZEY y L,h0,h1]
theorem xf {m C:Nat}(Z:Nat→Nat→Int)(hZ:∀i k,i<m→k≤m→(Z i k).natAbs≤C) :
  ∃z:Nat→Int,(∃k,k≤m∧z k≠0)∧(∀k,(z k).natAbs≤(2*((m+1)*C)+1) ^ m)∧∀i,i<m→FV (fun k=>Z i k*z k) (m+1)=0:=by
 obtain⟨Q,hQ⟩:∃Q,Q=(m+1)*C:=⟨_,rfl⟩
 rw[←hQ];obtain⟨M,hM⟩:∃M,M=(2*Q+1) ^ m:=⟨_,rfl⟩
 rw[←hM];have hL:0<M+1:=by omega
 let s:Nat→Nat→Int:=fun x i=>FV (fun k=>Z i k*(Dn (M+1) x k:Int)) (m+1)
 have hs:∀x i,i<m→-((Q*M:Nat):Int)≤s x i∧s x i≤((Q*M:Nat):Int):=fun x i hi=>by
  have:=aP (f:=fun k=>Z i k*(Dn (M+1) x k:Int)) (c:=((C*M:Nat):Int)) (n:=m+1) fun k hk=>by
   have h1:=hZ i k hi (by omega);have h2:=R7 hL x k;have h3:(Z i k*(Dn (M+1) x k:Int)).natAbs≤C*M:=by
    rw[Int.natAbs_mul,ZAl];exact ZBQ h1 (by omega)
   omega
  have e:((m+1:Nat):Int)*((C*M:Nat):Int)=((Q*M:Nat):Int):=by
   rw[hQ,←ZBL,Nat.mul_assoc]
  rw[e]at this;exact this
 let c:Nat→Nat→Nat:=fun x i=>(s x i+((Q*M:Nat):Int)).toNat
 have hc:∀x i,i<m→c x i<2*(Q*M)+1:=fun x i hi=>by
  have:=hs x i hi;show(s x i+((Q*M:Nat):Int)).toNat<_;omega
 have hlt:(2*(Q*M)+1) ^ m<(M+1) ^ (m+1):=by
  have h1:2*(Q*M)+1≤(2*Q+1)*(M+1):=by
   rw[Nat.add_mul,Nat.one_mul,ZD4,ZCS,Nat.mul_assoc];omega
  have h2:=Nat.pow_le_pow_left h1 m;rw[Nat.mul_pow,←hM]at h2;have h3:0<(M+1) ^ m:=Nat.pow_pos hL;have h2:(2*(Q*M)+1) ^ m≤M*(M+1) ^ m:=h2;rw[ZB1,ZD4,ZCS,ZBH ((M+1) ^ m) M];omega
 obtain⟨a,b,h1,h2,h3⟩:=Wb ((2*(Q*M)+1) ^ m) (fun x=>EH (2*(Q*M)+1) (c x) m) fun x _=>Mq fun i hi=>hc x i hi
 have h4:=Ia (fun i hi=>hc a i hi) (fun i hi=>hc b i hi) h3;have h5:∀i,i<m→s a i=s b i:=fun i hi=>by
  have g1:=hs a i hi;have g2:=hs b i hi;have g3:(s a i+((Q*M:Nat):Int)).toNat=(s b i+((Q*M:Nat):Int)).toNat:=h4 i hi;omega
 refine⟨fun k=>(Dn (M+1) a k:Int)-(Dn (M+1) b k:Int),?_,fun k=>?_,fun i hi=>?_⟩
 ·apply Y'
  intro hn;have:=SJ hL (m+1) a b (by omega) (by omega) fun k hk=>by
   apply Y';intro g;exact hn ⟨k,by omega,by show(Dn (M+1) a k:Int)-(Dn (M+1) b k:Int)≠0;omega⟩
  omega
 ·show((Dn (M+1) a k:Int)-(Dn (M+1) b k:Int)).natAbs≤M
  have g1:=R7 hL a k;have g2:=R7 hL b k;omega
 ·have e:∀k,Z i k*((Dn (M+1) a k:Int)-(Dn (M+1) b k:Int))=Z i k*(Dn (M+1) a k:Int)-Z i k*(Dn (M+1) b k:Int):=fun k=>Int.mul_sub _ _ _
  rw[NC fun k _=>e k,Ux];have:=h5 i hi;show s a i-s b i=0;omega
theorem TB (f:Nat→Rat)(g:Nat→Nat)(z:Nat→Rat){N:Nat}:∀ {M:Nat},(∀k,k<M→g k<N)→XO (fun j=>f j*XO (fun k=>if g k=j then z k else 0) M) N=XO (fun k=>f (g k)*z k) M
 |M,hg=>by
  have e:∀j,f j*XO (fun k=>if g k=j then z k else 0) M=XO (fun k=>f j*(if g k=j then z k else 0)) M:=fun j=>(Ji _ _ _).symm
  rw[XQ fun j _=>e j,FQ];refine XQ fun k hk=>?_
  rw[Aw (k:=g k) (hg k hk) fun j _ hn=>by rw[M_ (w_ hn)];grind,N_ rfl]
theorem Um {m n e C:Nat}{T0 T:Tb}(hs:T0.Sim m n T)(hT:T.Ok m n e)(he:e≤n)(D:Nat→Int)(Z:Nat→Nat→Int)(hD:∀ i,i<m→D i≠0)(hDZ:∀i j,i<m→j≤n→(D i:Rat)*T0.t i j=(Z i j:Rat)) (hZ:∀i j,i<m→j≤n→(Z i j).natAbs≤C)
  {i p:Nat} (hi:i<m) (hp:p≤n):∃a b:Int,b≠0∧a.natAbs≤(2*((m+1)*C)+1) ^ m∧b.natAbs≤(2*((m+1)*C)+1) ^ m∧T.t i p=P' a b:=by
 let g:Nat→Nat:=fun k=>if k<m then T.b k else p
 have hg:∀k,k<m+1→g k<n+1:=fun k hk=>by
  show(if k<m then T.b k else p)<n+1
  split
  ·rename_i h;have:=hT.bas k h;omega
  ·omega
 obtain⟨z,⟨k0,hk0,hz0⟩,hzb,hz⟩:=xf (m:=m) (C:=C) (fun i k=>Z i (g k)) fun i k hi hk=>hZ i _ hi (by have:=hg k (by omega);omega)
 have TEJ:T0.ker m n fun j=>XO (fun k=>if g k=j then(z k:Rat)else 0) (m+1):=fun i hi=>by
  rw[TB (fun j=>T0.t i j) g (fun k=>(z k:Rat)) hg];have h1:=y_ (fun x:Int=>(x:Rat)) (hz i hi);rw[Uw,XQ (g:=fun k=>(D i:Rat)*(T0.t i (g k)*(z k:Rat))) fun k hk=>by rw[ZBE,←hDZ i _ hi (by have:=hg k hk;omega)];grind,Ji]at h1;rcases Rat.mul_eq_zero.1 h1 with h |h
  ·exact absurd (ZBa.1 h) (hD i hi)
  ·exact h
 have TEJ:=(hs _).1.1 TEJ;have TBz:∀i,i<m→(z i:Rat) = -(T.t i p*(z m:Rat)):=fun i hi=>by
  have h1:=TEJ i hi;rw[TB (fun j=>T.t i j) g (fun k=>(z k:Rat)) hg]at h1;have h2:XO (fun k=>T.t i (g k)*(z k:Rat)) m+T.t i (g m)*(z m:Rat)=0:=h1;rw[show g m=p from M_ (ZAG m),Aw (k:=i) hi fun k hk hn=>by
   show T.t i (if k<m then T.b k else p)*_=0;rw[N_ hk,hT.unit i k hi hk,M_ (w_ hn)];grind]at h2
  rw[show g i=T.b i from N_ hi,hT.unit i i hi hi,N_ rfl]at h2;grind
 have hm:z m≠0:=fun h=>by
  rcases ZAj hk0 with k |k
  ·have:=TBz k0 k
   rw[h]at this;have:(z k0:Rat)=0:=by rw[this];have:(((0:Int):Int):Rat)=0:=rfl;grind
   exact hz0 (ZBa.1 this)
  ·exact hz0 (by rw[k];exact h)
 refine⟨-z i,z m,hm,by rw[Int.natAbs_neg];exact hzb i,hzb m,?_⟩;have h1:=TBz i hi;have h2:(z m:Rat)≠0:=fun h=>hm (ZBa.1 h)
 rw[ZCx,ZEZ,h1,ZAr];have:=Rat.mul_inv_cancel _ h2;grind
end Go.Ab.N
namespace Go.Ab.N
open Go Go.RowKit Go.Proofs
set_option maxRecDepth 10000
set_option maxHeartbeats 4000000
theorem Nw {v m:Nat}{A:Nat→Nat→Rat}{B G:Nat→Rat}(hB:∀ i,i<m→0≤B i){i0:Nat}(hi0:i0<m)(hA:∀k,k<v→A i0 k=G k) :
  ∃ (K:Nat) (S:Nat→Tb),S 0=K0 v m A B G∧(∀k,k≤K→(S k).Ok m (2*v+2*m) (2*v+m)∧(K0 v m A B G).Sim m (2*v+2*m) (S k)) ∧
   (∀k,k<K→∃p r,Ie (2*v+m) (S k) p∧JI (S k) (2*v+2*m) p m=some r∧S (k+1)=Cd (S k) r p)∧(∀j,j<2*v+m→0≤(S K).c j) ∧
   TAx v m A B G (fun k=>Jq m (2*v+2*m) (S K) k-Jq m (2*v+2*m) (S K) (v+k)) (fun i=>(S K).c (2*v+i)) ((S K).c (2*v+2*m)):=by
 have he:2*v+m≤2*v+2*m:=by omega
 have h0:=aQ (v:=v) (m:=m) (A:=A) (B:=B) (G:=G) hB;obtain⟨K,hK,hs⟩:=mQ (K0 v m A B G) he h0;have hok:=aA he h0 hs;have TAo:Mz (Bn m (2*v+2*m) (2*v+m) (K0 v m A B G) K) (2*v+m)=none:=by
  cases he2:Mz (Bn m (2*v+2*m) (2*v+m) (K0 v m A B G) K) (2*v+m)with
  |none=>rfl
  |some p =>
   exfalso;unfold CB at hK;rw[he2]at hK;simp only at hK;cases hl:JI (Bn m (2*v+2*m) (2*v+m) (K0 v m A B G) K) (2*v+2*m) p m with
   |some r=>rw[hl]at hK;cases hK
   |none=>exact wJ (hok K (N' _)).2 (hok K (N' _)).1 (Fy he2) (Gk hl) hi0 hA
 refine⟨K,Bn m (2*v+2*m) (2*v+m) (K0 v m A B G),rfl,hok,fun k hk=>?_,Fx TAo,fo hB (hok K (N' _)).2 (hok K (N' _)).1 (Fx TAo)⟩;have h1:=hs k hk;unfold CB at h1;cases hp:Mz (Bn m (2*v+2*m) (2*v+m) (K0 v m A B G) k) (2*v+m)with
 |none=>rw[hp]at h1;cases h1
 |some p =>
  rw[hp]at h1;simp only at h1;cases hl:JI (Bn m (2*v+2*m) (2*v+m) (K0 v m A B G) k) (2*v+2*m) p m with
  |none=>rw[hl]at h1;cases h1
  |some r =>
   rw[hl]at h1;simp only at h1;exact⟨p,r,Fy hp,hl,(Option.some.inj h1).symm⟩
def Lq (f:Nat→Rat):Nat→Int
 |0=>1
 |k+1=>Lq f k*(f k).den
theorem Ys (f:Nat→Rat):∀k,Lq f k≠0
 |0=>by unfold Lq;omega
 |k+1=>by
  unfold Lq;have:=(f k).den_nz;exact Int.mul_ne_zero (Ys f k) (by omega)
theorem Yr (f:Nat→Rat){c:Nat}(h:∀k,qb (f k)≤c):∀k,bl (Lq f k)≤k*c+3
 |0=>by
  have:bl (1:Int)≤3:=Aa ⟨by omega,by omega⟩;show bl 1≤_;omega
 |k+1=>by
  unfold Lq;have h1:=JV (Lq f k) (f k).den;have h2:=Yr f h k;have h3:=JZ (f k);have h4:=h k;have e:(k+1)*c=k*c+c:=ZCy k c;omega
theorem GS (f:Nat→Rat):∀k j,j<k→∃z:Int,(Lq f k:Rat)*f j=(z:Rat)
 |k+1,j,hj=>by
  unfold Lq;by_cases e:j=k
  ·subst e
   refine⟨Lq f j*(f j).num,?_⟩;have hd:((f j).den:Rat)≠0:=by
    intro h;exact(f j).den_nz (by exact_mod_cast h)
   have hn:((f j).den:Rat)*f j=((f j).num:Rat):=by
    have h1:((f j).num:Rat)/(((f j).den:Int):Rat)=f j:=(ZCx _ _).symm.trans (ZC5 (f j));have h2:((((f j).den:Nat):Int):Rat)=((f j).den:Rat):=rfl;rw[h2]at h1;have h3:=ZCT (a:=((f j).num:Rat)) hd;rw[h1]at h3;rw[ZDq];exact h3
   rw[ZBE,ZBE,Rat.mul_assoc];show(Lq f j:Rat)*((((f j).den:Nat):Rat)*f j)=_;rw[hn]
  ·obtain⟨z,hz⟩:=GS f k j (by omega)
   refine⟨z*(f k).den,?_⟩;rw[ZBE,ZBE,←hz];grind
theorem MA {v m c:Nat}{A:Nat→Nat→Rat}{B G:Nat→Rat}{T:Tb}(hs:(K0 v m A B G).Sim m (2*v+2*m) T) (hT:T.Ok m (2*v+2*m) (2*v+m)) (hm:m+1<100000000) (hA:∀i k,qb (A i k)≤c) (hB:∀i,qb (B i)≤c) {i p:Nat} (hi:i<m) (hp:p≤2*v+2*m) :
  qb (T.t i p)≤m*((v+2)*c+5)+1:=by
 let f:Nat→Nat→Rat:=fun i k=>if k<v then A i k else B i
 have hf:∀i k,qb (f i k)≤c:=fun i k=>by
  show qb (if k<v then A i k else B i)≤c
  split
  ·exact hA i k
  ·exact hB i
 let D:Nat→Int:=fun i=>Lq (f i) (v+1)
 have hD:∀i,D i≠0:=fun i=>Ys _ _
 have hDb:∀i,bl (D i)≤(v+1)*c+3:=fun i=>Yr _ (hf i) _
 have hint:∀i j,j≤2*v+2*m→∃z:Int,(D i:Rat)*(K0 v m A B G).t i j=(z:Rat)∧bl z≤(v+2)*c+3:=fun i j _=>by
  have he:(v+2)*c=(v+1)*c+c:=ZCy (v+1) c;have hz:∀x:Rat,qb x≤c→(∃z:Int,(D i:Rat)*x=(z:Rat))→∃z:Int,(D i:Rat)*x=(z:Rat)∧bl z≤(v+2)*c+3:=fun x hx ⟨z,hz⟩=>by
   refine⟨z,hz,?_⟩;have h1:z*x.den=D i*x.num:=by
    have h2:((x.num:Int):Rat)/(((x.den:Nat):Int):Rat)=x:=(ZCx _ _).symm.trans (ZC5 x);have hd:(((x.den:Nat):Int):Rat)≠0:=fun h=>x.den_nz (by have:=ZBa.1 h;omega)
    have h3:=ZCT (a:=((x.num:Int):Rat)) hd;rw[h2]at h3;have h4:((z*x.den:Int):Rat)=((D i*x.num:Int):Rat):=by
     rw[ZBE,ZBE,←hz,←h3];grind
    exact Rat.intCast_inj.1 h4
   have h5:z.natAbs≤(D i*x.num).natAbs:=D8 (m:=(x.den:Int)) (by have:=x.den_nz;omega) h1.symm;have h6:=Jm h5;have h7:=JV (D i) x.num;have h8:=hDb i;have h9:=Jy x;omega
  have hd1:bl (D i)≤(v+2)*c+3:=by have:=hDb i;omega
  show ∃z:Int,(D i:Rat)*(if j<v then A i j else if j<2*v then -A i (j-v)else if j=2*v+i then 1 else if j=2*v+2*m then B i else 0)=(z:Rat)∧_;by_cases h1:j<v
  ·rw[N_ h1]
   exact hz _ (hA i j) (by have:=GS (f i) (v+1) j (by omega);rwa[show f i j=A i j from N_ h1]at this)
  rw[M_ h1];by_cases h2:j<2*v
  ·rw[N_ h2]
   obtain⟨z,q1,q2⟩:=hz _ (hA i (j-v)) (by have:=GS (f i) (v+1) (j-v) (by omega);rwa[show f i (j-v)=A i (j-v)from N_ (by omega)]at this);exact⟨-z,by rw[ZEZ,←q1];grind,by rw[jd];exact q2⟩
  rw[M_ h2];by_cases h3:j=2*v+i
  ·rw[N_ h3];exact⟨D i,by grind,hd1⟩
  rw[M_ h3];by_cases h4:j=2*v+2*m
  ·rw[N_ h4]
   exact hz _ (hB i) (by have:=GS (f i) (v+1) v (by omega);rwa[show f i v=B i from M_ (ZAG v)]at this)
  ·rw[M_ h4]
   refine⟨0,by have:(((0:Int):Int):Rat)=0:=rfl;grind,?_⟩;have:bl (0:Int)≤3:=Aa ⟨by omega,by omega⟩;omega
 obtain⟨L,hL⟩:∃L,L=(v+2)*c+3:=⟨_,rfl⟩
 obtain⟨C,hC⟩:∃C:Nat,(C:Int)=pw L:=⟨(pw L).toNat,by have:=JP L;omega⟩
 let Z:Nat→Nat→Int:=fun i j=>if h:j≤2*v+2*m then(hint i j h).choose else 0
 have hZ1:∀i j,j≤2*v+2*m→(D i:Rat)*(K0 v m A B G).t i j=(Z i j:Rat)∧bl (Z i j)≤L:=fun i j h=>by
  have hz:Z i j=(hint i j h).choose:=dif_pos h;rw[hz,hL];exact(hint i j h).choose_spec
 have hZC:∀i j,j≤2*v+2*m→(Z i j).natAbs≤C:=fun i j h=>by
  have h1:=On (Z i j);have h2:=CU (hZ1 i j h).2;omega
 obtain⟨a,b,hb,ha1,hb1,e⟩:=Um (C:=C) hs hT (by omega) D Z (fun i _=>hD i) (fun i j _ h=>(hZ1 i j h).1) (fun i j _ h=>hZC i j h) hi hp;have hM:(((2*((m+1)*C)+1) ^ m:Nat):Int)<pw (m*(L+2)+1):=by
  have hC1:1≤C:=by have:=JP L;omega
  have h1:((2*((m+1)*C)+1:Nat):Int)≤pw (L+2):=by
   rw[show L+2=2+L by omega,E5,←hC];have h2:2*((m+1)*C)+1≤1000000000000000000*C:=by
    have:(m+1)*C≤100000000*C:=Nat.mul_le_mul_right C (by omega);omega
   have h3:pw 2=1000000000000000000:=by simp[pw]
   rw[h3];have h4:=Int.ofNat_le.2 h2;rw[ZBL 1000000000000000000 C]at h4;exact h4
  generalize 2*((m+1)*C)+1=W at *;have h4:∀k,((W ^ k:Nat):Int)≤pw (k*(L+2)):=fun k=>by
   induction k with
   |zero=>simp[pw]
   |succ k ih =>
    rw[ZB1,show(k+1)*(L+2)=k*(L+2)+(L+2)from ZCy _ _,E5,ZBL];exact Int.mul_le_mul ih h1 (by omega) (by have:=JP (k*(L+2));omega)
  have h5:=h4 m;have h6:=JP (m*(L+2));have h7:pw (m*(L+2)+1)=1000000000*pw (m*(L+2)):=rfl;omega
 have TFu:m*(L+2)+1=m*((v+2)*c+5)+1:=by rw[hL]
 rw[e,←TFu];exact Zq _ _ _ (by omega) (GL (by omega)) (GL (by omega))
theorem Hu {f:Nat→Rat}{E:Nat}:∀ {m:Nat},(∀i,i<m→qb (f i)≤E)→qb (XO f m)≤m*(E+1)+1
 |0,_=>by
  have:=AX;show qb 0≤_;omega
 |m+1,h=>by
  unfold XO;have h1:=Hu (f:=f) (m:=m) fun i hi=>h i (by omega)
  have h2:=h m (by omega);have h3:=KE (XO f m) (f m);rw[ZCy];omega
theorem R6 {v m c E:Nat}{A:Nat→Nat→Rat}{B G:Nat→Rat}{T:Tb}(hs:(K0 v m A B G).Sim m (2*v+2*m) T) (hT:T.Ok m (2*v+2*m) (2*v+m)) (hG:∀k,qb (G k)≤c) (hE:∀i p,i<m→p≤2*v+2*m→qb (T.t i p)≤E) {p:Nat} (hp:p≤2*v+2*m) :
  qb (T.c p)≤c+1+(m*(c+1+E+1)+1)+1:=by
 have h0:∀j,qb ((K0 v m A B G).c j)≤c+1:=fun j=>by
  show qb (if j<v then -G j else if j<2*v then G (j-v)else 0)≤c+1;have:=AX
  split
  ·rw[Bj];have:=hG j;omega
  ·split
   ·have:=hG (j-v);omega
   ·omega
 rw[←GR hs hT (by omega) hp];have h1:=C3 ((K0 v m A B G).c p) (XO (fun i=>(K0 v m A B G).c (T.b i)*T.t i p) m);have h2:=h0 p;have h3:=Hu (f:=fun i=>(K0 v m A B G).c (T.b i)*T.t i p) (E:=c+1+E) (m:=m) fun i hi=>by
  have a1:=Qa ((K0 v m A B G).c (T.b i)) (T.t i p);have a2:=h0 (T.b i);have a3:=hE i p hi hp;omega
 omega
end Go.Ab.N
namespace Go.Ab.N
open Go Go.RowKit Go.Proofs
noncomputable section
set_option maxRecDepth 10000
set_option maxHeartbeats 4000000
open Classical
structure Lay where
 x:Nat
 vx:Nat
 tid:Nat
 tv:Nat
 bid:Nat
 bv:Nat
 cid:Nat
 cv:Nat
 rid:Nat→Nat
 rv:Nat→Nat
def AB (n:Nat)(f:Nat→Rat):Nat→Rat:=fun k=>if k≤n then f k else 0
theorem Fk {n:Nat}(f:Nat→Rat){k:Nat}(h:k≤n:=by omega):AB n f k=f k:=N_ h
theorem IB {n:Nat}{f g:Nat→Rat}(h:∀k,k≤n→f k=g k):AB n f=AB n g:=funext fun k=>by
 unfold AB
 split
 ·exact h k (by assumption)
 ·rfl
theorem Ch {n:Nat}(f:Nat→Rat){k:Nat}(hk:k≤n)(j:Nat)(h:j<4):Xm (AB n f) (k*4+j)=(qC (f k)).getD j .any:=by rw[QD _ _ _ h,Fk f hk]
theorem BS {n:Nat}(f:Nat→Rat){k:Nat}(hk:k≤n):Xm (AB n f) (k*4)=(qC (f k)).getD 0 .any:=Ch f hk 0 (by omega)
theorem U3 {n:Nat}(f:Nat→Rat){k:Nat}(hk:k≤n)(x:Rat):DE (Xm (AB n f)) (k*4) (qC x)=Xm (AB n (fun i=>if i=k then x else f i)):=by
 rw[Dv];congr 1;funext i;unfold AB;show(if i=k then x else if i≤n then f i else 0)=if i≤n then(if i=k then x else f i)else 0;by_cases h:i=k
 ·rw[N_ h,N_ (h▸hk),N_ h]
 ·rw[M_ h,M_ h]
theorem ns {n c:Nat}(f g:Nat→Rat)(hc:c≤n):(fun k=>AB n f k-AB n f c*AB n g k)=AB n (fun k=>f k-f c*g k):=funext fun k=>by
 rw[Fk f hc];unfold AB
 split
 ·rfl
 ·grind
def Dx (Y:Lay)(n:Nat)(i:Nat)(f:Nat→Rat):AO:=.row (Y.rv i) ((n+1)*4) (Xm (AB n f))
def DU (Y:Lay)(n:Nat)(f:Nat→Rat):AO:=.row Y.cv ((n+1)*4) (Xm (AB n f))
def DO (Y:Lay)(m:Nat)(b:Nat→Nat):AO:=.row Y.bv m (fun i=>I ((if i<m then b i else 0:Nat)))
def tO (Y:Lay)(m n:Nat):AO:=.row Y.tv m (fun i=>.osl (Y.rid i) (Y.rv i) 4 0 (n+1))
def xO (Y:Lay)(v m n:Nat):AO:=.row Y.vx 6 (Xf [I v,I m,I n,.osl Y.tid Y.tv 1 0 m,.osl Y.cid Y.cv 4 0 (n+1),.osl Y.bid Y.bv 1 0 m])
structure Lay.Ok (Y:Lay)(H:List AO)(v m n:Nat):Prop where
 x:H[Y.x]?=some (xO Y v m n)
 t:H[Y.tid]?=some (tO Y m n)
 bl:Y.bid<H.length
 cl:Y.cid<H.length
 rl:∀i,i<m→Y.rid i<H.length
 xb:Y.x≠Y.bid
 xc:Y.x≠Y.cid
 xr:∀i,i<m→Y.x≠Y.rid i
 tb:Y.tid≠Y.bid
 tc:Y.tid≠Y.cid
 tr:∀i,i<m→Y.tid≠Y.rid i
 bc:Y.bid≠Y.cid
 br:∀i,i<m→Y.bid≠Y.rid i
 cr:∀i,i<m→Y.cid≠Y.rid i
 rr:∀i j,i<m→j<m→Y.rid i=Y.rid j→i=j
def HR (H:List AO)(Y:Lay)(n:Nat)(f:Nat→Nat→Rat):Nat→List AO
 |0=>H
 |i+1=>(HR H Y n f i).set (Y.rid i) (Dx Y n i (f i))
def HT (H:List AO)(Y:Lay)(m n:Nat)(T:Tb):List AO:=((HR H Y n T.t m).set Y.cid (DU Y n T.c)).set Y.bid (DO Y m T.b)
section
variable {H:List AO} {Y:Lay} {v m n:Nat}
theorem LX (f:Nat→Nat→Rat):∀i,(HR H Y n f i).length=H.length
 |0=>rfl
 |i+1=>by unfold HR;rw[X_,LX f i]
theorem EA (T:Tb):(HT H Y m n T).length=H.length:=by unfold HT;rw[X_,X_,LX]
theorem WS (f:Nat→Nat→Rat){a:Nat}:∀i,(∀j,j<i→a≠Y.rid j)→(HR H Y n f i)[a]?=H[a]?
 |0,_=>rfl
 |i+1,h=>by unfold HR;rw[L_ (w_ (h i (by omega))),WS f i fun j hj=>h j (by omega)]
theorem tk (f:Nat→Nat→Rat)(h:Y.Ok H v m n){k:Nat}:∀i,i≤m→k<i→(HR H Y n f i)[Y.rid k]?=some (Dx Y n k (f k))
 |i+1,hi,hk=>by
  unfold HR;by_cases e:k=i
  ·subst e;rw[W_ (by rw[LX];exact h.rl k (by omega))]
  ·rw[L_ (fun g=>e (h.rr i k (by omega) (by omega) g).symm),tk f h i (by omega) (by omega)]
theorem gK (h:Y.Ok H v m n)(T:Tb):(HT H Y m n T)[Y.x]?=some (xO Y v m n):=by
 unfold HT;rw[L_ (w_ h.xb),L_ (w_ h.xc),WS _ _ fun j hj=>h.xr j hj,h.x]
theorem oM (h:Y.Ok H v m n)(T:Tb):(HT H Y m n T)[Y.tid]?=some (tO Y m n):=by
 unfold HT;rw[L_ (w_ h.tb),L_ (w_ h.tc),WS _ _ fun j hj=>h.tr j hj,h.t]
theorem RY (h:Y.Ok H v m n)(T:Tb):(HT H Y m n T)[Y.bid]?=some (DO Y m T.b):=by
 unfold HT;rw[W_ (by rw[X_,LX];exact h.bl)]
theorem LY (h:Y.Ok H v m n)(T:Tb):(HT H Y m n T)[Y.cid]?=some (DU Y n T.c):=by
 unfold HT;rw[L_ h.bc,W_ (by rw[LX];exact h.cl)]
theorem Lo (h:Y.Ok H v m n)(T:Tb){i:Nat}(hi:i<m):(HT H Y m n T)[Y.rid i]?=some (Dx Y n i (T.t i)):=by
 unfold HT;rw[L_ (h.br i hi),L_ (h.cr i hi),tk _ h m (N' _) hi]
theorem ki {L M:List AO}(hl:L.length=M.length)(h:∀a,a<L.length→L[a]?=M[a]?):L=M:=ZAp fun a=>by
 by_cases ha:a<L.length
 ·exact h a ha
 ·rw[k_ (by omega),k_ (by omega)]
theorem DI (T:Tb){a:Nat}(hb:a≠Y.bid)(hc:a≠Y.cid)(hr:∀i,i<m→a≠Y.rid i):(HT H Y m n T)[a]?=H[a]?:=by
 unfold HT;rw[L_ (w_ hb),L_ (w_ hc),WS _ _ hr]
theorem S0 (h:Y.Ok H v m n)(T:Tb){i:Nat}(hi:i<m)(f:Nat→Rat):(HT H Y m n T).set (Y.rid i) (Dx Y n i f)=HT H Y m n { T with t:=fun j=>if j=i then f else T.t j }:=by
 refine ki (by rw[X_,EA,EA]) fun a ha=>?_
 by_cases e:a=Y.rid i
 ·subst e
  rw[W_ (by rw[EA];exact h.rl i hi),Lo h _ hi];simp
 rw[L_ (w_ e)];by_cases eb:a=Y.bid
 ·subst eb;rw[RY h,RY h]
 by_cases ec:a=Y.cid
 ·subst ec;rw[LY h,LY h]
 by_cases er:∃j,j<m∧a=Y.rid j
 ·obtain⟨j,hj,rfl⟩:=er
  rw[Lo h _ hj,Lo h _ hj];have:j≠i:=fun g=>e (by rw[g])
  simp only[M_ this]
 ·rw[DI T eb ec fun j hj g=>er ⟨j,hj,g⟩,DI _ eb ec fun j hj g=>er ⟨j,hj,g⟩]
theorem RX {f g:Nat→Nat→Rat}(h:∀i k,i<m→k≤n→f i k=g i k):∀i,i≤m→HR H Y n f i=HR H Y n g i
 |0,_=>rfl
 |i+1,hi=>by
  unfold HR Dx;rw[RX h i (by omega),IB fun k hk=>h i k (by omega) hk]
theorem gH {T U:Tb}(h:T.Eqv m n U):HT H Y m n T=HT H Y m n U:=by
 unfold HT DU DO;rw[RX h.1 m (N' _),IB h.2.1];have:(fun i=>I ((if i<m then T.b i else 0:Nat)))=fun i=>I ((if i<m then U.b i else 0:Nat)):=funext fun i=>by
  by_cases hi:i<m
  ·rw[N_ hi,N_ hi,h.2.2 i hi]
  ·rw[M_ hi,M_ hi]
 rw[this]
theorem gJ (h:Y.Ok H v m n)(T:Tb)(f:Nat→Rat):(HT H Y m n T).set Y.cid (DU Y n f)=HT H Y m n { T with c:=f }:=by
 unfold HT;rw[List.set_comm _ _ h.bc,ZBm]
theorem gI (h:Y.Ok H v m n)(T:Tb)(f:Nat→Nat):(HT H Y m n T).set Y.bid (DO Y m f)=HT H Y m n { T with b:=f }:=by
 unfold HT;rw[ZBm]
end
def KK (H:List AO):Prop:=∀o∈H,∀m,H.length≤m→Q0 m o
theorem Dj {H:List AO}{a:Nat}{o:AO}(h:KK H)(ho:∀m,H.length≤m→Q0 m o):KK (H.set a o):=fun p hp m hm=>by
 rw[X_]at hm;rcases ZAd hp with g |g
 ·exact h p g m hm
 ·rw[g];exact ho m hm
theorem j9 {H:List AO}{Y:Lay}{n:Nat}(f:Nat→Nat→Rat)(h:KK H):∀i,KK (HR H Y n f i)
 |0=>h
 |i+1=>Dj (j9 f h i) fun m _=>Al _ _ _ _
theorem DP {H:List AO}{Y:Lay}{m n:Nat}(T:Tb)(h:KK H):KK (HT H Y m n T) :=
 Dj (Dj (j9 _ h m) fun m _=>Al _ _ _ _) fun k _=>fun j _=>X4 (X8 _)
def J6 (H:List AO):Prop:=∀o∈H,o≠.D_
theorem ZT {H:List AO}{a:Nat}{o:AO}(h:J6 H)(ho:o≠.D_):J6 (H.set a o):=fun p hp=>by
 rcases ZAd hp with g |g
 ·exact h p g
 ·rw[g];exact ho
theorem Ym {H:List AO}{Y:Lay}{n:Nat}(f:Nat→Nat→Rat)(h:J6 H):∀i,J6 (HR H Y n f i)
 |0=>h
 |i+1=>ZT (Ym f h i) (by simp[Dx])
theorem PY {H:List AO}{Y:Lay}{m n:Nat}(T:Tb)(h:J6 H):J6 (HT H Y m n T) :=
 ZT (ZT (Ym _ h m) (by simp[DU])) (by simp[DO])
theorem Qd {H:List AO}(h:J6 H)(id:Nat):H[id]?≠some .D_:=fun g=>h _ (ZAK g) rfl
theorem KO {H l:List AO}(h:J6 H)(hl:J6 l):J6 (H ++ l):=fun o ho=>(n_.1 ho).elim (h o) (hl o)
theorem MU (b:Rat):b⁻¹=P' b.den b.num:=by rw[Rat.inv_def]
theorem Wh (b:Rat):qb b⁻¹≤qb b:=by
 rw[MU];exact Zq _ _ _ (Ry b) (JZ b) (Jy b)
theorem C2 (a b:Rat):qb (a/b)≤qb a+qb b:=by
 rw[ZAr];have:=Qa a b⁻¹;have:=Wh b;omega
theorem LQ (a b:Rat)(hb0:b≠0:=by grind)(ha:qb a≤rm:=by unfold rm;omega)(hb:qb b≤rm:=by unfold rm;omega):Fn Tryz.prog 193 [qA a,qA b] (qA (a/b)):=by
 obtain⟨R,hR⟩:∃R,R=qA (a/b):=⟨_,rfl⟩
 have sR:A_ R:=hR▸Xb _;have nb:=EU b;have g2:(b=0)=False:=R_ hb0;have c1:=DV b;have hn0:b.num≠0:=fun h=>hb0 (ZEJ.1 h)
 have c2:=FD b.den b.num hn0 (by rw[Int.gcd_comm];exact b.reduced);rw[←MU]at c2;have qi:=Wh b;have c3:=B5 a b⁻¹ ha (by omega);rw[←ZAr]at c3;rw[←hR];refine Fq Tryz.call193 Tryz.func193 5 [] [] [] (by simp[wS]) (Xk ?_);simp(maxSteps:=999999)only[O_,↓X6,wF,seval];simp(disch:=omega)only[nb,g2,↓Xc,wG,seval];refine X2 c1 rfl ?_;simp(disch:=omega)only[qA,qC,↓Xc,wG,seval];refine X2 c2 rfl ?_;simp(disch:=omega)only[qA,qC,↓Xc,wG,seval];refine X2 c3 rfl ?_;simp(disch:=omega)only[qA,qC,↓Xc,wG,seval];exact Jf rfl XT rfl rfl rfl sR (hR.trans rfl)
def Rc (T:Tb)(r p k:Nat):Tb:={ T with t:=fun i j=>if i=r∧j<k then T.t r j/T.t r p else T.t i j }
def HZ (T:Tb)(r p k:Nat):Tb:={ T with t:=fun i=>if i<k∧i≠r then fun j=>T.t i j-T.t i p*T.t r j else T.t i }
theorem yp (T:Tb)(r p:Nat):Rc T r p 0=T:=by
 unfold Rc;have:(fun i j=>if i=r∧j<0 then T.t r j/T.t r p else T.t i j)=T.t:=funext fun i=>funext fun j=>M_ fun h=>ZAL _ h.2
 rw[this]
theorem vG (T:Tb)(r p k j:Nat)(h:k≤j):(Rc T r p k).t r j=T.t r j:=M_ fun g=>by omega
theorem jK (T:Tb)(r p k:Nat):({ Rc T r p k with t:=fun j=>if j=r then(fun i=>if i=k then T.t r k/T.t r p else(Rc T r p k).t r i)else(Rc T r p k).t j }:Tb)=Rc T r p (k+1):=by
 unfold Rc;have:(fun j=>if j=r then(fun i=>if i=k then T.t r k/T.t r p else if r=r∧i<k then T.t r i/T.t r p else T.t r i)else fun i=>if j=r∧i<k then T.t r i/T.t r p else T.t j i)=fun i j=>if i=r∧j<k+1 then T.t r j/T.t r p else T.t i j:=funext fun j=>funext fun i=>by
  by_cases h:j=r
  ·rw[N_ h]
   by_cases h2:i=k
   ·rw[N_ h2,N_ ⟨h,by omega⟩,h2]
   ·rw[M_ h2]
    by_cases h3:i<k
    ·rw[N_ ⟨rfl,h3⟩,N_ ⟨h,by omega⟩]
    ·rw[M_ (fun g=>h3 g.2),M_ (fun g=>by omega),h]
  ·rw[M_ h,M_ (fun g=>h g.1),M_ (fun g=>h g.1)]
 exact y_ (fun t=>(⟨t,T.c,T.b⟩:Tb)) this
theorem zm (T:Tb)(r p:Nat):HZ T r p 0=T:=by
 unfold HZ;have:(fun i=>if i<0∧i≠r then(fun j=>T.t i j-T.t i p*T.t r j)else T.t i)=T.t:=funext fun i=>M_ fun h=>ZAL _ h.1
 rw[this]
theorem xD (T:Tb)(r p k i:Nat)(h:k≤i):(HZ T r p k).t i=T.t i:=M_ fun g=>by omega
theorem ul (T:Tb)(r p k:Nat):(HZ T r p k).t r=T.t r:=M_ fun g=>g.2 rfl
theorem nW (T:Tb)(r p:Nat):HZ T r p r=HZ T r p (r+1):=by
 unfold HZ;have:(fun i=>if i<r∧i≠r then(fun j=>T.t i j-T.t i p*T.t r j)else T.t i)=fun i=>if i<r+1∧i≠r then(fun j=>T.t i j-T.t i p*T.t r j)else T.t i:=funext fun i=>by
  by_cases h:i<r
  ·rw[N_ ⟨h,by omega⟩,N_ ⟨by omega,by omega⟩]
  ·rw[M_ (fun g=>h g.1),M_ (fun g=>by omega)]
 rw[this]
theorem nX (T:Tb)(r p k:Nat)(h:k≠r):({ HZ T r p k with t:=fun j=>if j=k then(fun i=>T.t k i-T.t k p*T.t r i)else(HZ T r p k).t j }:Tb)=HZ T r p (k+1):=by
 unfold HZ;have:(fun j=>if j=k then(fun i=>T.t k i-T.t k p*T.t r i)else if j<k∧j≠r then(fun i=>T.t j i-T.t j p*T.t r i)else T.t j)=fun i=>if i<k+1∧i≠r then(fun j=>T.t i j-T.t i p*T.t r j)else T.t i:=funext fun j=>by
  by_cases h2:j=k
  ·rw[N_ h2,N_ ⟨by omega,by omega⟩,h2]
  ·rw[M_ h2]
   by_cases h3:j<k∧j≠r
   ·rw[N_ h3,N_ ⟨by omega,h3.2⟩]
   ·rw[M_ h3,M_ (fun g=>h3 ⟨by omega,g.2⟩)]
 exact y_ (fun t=>(⟨t,T.c,T.b⟩:Tb)) this
theorem X01 {m:Nat}(b:Nat→Nat)(r p:Nat)(hr:r<m):De (fun i=>I ((if i<m then b i else 0:Nat))) r (I p)=fun i=>I ((if i<m then(if i=r then p else b i)else 0:Nat)):=by
 funext i;unfold De;by_cases h:i=r
 ·rw[N_ h,h,N_ hr,N_ rfl]
 ·rw[M_ h,M_ h]
theorem yW {T:Tb}{r p n Q:Nat}(h:∀k,k≤n→qb (T.t r k)≤Q) (hp:p≤n) (k:Nat) (hk:k≤n):qb ((Rc T r p (n+1)).t r k)≤2*Q:=by
 have e:(Rc T r p (n+1)).t r k=T.t r k/T.t r p:=N_ ⟨rfl,by omega⟩;rw[e];have:=C2 (T.t r k) (T.t r p);have:=h k hk;have:=h p hp;omega
theorem jJ (T:Tb)(r p k:Nat){i:Nat}(h:i≠r):(Rc T r p k).t i=T.t i:=funext fun j=>M_ fun g=>h g.1
theorem ml (H:List AO)(Y:Lay)(v m n r p:Nat)(T:Tb)(hY:Y.Ok H v m n)(hH:KK H)(hB:J6 H)(hr:r<m)(hp:p≤n)(hd:T.t r p≠0)(hn:n<100000)(hm:m<100000){Q:Nat}(hQ:Q≤15000000)(hq:∀i k,i<m→k≤n→qb (T.t i k)≤Q) (hqc:∀k,k≤n→qb (T.c k)≤Q) :
  G' Tryz.prog 203 [.ref Y.x Y.vx 0,I r,I p] (HT H Y m n T) (.tup []) (HT H Y m n (Cd T r p)):=by
 have hlen:=fun T=>EA (H:=H) (Y:=Y) (m:=m) (n:=n) T
 have hx:=fun T l=>Q7 (gK hY T) l
 have ht:=fun T l=>Q7 (oM hY T) l
 have hrw:=fun T l=>Q7 (Lo hY T hr) l
 unfold xO at hx;unfold tO at ht;unfold Dx at hrw;obtain⟨n0,hn0⟩:∃n0,H.length=n0:=⟨_,rfl⟩
 have e0:=fun T=>BL (H:=HT H Y m n T) ((hlen T).trans hn0)
 have e1:=fun T=>FU (H:=HT H Y m n T) ((hlen T).trans hn0)
 have el:=fun T=>ZH (H:=HT H Y m n T) ((hlen T).trans hn0)
 have es0:=fun T=>CQ (H:=HT H Y m n T) ((hlen T).trans hn0)
 have es1:=fun T=>H9 (H:=HT H Y m n T) ((hlen T).trans hn0)
 have et1:=fun T=>An (H:=HT H Y m n T) ((hlen T).trans hn0)
 have x0:=hx T [];have t0:=ht T [];have r0:=hrw T [];rw[ZAQ]at x0 t0 r0;have a1:=Ch (T.t r) hp;have a2:=BS (T.t r) hp;have l0:=(hlen T).trans hn0;refine G'.TAp (fn:=Tryz.f203) Tryz.call203 Tryz.func203 rfl mixed 11 [27,28,29,50,51,52] [4,5003,5006,5008,5009,12,13003,13007,13010] [12] (by kernel_rfl) (K_ rfl) (X4 (Z5)) (fun o ho=>DP _ hH o ho _ (by rw[hlen,hlen];exact N' _)) (Xk ?_);simp(disch:=omega)only[O_,x0,t0,r0,hx,ht,hrw,e0,el,es0,a1,a2,l0,qC,P_,↓Xc,wG,seval];refine Xj (fun k:Nat=>⟨11,[27,28,29,50,51,52],[.ref Y.x Y.vx 0,I r,I p,.any,.any,.any,.ref n0 0 0,.any,.any,.any,.any],[(27,.osl (Y.rid r) (Y.rv r) 4 0 (n+1)),(28,I (n+1:Nat)),(29,I k)],HT H Y m n (Rc T r p k) ++ [.row 0 4 (Xf (qC (T.t r p)))]⟩) (fun k=>k≤n+1) (fun k=>n+1-k) 0 (by omega)
  (Xh rfl (by simp[Xo,I]) (by simp[Xx,XM,I]) (by rw[yp];rfl)) ?_
 have hb1:∀T',∀o∈HT H Y m n T' ++ [.row 0 4 (Xf (qC (T.t r p)))],Q0 (n0+1) o:=fun T' o ho=>by
  rcases n_.1 ho with h |h
  ·exact DP _ hH o h _ (by rw[hlen];omega)
  ·rw[Y_.1 h];exact QZ (by simp[qC,Xd,X5])
 have xlt:Y.x<n0:=hn0▸(S_.1 hY.x).1;have rlt:=hY.rl r hr;have bx:Jl (n0+1) (.ref Y.x Y.vx 0)=True:=L' (QX);have bf:Jl (n0+1) (.ref n0 0 0)=True:=L' (QX);have br:Jl (n0+1) (.osl (Y.rid r) (Y.rv r) 4 0 (n+1))=True:=L' (JJ);intro k hk next
 by_cases hk2:k<n+1
 ·have w1:=Ch ((Rc T r p k).t r) (show k≤n by omega)
  have w2:=BS ((Rc T r p k).t r) (show k≤n by omega);rw[vG T r p k k (N' _)]at w1 w2;have q1:=hq r k hr (by omega);have q2:=hq r p hr hp;have c1:=LQ (T.t r k) (T.t r p) hd;have hst:=U3 ((Rc T r p k).t r) (show k≤n by omega) (T.t r k/T.t r p);have hsr:=S0 hY (Rc T r p k) hr (fun i=>if i=k then T.t r k/T.t r p else(Rc T r p k).t r i);rw[jK]at hsr;unfold Dx at hsr;rw[←hst]at hsr;have TE0:Y.rid r<(HT H Y m n (Rc T r p k)).length:=by rw[hlen];exact rlt
  have esr:=Z7 TE0;have nx:=next (k+1)
  refine Xk ?_;simp(disch:=omega)only[hx,ht,hrw,e0,e1,el,es0,es1,w1,w2,qC,P_,↓Xc,wG,seval];refine X2 c1 rfl ?_;simp(disch:=omega)only[esr,hrw,qC,P_,↓Xc,wG,seval];exact nx _ (by omega) (by omega) (XG (m:=n0+1) (by show(HT H Y m n T).length≤n0+1;rw[hlen];omega) rfl (by simp[Xo,I]) (by simp[Xx,XM,I]) (by rw[←hsr];exact An (by rw[X_,hlen];exact hn0) _ _) (by simp[XP,bx,bf]) (by simp[XP,br]) (hb1 _))
 obtain rfl:k=n+1:=by omega
 clear next
 refine Xk ?_;simp(disch:=omega)only[hx,ht,el,P_,↓Xc,wG,seval];obtain⟨T1,hT1⟩:∃T1,T1=Rc T r p (n+1):=⟨_,rfl⟩
 have btt:Jl (n0+1) (.osl Y.tid Y.tv 1 0 m)=True:=L' (JJ (by have:=(S_.1 hY.t).1;omega));refine Xj (fun k:Nat=>⟨11,[27,28,29,50,51,52],[.ref Y.x Y.vx 0,I r,I p,.any,.any,.any,.ref n0 0 0,.any,.any,.any,.any],[(50,.osl Y.tid Y.tv 1 0 m),(51,I m),(52,I k)],HT H Y m n (HZ T1 r p k) ++ [.row 0 4 (Xf (qC (T.t r p)))]⟩) (fun k=>k≤m) (fun k=>m-k) 0 (by omega)
  (Xh rfl (by simp[Xo,I]) (by simp[Xx,XM,I]) (by rw[zm,hT1];rfl)) ?_
 intro k hk next
 have C':∀ (T':Tb) (a va:Nat) (f:Nat→Rat),a≠Y.rid r→(HT H Y m n T')[a]?=some (.row va ((n+1)*4) (Xm (AB n f)))→(∀j,j≤n→qb (f j)≤2*Q)→T'.t r=T1.t r →
   G' Tryz.prog 200 [.osl a va 4 0 (n+1),.osl (Y.rid r) (Y.rv r) 4 0 (n+1),I p] (HT H Y m n T' ++ [.row 0 4 (Xf (qC (T.t r p)))]) (.tup []) ((HT H Y m n T').set a (.row va ((n+1)*4) (Xm (AB n (fun j=>f j-f p*T1.t r j)))) ++ [.row 0 4 (Xf (qC (T.t r p)))]):=fun T' a va f hab ha hf hr'=>by
  have h1:=aW (HT H Y m n T' ++ [.row 0 4 (Xf (qC (T.t r p)))]) a (Y.rid r) va (Y.rv r) (n+1) (AB n f) (AB n (T1.t r)) p hab (Q7 ha _) (by rw[←hr'];exact hrw T' _) (by omega) (by omega) (Q:=2*Q)
   (fun j hj=>by rw[Fk f];exact hf j (by omega)) (fun j hj=>by rw[Fk _,hT1];exact yW (fun k hk=>hq r k hr hk) hp j (by omega)) (by omega)
   (fun o ho q hq'=>by
    rw[el]at hq';rcases n_.1 ho with h |h
    ·exact DP _ hH o h _ (by rw[hlen];omega)
    ·rw[Y_.1 h];exact QZ (by simp[qC,Xd,X5]))
  rw[ns _ _ hp,Z7 (S_.1 ha).1]at h1;exact h1
 have TCS:∀ (T':Tb) (id:Nat),(HT H Y m n T' ++ [ZAu 0 4 (Xf (qC (T.t r p)))])[id]?≠some AO.D_:=fun T'=>Qd (KO (PY _ hB) (fun o ho=>by rw[Y_.1 ho];simp))
 by_cases hk2:k<m
 ·have hrk:=fun T l=>Q7 (Lo hY T hk2) l
  unfold Dx at hrk;have nx:=next (k+1)
  by_cases hkr:k=r
  ·subst hkr
   refine Xk ?_;simp(disch:=omega)only[hx,ht,hrk,el,P_,↓Xc,wG,seval];exact nx _ (by omega) (by omega) (Xh rfl (by simp[Xo,I]) (by simp[Xx,XM,I]) (by rw[nW];rfl))
  ·have f1:¬ (k:Int)=r:=by omega
   have hc:=C' (HZ T1 r p k) (Y.rid k) (Y.rv k) (T1.t k) (fun g=>hkr (hY.rr _ _ hk2 hr g)) (by have:=Lo hY (HZ T1 r p k) hk2;rw[xD _ _ _ _ _ (N' _)]at this;exact this) (fun j hj=>by rw[hT1,jJ _ _ _ _ hkr];have:=hq k j hk2 hj;omega) (ul _ _ _ _);have TAM:=S0 hY (HZ T1 r p k) hk2 (fun j=>T1.t k j-T1.t k p*T1.t r j);rw[nX _ _ _ _ hkr]at TAM;unfold Dx at TAM;rw[TAM]at hc;have hce:K5 (HT H Y m n (HZ T1 r p k) ++ [ZAu 0 4 (Xf (qC (T.t r p)))]) (HT H Y m n (HZ T1 r p (k+1)) ++ [ZAu 0 4 (Xf (qC (T.t r p)))]):=by
    rw[←TAM,←Z7 (by rw[hlen];exact hY.rl k hk2)];exact QY (Q7 (Lo hY _ hk2) _) (by simp[Dx])
   refine Xk ?_;simp(disch:=omega)only[hx,ht,hrk,hrw,el,f1,P_,↓Xc,wG,seval];refine XC rfl hc hce (TCS _) (X1 _) ?_;simp(disch:=omega)only[↓Xc,wG,seval];exact nx _ (by omega) (by omega) (Xh rfl (by simp[Xo,I]) (by simp[Xx,XM,I]) rfl)
 obtain rfl:k=m:=by omega
 clear next
 have hcc:=fun T l=>Q7 (LY hY T) l
 unfold DU at hcc;have hc:=C' (HZ T1 r p k) Y.cid Y.cv T.c (hY.cr r hr) (by have:=LY hY (HZ T1 r p k);rw[show(HZ T1 r p k).c=T.c by rw[hT1];rfl]at this;exact this) (fun j hj=>by have:=hqc j hj;omega) (ul _ _ _ _);have TAM:=gJ hY (HZ T1 r p k) (fun j=>T.c j-T.c p*T1.t r j);unfold DU at TAM;rw[TAM]at hc;have hce:K5 (HT H Y k n (HZ T1 r p k) ++ [ZAu 0 4 (Xf (qC (T.t r p)))]) (HT H Y k n { HZ T1 r p k with c:=fun j=>T.c j-T.c p*T1.t r j } ++ [ZAu 0 4 (Xf (qC (T.t r p)))]):=by
  rw[←TAM,←Z7 (by rw[hlen];exact hY.cl)];exact QY (Q7 (LY hY _) _) (by simp[DU])
 have hsb:=gI hY { HZ T1 r p k with c:=fun j=>T.c j-T.c p*T1.t r j } (fun i=>if i=r then p else T.b i);have hbb:=fun T l=>Q7 (RY hY T) l
 unfold DO at hbb hsb;have hb0:({ HZ T1 r p k with c:=fun j=>T.c j-T.c p*T1.t r j }:Tb).b=T.b:=by rw[hT1];rfl
 have hbb:=hbb { HZ T1 r p k with c:=fun j=>T.c j-T.c p*T1.t r j };rw[hb0]at hbb;have TDV:HT H Y k n { HZ T1 r p k with c:=fun j=>T.c j-T.c p*T1.t r j,b:=fun i=>if i=r then p else T.b i }=HT H Y k n (Cd T r p):=by
  refine gH ⟨fun i j hi hj=>?_,fun j hj=>?_,fun i hi=>rfl⟩
  ·have er:T1.t r j=T.t r j/T.t r p:=by rw[hT1];exact N_ ⟨rfl,by omega⟩
   show(if i<k∧i≠r then(fun j=>T1.t i j-T1.t i p*T1.t r j)else T1.t i) j=if i=r then T.t r j/T.t r p else T.t i j-T.t i p*(T.t r j/T.t r p)
   by_cases e:i=r
   ·rw[M_ (fun g=>g.2 e),N_ e,e,er]
   ·rw[N_ ⟨hi,e⟩,M_ e,er,hT1,jJ _ _ _ _ e]
  ·have er:T1.t r j=T.t r j/T.t r p:=by rw[hT1];exact N_ ⟨rfl,by omega⟩
   show T.c j-T.c p*T1.t r j=T.c j-T.c p*(T.t r j/T.t r p);rw[er]
 have TCL:(HT H Y k n { HZ T1 r p k with c:=fun j=>T.c j-T.c p*T1.t r j }).set Y.bid (.row Y.bv k (De (fun i=>I ((if i<k then T.b i else 0:Nat))) r (I p)))=HT H Y k n (Cd T r p):=by
  rw[X01 T.b r p hr];exact hsb.trans TDV
 have TFv:=Z7 (H:=HT H Y k n { HZ T1 r p k with c:=fun j=>T.c j-T.c p*T1.t r j }) (a:=Y.bid) (by rw[hlen];exact hY.bl);refine Xk ?_;simp(disch:=omega)only[hx,ht,hcc,hrw,el,P_,↓Xc,wG,seval];refine XC rfl hc hce (TCS _) (X1 _) ?_;simp(disch:=omega)only[hx,hbb,TFv,P_,↓Xc,wG,seval];exact aw rfl ((CR (by rw[X_,hlen,hlen]) _).trans TCL)
def Dk:Option Nat→Int
 |none=>-1
 |some r=>(r:Int)
def TAE:List AV:=[.bool false,.sl 0 0 (fun _=>.any) true,.bool false,.sl 0 0 (fun _=>.any) true]
def BZ (T:Tb)(n p:Nat):Option Nat→AO
 |none=>.row 0 4 (Xf TAE)
 |some r=>.row 0 4 (Xf (qC (T.t r n/T.t r p)))
theorem Vn (T:Tb)(n p:Nat)(b:Option Nat)(m:Nat):Q0 m (BZ T n p b):=by
 cases b with
 |none=>exact QZ (by simp[TAE,X5,JQ])
 |some r=>exact QZ (by simp[qC,Xd,X5])
theorem ef {T:Tb}{n p k:Nat}(h:¬0<T.t k p):JI T n p (k+1)=JI T n p k:=by
 show(if 0<T.t k p then _ else _)=_;rw[M_ h]
theorem VV {T:Tb}{n p k:Nat}(h:0<T.t k p)(hn:JI T n p k=none):JI T n p (k+1)=some k:=by
 show(if 0<T.t k p then _ else _)=_;rw[N_ h,hn]
theorem ee {T:Tb}{n p k r:Nat}(h:0<T.t k p)(hn:JI T n p k=some r):JI T n p (k+1)=if T.q n p k<T.q n p r∨(T.q n p k=T.q n p r∧T.b k<T.b r)then some k else some r:=by
 show(if 0<T.t k p then _ else _)=_;rw[N_ h,hn]
theorem mH {P:Program}{fn:Func}{str hcs:List Nat}{m:Nat}{a:AV}{H:List AO}{s:AS}{t:Nat}(hr:fn.results=#[.tmp t])(h:s.get t=a)(hH:s.h.take m=H):TAC (Ig P fn str hcs m a H) s :=
 ⟨s.get t,by simp[TU,Au,Ig,hr,JL,A8,BO],h,hH⟩
theorem VW (H:List AO)(Y:Lay)(v m n p:Nat)(T:Tb)(hY:Y.Ok H v m n)(hH:KK H)(hB:J6 H)(hp:p≤n)(hn:n<100000)(hm:m<100000){Q:Nat}(hQ:Q≤15000000)(hq:∀i k,i<m→k≤n→qb (T.t i k)≤Q) :
  G' Tryz.prog 202 [.ref Y.x Y.vx 0,I p] (HT H Y m n T) (I (Dk (JI T n p m))) (HT H Y m n T):=by
 obtain⟨R,hR⟩:∃R,R=JI T n p m:=⟨_,rfl⟩
 rw[←hR];have hlen:=EA (H:=H) (Y:=Y) (m:=m) (n:=n) T;have hx:=fun l=>Q7 (gK hY T) l
 have ht:=fun l=>Q7 (oM hY T) l
 have hbb:=fun l=>Q7 (RY hY T) l
 unfold xO at hx;unfold tO at ht;unfold DO at hbb;have x0:=hx [];have t0:=ht [];rw[ZAQ]at x0 t0;have hHb:=DP (Y:=Y) (m:=m) (n:=n) T hH;have xlt:Y.x<(HT H Y m n T).length:=(S_.1 (gK hY T)).1;have tlt:Y.tid<(HT H Y m n T).length:=(S_.1 (oM hY T)).1;have hrs:=fun {i:Nat} (hi:i<m) l=>Q7 (Lo hY T hi) l
 unfold Dx at hrs;generalize hK:HT H Y m n T=K at *;obtain⟨n0,hn0⟩:∃n0,K.length=n0:=⟨_,rfl⟩
 have e0:=BL hn0;have e1:=FU hn0;have el:=ZH hn0;have es0:=CQ hn0;have es1:=H9 hn0;have bx:Jl (n0+1) (.ref Y.x Y.vx 0)=True:=L' (QX);have bf:Jl (n0+1) (.ref n0 0 0)=True:=L' (QX);have btt:Jl (n0+1) (.osl Y.tid Y.tv 1 0 m)=True:=L' (JJ);refine G'.TAp (fn:=Tryz.f202) Tryz.call202 Tryz.func202 rfl mixed 11 [14,15,16] [7,8004,8006,8010,12,13001] [] (by kernel_rfl) (K_ rfl) (X4 (X8 _)) (fun o ho=>hHb o ho _ (N' _)) (Xk ?_);simp(disch:=omega)only[O_,x0,t0,hx,ht,e0,el,es0,hn0,P_,↓Xc,wG,seval];refine Xj (fun k:Nat=>⟨11,[14,15,16],[.ref Y.x Y.vx 0,I p,.any,.any,.any,I (Dk (JI T n p k)),.ref n0 0 0,.any,.any,.any,.any],[(14,.osl Y.tid Y.tv 1 0 m),(15,I m),(16,I k)],K ++ [BZ T n p (JI T n p k)]⟩) (fun k=>k≤m) (fun k=>m-k) 0 (by omega)
  (Xh rfl (by simp[Xo,I,Dk,JI]) (by simp[Xx,XM,I]) (by rfl)) ?_
 intro k hk next
 by_cases hk2:k<m
 rotate_left
 ·obtain rfl:k=m:=by omega
  refine Xk ?_;simp(disch:=omega)only[↓Xc,wG,seval];exact mH rfl (by rw[hR];rfl) (CR rfl _)
 have hrk:=hrs hk2;have w1:=Ch (T.t k) hp;have w2:=BS (T.t k) hp;have w3:=Ch (T.t k) (N' n);have w4:=BS (T.t k) (N' n);have q1:=hq k p hk2 hp;have q2:=hq k n hk2 (N' n);have s1:=Qv (T.t k p);have z1:=RI (T.t k p);have nx:=next (k+1)
 have hOb:∀b,∀o∈K ++ [BZ T n p b],Q0 (n0+1) o:=fun b o ho=>by
  rcases n_.1 ho with h |h
  ·exact hHb o h _ (by omega)
  ·rw[Y_.1 h];exact Vn _ _ _ _ _
 generalize hbk:JI T n p k=B at *;by_cases h0:0<T.t k p
 rotate_left
 ·have f1:(T.t k p).num.sign≤0:=by have:=mt z1.1 h0;omega
  rw[ef h0,hbk]at nx;refine Xk ?_;simp(disch:=omega)only[hx,ht,hrk,w1,w2,el,qC,P_,↓Xc,wG,seval];refine X2 s1 rfl ?_;simp(disch:=omega)only[f1,↓Xc,wG,seval];exact nx _ (by omega) (by omega) (Xh rfl (by simp[Xo,I]) (by simp[Xx,XM,I]) rfl)
 have f1:¬ (T.t k p).num.sign≤0:=by have:=z1.2 h0;omega
 have c1:=LQ (T.t k n) (T.t k p);have qq:=C2 (T.t k n) (T.t k p);cases B with
 |none =>
  rw[VV h0 hbk]at nx;refine Xk ?_;simp(disch:=omega)only[hx,ht,hrk,w1,w2,el,qC,P_,↓Xc,wG,seval];refine X2 s1 rfl ?_;simp(disch:=omega)only[f1,hx,ht,hrk,w1,w2,w3,w4,e0,e1,el,es0,es1,qC,P_,↓Xc,wG,seval];refine X2 c1 rfl ?_;simp(disch:=omega)only[Dk,hx,ht,hrk,hbb,e0,e1,el,es0,es1,BZ,TAE,qC,P_,↓Xc,wG,seval];exact nx _ (by omega) (by omega) (XG (m:=n0+1) (by show K.length≤n0+1;omega) rfl (by simp[Xo,I,Dk]) (by simp[Xx,XM,I]) (An hn0 _ _) (by simp[XP,bx,bf]) (by simp[XP,btt]) (hOb _))
 |some r =>
  have hl:=ZI hbk;have hrm:r<m:=by have:=hl.1;omega
  have q3:=hq r p hrm hp;have q4:=hq r n hrm (N' n);have q5:=C2 (T.t r n) (T.t r p);have c2:=Ju (T.t k n/T.t k p) (T.t r n/T.t r p);have d1:=CV (T.t k n/T.t k p) (T.t r n/T.t r p);have d2:=Zy (T.t k n/T.t k p) (T.t r n/T.t r p);rw[ee h0 hbk]at nx;unfold Tb.q at nx;generalize hX:T.t k n/T.t k p=X at *;generalize hZ:T.t r n/T.t r p=Z at *;generalize Bk X Z=d at *;by_cases hd1:d<0
  ·rw[N_ (.inl (d1.1 hd1))]at nx
   refine Xk ?_;simp(disch:=omega)only[hx,ht,hrk,w1,w2,el,qC,P_,↓Xc,wG,seval];refine X2 s1 rfl ?_;simp(disch:=omega)only[f1,hx,ht,hrk,w1,w2,w3,w4,e0,e1,el,es0,es1,qC,P_,↓Xc,wG,seval];refine X2 c1 rfl ?_;simp(disch:=omega)only[Dk,hx,ht,hrk,hbb,e0,e1,el,es0,es1,BZ,hZ,qC,P_,↓Xc,wG,seval];refine X2 c2 rfl ?_;simp(disch:=omega)only[hd1,hx,ht,hrk,hbb,e0,e1,el,es0,es1,qC,P_,↓Xc,wG,seval];exact nx _ (by omega) (by omega) (XG (m:=n0+1) (by show K.length≤n0+1;omega) rfl (by simp[Xo,I,Dk]) (by simp[Xx,XM,I]) (by rw[An hn0];unfold BZ;simp only[hX];rfl) (by simp[XP,bx,bf]) (by simp[XP,btt]) (hOb _))
  by_cases hd2:d=0
  ·have hXZ:X=Z:=by
    refine ZBw (ZAf.1 fun h=>?_) (ZAf.1 fun h=>?_)
    ·have:=d2.2 h;omega
    ·have:=d1.2 h;omega
   by_cases hb:T.b k<T.b r
   ·rw[N_ (.inr ⟨hXZ,hb⟩)]at nx
    have fb:(T.b k:Int)<T.b r:=by omega
    refine Xk ?_;simp(disch:=omega)only[hx,ht,hrk,w1,w2,el,qC,P_,↓Xc,wG,seval];refine X2 s1 rfl ?_;simp(disch:=omega)only[f1,hx,ht,hrk,w1,w2,w3,w4,e0,e1,el,es0,es1,qC,P_,↓Xc,wG,seval];refine X2 c1 rfl ?_;simp(disch:=omega)only[Dk,hx,ht,hrk,hbb,e0,e1,el,es0,es1,BZ,hZ,qC,P_,↓Xc,wG,seval];refine X2 c2 rfl ?_;simp(disch:=omega)only[hd1,hd2,fb,hx,ht,hrk,hbb,e0,e1,el,es0,es1,qC,P_,↓Xc,wG,seval];exact nx _ (by omega) (by omega) (XG (m:=n0+1) (by show K.length≤n0+1;omega) rfl (by simp[Xo,I,Dk]) (by simp[Xx,XM,I]) (by rw[An hn0];unfold BZ;simp only[hX];rfl) (by simp[XP,bx,bf]) (by simp[XP,btt]) (hOb _))
   ·rw[M_ (by
     rintro(g |g)
     ·have:=d1.2 g;omega
     ·exact hb g.2)]at nx
    have fb:¬ (T.b k:Int)<T.b r:=by omega
    refine Xk ?_;simp(disch:=omega)only[hx,ht,hrk,w1,w2,el,qC,P_,↓Xc,wG,seval];refine X2 s1 rfl ?_;simp(disch:=omega)only[f1,hx,ht,hrk,w1,w2,w3,w4,e0,e1,el,es0,es1,qC,P_,↓Xc,wG,seval];refine X2 c1 rfl ?_;simp(disch:=omega)only[Dk,hx,ht,hrk,hbb,e0,e1,el,es0,es1,BZ,hZ,qC,P_,↓Xc,wG,seval];refine X2 c2 rfl ?_;simp(disch:=omega)only[hd1,hd2,fb,hx,ht,hrk,hbb,e0,e1,el,es0,es1,qC,P_,↓Xc,wG,seval];exact nx _ (by omega) (by omega) (XG (m:=n0+1) (by show K.length≤n0+1;omega) rfl (by simp[Xo,I,Dk]) (by simp[Xx,XM,I]) (by rw[An hn0];unfold BZ;simp only[hZ];rfl) (by simp[XP,bx,bf]) (by simp[XP,btt]) (hOb _))
  ·rw[M_ (by
    rintro(g |g)
    ·have:=d1.2 g;omega
    ·have:¬0<d:=fun h=>by have:=d2.1 h;rw[g.1]at this;exact absurd this (Rat.lt_irrefl)
     omega)]at nx
   have hd3:¬d=0:=hd2;refine Xk ?_;simp(disch:=omega)only[hx,ht,hrk,w1,w2,el,qC,P_,↓Xc,wG,seval];refine X2 s1 rfl ?_;simp(disch:=omega)only[f1,hx,ht,hrk,w1,w2,w3,w4,e0,e1,el,es0,es1,qC,P_,↓Xc,wG,seval];refine X2 c1 rfl ?_;simp(disch:=omega)only[Dk,hx,ht,hrk,hbb,e0,e1,el,es0,es1,BZ,hZ,qC,P_,↓Xc,wG,seval];refine X2 c2 rfl ?_;simp(disch:=omega)only[hd1,hd3,hx,ht,hrk,hbb,e0,e1,el,es0,es1,qC,P_,↓Xc,wG,seval];exact nx _ (by omega) (by omega) (XG (m:=n0+1) (by show K.length≤n0+1;omega) rfl (by simp[Xo,I,Dk]) (by simp[Xx,XM,I]) (by rw[An hn0];unfold BZ;simp only[hZ];rfl) (by simp[XP,bx,bf]) (by simp[XP,btt]) (hOb _))
theorem dZ (H:List AO)(Y:Lay)(v m n E e xb:Nat)(c:Nat→Rat)(t:Tok)(hE:H[e]?=some (.row 0 1 (Xf [I E]))) (hX:H[xb]?=some (.row 0 1 (Xf [.ref Y.x Y.vx 0]))) (hx:H[Y.x]?=some (xO Y v m n)) (hc:H[Y.cid]?=some (DU Y n c)) (hEn:E≤n) (hn:n<100000) (hce:t.ce.H.length≤H.length) (hO:KK H)
  (h:∀j,j<E→0≤c j):TBt Tryz.prog t 228 [.yld t.l,.ref e 0 0,.ref xb 0 0] H H:=by
 unfold xO at hx;unfold DU at hc;refine TBt.intro (fn:=Tryz.f228) Tryz.call228 Tryz.func228 rfl mixed 5 [5,6] [] [] (by kernel_rfl) (K_ rfl) hce (fun o ho=>hO o ho _ (N' _)) (Xk ?_);simp(disch:=omega)only[O_,hE,hX,hx,hc,JD,↓Xc,wG,seval];refine Xj (fun k:Nat=>⟨5,[5,6],[.yld t.l,.ref e 0 0,.ref xb 0 0,.any,.any],[(5,I E),(6,I k)],H⟩) (fun k=>k≤E) (fun k=>E-k) 0 (by omega)
  (Xh rfl (by simp[Xo,I]) (by simp[Xx,XM,I]) rfl) ?_
 intro k hk next
 by_cases hk2:k<E
 ·have s1:=Qv (c k)
  have f1:¬ (c k).num.sign<0:=fun g=>by have:=(BG (c k)).1 g;have:=h k hk2;grind
  have w1:=Ch c (show k≤n by omega);have w2:=BS c (show k≤n by omega);have nx:=next (k+1)
  refine Xk ?_;simp(disch:=omega)only[hE,hX,hx,hc,w1,w2,qC,JD,↓Xc,wG,seval];refine X2 s1 rfl ?_;simp(disch:=omega)only[f1,JD,↓Xc,wG,seval];exact nx _ (by omega) (by omega) (Xh rfl (by simp[Xo,I]) (by simp[Xx,XM,I]) rfl)
 ·obtain rfl:k=E:=by omega
  refine Xk ?_;simp(disch:=omega)only[JD,↓Xc,wG,seval];exact yY rfl (by simp)
theorem ZW {P:Program}{tok:List Tok}{all:Array Oper}{i:Nat}{s:AS}{o:Oper}{v:AV}{h':List AO}(ho:all[i]?=some o)(hg:TAw all s o=some true)(h:Jk P false none o.op s.ev s.h=some (v,h')) :
  GStep P tok (fun _=>false) true (fun _=>none) all i s (({ s with h:=h' }:AS).E' o.dst v):=⟨o,ho,.inl ⟨hg,⟨fun _ h=>(by cases h),v,h',.inl h,rfl⟩⟩⟩
theorem qU {P:Program}{tok:List Tok}{all:Array Oper}{i:Nat}{s:AS}{o:Oper}{f:Operand}{args:Array Operand}{ts:Array TypeId}{g:FuncId}{as':List AV}{r:AV}(ho:all[i]?=some o)(hg:TAw all s o=some true)(hop:o.op=.call { callee:=.value f,args:=args,argTypes:=ts }) (hf:s.ev f=.fn g []) (h:Fn P g as' r) (ha:TAF (args.toList.map s.ev ++ []) as') :
  GStep P tok (fun _=>false) true (fun _=>none) all i s (({ s with h:=s.h }:AS).E' o.dst r) :=
 ⟨o,ho,.inl ⟨hg,⟨fun _ h=>(by cases h),r,s.h,.inr ⟨f,args,ts,hop,⟨.inl g,_,by rw[hf];rfl,.inl ⟨as',ha,h.call,h.settled,rfl⟩⟩⟩,rfl⟩⟩⟩
theorem lj (H Hf:List AO)(Y:Lay)(v m n E e xb p:Nat)(c:Nat→Rat)(t:Tok)(q:Code)(hE:H[e]?=some (.row 0 1 (Xf [I E]))) (hX:H[xb]?=some (.row 0 1 (Xf [.ref Y.x Y.vx 0]))) (hx:H[Y.x]?=some (xO Y v m n)) (hc:H[Y.cid]?=some (DU Y n c)) (hEn:E≤n) (hn:n<100000) (hce:t.ce.H.length≤H.length) (hOf:KK Hf) (hfl:Hf.length=H.length)
    (hp:p<E) (TBE:c p<0) (h:∀j,j<p→0≤c j) (hy:YC Tryz.prog t (some q) [I p] H Hf):TBb Tryz.prog t (some q) 228 [.yld t.l,.ref e 0 0,.ref xb 0 0] H Hf:=by
  unfold xO at hx;unfold DU at hc;refine TBb.intro (fn:=Tryz.f228) Tryz.call228 Tryz.func228 rfl mixed q 5 [5,6] [] [] (by kernel_rfl) (K_ rfl) hce (fun o ho=>hOf o ho _ (by omega)) (Xk ?_);simp(disch:=omega)only[O_,hE,hX,hx,hc,JD,↓Xc,wG,seval];refine Xj (fun k:Nat=>⟨5,[5,6],[.yld t.l,.ref e 0 0,.ref xb 0 0,.any,.any],[(5,I E),(6,I k)],H⟩) (fun k=>k≤p) (fun k=>p-k) 0 (by omega)
    (Xh rfl (by simp[Xo,I]) (by simp[Xx,XM,I]) rfl) ?_
  intro k hk next
  have s1:=Qv (c k);have w1:=Ch c (show k≤n by omega);have w2:=BS c (show k≤n by omega);by_cases hk2:k<p
  · have f1:¬ (c k).num.sign<0:=fun g=>by have:=(BG (c k)).1 g;have:=h k hk2;grind
    have nx:=next (k+1)
    refine Xk ?_;simp(disch:=omega)only[hE,hX,hx,hc,w1,w2,qC,JD,↓Xc,wG,seval];refine X2 s1 rfl ?_;simp(disch:=omega)only[f1,JD,↓Xc,wG,seval];exact nx _ (by omega) (by omega) (Xh rfl (by simp[Xo,I]) (by simp[Xx,XM,I]) rfl)
  obtain rfl:k=p:=by omega
  clear next
  have L0:Qy Tryz.prog false 145 (.ref xb 0 0) H=some (.ref Y.x Y.vx 0):=by
    rw[BA,ls,Kz,hX,KA,mA];simp[Qf,Xf]
  have L1:Qy Tryz.prog false 86 (.ref Y.x Y.vx 4) H=some (.osl Y.cid Y.cv 4 0 (n+1)):=by
    rw[BA,tK,Kz,hx,KA,mA];simp[Qf,Xf]
  have L2:DL Tryz.prog 86 (.osl Y.cid Y.cv 4 0 (n+1)) (I k)=some (.ref Y.cid Y.cv (0+k*4)):=by
    show DL Tryz.prog 86 (.osl Y.cid Y.cv 4 0 (n+1)) (.int .i64 (k:Int))=_;rw[Sl,G1,IF];unfold Qf;rw[N_ (by omega),U']
  have L3:Qy Tryz.prog false 28 (.ref Y.cid Y.cv (0+k*4)) H=some (qA (c k)):=by
    rw[BA,XT,Kz,hc,KA,fF];have e:QL (Xm (AB n c)) (0+k*4) 0 4=qC (c k):=by
      rw[z_];show [Xm (AB n c) (k*4+0),Xm (AB n c) (k*4+1),Xm (AB n c) (k*4+2),Xm (AB n c) (k*4+3)]=_;rw[w1 0 (by omega),w1 1 (by omega),w1 2 (by omega),w1 3 (by omega)];rfl
    rw[e];unfold Qf;rw[N_ ⟨rfl,rfl⟩,N_ (by omega)];rfl
  have L9:Qf ((ZDz Y.x Y.vx 0).TAl=true) (some (ZDz Y.x Y.vx 0,H))=some (ZDz Y.x Y.vx 0,H):=by unfold Qf;rw[N_ (OJ _ _ _)]
  have L5:CM Tryz.prog 148 (.ref Y.x Y.vx 0) 4=some (.ref Y.x Y.vx 4):=by
    simp[I3,DK,RT]
  have f1:(c k).num.sign<0:=(BG (c k)).2 TBE;have B8:Qf (IntKind.i64=.i64) (some (AV.bool (decide ((c k).num.sign<0))))=some (.bool true):=by unfold Qf;rw[N_ rfl,c_ f1]
  refine XI 18 ?_;simp(disch:=omega)only[hE,hX,hx,hc,w1,w2,qC,JD,↓Xc,wG,seval];have b0:∀s:AS,s.get 17=.bool (decide ((c k).num.sign<0))→s.get 17=.bool true:=fun s g=>by rw[g,c_ f1]
  refine rJ (t:=t) (j:=12) (l1:=[0,1,2,3,4,5,6,7,8,9,10,11]) (l2:=[13,14]) rfl rfl (Y_.2 rfl) rfl rfl
    ⟨_,ZW (v:=.ref Y.x Y.vx 0) (h':=H) rfl rfl (y_ (ZAF fun w=>(w,H)) L0),
     _,ZW (v:=.ref Y.x Y.vx 0) (h':=H) rfl rfl (L9:Qf ((ZDz Y.x Y.vx 0).TAl=true) (some (ZDz Y.x Y.vx 0,H))=some (ZDz Y.x Y.vx 0,H)),
     _,ZW (v:=.ref Y.x Y.vx 4) (h':=H) rfl rfl (y_ (ZAF fun w=>(w,H)) L5),
     _,ZW (v:=.osl Y.cid Y.cv 4 0 (n+1)) (h':=H) rfl rfl (y_ (ZAF fun w=>(w,H)) L1),
     _,ZW (v:=I k) (h':=H) rfl rfl rfl,
     _,ZW (v:=.ref Y.cid Y.cv (0+k*4)) (h':=H) rfl rfl (y_ (ZAF fun w=>(w,H)) L2),
     _,ZW (v:=qA (c k)) (h':=H) rfl rfl (y_ (ZAF fun w=>(w,H)) L3),
     _,qU rfl rfl rfl rfl s1 ⟨U_ _,trivial⟩,
     _,ZW (v:=.bool true) (h':=H) rfl rfl (y_ (ZAF fun w=>(w,H)) B8),
     _,ZW (v:=.bool true) (h':=H) rfl rfl rfl,
     _,ZW (v:=.yld t.l) (h':=H) rfl rfl rfl,
     _,ZW (v:=I k) (h':=H) rfl rfl rfl,rfl⟩
    ⟨rfl,_,_,_,[I k],Hf,rfl,rfl,⟨U_ _,trivial⟩,hy,rfl⟩
    ⟨_,ZW (v:=.bool true) (h':=Hf) rfl rfl rfl,_,ZW (v:=.bool true) (h':=Hf) rfl rfl rfl,rfl⟩ ?_
  show Run (yB Tryz.prog Tryz.f228 [] [] H.length Hf) _ _;refine d_ (s':=⟨5,[],[],[(23,.bool true)],Hf⟩) ?_ (Xh rfl trivial ⟨.inr rfl,trivial⟩ rfl);refine Xk ?_;simp(disch:=omega)only[JD,↓Xc,wG,seval];exact zW rfl (by show Hf.take H.length=_;rw[←hfl,ZAW])
theorem vT (P:Program)(fn:Func)(str hcs:List Nat)(m l:Nat)(r:Loop)(H':List AO)(q:Option Code):(Re P fn str hcs m l r H' q).P=P:=rfl
theorem qf (P:Program)(fn:Func)(str hcs:List Nat)(m l:Nat)(r:Loop)(H':List AO)(q:Option Code):(Re P fn str hcs m l r H' q).fn=fn:=rfl
theorem kc (P:Program)(fn:Func)(str hcs:List Nat)(m l:Nat)(r:Loop)(H':List AO)(q:Option Code):(Re P fn str hcs m l r H' q).str=888888 :: str:=rfl
theorem ka (P:Program)(fn:Func)(str hcs:List Nat)(m l:Nat)(r:Loop)(H':List AO)(q:Option Code):(Re P fn str hcs m l r H' q).hcs=hcs:=rfl
set_option linter.defProp false in
def wQ:=Q' @vT (Q' @qf (Q' @kc @ka))
theorem VE {P:Program}{fn:Func}{str hcs:List Nat}{m l:Nat}{r:Loop}{H:List AO}{q:Option Code}{k:List Item}{s:AS}(hr:r.state=.ready)(h:Run (Re P fn str hcs m l { r with state:=.busy } H q) k s):Run (Re P fn str hcs m l r H q) (.beginRound :: k) s :=
 Pn (X:=Re P fn str hcs m l r H q) rfl rfl hr h
theorem dO {H:List AO}{n:Nat}(h:H.length=n)(x y z:AO)(l:List AO):(H ++ x :: y :: z :: l)[n+2]?=some z:=by
 rw[←h,g_ (by omega),show H.length+2-H.length=2 by omega];rfl
theorem dP {H:List AO}{n:Nat}(h:H.length=n)(x y z w:AO)(l:List AO):(H ++ x :: y :: z :: w :: l)[n+3]?=some w:=by
 rw[←h,g_ (by omega),show H.length+3-H.length=3 by omega];rfl
theorem tH {H:List AO}{n:Nat}(h:H.length=n)(x y z w:AO)(l:List AO):(H ++ x :: y :: z :: l).set (n+2) w=H ++ x :: y :: w :: l:=by
 rw[ZAs _ _ (by omega),←h,show H.length+2-H.length=2 by omega];rfl
theorem YL {H:List AO}{n:Nat}(h:H.length=n)(x y z w o:AO)(l:List AO):(H ++ x :: y :: z :: w :: l).set (n+3) o=H ++ x :: y :: z :: o :: l:=by
 rw[ZAs _ _ (by omega),←h,show H.length+3-H.length=3 by omega];rfl
theorem SP (H:List AO)(Y:Lay)(E:Nat):G' Tryz.prog 201 [.ref Y.x Y.vx 0,I E] H (.fn 228 [.ref (H.length+1) 0 0,.ref H.length 0 0]) (H ++ [.row 0 1 (Xf [.ref Y.x Y.vx 0]),.row 0 1 (Xf [I E])]):=by
 obtain⟨n0,hn⟩:∃n0,H.length=n0:=⟨_,rfl⟩
 have e0:=BL hn;have e1:=FU hn;have el:=ZH hn;refine G'.intro (fn:=Tryz.f201) Tryz.call201 Tryz.func201 rfl mixed 4 [] [] [] (by kernel_rfl) (K_ rfl) (Xk ?_);simp(disch:=omega)only[O_,hn,e0,e1,el,P_,↓Xc,wG,seval];exact Pe rfl (by rw[hn];rfl) rfl
theorem SG {H:List AO}{Y:Lay}{v m n:Nat}(hY:Y.Ok H v m n)(T U:Tb):K5 (HT H Y m n T) (HT H Y m n U):=by
 intro a w k f;by_cases eb:a=Y.bid
 ·subst eb;rw[RY hY,RY hY];simp[DO]
 by_cases ec:a=Y.cid
 ·subst ec;rw[LY hY,LY hY];simp[DU]
 by_cases er:∃j,j<m∧a=Y.rid j
 ·obtain⟨j,hj,rfl⟩:=er
  rw[Lo hY _ hj,Lo hY _ hj];simp[Dx]
 ·rw[DI T eb ec fun j hj g=>er ⟨j,hj,g⟩,DI _ eb ec fun j hj g=>er ⟨j,hj,g⟩]
theorem Gf {A B:List AO}(hl:A.length=B.length)(h:K5 A B)(l:List AO):K5 (A ++ l) (B ++ l):=by
 intro a w k f;by_cases ha:a<A.length
 ·rw[T_ ha,T_ (by omega)];exact h a w k f
 ·rw[g_ (by omega),g_ (by omega),hl]
theorem Ol {A:List AO}(h:KK A){l:List AO}(hl:∀o∈l,∀m,A.length≤m→Q0 m o):KK (A ++ l):=fun o ho m hm=>by
 rw[j_]at hm;rcases n_.1 ho with g |g
 ·exact h o g m (by omega)
 ·exact hl o g m (by omega)
end
end Go.Ab.N
