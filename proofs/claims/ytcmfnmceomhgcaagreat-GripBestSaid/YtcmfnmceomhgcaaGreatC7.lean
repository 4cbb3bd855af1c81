/- Contracts of functions, for every argument that fits. -/
import Derived.Test.YtcmfnmceomhgcaaGreatC6
import Derived.Test.YtcmfnmceomhgcaaGreatC3
import Derived.Test.YtcmfnmceomhgcaaGreatC5
import Derived.Test.YtcmfnmceomhgcaaGreatAb4
set_option linter.unusedSimpArgs false
set_option linter.unusedVariables false
open And renaming intro→ZEM
open Go.Ab.AO renaming row→ZAk
open Go.Ab.AS renaming start→P'
open Go.Ab.AV renaming ref→ZDx
open Int renaming natCast_mul→ZBK
open Nat renaming lt_or_eq_of_le→ZAZ,lt_succ_iff→ZBD,pow_succ→ZBz,mul_one→ZCN,succ_mul→ZCs,pow_zero→ZDl,mul_add→ZD2,div_lt_of_lt_mul→ZD3,div_add_mod→ZEW
open Option renaming map→zV
open Option.some renaming inj→ZEB
open Rat renaming divInt→O_,intCast_mul→ZBC,divInt_eq_div→ZBQ,intCast_eq_zero_iff→ZBY,le_antisymm→ZBv,div_mul_cancel→ZCl,num_divInt_den→ZCy,mul_comm→ZDm,intCast_neg→ZEX
namespace Go.Ab.N
set_option maxRecDepth 10000
set_option maxHeartbeats 4000000
structure Cyc (m n e N:Nat)(S:Nat→Tb)(p r:Nat→Nat):Prop where
 pos:0<N
 le:e≤n
 ok:∀k,(S k).Ok m n e
 st:∀k,Step m n e (S k) (p k) (r k) (S (k+1))
 per:∀k,S (k+N)=S k
section
variable {m n e N:Nat} {S:Nat→Tb} {p r:Nat→Nat}
theorem Cyc.bas (h:Cyc m n e N S p r)(k i:Nat)(hi:i<m):(S (k+1)).b i=if i=r k then p k else(S k).b i:=(h.st k).piv.2.2 i hi
theorem Cyc.TBd (h:Cyc m n e N S p r){i u:Nat}(hi:i<m):∀d,(S (u+d)).b i≠(S u).b i→∃v,u≤v∧v<u+d∧r v=i∧(S v).b i=(S u).b i
 |0,hn=>absurd rfl hn
 |d+1,hn=>by
  by_cases g:(S (u+d)).b i=(S u).b i
  ·refine⟨u+d,by omega,by omega,?_,g⟩
   have:=h.bas (u+d) i hi;by_cases g2:i=r (u+d)
   ·exact g2.symm
   ·rw[M_ g2]at this
    exact absurd (this.trans g) hn
  ·obtain⟨v,h1,h2,h3⟩:=h.TBd hi d g
   exact⟨v,h1,by omega,h3⟩
theorem Cyc.TCo (h:Cyc m n e N S p r){i v:Nat}(hi:i<m)(hv:r v=i):∀d,∃w,p w=(S (v+1+d)).b i
 |0=>⟨v,by have:=h.bas v i hi;rw[N_ hv.symm]at this;exact this.symm⟩
 |d+1=>by
  have:=h.bas (v+1+d) i hi;by_cases g:i=r (v+1+d)
  ·rw[N_ g]at this;exact⟨_,this.symm⟩
  ·rw[M_ g]at this
   obtain⟨w,hw⟩:=h.TCo hi hv d;exact⟨w,hw.trans this.symm⟩
theorem Cyc.ratio (h:Cyc m n e N S p r)(k:Nat):0≤(S k).t (r k) n/(S k).t (r k) (p k):=by
 have l:=(h.st k).lv;rw[ZAS];exact zY ((h.ok k).rhs _ l.1) (ZAy (Rat.inv_pos.2 l.2.1))
theorem Cyc.up (h:Cyc m n e N S p r)(k:Nat):(S (k+1)).c n=(S k).c n-(S k).c (p k)*((S k).t (r k) n/(S k).t (r k) (p k)):=(h.st k).piv.2.1 n (N' _)
theorem Cyc.mono (h:Cyc m n e N S p r)(k:Nat):∀d,(S k).c n≤(S (k+d)).c n
 |0=>ZCR
 |d+1=>by
  have h1:=h.mono k d;have h2:=h.up (k+d);have h3:=zY (a:=-(S (k+d)).c (p (k+d))) (by have:=(h.st (k+d)).ent.2.1;grind) (h.ratio (k+d));show _≤(S (k+d+1)).c n;rw[h2];grind
theorem Cyc.zero (h:Cyc m n e N S p r)(k:Nat):(S k).t (r k) n=0:=by
 have h1:=h.mono (k+1) (N-1);have hN:=h.pos;rw[show k+1+(N-1)=k+N by omega,h.per,h.up k]at h1;have hc:=(h.st k).ent.2.1;have hq:=h.ratio k;have l:=(h.st k).lv;have hz:(S k).t (r k) n/(S k).t (r k) (p k)=0:=by
  by_cases g:0<(S k).t (r k) n/(S k).t (r k) (p k)
  ·have:=ZBG (a:=-(S k).c (p k)) (by grind) g
   grind
  ·exact ZBv (ZAW.1 g) hq
 have:=ZCl (a:=(S k).t (r k) n) (b:=(S k).t (r k) (p k)) (by have:=l.2.1;grind);rw[hz]at this;grind
theorem Cyc.rhs (h:Cyc m n e N S p r){i:Nat}(hi:i<m)(k:Nat):∀d,(S (k+d)).t i n=(S k).t i n
 |0=>rfl
 |d+1=>by
  have h1:=(h.st (k+d)).piv.1 i n hi (N' _);have h0:=h.zero (k+d);show(S (k+d+1)).t i n=_;rw[h1,←h.rhs hi k d];unfold C2;simp only
  split
  ·rename_i g;rw[g,h0,ZAS];grind
  ·rw[h0,ZAS];grind
theorem Cyc.sim (h:Cyc m n e N S p r)(k:Nat):∀d,(S k).Sim m n (S (k+d))
 |0=>Tb.Sim.refl _ _ _
 |d+1=>(h.sim k d).trans (h.st (k+d)).sim
theorem vW (p:Nat→Nat)(e:Nat)(hp:∀k,p k<e):∃a,∀k,p k≤p a:=by
 apply X_;intro hn;have hn:∀a,∃k,p a<p k:=fun a=>by
  apply X_;intro g;exact hn ⟨a,fun k=>Nat.le_of_not_lt fun hk=>g ⟨k,hk⟩⟩
 have:∀B,∃k,B≤p k:=fun B=>by
  induction B with
  |zero=>exact⟨0,p_ _⟩
  |succ B ih =>
   obtain⟨k,hk⟩:=ih;obtain⟨k2,hk2⟩:=hn k;exact⟨k2,by omega⟩
 obtain⟨k,hk⟩:=this e;have:=hp k;omega
theorem lC (h:Cyc m n e N S p r):False:=by
 obtain⟨a,ha⟩:=vW p e fun k=>(h.st k).ent.1
 have hN:=h.pos;obtain⟨i0,hi0⟩:∃i0,i0=r a:=⟨_,rfl⟩
 have hm0:i0<m:=hi0▸(h.st a).lv.1;have hin:(S (a+1)).b i0=p a:=by rw[h.bas a i0 hm0,N_ hi0]
 have hca:=(h.st a).ent;have TBj:(S (a+1+(N-1))).b i0≠(S (a+1)).b i0:=by
  rw[show a+1+(N-1)=a+N by omega,h.per,hin];intro g;have:=(h.ok a).cost i0 hm0;rw[g]at this;have:=hca.2.1;grind
 obtain⟨u,u1,u2,u3,u4⟩:=h.TBd hm0 _ TBj;rw[hin]at u4;have hcu:=(h.st u).ent;have hlu:=(h.st u).lv;rw[u3]at hlu;have hlt:p u<p a:=by
  rcases ZAZ (ha u)with g |g
  ·exact g
  ·exfalso
   have h1:=(h.ok u).cost i0 hm0;rw[u4,←g]at h1;have:=hcu.2.1;grind
 have TDQ:=h.sim a (u-a);rw[show a+(u-a)=u by omega]at TDQ;have hid:=GK TDQ (h.ok u) h.le (p:=p u) (by have:=hcu.1;have:=h.le;omega);have hge:=hca.2.2 (p u) hlt;have TA9:=hcu.2.1;obtain⟨i,hi,TA1⟩:=Ue (f:=fun i=>(S a).c ((S u).b i)*(S u).t i (p u)) (n:=m) (by grind);have TA1:0<(S a).c ((S u).b i)*(S u).t i (p u):=TA1;by_cases hii:i=i0
 ·subst hii
  rw[u4]at TA1;have h1:=hca.2.1;have h2:=hlu.2.1;have:=ZBG (a:=-(S a).c (p a)) (by grind) h2;grind
 have hjq:(S u).b i≠p a:=fun g=>by
  have h1:=(h.ok u).unit i0 i hm0 hi;have h2:=(h.ok u).unit i0 i0 hm0 hm0;rw[M_ (v_ hii),g]at h1;rw[N_ rfl,u4,h1]at h2;exact absurd h2 (by decide)
 have hcj:(S a).c ((S u).b i)≠0:=fun g=>by rw[g]at TA1;grind
 have TEx:(S (u+(a+N-u))).b i≠(S u).b i:=by
  rw[show u+(a+N-u)=a+N by omega,h.per];intro g;exact hcj (by rw[←g];exact(h.ok a).cost i hi)
 obtain⟨v,v1,v2,v3,v4⟩:=h.TBd hi _ TEx;have hz0:=h.zero v;rw[v3]at hz0;have hzi:(S u).t i n=0:=by
  have:=h.rhs hi u (v-u);rw[show u+(v-u)=v by omega]at this;rw[←this,hz0]
 have hzr:=h.zero u;rw[u3]at hzr;obtain⟨w,hw⟩:=h.TCo hi v3 (u+N-(v+1));rw[show v+1+(u+N-(v+1))=u+N by omega,h.per]at hw;have hle:=ha w;have TFt:(S u).b i<p a:=by omega
 have hc0:=hca.2.2 _ TFt;have htp:0<(S u).t i (p u):=by
  apply X_;intro g;have:=zY (b:=-(S u).t i (p u)) hc0 (by grind);grind
 have hz:∀d:Rat,(0:Rat)/d=0:=fun d=>by rw[ZAS,Rat.zero_mul]
 rcases hlu.2.2 i hi htp with g |g
 ·rw[hzr,hzi,hz,hz]at g
  exact absurd g (by decide)
 ·rw[u4]at g
  have:=g.2;omega
end
theorem VQ:∀ (K:Nat) (f:Nat→Nat),(∀k,k≤K→f k<K)→∃a b,a<b∧b≤K∧f a=f b
 |0,f,h=>absurd (h 0 (N' _)) (by omega)
 |K+1,f,h=>by
  by_cases g:∃a,a≤K∧f a=f (K+1)
  ·obtain⟨a,h1,h2⟩:=g
   exact⟨a,K+1,by omega,N' _,h2⟩
  ·have g:∀a,a≤K→f a≠f (K+1):=fun a ha e=>g ⟨a,ha,e⟩
   obtain⟨a,b,h1,h2,h3⟩:=VQ K (fun k=>if f k=K then f (K+1)else f k) fun k hk=>by
    have h1:=h k (by omega);have h2:=h (K+1) (by omega);have h3:=g k hk
    split <;> omega
   have g1:=g a (by omega);have g2:=g b (by omega);refine⟨a,b,h1,by omega,?_⟩
   split at h3 <;> split at h3 <;> omega
def Ev (e:Nat)(f:Nat→Nat):Nat→Nat
 |0=>0
 |n+1=>f n+e*Ev e f n
theorem Mf {e:Nat}{f:Nat→Nat}:∀ {n:Nat},(∀i,i<n→f i<e)→Ev e f n<e ^ n
 |0,_=>by show 0<e ^ 0;rw[ZDl];omega
 |n+1,h=>by
  unfold Ev;have h1:=Mf (e:=e) (f:=f) (n:=n) fun i hi=>h i (by omega)
  have h2:=h n (by omega);have h3:=Nat.mul_le_mul_left e (show Ev e f n+1≤e ^ n from h1);rw[ZBz,ZA4 (e ^ n) e];rw[ZD2,ZCN]at h3;omega
theorem I1 {e:Nat}{f g:Nat→Nat}:∀ {n:Nat},(∀i,i<n→f i<e)→(∀i,i<n→g i<e)→Ev e f n=Ev e g n→∀i,i<n→f i=g i
  |0,_,_,_,i,hi=>absurd hi (by omega)
  |n+1,hf,hg,h,i,hi=>by
    unfold Ev at h;have h1:=hf n (by omega);have h2:=hg n (by omega);have h3:f n=g n:=by
      have:=t_ (· % e) h
      simpa only[Nat.add_mul_mod_self_left,ZAB h1,ZAB h2]using this
    have h4:Ev e f n=Ev e g n:=by
      rw[h3]at h;exact Nat.eq_of_mul_eq_mul_left (show 0<e by omega) (Nat.add_left_cancel h)
    rcases ZAZ (ZBD.1 hi)with k |k
    · exact I1 (fun i hi=>hf i (by omega)) (fun i hi=>hg i (by omega)) h4 i k
    · rw[k];exact h3
theorem Tb.Eqv.symm {m n:Nat}{T U:Tb}(h:T.Eqv m n U):U.Eqv m n T:=⟨fun i k hi hk=>(h.1 i k hi hk).symm,fun k hk=>(h.2.1 k hk).symm,fun i hi=>(h.2.2 i hi).symm⟩
theorem Tb.Eqv.trans {m n:Nat}{T U V:Tb}(h:T.Eqv m n U)(g:U.Eqv m n V):T.Eqv m n V:=⟨fun i k hi hk=>(h.1 i k hi hk).trans (g.1 i k hi hk),fun k hk=>(h.2.1 k hk).trans (g.2.1 k hk),fun i hi=>(h.2.2 i hi).trans (g.2.2 i hi)⟩
theorem mB {m n e K:Nat}{S:Nat→Tb}{p r:Nat→Nat}(he:e≤n)(h0:(S 0).Ok m n e) (hs:∀k,k<K→Step m n e (S k) (p k) (r k) (S (k+1))):∀k,k≤K→(S k).Ok m n e∧(S 0).Sim m n (S k)
 |0,_=>⟨h0,Tb.Sim.refl _ _ _⟩
 |k+1,hk=>by
  obtain⟨h1,h2⟩:=mB he h0 hs k (by omega);exact⟨(hs k (by omega)).ok h1 he,h2.trans (hs k (by omega)).sim⟩
theorem T9 {m n e K:Nat}{S:Nat→Tb}{p r:Nat→Nat}(he:e≤n)(h0:(S 0).Ok m n e) (hs:∀k,k<K→Step m n e (S k) (p k) (r k) (S (k+1))):K<e ^ m:=by
 apply X_;intro hK;have hok:=mB he h0 hs;obtain⟨a,b,h1,h2,h3⟩:=VQ (e ^ m) (fun k=>Ev e (S k).b m) fun k hk=>Mf fun i hi=>(hok k (by omega)).1.bas i hi
 have hb:=I1 (fun i hi=>(hok a (by omega)).1.bas i hi) (fun i hi=>(hok b (by omega)).1.bas i hi) h3;have TDQ:(S a).Sim m n (S b):=(hok a (by omega)).2.symm.trans (hok b (by omega)).2;have heq:=R8 TDQ (hok a (by omega)).1 (hok b (by omega)).1 he hb;have hlt:∀k,k%(b-a)<b-a:=fun k=>z_ _ (by omega)
 refine lC (m:=m) (n:=n) (e:=e) (N:=b-a) (S:=fun k=>S (a+k%(b-a))) (p:=fun k=>p (a+k%(b-a))) (r:=fun k=>r (a+k%(b-a))) ⟨by omega,he,fun k=>(hok _ (by have:=hlt k;omega)).1,fun k=>?_,fun k=>by simp only[Nat.add_mod_right]⟩;have hk:=hlt k;have h5:=hs (a+k%(b-a)) (by omega);by_cases g:k%(b-a)+1<b-a
 ·have:(k+1)%(b-a)=k%(b-a)+1:=by rw[Nat.add_mod,ZAB (show 1<b-a by omega),ZAB g]
  simp only[this];exact h5
 ·have h6:k%(b-a)+1=b-a:=by omega
  have:(k+1)%(b-a)=0:=by
   by_cases g1:b-a=1
   ·rw[g1,Nat.mod_one]
   ·rw[Nat.add_mod,ZAB (show 1<b-a by omega),h6,ZC1]
  simp only[this,ZAn];refine⟨h5.ent,h5.lv,?_⟩;rw[show a+k%(b-a)+1=b by omega]at h5;exact heq.trans h5.piv
def Mq (T:Tb):Nat→Option Nat
 |0=>none
 |k+1=>match Mq T k with
  |some p=>some p
  |none=>if T.c k<0 then some k else none
theorem Fi {T:Tb}:∀ {e:Nat},Mq T e=none→∀j,j<e→0≤T.c j
 |e+1,h,j,hj=>by
  unfold Mq at h;cases g:Mq T e with
  |some p=>rw[g]at h;cases h
  |none =>
   rw[g]at h;simp only at h;rcases ZAZ (ZBD.1 hj)with k |k
   ·exact Fi g j k
   ·subst k
    split at h
    ·cases h
    ·rename_i q;exact ZAW.1 q
theorem Fj {T:Tb}{p:Nat}:∀ {e:Nat},Mq T e=some p→I5 e T p
 |e+1,h=>by
  unfold Mq at h;cases g:Mq T e with
  |some q =>
   rw[g]at h;cases h;have:=Fj g;exact⟨by have:=this.1;omega,this.2⟩
  |none =>
   rw[g]at h;simp only at h
   split at h
   ·rename_i q
    cases h;exact⟨by omega,q,Fi g⟩
   ·cases h
def Tb.q (T:Tb)(n p i:Nat):Rat:=T.t i n/T.t i p
def JA (T:Tb)(n p:Nat):Nat→Option Nat
 |0=>none
 |k+1=>if 0<T.t k p then
   match JA T n p k with
   |none=>some k
   |some r=>if T.q n p k<T.q n p r∨(T.q n p k=T.q n p r∧T.b k<T.b r)then some k else some r
  else JA T n p k
theorem Gi {T:Tb}{n p:Nat}:∀ {m:Nat},JA T n p m=none→∀i,i<m→¬0<T.t i p
 |m+1,h,i,hi=>by
  unfold JA at h
  split at h
  ·split at h
   ·cases h
   ·split at h <;> cases h
  ·rename_i g
   rcases ZAZ (ZBD.1 hi)with k |k
   ·exact Gi h i k
   ·rw[k];exact g
theorem ZA {T:Tb}{n p:Nat}:∀ {m r:Nat},JA T n p m=some r→kV m n T p r
 |m+1,r,h=>by
  unfold JA at h
  split at h
  ·rename_i hp
   split at h
   ·rename_i g
    cases h;refine⟨by omega,hp,fun i hi hi2=>?_⟩;rcases ZAZ (ZBD.1 hi)with k |k
    ·exact absurd hi2 (Gi g i k)
    ·rw[k];exact .inr ⟨rfl,N' _⟩
   ·rename_i r0 g
    obtain⟨g1,g2,g3⟩:=ZA g
    split at h
    ·rename_i hl
     cases h;refine⟨by omega,hp,fun i hi hi2=>?_⟩;rcases ZAZ (ZBD.1 hi)with k |k
     ·have h3:=g3 i k hi2
      unfold Tb.q at hl;rcases hl with hl | ⟨hl,hb⟩
      ·rcases h3 with h3 | ⟨h3,_⟩
       ·exact .inl (by grind)
       ·exact .inl (by rw[←h3];exact hl)
      ·rcases h3 with h3 | ⟨h3,h4⟩
       ·exact .inl (by rw[hl];exact h3)
       ·exact .inr ⟨hl.trans h3,by omega⟩
     ·rw[k];exact .inr ⟨rfl,N' _⟩
    ·rename_i hl
     cases h;refine⟨by omega,g2,fun i hi hi2=>?_⟩;rcases ZAZ (ZBD.1 hi)with k |k
     ·exact g3 i k hi2
     ·subst k
      unfold Tb.q at hl;simp only[not_or,ZAW,not_and,Nat.not_lt]at hl;by_cases e:T.t r n/T.t r p=T.t i n/T.t i p
      ·exact .inr ⟨e,hl.2 e.symm⟩
      ·refine .inl ?_
       apply X_;intro w;exact e (ZBv hl.1 (ZAW.1 w))
  ·obtain⟨g1,g2,g3⟩:=ZA h
   rename_i hp;refine⟨by omega,g2,fun i hi hi2=>?_⟩;rcases ZAZ (ZBD.1 hi)with k |k
   ·exact g3 i k hi2
   ·subst k;exact absurd hi2 hp
def Cn (m n e:Nat)(T:Tb):Option Tb:=match Mq T e with
 |none=>none
 |some p=>match JA T n p m with
  |none=>none
  |some r=>some (C2 T r p)
def Bn (m n e:Nat)(T:Tb):Nat→Tb
 |0=>T
 |k+1=>(Cn m n e (Bn m n e T k)).getD (Bn m n e T k)
theorem MV {m n e:Nat}{T U:Tb}(h:Cn m n e T=some U):∃p r,Step m n e T p r U:=by
 unfold Cn at h
 split at h
 ·cases h
 ·rename_i p hp
  split at h
  ·cases h
  ·rename_i r hr
   cases h;exact⟨p,r,Fj hp,ZA hr,⟨fun _ _ _ _=>rfl,fun _ _=>rfl,fun _ _=>rfl⟩⟩
theorem my {m n e:Nat}(T:Tb)(he:e≤n)(h0:T.Ok m n e):∃K,Cn m n e (Bn m n e T K)=none∧∀k,k<K→Cn m n e (Bn m n e T k)=some (Bn m n e T (k+1)):=by
 have TDk:∀k,Cn m n e (Bn m n e T k)≠none→Cn m n e (Bn m n e T k)=some (Bn m n e T (k+1)):=fun k hk=>by
  cases g:Cn m n e (Bn m n e T k)with
  |none=>exact absurd g hk
  |some U=>show some U=some ((Cn m n e (Bn m n e T k)).getD _);rw[g];rfl
 have hex:∃K,Cn m n e (Bn m n e T K)=none:=by
  apply X_;intro hn;have hn:∀k,Cn m n e (Bn m n e T k)=some (Bn m n e T (k+1)):=fun k=>TDk k fun g=>hn ⟨k,g⟩
  have hs:=fun k=>MV (hn k)
  let p:Nat→Nat:=fun k=>(hs k).choose
  let r:Nat→Nat:=fun k=>(hs k).choose_spec.choose
  have hst:∀k,Step m n e (Bn m n e T k) (p k) (r k) (Bn m n e T (k+1)):=fun k=>(hs k).choose_spec.choose_spec
  have:=T9 (K:=e ^ m) (S:=Bn m n e T) he h0 fun k _=>hst k
  omega
 obtain⟨K,hK⟩:=hex
 induction K using Nat.strongRecOn with
 |_ K ih =>
  by_cases g:∃k,k<K∧Cn m n e (Bn m n e T k)=none
  ·obtain⟨k,h1,h2⟩:=g
   exact ih k h1 h2
  ·exact⟨K,hK,fun k hk=>TDk k fun h=>g ⟨k,hk,h⟩⟩
theorem YT {m n e K:Nat}{T:Tb}(he:e≤n)(h0:T.Ok m n e)(hs:∀k,k<K→Cn m n e (Bn m n e T k)=some (Bn m n e T (k+1))):∀k,k≤K→(Bn m n e T k).Ok m n e∧T.Sim m n (Bn m n e T k)
 |0,_=>⟨h0,Tb.Sim.refl _ _ _⟩
 |k+1,hk=>by
  obtain⟨h1,h2⟩:=YT he h0 hs k (by omega);obtain⟨p,r,h3⟩:=MV (hs k (by omega));exact⟨h3.ok h1 he,h2.trans h3.sim⟩
theorem CB (f:Nat→Rat)(a:Nat):∀b,XN f (a+b)=XN f a+XN (fun i=>f (a+i)) b
 |0=>by show XN f a=XN f a+0;grind
 |b+1=>by
  show XN f (a+b)+f (a+b)=XN f a+(XN _ b+f (a+b));rw[CB f a b];grind
def JV (v m:Nat)(A:Nat→Nat→Rat)(B G:Nat→Rat):Tb where
 t i k:=if k<v then A i k else if k<2*v then -A i (k-v)else if k=2*v+i then 1 else if k=2*v+2*m then B i else 0
 c k:=if k<v then -G k else if k<2*v then G (k-v)else 0
 b i:=2*v+i
section
variable {v m:Nat} {A:Nat→Nat→Rat} {B G:Nat→Rat}
theorem ap (hB:∀i,i<m→0≤B i):(JV v m A B G).Ok m (2*v+2*m) (2*v+m):=by
 refine⟨fun i hi=>?_,fun i k hi hk=>?_,fun i hi=>?_,fun i hi=>?_⟩
 ·show 2*v+i<2*v+m;omega
 ·show(if 2*v+k<v then _ else if 2*v+k<2*v then _ else if 2*v+k=2*v+i then(1:Rat)else if 2*v+k=2*v+2*m then _ else _)=_
  rw[M_ (by omega),M_ (by omega)];by_cases h:i=k
  ·rw[N_ h,N_ (by omega)]
  ·rw[M_ h,M_ (by omega),M_ (by omega)]
 ·show(if 2*v+i<v then _ else if 2*v+i<2*v then _ else(0:Rat))=0
  rw[M_ (by omega),M_ (by omega)]
 ·show 0≤(if 2*v+2*m<v then _ else if 2*v+2*m<2*v then _ else if 2*v+2*m=2*v+i then(1:Rat)else if 2*v+2*m=2*v+2*m then B i else _)
  rw[M_ (by omega),M_ (by omega),M_ (by omega),N_ rfl];exact hB i hi
theorem rp (y:Nat→Rat){i:Nat}(hi:i<m):XN (fun j=>(JV v m A B G).t i j*y j) (2*v+2*m+1)=XN (fun k=>A i k*(y k-y (v+k))) v+y (2*v+i)+B i*y (2*v+2*m):=by
 rw[show 2*v+2*m+1=v+(v+(2*m+1))by omega,CB,CB];have e1:XN (fun j=>(JV v m A B G).t i j*y j) v=XN (fun k=>A i k*y k) v:=XQ fun k hk=>by
  show(if k<v then _ else _)*y k=_;rw[N_ hk]
 have e2:XN (fun k=>(JV v m A B G).t i (v+k)*y (v+k)) v=XN (fun k=>(-1)*(A i k*y (v+k))) v:=XQ fun k hk=>by
  show(if v+k<v then _ else if v+k<2*v then -A i (v+k-v)else _)*y (v+k)=_;rw[M_ (by omega),N_ (by omega),show v+k-v=k by omega];grind
 have e3:∀l,l<2*m+1→(JV v m A B G).t i (v+(v+l))*y (v+(v+l))=(if l=i then y (2*v+i)else if l=2*m then B i*y (2*v+2*m)else 0):=fun l hl=>by
  show(if v+(v+l)<v then _ else if v+(v+l)<2*v then _ else if v+(v+l)=2*v+i then(1:Rat)else if v+(v+l)=2*v+2*m then B i else 0)*y (v+(v+l))=_;rw[M_ (by omega),M_ (by omega)];by_cases h:l=i
  ·rw[N_ (by omega),N_ h,show v+(v+l)=2*v+i by omega];grind
  ·rw[M_ (by omega),M_ h]
   by_cases h2:l=2*m
   ·rw[N_ (by omega),N_ h2,show v+(v+l)=2*v+2*m by omega]
   ·rw[M_ (by omega),M_ h2];grind
 have e4:XN (fun l=>(JV v m A B G).t i (v+(v+l))*y (v+(v+l))) (2*m+1)=y (2*v+i)+B i*y (2*v+2*m):=by
  rw[XQ e3];show XN _ (2*m)+_=_;rw[An (k:=i) (by omega) fun l hl hn=>by rw[M_ hn,M_ (by omega)],N_ rfl];simp only[M_ (show ¬2*m=i by omega),if_true]
 rw[e1,e2,e4,J8];rw[show(fun k=>A i k*(y k-y (v+k)))=fun k=>A i k*y k-A i k*y (v+k)from funext fun k=>by grind,Dw];grind
theorem sU (y:Nat→Rat):XN (fun j=>(JV v m A B G).c j*y j) (2*v+2*m+1) = -XN (fun k=>G k*(y k-y (v+k))) v:=by
 rw[show 2*v+2*m+1=v+(v+(2*m+1))by omega,CB,CB];have e1:XN (fun j=>(JV v m A B G).c j*y j) v=XN (fun k=>(-1)*(G k*y k)) v:=XQ fun k hk=>by
  show(if k<v then _ else _)*y k=_;rw[N_ hk];grind
 have e2:XN (fun k=>(JV v m A B G).c (v+k)*y (v+k)) v=XN (fun k=>G k*y (v+k)) v:=XQ fun k hk=>by
  show(if v+k<v then _ else if v+k<2*v then G (v+k-v)else _)*y (v+k)=_;rw[M_ (by omega),N_ (by omega),show v+k-v=k by omega]
 have e3:XN (fun l=>(JV v m A B G).c (v+(v+l))*y (v+(v+l))) (2*m+1)=0:=Ks fun l hl=>by
  show(if v+(v+l)<v then _ else if v+(v+l)<2*v then _ else(0:Rat))*y (v+(v+l))=0;rw[M_ (by omega),M_ (by omega)];grind
 rw[e1,e2,e3,J8];rw[show(fun k=>G k*(y k-y (v+k)))=fun k=>G k*y k-G k*y (v+k)from funext fun k=>by grind,Dw];grind
structure TAw (v m:Nat)(A:Nat→Nat→Rat)(B G:Nat→Rat)(x y:Nat→Rat)(val:Rat):Prop where
 TC5:∀i,i<m→XN (fun k=>A i k*x k) v≤B i
 TEy:∀i,i<m→0≤y i
 TEz:∀k,k<v→XN (fun i=>A i k*y i) m=G k
 TCg:XN (fun k=>G k*x k) v=val
 TE0:XN (fun i=>B i*y i) m=val
theorem rI {f g:Nat→Rat}{n:Nat}(h:∀i,i<n→f i≤g i):XN f n≤XN g n:=by
 have:=CV (f:=fun i=>g i-f i) (n:=n) fun i hi=>by have:=h i hi;grind
 rw[Dw]at this;grind
theorem TAw.most {x y:Nat→Rat}{val:Rat}(h:TAw v m A B G x y val){z:Nat→Rat}(hz:∀i,i<m→XN (fun k=>A i k*z k) v≤B i):XN (fun k=>G k*z k) v≤val:=by
 have e:XN (fun k=>G k*z k) v=XN (fun i=>y i*XN (fun k=>A i k*z k) v) m:=by
  rw[XQ fun i hi=>(J8 (y i) (fun k=>A i k*z k) v).symm,FG];refine XQ fun k hk=>?_
  rw[←h.TEz k hk,ZDm,←J8];exact XQ fun i hi=>by grind
 rw[e,←h.TE0];refine rI fun i hi=>?_
 have:=Rat.mul_le_mul_of_nonneg_right (hz i hi) (h.TEy i hi);grind
theorem TAw.uniq {x y x' y':Nat→Rat}{val TE1:Rat}(h:TAw v m A B G x y val)(h':TAw v m A B G x' y' TE1):val=TE1:=by
 refine ZBv ?_ ?_
 ·rw[←h.TCg];exact h'.most h.TC5
 ·rw[←h'.TCg];exact h.most h'.TC5
def Jg (m n:Nat)(T:Tb)(j:Nat):Rat:=XN (fun i=>if T.b i=j then T.t i n else 0) m
theorem qO {n e:Nat}{T:Tb}(h:T.Ok m n e)(j:Nat):0≤Jg m n T j:=CV fun i hi=>by
 split
 ·exact h.rhs i hi
 ·exact ZCR
theorem lD {n e:Nat}{T:Tb}(h:T.Ok m n e)(he:e≤n)(j:Nat)(hj:j≠n):Gd m T n j = -Jg m n T j:=by
 unfold Gd Jg;rw[M_ hj];grind
theorem wh {n e:Nat}{T:Tb}(h:T.Ok m n e)(he:e≤n):Gd m T n n=1:=by
 unfold Gd;rw[N_ rfl,Ks fun i hi=>by rw[M_ (by have:=h.bas i hi;omega)]];grind
theorem dZ {T:Tb}(hB:∀ i,i<m→0≤B i)(hs:(JV v m A B G).Sim m (2*v+2*m) T) (hT:T.Ok m (2*v+2*m) (2*v+m)) (hc:∀j,j<2*v+m→0≤T.c j) :
  TAw v m A B G (fun k=>Jg m (2*v+2*m) T k-Jg m (2*v+2*m) T (v+k)) (fun i=>T.c (2*v+i)) (T.c (2*v+2*m)):=by
 have he:2*v+m≤2*v+2*m:=by omega
 have hk:=hT.TBh he (N' _);have hd:=fun j hj=>lD hT he j hj
 have hn:=wh hT he;have hby:=fun p hp=>GK (p:=p) hs.symm (ap hB) he hp
 have TEH:∀p,p≤2*v+2*m→T.c p=(JV v m A B G).c p+XN (fun i=>(JV v m A B G).t i p*T.c (2*v+i)) m:=fun p hp=>by
  have:=hby p hp;have e:XN (fun i=>T.c ((JV v m A B G).b i)*(JV v m A B G).t i p) m=XN (fun i=>(JV v m A B G).t i p*T.c (2*v+i)) m:=XQ fun i _=>ZDm _ _
  rw[e]at this;grind
 refine⟨fun i hi=>?_,fun i hi=>hc _ (by omega),fun k hk'=>?_,?_,?_⟩
 ·have:=(hs _).1.2 hk i hi
  rw[rp _ hi,hn,hd _ (by omega),XQ (g:=fun k=>(-1)*(A i k*(Jg m (2*v+2*m) T k-Jg m (2*v+2*m) T (v+k)))) fun k hk=>by rw[hd _ (by omega),hd _ (by omega)];grind,J8]at this;have:=qO hT (2*v+i);grind
 ·have h1:=TEH k (by omega)
  have h2:=TEH (v+k) (by omega);have g1:=hc k (by omega);have g2:=hc (v+k) (by omega);rw[XQ (g:=fun i=>A i k*T.c (2*v+i)) fun i _=>by
   show(if k<v then _ else _)*_=_;rw[N_ hk'],show(JV v m A B G).c k = -G k by show(if k<v then _ else _)=_;rw[N_ hk']]at h1
  rw[XQ (g:=fun i=>(-1)*(A i k*T.c (2*v+i))) fun i _=>by
   show(if v+k<v then _ else if v+k<2*v then -A i (v+k-v)else _)*_=_;rw[M_ (by omega),N_ (by omega),show v+k-v=k by omega];grind,J8,show(JV v m A B G).c (v+k)=G k by
    show(if v+k<v then _ else if v+k<2*v then G (v+k-v)else _)=_;rw[M_ (by omega),N_ (by omega),show v+k-v=k by omega]]at h2
  refine ZBv ?_ ?_ <;> grind
 ·have h1:=(hs _).2 ((hs _).1.2 hk)
  rw[hT.TBw he (N' _),sU,XQ (g:=fun k=>(-1)*(G k*(Jg m (2*v+2*m) T k-Jg m (2*v+2*m) T (v+k)))) fun k hk=>by rw[hd _ (by omega),hd _ (by omega)];grind,J8]at h1;rw[←h1];grind
 ·have h1:=TEH (2*v+2*m) (N' _)
  rw[h1,show(JV v m A B G).c (2*v+2*m)=0 by
   show(if 2*v+2*m<v then _ else if 2*v+2*m<2*v then _ else _)=_;rw[M_ (by omega),M_ (by omega)]]
  rw[XQ (f:=fun i=>(JV v m A B G).t i (2*v+2*m)*T.c (2*v+i)) (g:=fun i=>B i*T.c (2*v+i)) fun i hi=>by
   show(if 2*v+2*m<v then _ else if 2*v+2*m<2*v then _ else if 2*v+2*m=2*v+i then(1:Rat)else if 2*v+2*m=2*v+2*m then B i else 0)*_=_;rw[M_ (by omega),M_ (by omega),M_ (by omega),N_ rfl]]
  grind
theorem wg {T:Tb}{p i0:Nat}(hs:(JV v m A B G).Sim m (2*v+2*m) T) (hT:T.Ok m (2*v+2*m) (2*v+m)) (hp:I5 (2*v+m) T p) (hl:∀i,i<m→¬0<T.t i p) (hi0:i0<m) (hA:∀k,k<v→A i0 k=G k):False:=by
 have he:2*v+m≤2*v+2*m:=by omega
 have hpn:p≤2*v+2*m:=by have:=hp.1;omega
 have hk:=(hs _).1.2 (hT.TBh he hpn);have hd:∀j,0≤Gd m T p j:=fun j=>by
  unfold Gd;have:0≤XN (fun i=>if T.b i=j then -T.t i p else 0) m:=CV fun i hi=>by
   split
   ·have:=hl i hi;grind
   ·exact ZCR
  rw[XQ (g:=fun i=>(-1)*(if T.b i=j then T.t i p else 0)) fun i _=>by split <;> grind,J8]at this
  split <;> grind
 have hn0:Gd m T p (2*v+2*m)=0:=by
  unfold Gd;rw[M_ (by have:=hp.1;omega),Ks fun i hi=>by rw[M_ (by have:=hT.bas i hi;omega)]];grind
 have h1:=hk i0 hi0;rw[rp _ hi0,hn0,XQ (g:=fun k=>G k*(Gd m T p k-Gd m T p (v+k))) fun k hk=>by rw[hA k hk]]at h1;have h2:=(hs _).2 hk;rw[hT.TBw he hpn,sU]at h2;have h3:=hp.2.1;have h4:=hd (2*v+i0);grind
end
end Go.Ab.N
namespace Go.Ab.N
set_option maxRecDepth 10000
set_option maxHeartbeats 4000000
def FO (f:Nat→Int):Nat→Int
 |0=>0
 |n+1=>FO f n+f n
theorem Nx {f g:Nat→Int}:∀ {n:Nat},(∀i,i<n→f i=g i)→FO f n=FO g n
 |0,_=>rfl
 |n+1,h=>by
  unfold FO;rw[Nx fun i hi=>h i (by omega),h n (by omega)]
theorem Uh (f g:Nat→Int):∀n,FO (fun i=>f i-g i) n=FO f n-FO g n
 |0=>rfl
 |n+1=>by unfold FO;rw[Uh f g n];omega
theorem an {f:Nat→Int}{c:Int}:∀ {n:Nat},(∀i,i<n→-c≤f i∧f i≤c)→-(n*c)≤FO f n∧FO f n≤n*c
 |0,_=>by unfold FO;simp
 |n+1,h=>by
  unfold FO;have h1:=an (f:=f) (c:=c) (n:=n) fun i hi=>h i (by omega)
  have h2:=h n (by omega);have h3:((n+1:Nat):Int)*c=n*c+c:=by rw[Int.natCast_add,Int.add_mul];simp
  rw[h3];omega
theorem Ug (f:Nat→Int):∀n,((FO f n:Int):Rat)=XN (fun i=>(f i:Rat)) n
 |0=>rfl
 |n+1=>by unfold FO XN;rw[Rat.intCast_add,Ug f n]
def Dh (L x k:Nat):Nat:=x/L ^ k%L
theorem PY {L:Nat}(hL:0<L)(x k:Nat):Dh L x k<L:=z_ _ hL
theorem Ov (L x k:Nat):Dh L x (k+1)=Dh L (x/L) k:=by
 unfold Dh;rw[Nat.div_div_eq_div_mul,ZBz,ZA4 (L ^ k) L]
theorem Sw {L:Nat}(hL:0<L):∀ (n x y:Nat),x<L ^ n→y<L ^ n→(∀k,k<n→Dh L x k=Dh L y k)→x=y
 |0,x,y,hx,hy,_=>by rw[ZDl]at hx hy;omega
 |n+1,x,y,hx,hy,h=>by
  have h0:=h 0 (by omega);unfold Dh at h0;rw[ZDl,Nat.div_one,Nat.div_one]at h0;have h1:=Sw hL n (x/L) (y/L) (ZD3 (by rw[ZBz,ZA4]at hx;exact hx)) (ZD3 (by rw[ZBz,ZA4]at hy;exact hy)) fun k hk=>by
   rw[←Ov,←Ov];exact h (k+1) (by omega)
  rw[←ZEW x L,←ZEW y L,h0,h1]
theorem wP {m C:Nat}(Z:Nat→Nat→Int)(hZ:∀i k,i<m→k≤m→(Z i k).natAbs≤C) :
  ∃z:Nat→Int,(∃k,k≤m∧z k≠0)∧(∀k,(z k).natAbs≤(2*((m+1)*C)+1) ^ m)∧∀i,i<m→FO (fun k=>Z i k*z k) (m+1)=0:=by
 obtain⟨Q,hQ⟩:∃Q,Q=(m+1)*C:=⟨_,rfl⟩
 rw[←hQ];obtain⟨M,hM⟩:∃M,M=(2*Q+1) ^ m:=⟨_,rfl⟩
 rw[←hM];have hL:0<M+1:=by omega
 let s:Nat→Nat→Int:=fun x i=>FO (fun k=>Z i k*(Dh (M+1) x k:Int)) (m+1)
 have hs:∀x i,i<m→-((Q*M:Nat):Int)≤s x i∧s x i≤((Q*M:Nat):Int):=fun x i hi=>by
  have:=an (f:=fun k=>Z i k*(Dh (M+1) x k:Int)) (c:=((C*M:Nat):Int)) (n:=m+1) fun k hk=>by
   have h1:=hZ i k hi (by omega);have h2:=PY hL x k;have h3:(Z i k*(Dh (M+1) x k:Int)).natAbs≤C*M:=by
    rw[ZBg,ZAb];exact ZAx h1 (by omega)
   omega
  have e:((m+1:Nat):Int)*((C*M:Nat):Int)=((Q*M:Nat):Int):=by
   rw[hQ,←ZBK,Nat.mul_assoc]
  rw[e]at this;exact this
 let c:Nat→Nat→Nat:=fun x i=>(s x i+((Q*M:Nat):Int)).toNat
 have hc:∀x i,i<m→c x i<2*(Q*M)+1:=fun x i hi=>by
  have:=hs x i hi;show(s x i+((Q*M:Nat):Int)).toNat<_;omega
 have hlt:(2*(Q*M)+1) ^ m<(M+1) ^ (m+1):=by
  have h1:2*(Q*M)+1≤(2*Q+1)*(M+1):=by
   rw[Nat.add_mul,Nat.one_mul,ZD2,ZCN,Nat.mul_assoc];omega
  have h2:=Nat.pow_le_pow_left h1 m;rw[Nat.mul_pow,←hM]at h2;have h3:0<(M+1) ^ m:=Nat.pow_pos hL;have h2:(2*(Q*M)+1) ^ m≤M*(M+1) ^ m:=h2;rw[ZBz,ZD2,ZCN,ZA4 ((M+1) ^ m) M];omega
 obtain⟨a,b,h1,h2,h3⟩:=VQ ((2*(Q*M)+1) ^ m) (fun x=>Ev (2*(Q*M)+1) (c x) m) fun x _=>Mf fun i hi=>hc x i hi
 have h4:=I1 (fun i hi=>hc a i hi) (fun i hi=>hc b i hi) h3;have h5:∀i,i<m→s a i=s b i:=fun i hi=>by
  have g1:=hs a i hi;have g2:=hs b i hi;have g3:(s a i+((Q*M:Nat):Int)).toNat=(s b i+((Q*M:Nat):Int)).toNat:=h4 i hi;omega
 refine⟨fun k=>(Dh (M+1) a k:Int)-(Dh (M+1) b k:Int),?_,fun k=>?_,fun i hi=>?_⟩
 ·apply X_
  intro hn;have:=Sw hL (m+1) a b (by omega) (by omega) fun k hk=>by
   apply X_;intro g;exact hn ⟨k,by omega,by show(Dh (M+1) a k:Int)-(Dh (M+1) b k:Int)≠0;omega⟩
  omega
 ·show((Dh (M+1) a k:Int)-(Dh (M+1) b k:Int)).natAbs≤M
  have g1:=PY hL a k;have g2:=PY hL b k;omega
 ·have e:∀k,Z i k*((Dh (M+1) a k:Int)-(Dh (M+1) b k:Int))=Z i k*(Dh (M+1) a k:Int)-Z i k*(Dh (M+1) b k:Int):=fun k=>Int.mul_sub _ _ _
  rw[Nx fun k _=>e k,Uh];have:=h5 i hi;show s a i-s b i=0;omega
theorem Tm (f:Nat→Rat)(g:Nat→Nat)(z:Nat→Rat){N:Nat}:∀ {M:Nat},(∀k,k<M→g k<N)→XN (fun j=>f j*XN (fun k=>if g k=j then z k else 0) M) N=XN (fun k=>f (g k)*z k) M
 |M,hg=>by
  have e:∀j,f j*XN (fun k=>if g k=j then z k else 0) M=XN (fun k=>f j*(if g k=j then z k else 0)) M:=fun j=>(J8 _ _ _).symm
  rw[XQ fun j _=>e j,FG];refine XQ fun k hk=>?_
  rw[An (k:=g k) (hg k hk) fun j _ hn=>by rw[M_ (v_ hn)];grind,N_ rfl]
theorem U5 {m n e C:Nat}{T0 T:Tb}(hs:T0.Sim m n T)(hT:T.Ok m n e)(he:e≤n)(D:Nat→Int)(Z:Nat→Nat→Int)(hD:∀ i,i<m→D i≠0)(hDZ:∀i j,i<m→j≤n→(D i:Rat)*T0.t i j=(Z i j:Rat)) (hZ:∀i j,i<m→j≤n→(Z i j).natAbs≤C)
  {i p:Nat} (hi:i<m) (hp:p≤n):∃a b:Int,b≠0∧a.natAbs≤(2*((m+1)*C)+1) ^ m∧b.natAbs≤(2*((m+1)*C)+1) ^ m∧T.t i p=O_ a b:=by
 let g:Nat→Nat:=fun k=>if k<m then T.b k else p
 have hg:∀k,k<m+1→g k<n+1:=fun k hk=>by
  show(if k<m then T.b k else p)<n+1
  split
  ·rename_i h;have:=hT.bas k h;omega
  ·omega
 obtain⟨z,⟨k0,hk0,hz0⟩,hzb,hz⟩:=wP (m:=m) (C:=C) (fun i k=>Z i (g k)) fun i k hi hk=>hZ i _ hi (by have:=hg k (by omega);omega)
 have TEI:T0.ker m n fun j=>XN (fun k=>if g k=j then(z k:Rat)else 0) (m+1):=fun i hi=>by
  rw[Tm (fun j=>T0.t i j) g (fun k=>(z k:Rat)) hg];have h1:=t_ (fun x:Int=>(x:Rat)) (hz i hi);rw[Ug,XQ (g:=fun k=>(D i:Rat)*(T0.t i (g k)*(z k:Rat))) fun k hk=>by rw[ZBC,←hDZ i _ hi (by have:=hg k hk;omega)];grind,J8]at h1;rcases Rat.mul_eq_zero.1 h1 with h |h
  ·exact absurd (ZBY.1 h) (hD i hi)
  ·exact h
 have TEI:=(hs _).1.1 TEI;have TBx:∀i,i<m→(z i:Rat) = -(T.t i p*(z m:Rat)):=fun i hi=>by
  have h1:=TEI i hi;rw[Tm (fun j=>T.t i j) g (fun k=>(z k:Rat)) hg]at h1;have h2:XN (fun k=>T.t i (g k)*(z k:Rat)) m+T.t i (g m)*(z m:Rat)=0:=h1;rw[show g m=p from M_ (zZ m),An (k:=i) hi fun k hk hn=>by
   show T.t i (if k<m then T.b k else p)*_=0;rw[N_ hk,hT.unit i k hi hk,M_ (v_ hn)];grind]at h2
  rw[show g i=T.b i from N_ hi,hT.unit i i hi hi,N_ rfl]at h2;grind
 have hm:z m≠0:=fun h=>by
  rcases ZAZ hk0 with k |k
  ·have:=TBx k0 k
   rw[h]at this;have:(z k0:Rat)=0:=by rw[this];have:(((0:Int):Int):Rat)=0:=rfl;grind
   exact hz0 (ZBY.1 this)
  ·exact hz0 (by rw[k];exact h)
 refine⟨-z i,z m,hm,by rw[Int.natAbs_neg];exact hzb i,hzb m,?_⟩;have h1:=TBx i hi;have h2:(z m:Rat)≠0:=fun h=>hm (ZBY.1 h)
 rw[ZBQ,ZEX,h1,ZAS];have:=Rat.mul_inv_cancel _ h2;grind
end Go.Ab.N
namespace Go.Ab.N
open Go Go.RowKit Go.Proofs
set_option maxRecDepth 10000
set_option maxHeartbeats 4000000
theorem Nr {v m:Nat}{A:Nat→Nat→Rat}{B G:Nat→Rat}(hB:∀ i,i<m→0≤B i){i0:Nat}(hi0:i0<m)(hA:∀k,k<v→A i0 k=G k) :
  ∃ (K:Nat) (S:Nat→Tb),S 0=JV v m A B G∧(∀k,k≤K→(S k).Ok m (2*v+2*m) (2*v+m)∧(JV v m A B G).Sim m (2*v+2*m) (S k)) ∧
   (∀k,k<K→∃p r,I5 (2*v+m) (S k) p∧JA (S k) (2*v+2*m) p m=some r∧S (k+1)=C2 (S k) r p)∧(∀j,j<2*v+m→0≤(S K).c j) ∧
   TAw v m A B G (fun k=>Jg m (2*v+2*m) (S K) k-Jg m (2*v+2*m) (S K) (v+k)) (fun i=>(S K).c (2*v+i)) ((S K).c (2*v+2*m)):=by
 have he:2*v+m≤2*v+2*m:=by omega
 have h0:=ap (v:=v) (m:=m) (A:=A) (B:=B) (G:=G) hB;obtain⟨K,hK,hs⟩:=my (JV v m A B G) he h0;have hok:=YT he h0 hs;have TAn:Mq (Bn m (2*v+2*m) (2*v+m) (JV v m A B G) K) (2*v+m)=none:=by
  cases he2:Mq (Bn m (2*v+2*m) (2*v+m) (JV v m A B G) K) (2*v+m)with
  |none=>rfl
  |some p =>
   exfalso;unfold Cn at hK;rw[he2]at hK;simp only at hK;cases hl:JA (Bn m (2*v+2*m) (2*v+m) (JV v m A B G) K) (2*v+2*m) p m with
   |some r=>rw[hl]at hK;cases hK
   |none=>exact wg (hok K (N' _)).2 (hok K (N' _)).1 (Fj he2) (Gi hl) hi0 hA
 refine⟨K,Bn m (2*v+2*m) (2*v+m) (JV v m A B G),rfl,hok,fun k hk=>?_,Fi TAn,dZ hB (hok K (N' _)).2 (hok K (N' _)).1 (Fi TAn)⟩;have h1:=hs k hk;unfold Cn at h1;cases hp:Mq (Bn m (2*v+2*m) (2*v+m) (JV v m A B G) k) (2*v+m)with
 |none=>rw[hp]at h1;cases h1
 |some p =>
  rw[hp]at h1;simp only at h1;cases hl:JA (Bn m (2*v+2*m) (2*v+m) (JV v m A B G) k) (2*v+2*m) p m with
  |none=>rw[hl]at h1;cases h1
  |some r =>
   rw[hl]at h1;simp only at h1;exact⟨p,r,Fj hp,hl,(ZEB h1).symm⟩
def Le (f:Nat→Rat):Nat→Int
 |0=>1
 |k+1=>Le f k*(f k).den
theorem WU (f:Nat→Rat):∀k,Le f k≠0
 |0=>by unfold Le;omega
 |k+1=>by
  unfold Le;have:=(f k).den_nz;exact Int.mul_ne_zero (WU f k) (by omega)
theorem WT (f:Nat→Rat){c:Nat}(h:∀k,qb (f k)≤c):∀k,bl (Le f k)≤k*c+3
 |0=>by
  have:bl (1:Int)≤3:=ZZ ⟨by omega,by omega⟩;show bl 1≤_;omega
 |k+1=>by
  unfold Le;have h1:=K5 (Le f k) (f k).den;have h2:=WT f h k;have h3:=K8 (f k);have h4:=h k;have e:(k+1)*c=k*c+c:=ZCs k c;omega
theorem GL (f:Nat→Rat):∀k j,j<k→∃z:Int,(Le f k:Rat)*f j=(z:Rat)
 |k+1,j,hj=>by
  unfold Le;by_cases e:j=k
  ·subst e
   refine⟨Le f j*(f j).num,?_⟩;have hd:((f j).den:Rat)≠0:=by
    intro h;exact(f j).den_nz (by exact_mod_cast h)
   have hn:((f j).den:Rat)*f j=((f j).num:Rat):=by
    have h1:((f j).num:Rat)/(((f j).den:Int):Rat)=f j:=(ZBQ _ _).symm.trans (ZCy (f j));have h2:((((f j).den:Nat):Int):Rat)=((f j).den:Rat):=rfl;rw[h2]at h1;have h3:=ZCl (a:=((f j).num:Rat)) hd;rw[h1]at h3;rw[ZDm];exact h3
   rw[ZBC,ZBC,Rat.mul_assoc];show(Le f j:Rat)*((((f j).den:Nat):Rat)*f j)=_;rw[hn]
  ·obtain⟨z,hz⟩:=GL f k j (by omega)
   refine⟨z*(f k).den,?_⟩;rw[ZBC,ZBC,←hz];grind
theorem Mr {v m c:Nat}{A:Nat→Nat→Rat}{B G:Nat→Rat}{T:Tb}(hs:(JV v m A B G).Sim m (2*v+2*m) T) (hT:T.Ok m (2*v+2*m) (2*v+m)) (hm:m+1<100000000) (hA:∀i k,qb (A i k)≤c) (hB:∀i,qb (B i)≤c) {i p:Nat} (hi:i<m) (hp:p≤2*v+2*m) :
  qb (T.t i p)≤m*((v+2)*c+5)+1:=by
 let f:Nat→Nat→Rat:=fun i k=>if k<v then A i k else B i
 have hf:∀i k,qb (f i k)≤c:=fun i k=>by
  show qb (if k<v then A i k else B i)≤c
  split
  ·exact hA i k
  ·exact hB i
 let D:Nat→Int:=fun i=>Le (f i) (v+1)
 have hD:∀i,D i≠0:=fun i=>WU _ _
 have hDb:∀i,bl (D i)≤(v+1)*c+3:=fun i=>WT _ (hf i) _
 have hint:∀i j,j≤2*v+2*m→∃z:Int,(D i:Rat)*(JV v m A B G).t i j=(z:Rat)∧bl z≤(v+2)*c+3:=fun i j _=>by
  have he:(v+2)*c=(v+1)*c+c:=ZCs (v+1) c;have hz:∀x:Rat,qb x≤c→(∃z:Int,(D i:Rat)*x=(z:Rat))→∃z:Int,(D i:Rat)*x=(z:Rat)∧bl z≤(v+2)*c+3:=fun x hx ⟨z,hz⟩=>by
   refine⟨z,hz,?_⟩;have h1:z*x.den=D i*x.num:=by
    have h2:((x.num:Int):Rat)/(((x.den:Nat):Int):Rat)=x:=(ZBQ _ _).symm.trans (ZCy x);have hd:(((x.den:Nat):Int):Rat)≠0:=fun h=>x.den_nz (by have:=ZBY.1 h;omega)
    have h3:=ZCl (a:=((x.num:Int):Rat)) hd;rw[h2]at h3;have h4:((z*x.den:Int):Rat)=((D i*x.num:Int):Rat):=by
     rw[ZBC,ZBC,←hz,←h3];grind
    exact Rat.intCast_inj.1 h4
   have h5:z.natAbs≤(D i*x.num).natAbs:=D2 (m:=(x.den:Int)) (by have:=x.den_nz;omega) h1.symm;have h6:=Jd h5;have h7:=K5 (D i) x.num;have h8:=hDb i;have h9:=K0 x;omega
  have hd1:bl (D i)≤(v+2)*c+3:=by have:=hDb i;omega
  show ∃z:Int,(D i:Rat)*(if j<v then A i j else if j<2*v then -A i (j-v)else if j=2*v+i then 1 else if j=2*v+2*m then B i else 0)=(z:Rat)∧_;by_cases h1:j<v
  ·rw[N_ h1]
   exact hz _ (hA i j) (by have:=GL (f i) (v+1) j (by omega);rwa[show f i j=A i j from N_ h1]at this)
  rw[M_ h1];by_cases h2:j<2*v
  ·rw[N_ h2]
   obtain⟨z,q1,q2⟩:=hz _ (hA i (j-v)) (by have:=GL (f i) (v+1) (j-v) (by omega);rwa[show f i (j-v)=A i (j-v)from N_ (by omega)]at this);exact⟨-z,by rw[ZEX,←q1];grind,by rw[iL];exact q2⟩
  rw[M_ h2];by_cases h3:j=2*v+i
  ·rw[N_ h3];exact⟨D i,by grind,hd1⟩
  rw[M_ h3];by_cases h4:j=2*v+2*m
  ·rw[N_ h4]
   exact hz _ (hB i) (by have:=GL (f i) (v+1) v (by omega);rwa[show f i v=B i from M_ (zZ v)]at this)
  ·rw[M_ h4]
   refine⟨0,by have:(((0:Int):Int):Rat)=0:=rfl;grind,?_⟩;have:bl (0:Int)≤3:=ZZ ⟨by omega,by omega⟩;omega
 obtain⟨L,hL⟩:∃L,L=(v+2)*c+3:=⟨_,rfl⟩
 obtain⟨C,hC⟩:∃C:Nat,(C:Int)=pw L:=⟨(pw L).toNat,by have:=JI L;omega⟩
 let Z:Nat→Nat→Int:=fun i j=>if h:j≤2*v+2*m then(hint i j h).choose else 0
 have hZ1:∀i j,j≤2*v+2*m→(D i:Rat)*(JV v m A B G).t i j=(Z i j:Rat)∧bl (Z i j)≤L:=fun i j h=>by
  have hz:Z i j=(hint i j h).choose:=dif_pos h;rw[hz,hL];exact(hint i j h).choose_spec
 have hZC:∀i j,j≤2*v+2*m→(Z i j).natAbs≤C:=fun i j h=>by
  have h1:=On (Z i j);have h2:=CO (hZ1 i j h).2;omega
 obtain⟨a,b,hb,ha1,hb1,e⟩:=U5 (C:=C) hs hT (by omega) D Z (fun i _=>hD i) (fun i j _ h=>(hZ1 i j h).1) (fun i j _ h=>hZC i j h) hi hp;have hM:(((2*((m+1)*C)+1) ^ m:Nat):Int)<pw (m*(L+2)+1):=by
  have hC1:1≤C:=by have:=JI L;omega
  have h1:((2*((m+1)*C)+1:Nat):Int)≤pw (L+2):=by
   rw[show L+2=2+L by omega,DS,←hC];have h2:2*((m+1)*C)+1≤1000000000000000000*C:=by
    have:(m+1)*C≤100000000*C:=Nat.mul_le_mul_right C (by omega);omega
   have h3:pw 2=1000000000000000000:=by simp[pw]
   rw[h3];have h4:=Int.ofNat_le.2 h2;rw[ZBK 1000000000000000000 C]at h4;exact h4
  generalize 2*((m+1)*C)+1=W at *;have h4:∀k,((W ^ k:Nat):Int)≤pw (k*(L+2)):=fun k=>by
   induction k with
   |zero=>simp[pw]
   |succ k ih =>
    rw[ZBz,show(k+1)*(L+2)=k*(L+2)+(L+2)from ZCs _ _,DS,ZBK];exact Int.mul_le_mul ih h1 (by omega) (by have:=JI (k*(L+2));omega)
  have h5:=h4 m;have h6:=JI (m*(L+2));have h7:pw (m*(L+2)+1)=1000000000*pw (m*(L+2)):=rfl;omega
 have TFu:m*(L+2)+1=m*((v+2)*c+5)+1:=by rw[hL]
 rw[e,←TFu];exact Zk _ _ _ (by omega) (GE (by omega)) (GE (by omega))
theorem Hj {f:Nat→Rat}{E:Nat}:∀ {m:Nat},(∀i,i<m→qb (f i)≤E)→qb (XN f m)≤m*(E+1)+1
 |0,_=>by
  have:=Bz;show qb 0≤_;omega
 |m+1,h=>by
  unfold XN;have h1:=Hj (f:=f) (m:=m) fun i hi=>h i (by omega)
  have h2:=h m (by omega);have h3:=A8 (XN f m) (f m);rw[ZCs];omega
theorem PX {v m c E:Nat}{A:Nat→Nat→Rat}{B G:Nat→Rat}{T:Tb}(hs:(JV v m A B G).Sim m (2*v+2*m) T) (hT:T.Ok m (2*v+2*m) (2*v+m)) (hG:∀k,qb (G k)≤c) (hE:∀i p,i<m→p≤2*v+2*m→qb (T.t i p)≤E) {p:Nat} (hp:p≤2*v+2*m) :
  qb (T.c p)≤c+1+(m*(c+1+E+1)+1)+1:=by
 have h0:∀j,qb ((JV v m A B G).c j)≤c+1:=fun j=>by
  show qb (if j<v then -G j else if j<2*v then G (j-v)else 0)≤c+1;have:=Bz
  split
  ·rw[Cs];have:=hG j;omega
  ·split
   ·have:=hG (j-v);omega
   ·omega
 rw[←GK hs hT (by omega) hp];have h1:=BS ((JV v m A B G).c p) (XN (fun i=>(JV v m A B G).c (T.b i)*T.t i p) m);have h2:=h0 p;have h3:=Hj (f:=fun i=>(JV v m A B G).c (T.b i)*T.t i p) (E:=c+1+E) (m:=m) fun i hi=>by
  have a1:=Qo ((JV v m A B G).c (T.b i)) (T.t i p);have a2:=h0 (T.b i);have a3:=hE i p hi hp;omega
 omega
end Go.Ab.N
namespace Go.Ab.N
open Go Go.RowKit Go.Proofs
noncomputable section
set_option maxRecDepth 10000
set_option maxHeartbeats 4000000
open Classical
structure Lay where
 x:Nat
 vx:Nat
 tid:Nat
 tv:Nat
 bid:Nat
 bv:Nat
 cid:Nat
 cv:Nat
 rid:Nat→Nat
 rv:Nat→Nat
def Av (n:Nat)(f:Nat→Rat):Nat→Rat:=fun k=>if k≤n then f k else 0
theorem EY {n:Nat}(f:Nat→Rat){k:Nat}(h:k≤n):Av n f k=f k:=N_ h
theorem Ir {n:Nat}{f g:Nat→Rat}(h:∀k,k≤n→f k=g k):Av n f=Av n g:=funext fun k=>by
 unfold Av
 split
 ·exact h k (by assumption)
 ·rfl
theorem C7 {n:Nat}(f:Nat→Rat){k:Nat}(hk:k≤n)(j:Nat)(h:j<4):Xl (Av n f) (k*4+j)=(qC (f k)).getD j .any:=by rw[QA _ _ _ h,EY f hk]
theorem BL {n:Nat}(f:Nat→Rat){k:Nat}(hk:k≤n):Xl (Av n f) (k*4)=(qC (f k)).getD 0 .any:=C7 f hk 0 (by omega)
theorem TK {n:Nat}(f:Nat→Rat){k:Nat}(hk:k≤n)(x:Rat):CE (Xl (Av n f)) (k*4) (qC x)=Xl (Av n (fun i=>if i=k then x else f i)):=by
 rw[Dq];congr 1;funext i;unfold Av;show(if i=k then x else if i≤n then f i else 0)=if i≤n then(if i=k then x else f i)else 0;by_cases h:i=k
 ·rw[N_ h,N_ (h▸hk),N_ h]
 ·rw[M_ h,M_ h]
theorem mU {n c:Nat}(f g:Nat→Rat)(hc:c≤n):(fun k=>Av n f k-Av n f c*Av n g k)=Av n (fun k=>f k-f c*g k):=funext fun k=>by
 rw[EY f hc];unfold Av
 split
 ·rfl
 ·grind
def Ds (Y:Lay)(n:Nat)(i:Nat)(f:Nat→Rat):AO:=.row (Y.rv i) ((n+1)*4) (Xl (Av n f))
def DI (Y:Lay)(n:Nat)(f:Nat→Rat):AO:=.row Y.cv ((n+1)*4) (Xl (Av n f))
def DD (Y:Lay)(m:Nat)(b:Nat→Nat):AO:=.row Y.bv m (fun i=>I ((if i<m then b i else 0:Nat)))
def tO (Y:Lay)(m n:Nat):AO:=.row Y.tv m (fun i=>.osl (Y.rid i) (Y.rv i) 4 0 (n+1))
def xO (Y:Lay)(v m n:Nat):AO:=.row Y.vx 6 (Xf [I v,I m,I n,.osl Y.tid Y.tv 1 0 m,.osl Y.cid Y.cv 4 0 (n+1),.osl Y.bid Y.bv 1 0 m])
structure Lay.Ok (Y:Lay)(H:List AO)(v m n:Nat):Prop where
 x:H[Y.x]?=some (xO Y v m n)
 t:H[Y.tid]?=some (tO Y m n)
 bl:Y.bid<H.length
 cl:Y.cid<H.length
 rl:∀i,i<m→Y.rid i<H.length
 xb:Y.x≠Y.bid
 xc:Y.x≠Y.cid
 xr:∀i,i<m→Y.x≠Y.rid i
 tb:Y.tid≠Y.bid
 tc:Y.tid≠Y.cid
 tr:∀i,i<m→Y.tid≠Y.rid i
 bc:Y.bid≠Y.cid
 br:∀i,i<m→Y.bid≠Y.rid i
 cr:∀i,i<m→Y.cid≠Y.rid i
 rr:∀i j,i<m→j<m→Y.rid i=Y.rid j→i=j
def HR (H:List AO)(Y:Lay)(n:Nat)(f:Nat→Nat→Rat):Nat→List AO
 |0=>H
 |i+1=>(HR H Y n f i).set (Y.rid i) (Ds Y n i (f i))
def HT (H:List AO)(Y:Lay)(m n:Nat)(T:Tb):List AO:=((HR H Y n T.t m).set Y.cid (DI Y n T.c)).set Y.bid (DD Y m T.b)
section
variable {H:List AO} {Y:Lay} {v m n:Nat}
theorem LO (f:Nat→Nat→Rat):∀i,(HR H Y n f i).length=H.length
 |0=>rfl
 |i+1=>by unfold HR;rw[V_,LO f i]
theorem Em (T:Tb):(HT H Y m n T).length=H.length:=by unfold HT;rw[V_,V_,LO]
theorem Wt (f:Nat→Nat→Rat){a:Nat}:∀i,(∀j,j<i→a≠Y.rid j)→(HR H Y n f i)[a]?=H[a]?
 |0,_=>rfl
 |i+1,h=>by unfold HR;rw[L_ (v_ (h i (by omega))),Wt f i fun j hj=>h j (by omega)]
theorem sI (f:Nat→Nat→Rat)(h:Y.Ok H v m n){k:Nat}:∀i,i≤m→k<i→(HR H Y n f i)[Y.rid k]?=some (Ds Y n k (f k))
 |i+1,hi,hk=>by
  unfold HR;by_cases e:k=i
  ·subst e;rw[U' (by rw[LO];exact h.rl k (by omega))]
  ·rw[L_ (fun g=>e (h.rr i k (by omega) (by omega) g).symm),sI f h i (by omega) (by omega)]
theorem gg (h:Y.Ok H v m n)(T:Tb):(HT H Y m n T)[Y.x]?=some (xO Y v m n):=by
 unfold HT;rw[L_ (v_ h.xb),L_ (v_ h.xc),Wt _ _ fun j hj=>h.xr j hj,h.x]
theorem oq (h:Y.Ok H v m n)(T:Tb):(HT H Y m n T)[Y.tid]?=some (tO Y m n):=by
 unfold HT;rw[L_ (v_ h.tb),L_ (v_ h.tc),Wt _ _ fun j hj=>h.tr j hj,h.t]
theorem RH (h:Y.Ok H v m n)(T:Tb):(HT H Y m n T)[Y.bid]?=some (DD Y m T.b):=by
 unfold HT;rw[U' (by rw[V_,LO];exact h.bl)]
theorem LP (h:Y.Ok H v m n)(T:Tb):(HT H Y m n T)[Y.cid]?=some (DI Y n T.c):=by
 unfold HT;rw[L_ h.bc,U' (by rw[LO];exact h.cl)]
theorem Lc (h:Y.Ok H v m n)(T:Tb){i:Nat}(hi:i<m):(HT H Y m n T)[Y.rid i]?=some (Ds Y n i (T.t i)):=by
 unfold HT;rw[L_ (h.br i hi),L_ (h.cr i hi),sI _ h m (N' _) hi]
theorem jL {L M:List AO}(hl:L.length=M.length)(h:∀a,a<L.length→L[a]?=M[a]?):L=M:=ZAg fun a=>by
 by_cases ha:a<L.length
 ·exact h a ha
 ·rw[j_ (by omega),j_ (by omega)]
theorem Dy (T:Tb){a:Nat}(hb:a≠Y.bid)(hc:a≠Y.cid)(hr:∀i,i<m→a≠Y.rid i):(HT H Y m n T)[a]?=H[a]?:=by
 unfold HT;rw[L_ (v_ hb),L_ (v_ hc),Wt _ _ hr]
theorem RI (h:Y.Ok H v m n)(T:Tb){i:Nat}(hi:i<m)(f:Nat→Rat):(HT H Y m n T).set (Y.rid i) (Ds Y n i f)=HT H Y m n { T with t:=fun j=>if j=i then f else T.t j }:=by
 refine jL (by rw[V_,Em,Em]) fun a ha=>?_
 by_cases e:a=Y.rid i
 ·subst e
  rw[U' (by rw[Em];exact h.rl i hi),Lc h _ hi];simp
 rw[L_ (v_ e)];by_cases eb:a=Y.bid
 ·subst eb;rw[RH h,RH h]
 by_cases ec:a=Y.cid
 ·subst ec;rw[LP h,LP h]
 by_cases er:∃j,j<m∧a=Y.rid j
 ·obtain⟨j,hj,rfl⟩:=er
  rw[Lc h _ hj,Lc h _ hj];have:j≠i:=fun g=>e (by rw[g])
  simp only[M_ this]
 ·rw[Dy T eb ec fun j hj g=>er ⟨j,hj,g⟩,Dy _ eb ec fun j hj g=>er ⟨j,hj,g⟩]
theorem RF {f g:Nat→Nat→Rat}(h:∀i k,i<m→k≤n→f i k=g i k):∀i,i≤m→HR H Y n f i=HR H Y n g i
 |0,_=>rfl
 |i+1,hi=>by
  unfold HR Ds;rw[RF h i (by omega),Ir fun k hk=>h i k (by omega) hk]
theorem ga {T U:Tb}(h:T.Eqv m n U):HT H Y m n T=HT H Y m n U:=by
 unfold HT DI DD;rw[RF h.1 m (N' _),Ir h.2.1];have:(fun i=>I ((if i<m then T.b i else 0:Nat)))=fun i=>I ((if i<m then U.b i else 0:Nat)):=funext fun i=>by
  by_cases hi:i<m
  ·rw[N_ hi,N_ hi,h.2.2 i hi]
  ·rw[M_ hi,M_ hi]
 rw[this]
theorem ge (h:Y.Ok H v m n)(T:Tb)(f:Nat→Rat):(HT H Y m n T).set Y.cid (DI Y n f)=HT H Y m n { T with c:=f }:=by
 unfold HT;rw[List.set_comm _ _ h.bc,ZBl]
theorem gc (h:Y.Ok H v m n)(T:Tb)(f:Nat→Nat):(HT H Y m n T).set Y.bid (DD Y m f)=HT H Y m n { T with b:=f }:=by
 unfold HT;rw[ZBl]
end
def KH (H:List AO):Prop:=∀o∈H,∀m,H.length≤m→XX m o
theorem Dd {H:List AO}{a:Nat}{o:AO}(h:KH H)(ho:∀m,H.length≤m→XX m o):KH (H.set a o):=fun p hp m hm=>by
 rw[V_]at hm;rcases ZAN hp with g |g
 ·exact h p g m hm
 ·rw[g];exact ho m hm
theorem iI {H:List AO}{Y:Lay}{n:Nat}(f:Nat→Nat→Rat)(h:KH H):∀i,KH (HR H Y n f i)
 |0=>h
 |i+1=>Dd (iI f h i) fun m _=>Ae _ _ _ _
theorem DE {H:List AO}{Y:Lay}{m n:Nat}(T:Tb)(h:KH H):KH (HT H Y m n T) :=
 Dd (Dd (iI _ h m) fun m _=>Ae _ _ _ _) fun k _=>fun j _=>X4 (X9 _)
def QY (H:List AO):Prop:=∀o∈H,o≠.D_
theorem ZK {H:List AO}{a:Nat}{o:AO}(h:QY H)(ho:o≠.D_):QY (H.set a o):=fun p hp=>by
 rcases ZAN hp with g |g
 ·exact h p g
 ·rw[g];exact ho
theorem WN {H:List AO}{Y:Lay}{n:Nat}(f:Nat→Nat→Rat)(h:QY H):∀i,QY (HR H Y n f i)
 |0=>h
 |i+1=>ZK (WN f h i) (by simp[Ds])
theorem PQ {H:List AO}{Y:Lay}{m n:Nat}(T:Tb)(h:QY H):QY (HT H Y m n T) :=
 ZK (ZK (WN _ h m) (by simp[DI])) (by simp[DD])
theorem Qg {H:List AO}(h:QY H)(id:Nat):H[id]?≠some .D_:=fun g=>h _ (ZAC g) rfl
theorem KM {H l:List AO}(h:QY H)(hl:QY l):QY (H ++ l):=fun o ho=>(m_.1 ho).elim (h o) (hl o)
theorem MP (b:Rat):b⁻¹=O_ b.den b.num:=by rw[Rat.inv_def]
theorem VX (b:Rat):qb b⁻¹≤qb b:=by
 rw[MP];exact Zk _ _ _ (VY b) (K8 b) (K0 b)
theorem BR (a b:Rat):qb (a/b)≤qb a+qb b:=by
 rw[ZAS];have:=Qo a b⁻¹;have:=VX b;omega
theorem LB (a b:Rat)(hb0:b≠0)(ha:qb a≤rm)(hb:qb b≤rm):Fn Tryz.prog 193 [qA a,qA b] (qA (a/b)):=by
 obtain⟨R,hR⟩:∃R,R=qA (a/b):=⟨_,rfl⟩
 have sR:A_ R:=hR▸Xa _;have nb:=EH b;have g2:(b=0)=False:=Q' hb0;have c1:=DJ b;have hn0:b.num≠0:=fun h=>hb0 (ZEH.1 h)
 have c2:=Fr b.den b.num hn0 (by rw[Int.gcd_comm];exact b.reduced);rw[←MP]at c2;have qi:=VX b;have c3:=B5 a b⁻¹ ha (by omega);rw[←ZAS]at c3;rw[←hR];refine Fq Tryz.call193 Tryz.func193 5 [] [] [] (by simp[wS]) (Xk ?_);simp(maxSteps:=999999)only[P',↓X6,wF,seval];simp(disch:=omega)only[nb,g2,↓Xd,wG,seval];refine X2 c1 rfl ?_;simp(disch:=omega)only[qA,qC,↓Xd,wG,seval];refine X2 c2 rfl ?_;simp(disch:=omega)only[qA,qC,↓Xd,wG,seval];refine X2 c3 rfl ?_;simp(disch:=omega)only[qA,qC,↓Xd,wG,seval];exact Jh rfl XY rfl rfl rfl sR (hR.trans rfl)
def R4 (T:Tb)(r p k:Nat):Tb:={ T with t:=fun i j=>if i=r∧j<k then T.t r j/T.t r p else T.t i j }
def HN (T:Tb)(r p k:Nat):Tb:={ T with t:=fun i=>if i<k∧i≠r then fun j=>T.t i j-T.t i p*T.t r j else T.t i }
theorem y6 (T:Tb)(r p:Nat):R4 T r p 0=T:=by
 unfold R4;have:(fun i j=>if i=r∧j<0 then T.t r j/T.t r p else T.t i j)=T.t:=funext fun i=>funext fun j=>M_ fun h=>ZAG _ h.2
 rw[this]
theorem uX (T:Tb)(r p k j:Nat)(h:k≤j):(R4 T r p k).t r j=T.t r j:=M_ fun g=>by omega
theorem jp (T:Tb)(r p k:Nat):({ R4 T r p k with t:=fun j=>if j=r then(fun i=>if i=k then T.t r k/T.t r p else(R4 T r p k).t r i)else(R4 T r p k).t j }:Tb)=R4 T r p (k+1):=by
 unfold R4;have:(fun j=>if j=r then(fun i=>if i=k then T.t r k/T.t r p else if r=r∧i<k then T.t r i/T.t r p else T.t r i)else fun i=>if j=r∧i<k then T.t r i/T.t r p else T.t j i)=fun i j=>if i=r∧j<k+1 then T.t r j/T.t r p else T.t i j:=funext fun j=>funext fun i=>by
  by_cases h:j=r
  ·rw[N_ h]
   by_cases h2:i=k
   ·rw[N_ h2,N_ ⟨h,by omega⟩,h2]
   ·rw[M_ h2]
    by_cases h3:i<k
    ·rw[N_ ⟨rfl,h3⟩,N_ ⟨h,by omega⟩]
    ·rw[M_ (fun g=>h3 g.2),M_ (fun g=>by omega),h]
  ·rw[M_ h,M_ (fun g=>h g.1),M_ (fun g=>h g.1)]
 exact t_ (fun t=>(⟨t,T.c,T.b⟩:Tb)) this
theorem yH (T:Tb)(r p:Nat):HN T r p 0=T:=by
 unfold HN;have:(fun i=>if i<0∧i≠r then(fun j=>T.t i j-T.t i p*T.t r j)else T.t i)=T.t:=funext fun i=>M_ fun h=>ZAG _ h.1
 rw[this]
theorem xh (T:Tb)(r p k i:Nat)(h:k≤i):(HN T r p k).t i=T.t i:=M_ fun g=>by omega
theorem tS (T:Tb)(r p k:Nat):(HN T r p k).t r=T.t r:=M_ fun g=>g.2 rfl
theorem nF (T:Tb)(r p:Nat):HN T r p r=HN T r p (r+1):=by
 unfold HN;have:(fun i=>if i<r∧i≠r then(fun j=>T.t i j-T.t i p*T.t r j)else T.t i)=fun i=>if i<r+1∧i≠r then(fun j=>T.t i j-T.t i p*T.t r j)else T.t i:=funext fun i=>by
  by_cases h:i<r
  ·rw[N_ ⟨h,by omega⟩,N_ ⟨by omega,by omega⟩]
  ·rw[M_ (fun g=>h g.1),M_ (fun g=>by omega)]
 rw[this]
theorem nG (T:Tb)(r p k:Nat)(h:k≠r):({ HN T r p k with t:=fun j=>if j=k then(fun i=>T.t k i-T.t k p*T.t r i)else(HN T r p k).t j }:Tb)=HN T r p (k+1):=by
 unfold HN;have:(fun j=>if j=k then(fun i=>T.t k i-T.t k p*T.t r i)else if j<k∧j≠r then(fun i=>T.t j i-T.t j p*T.t r i)else T.t j)=fun i=>if i<k+1∧i≠r then(fun j=>T.t i j-T.t i p*T.t r j)else T.t i:=funext fun j=>by
  by_cases h2:j=k
  ·rw[N_ h2,N_ ⟨by omega,by omega⟩,h2]
  ·rw[M_ h2]
   by_cases h3:j<k∧j≠r
   ·rw[N_ h3,N_ ⟨by omega,h3.2⟩]
   ·rw[M_ h3,M_ (fun g=>h3 ⟨by omega,g.2⟩)]
 exact t_ (fun t=>(⟨t,T.c,T.b⟩:Tb)) this
theorem zn {m:Nat}(b:Nat→Nat)(r p:Nat)(hr:r<m):Ek (fun i=>I ((if i<m then b i else 0:Nat))) r (I p)=fun i=>I ((if i<m then(if i=r then p else b i)else 0:Nat)):=by
 funext i;unfold Ek;by_cases h:i=r
 ·rw[N_ h,h,N_ hr,N_ rfl]
 ·rw[M_ h,M_ h]
theorem yw {T:Tb}{r p n Q:Nat}(h:∀k,k≤n→qb (T.t r k)≤Q) (hp:p≤n) (k:Nat) (hk:k≤n):qb ((R4 T r p (n+1)).t r k)≤2*Q:=by
 have e:(R4 T r p (n+1)).t r k=T.t r k/T.t r p:=N_ ⟨rfl,by omega⟩;rw[e];have:=BR (T.t r k) (T.t r p);have:=h k hk;have:=h p hp;omega
theorem jo (T:Tb)(r p k:Nat){i:Nat}(h:i≠r):(R4 T r p k).t i=T.t i:=funext fun j=>M_ fun g=>h g.1
theorem lU (H:List AO)(Y:Lay)(v m n r p:Nat)(T:Tb)(hY:Y.Ok H v m n)(hH:KH H)(hB:QY H)(hr:r<m)(hp:p≤n)(hd:T.t r p≠0)(hn:n<100000)(hm:m<100000){Q:Nat}(hQ:Q≤15000000)(hq:∀i k,i<m→k≤n→qb (T.t i k)≤Q) (hqc:∀k,k≤n→qb (T.c k)≤Q) :
  G' Tryz.prog 203 [.ref Y.x Y.vx 0,I r,I p] (HT H Y m n T) (.tup []) (HT H Y m n (C2 T r p)):=by
 have hlen:=fun T=>Em (H:=H) (Y:=Y) (m:=m) (n:=n) T
 have hx:=fun T l=>Qa (gg hY T) l
 have ht:=fun T l=>Qa (oq hY T) l
 have hrw:=fun T l=>Qa (Lc hY T hr) l
 unfold xO at hx;unfold tO at ht;unfold Ds at hrw;obtain⟨n0,hn0⟩:∃n0,H.length=n0:=⟨_,rfl⟩
 have e0:=fun T=>BG (H:=HT H Y m n T) ((hlen T).trans hn0)
 have e1:=fun T=>FM (H:=HT H Y m n T) ((hlen T).trans hn0)
 have el:=fun T=>Zz (H:=HT H Y m n T) ((hlen T).trans hn0)
 have es0:=fun T=>CK (H:=HT H Y m n T) ((hlen T).trans hn0)
 have es1:=fun T=>GX (H:=HT H Y m n T) ((hlen T).trans hn0)
 have et1:=fun T=>Af (H:=HT H Y m n T) ((hlen T).trans hn0)
 have x0:=hx T [];have t0:=ht T [];have r0:=hrw T [];rw[ZAK]at x0 t0 r0;have a1:=C7 (T.t r) hp;have a2:=BL (T.t r) hp;have l0:=(hlen T).trans hn0;refine G'.TAo (fn:=Tryz.f203) Tryz.call203 Tryz.func203 rfl mixed 11 [27,28,29,50,51,52] [4,5003,5006,5008,5009,12,13003,13007,13010] [12] (by kernel_rfl) (L' rfl) (X4 (Z0 (by simp))) (fun o ho=>DE _ hH o ho _ (by rw[hlen,hlen];exact N' _)) (Xk ?_);simp(disch:=omega)only[P',x0,t0,r0,hx,ht,hrw,e0,el,es0,a1,a2,l0,qC,P_,↓Xd,wG,seval];refine Xi (fun k:Nat=>⟨11,[27,28,29,50,51,52],[.ref Y.x Y.vx 0,I r,I p,.any,.any,.any,.ref n0 0 0,.any,.any,.any,.any],[(27,.osl (Y.rid r) (Y.rv r) 4 0 (n+1)),(28,I (n+1:Nat)),(29,I k)],HT H Y m n (R4 T r p k) ++ [.row 0 4 (Xf (qC (T.t r p)))]⟩) (fun k=>k≤n+1) (fun k=>n+1-k) 0 (by omega)
  (Xh rfl (by simp[Xm,I]) (by simp[Xu,XJ,I]) (by rw[y6];rfl)) ?_
 have hb1:∀T',∀o∈HT H Y m n T' ++ [.row 0 4 (Xf (qC (T.t r p)))],XX (n0+1) o:=fun T' o ho=>by
  rcases m_.1 ho with h |h
  ·exact DE _ hH o h _ (by rw[hlen];omega)
  ·rw[a_.1 h];exact QN (by simp[qC,Xc,X5])
 have xlt:Y.x<n0:=hn0▸(R_.1 hY.x).1;have rlt:=hY.rl r hr;have bx:J9 (n0+1) (.ref Y.x Y.vx 0)=True:=K_ (QX (by omega));have bf:J9 (n0+1) (.ref n0 0 0)=True:=K_ (QX (by omega));have br:J9 (n0+1) (.osl (Y.rid r) (Y.rv r) 4 0 (n+1))=True:=K_ (JB (by omega));intro k hk next
 by_cases hk2:k<n+1
 ·have w1:=C7 ((R4 T r p k).t r) (show k≤n by omega)
  have w2:=BL ((R4 T r p k).t r) (show k≤n by omega);rw[uX T r p k k (N' _)]at w1 w2;have q1:=hq r k hr (by omega);have q2:=hq r p hr hp;have c1:=LB (T.t r k) (T.t r p) hd (by unfold rm;omega) (by unfold rm;omega);have hst:=TK ((R4 T r p k).t r) (show k≤n by omega) (T.t r k/T.t r p);have hsr:=RI hY (R4 T r p k) hr (fun i=>if i=k then T.t r k/T.t r p else(R4 T r p k).t r i);rw[jp]at hsr;unfold Ds at hsr;rw[←hst]at hsr;have TE2:Y.rid r<(HT H Y m n (R4 T r p k)).length:=by rw[hlen];exact rlt
  have esr:=Z2 TE2;have nx:=next (k+1)
  refine Xk ?_;simp(disch:=omega)only[hx,ht,hrw,e0,e1,el,es0,es1,w1,w2,qC,P_,↓Xd,wG,seval];refine X2 c1 rfl ?_;simp(disch:=omega)only[esr,hrw,qC,P_,↓Xd,wG,seval];exact nx _ (by omega) (by omega) (XD (m:=n0+1) (by show(HT H Y m n T).length≤n0+1;rw[hlen];omega) rfl (by simp[Xm,I]) (by simp[Xu,XJ,I]) (by rw[←hsr];exact Af (by rw[V_,hlen];exact hn0) _ _) (by simp[XK,bx,bf]) (by simp[XK,br]) (hb1 _))
 obtain rfl:k=n+1:=by omega
 clear next
 refine Xk ?_;simp(disch:=omega)only[hx,ht,el,P_,↓Xd,wG,seval];obtain⟨T1,hT1⟩:∃T1,T1=R4 T r p (n+1):=⟨_,rfl⟩
 have btt:J9 (n0+1) (.osl Y.tid Y.tv 1 0 m)=True:=K_ (JB (by have:=(R_.1 hY.t).1;omega));refine Xi (fun k:Nat=>⟨11,[27,28,29,50,51,52],[.ref Y.x Y.vx 0,I r,I p,.any,.any,.any,.ref n0 0 0,.any,.any,.any,.any],[(50,.osl Y.tid Y.tv 1 0 m),(51,I m),(52,I k)],HT H Y m n (HN T1 r p k) ++ [.row 0 4 (Xf (qC (T.t r p)))]⟩) (fun k=>k≤m) (fun k=>m-k) 0 (by omega)
  (Xh rfl (by simp[Xm,I]) (by simp[Xu,XJ,I]) (by rw[yH,hT1];rfl)) ?_
 intro k hk next
 have B':∀ (T':Tb) (a va:Nat) (f:Nat→Rat),a≠Y.rid r→(HT H Y m n T')[a]?=some (.row va ((n+1)*4) (Xl (Av n f)))→(∀j,j≤n→qb (f j)≤2*Q)→T'.t r=T1.t r →
   G' Tryz.prog 200 [.osl a va 4 0 (n+1),.osl (Y.rid r) (Y.rv r) 4 0 (n+1),I p] (HT H Y m n T' ++ [.row 0 4 (Xf (qC (T.t r p)))]) (.tup []) ((HT H Y m n T').set a (.row va ((n+1)*4) (Xl (Av n (fun j=>f j-f p*T1.t r j)))) ++ [.row 0 4 (Xf (qC (T.t r p)))]):=fun T' a va f hab ha hf hr'=>by
  have h1:=aw (HT H Y m n T' ++ [.row 0 4 (Xf (qC (T.t r p)))]) a (Y.rid r) va (Y.rv r) (n+1) (Av n f) (Av n (T1.t r)) p hab (Qa ha _) (by rw[←hr'];exact hrw T' _) (by omega) (by omega) (Q:=2*Q)
   (fun j hj=>by rw[EY f (by omega)];exact hf j (by omega)) (fun j hj=>by rw[EY _ (by omega),hT1];exact yw (fun k hk=>hq r k hr hk) hp j (by omega)) (by omega)
   (fun o ho q hq'=>by
    rw[el]at hq';rcases m_.1 ho with h |h
    ·exact DE _ hH o h _ (by rw[hlen];omega)
    ·rw[a_.1 h];exact QN (by simp[qC,Xc,X5]))
  rw[mU _ _ hp,Z2 (R_.1 ha).1]at h1;exact h1
 have TCS:∀ (T':Tb) (id:Nat),(HT H Y m n T' ++ [ZAk 0 4 (Xf (qC (T.t r p)))])[id]?≠some AO.D_:=fun T'=>Qg (KM (PQ _ hB) (fun o ho=>by rw[a_.1 ho];simp))
 by_cases hk2:k<m
 ·have hrk:=fun T l=>Qa (Lc hY T hk2) l
  unfold Ds at hrk;have nx:=next (k+1)
  by_cases hkr:k=r
  ·subst hkr
   refine Xk ?_;simp(disch:=omega)only[hx,ht,hrk,el,P_,↓Xd,wG,seval];exact nx _ (by omega) (by omega) (Xh rfl (by simp[Xm,I]) (by simp[Xu,XJ,I]) (by rw[nF];rfl))
  ·have f1:¬ (k:Int)=r:=by omega
   have hc:=B' (HN T1 r p k) (Y.rid k) (Y.rv k) (T1.t k) (fun g=>hkr (hY.rr _ _ hk2 hr g)) (by have:=Lc hY (HN T1 r p k) hk2;rw[xh _ _ _ _ _ (N' _)]at this;exact this) (fun j hj=>by rw[hT1,jo _ _ _ _ hkr];have:=hq k j hk2 hj;omega) (tS _ _ _ _);have TAG:=RI hY (HN T1 r p k) hk2 (fun j=>T1.t k j-T1.t k p*T1.t r j);rw[nG _ _ _ _ hkr]at TAG;unfold Ds at TAG;rw[TAG]at hc;have hce:K1 (HT H Y m n (HN T1 r p k) ++ [ZAk 0 4 (Xf (qC (T.t r p)))]) (HT H Y m n (HN T1 r p (k+1)) ++ [ZAk 0 4 (Xf (qC (T.t r p)))]):=by
    rw[←TAG,←Z2 (by rw[hlen];exact hY.rl k hk2)];exact QT (Qa (Lc hY _ hk2) _) (by simp[Ds]) (by simp)
   refine Xk ?_;simp(disch:=omega)only[hx,ht,hrk,hrw,el,f1,P_,↓Xd,wG,seval];refine Xz rfl hc hce (TCS _) (X1 _) ?_;simp(disch:=omega)only[↓Xd,wG,seval];exact nx _ (by omega) (by omega) (Xh rfl (by simp[Xm,I]) (by simp[Xu,XJ,I]) rfl)
 obtain rfl:k=m:=by omega
 clear next
 have hcc:=fun T l=>Qa (LP hY T) l
 unfold DI at hcc;have hc:=B' (HN T1 r p k) Y.cid Y.cv T.c (hY.cr r hr) (by have:=LP hY (HN T1 r p k);rw[show(HN T1 r p k).c=T.c by rw[hT1];rfl]at this;exact this) (fun j hj=>by have:=hqc j hj;omega) (tS _ _ _ _);have TAG:=ge hY (HN T1 r p k) (fun j=>T.c j-T.c p*T1.t r j);unfold DI at TAG;rw[TAG]at hc;have hce:K1 (HT H Y k n (HN T1 r p k) ++ [ZAk 0 4 (Xf (qC (T.t r p)))]) (HT H Y k n { HN T1 r p k with c:=fun j=>T.c j-T.c p*T1.t r j } ++ [ZAk 0 4 (Xf (qC (T.t r p)))]):=by
  rw[←TAG,←Z2 (by rw[hlen];exact hY.cl)];exact QT (Qa (LP hY _) _) (by simp[DI]) (by simp)
 have hsb:=gc hY { HN T1 r p k with c:=fun j=>T.c j-T.c p*T1.t r j } (fun i=>if i=r then p else T.b i);have hbb:=fun T l=>Qa (RH hY T) l
 unfold DD at hbb hsb;have hb0:({ HN T1 r p k with c:=fun j=>T.c j-T.c p*T1.t r j }:Tb).b=T.b:=by rw[hT1];rfl
 have hbb:=hbb { HN T1 r p k with c:=fun j=>T.c j-T.c p*T1.t r j };rw[hb0]at hbb;have TDR:HT H Y k n { HN T1 r p k with c:=fun j=>T.c j-T.c p*T1.t r j,b:=fun i=>if i=r then p else T.b i }=HT H Y k n (C2 T r p):=by
  refine ga ⟨fun i j hi hj=>?_,fun j hj=>?_,fun i hi=>rfl⟩
  ·have er:T1.t r j=T.t r j/T.t r p:=by rw[hT1];exact N_ ⟨rfl,by omega⟩
   show(if i<k∧i≠r then(fun j=>T1.t i j-T1.t i p*T1.t r j)else T1.t i) j=if i=r then T.t r j/T.t r p else T.t i j-T.t i p*(T.t r j/T.t r p)
   by_cases e:i=r
   ·rw[M_ (fun g=>g.2 e),N_ e,e,er]
   ·rw[N_ ⟨hi,e⟩,M_ e,er,hT1,jo _ _ _ _ e]
  ·have er:T1.t r j=T.t r j/T.t r p:=by rw[hT1];exact N_ ⟨rfl,by omega⟩
   show T.c j-T.c p*T1.t r j=T.c j-T.c p*(T.t r j/T.t r p);rw[er]
 have TCL:(HT H Y k n { HN T1 r p k with c:=fun j=>T.c j-T.c p*T1.t r j }).set Y.bid (.row Y.bv k (Ek (fun i=>I ((if i<k then T.b i else 0:Nat))) r (I p)))=HT H Y k n (C2 T r p):=by
  rw[zn T.b r p hr];exact hsb.trans TDR
 have TFv:=Z2 (H:=HT H Y k n { HN T1 r p k with c:=fun j=>T.c j-T.c p*T1.t r j }) (a:=Y.bid) (by rw[hlen];exact hY.bl);refine Xk ?_;simp(disch:=omega)only[hx,ht,hcc,hrw,el,P_,↓Xd,wG,seval];refine Xz rfl hc hce (TCS _) (X1 _) ?_;simp(disch:=omega)only[hx,hbb,TFv,P_,↓Xd,wG,seval];exact YR rfl ((CL (by rw[V_,hlen,hlen]) _).trans TCL)
def De:Option Nat→Int
 |none=>-1
 |some r=>(r:Int)
def TAD:List AV:=[.bool false,.sl 0 0 (fun _=>.any) true,.bool false,.sl 0 0 (fun _=>.any) true]
def BQ (T:Tb)(n p:Nat):Option Nat→AO
 |none=>.row 0 4 (Xf TAD)
 |some r=>.row 0 4 (Xf (qC (T.t r n/T.t r p)))
theorem V3 (T:Tb)(n p:Nat)(b:Option Nat)(m:Nat):XX m (BQ T n p b):=by
 cases b with
 |none=>exact QN (by simp[TAD,X5,J7])
 |some r=>exact QN (by simp[qC,Xc,X5])
theorem dt {T:Tb}{n p k:Nat}(h:¬0<T.t k p):JA T n p (k+1)=JA T n p k:=by
 show(if 0<T.t k p then _ else _)=_;rw[M_ h]
theorem VA {T:Tb}{n p k:Nat}(h:0<T.t k p)(hn:JA T n p k=none):JA T n p (k+1)=some k:=by
 show(if 0<T.t k p then _ else _)=_;rw[N_ h,hn]
theorem dp {T:Tb}{n p k r:Nat}(h:0<T.t k p)(hn:JA T n p k=some r):JA T n p (k+1)=if T.q n p k<T.q n p r∨(T.q n p k=T.q n p r∧T.b k<T.b r)then some k else some r:=by
 show(if 0<T.t k p then _ else _)=_;rw[N_ h,hn]
theorem mj {P:Program}{fn:Func}{str hcs:List Nat}{m:Nat}{a:AV}{H:List AO}{s:AS}{t:Nat}(hr:fn.results=#[.tmp t])(h:s.get t=a)(hH:s.h.take m=H):TAC (I6 P fn str hcs m a H) s :=
 ⟨s.get t,by simp[TD,Al,I6,hr,JC,ZX,BH],h,hH⟩
theorem VB (H:List AO)(Y:Lay)(v m n p:Nat)(T:Tb)(hY:Y.Ok H v m n)(hH:KH H)(hB:QY H)(hp:p≤n)(hn:n<100000)(hm:m<100000){Q:Nat}(hQ:Q≤15000000)(hq:∀i k,i<m→k≤n→qb (T.t i k)≤Q) :
  G' Tryz.prog 202 [.ref Y.x Y.vx 0,I p] (HT H Y m n T) (I (De (JA T n p m))) (HT H Y m n T):=by
 obtain⟨R,hR⟩:∃R,R=JA T n p m:=⟨_,rfl⟩
 rw[←hR];have hlen:=Em (H:=H) (Y:=Y) (m:=m) (n:=n) T;have hx:=fun l=>Qa (gg hY T) l
 have ht:=fun l=>Qa (oq hY T) l
 have hbb:=fun l=>Qa (RH hY T) l
 unfold xO at hx;unfold tO at ht;unfold DD at hbb;have x0:=hx [];have t0:=ht [];rw[ZAK]at x0 t0;have hHb:=DE (Y:=Y) (m:=m) (n:=n) T hH;have xlt:Y.x<(HT H Y m n T).length:=(R_.1 (gg hY T)).1;have tlt:Y.tid<(HT H Y m n T).length:=(R_.1 (oq hY T)).1;have hrs:=fun {i:Nat} (hi:i<m) l=>Qa (Lc hY T hi) l
 unfold Ds at hrs;generalize hK:HT H Y m n T=K at *;obtain⟨n0,hn0⟩:∃n0,K.length=n0:=⟨_,rfl⟩
 have e0:=BG hn0;have e1:=FM hn0;have el:=Zz hn0;have es0:=CK hn0;have es1:=GX hn0;have bx:J9 (n0+1) (.ref Y.x Y.vx 0)=True:=K_ (QX (by omega));have bf:J9 (n0+1) (.ref n0 0 0)=True:=K_ (QX (by omega));have btt:J9 (n0+1) (.osl Y.tid Y.tv 1 0 m)=True:=K_ (JB (by omega));refine G'.TAo (fn:=Tryz.f202) Tryz.call202 Tryz.func202 rfl mixed 11 [14,15,16] [7,8004,8006,8010,12,13001] [] (by kernel_rfl) (L' rfl) (X4 (X9 _)) (fun o ho=>hHb o ho _ (N' _)) (Xk ?_);simp(disch:=omega)only[P',x0,t0,hx,ht,e0,el,es0,hn0,P_,↓Xd,wG,seval];refine Xi (fun k:Nat=>⟨11,[14,15,16],[.ref Y.x Y.vx 0,I p,.any,.any,.any,I (De (JA T n p k)),.ref n0 0 0,.any,.any,.any,.any],[(14,.osl Y.tid Y.tv 1 0 m),(15,I m),(16,I k)],K ++ [BQ T n p (JA T n p k)]⟩) (fun k=>k≤m) (fun k=>m-k) 0 (by omega)
  (Xh rfl (by simp[Xm,I,De,JA]) (by simp[Xu,XJ,I]) (by rfl)) ?_
 intro k hk next
 by_cases hk2:k<m
 rotate_left
 ·obtain rfl:k=m:=by omega
  refine Xk ?_;simp(disch:=omega)only[↓Xd,wG,seval];exact mj rfl (by rw[hR];rfl) (CL rfl _)
 have hrk:=hrs hk2;have w1:=C7 (T.t k) hp;have w2:=BL (T.t k) hp;have w3:=C7 (T.t k) (N' n);have w4:=BL (T.t k) (N' n);have q1:=hq k p hk2 hp;have q2:=hq k n hk2 (N' n);have s1:=Qv (T.t k p);have z1:=Rw (T.t k p);have nx:=next (k+1)
 have hOb:∀b,∀o∈K ++ [BQ T n p b],XX (n0+1) o:=fun b o ho=>by
  rcases m_.1 ho with h |h
  ·exact hHb o h _ (by omega)
  ·rw[a_.1 h];exact V3 _ _ _ _ _
 generalize hbk:JA T n p k=B at *;by_cases h0:0<T.t k p
 rotate_left
 ·have f1:(T.t k p).num.sign≤0:=by have:=mt z1.1 h0;omega
  rw[dt h0,hbk]at nx;refine Xk ?_;simp(disch:=omega)only[hx,ht,hrk,w1,w2,el,qC,P_,↓Xd,wG,seval];refine X2 s1 rfl ?_;simp(disch:=omega)only[f1,↓Xd,wG,seval];exact nx _ (by omega) (by omega) (Xh rfl (by simp[Xm,I]) (by simp[Xu,XJ,I]) rfl)
 have f1:¬ (T.t k p).num.sign≤0:=by have:=z1.2 h0;omega
 have c1:=LB (T.t k n) (T.t k p) (by grind) (by unfold rm;omega) (by unfold rm;omega);have qq:=BR (T.t k n) (T.t k p);cases B with
 |none =>
  rw[VA h0 hbk]at nx;refine Xk ?_;simp(disch:=omega)only[hx,ht,hrk,w1,w2,el,qC,P_,↓Xd,wG,seval];refine X2 s1 rfl ?_;simp(disch:=omega)only[f1,hx,ht,hrk,w1,w2,w3,w4,e0,e1,el,es0,es1,qC,P_,↓Xd,wG,seval];refine X2 c1 rfl ?_;simp(disch:=omega)only[De,hx,ht,hrk,hbb,e0,e1,el,es0,es1,BQ,TAD,qC,P_,↓Xd,wG,seval];exact nx _ (by omega) (by omega) (XD (m:=n0+1) (by show K.length≤n0+1;omega) rfl (by simp[Xm,I,De]) (by simp[Xu,XJ,I]) (Af hn0 _ _) (by simp[XK,bx,bf]) (by simp[XK,btt]) (hOb _))
 |some r =>
  have hl:=ZA hbk;have hrm:r<m:=by have:=hl.1;omega
  have q3:=hq r p hrm hp;have q4:=hq r n hrm (N' n);have q5:=BR (T.t r n) (T.t r p);have c2:=J6 (T.t k n/T.t k p) (T.t r n/T.t r p) (by unfold rm;omega) (by unfold rm;omega);have d1:=CP (T.t k n/T.t k p) (T.t r n/T.t r p);have d2:=Ap (T.t k n/T.t k p) (T.t r n/T.t r p);rw[dp h0 hbk]at nx;unfold Tb.q at nx;generalize hX:T.t k n/T.t k p=X at *;generalize hZ:T.t r n/T.t r p=Z at *;generalize AJ X Z=d at *;by_cases hd1:d<0
  ·rw[N_ (.inl (d1.1 hd1))]at nx
   refine Xk ?_;simp(disch:=omega)only[hx,ht,hrk,w1,w2,el,qC,P_,↓Xd,wG,seval];refine X2 s1 rfl ?_;simp(disch:=omega)only[f1,hx,ht,hrk,w1,w2,w3,w4,e0,e1,el,es0,es1,qC,P_,↓Xd,wG,seval];refine X2 c1 rfl ?_;simp(disch:=omega)only[De,hx,ht,hrk,hbb,e0,e1,el,es0,es1,BQ,hZ,qC,P_,↓Xd,wG,seval];refine X2 c2 rfl ?_;simp(disch:=omega)only[hd1,hx,ht,hrk,hbb,e0,e1,el,es0,es1,qC,P_,↓Xd,wG,seval];exact nx _ (by omega) (by omega) (XD (m:=n0+1) (by show K.length≤n0+1;omega) rfl (by simp[Xm,I,De]) (by simp[Xu,XJ,I]) (by rw[Af hn0];unfold BQ;simp only[hX];rfl) (by simp[XK,bx,bf]) (by simp[XK,btt]) (hOb _))
  by_cases hd2:d=0
  ·have hXZ:X=Z:=by
    refine ZBv (ZAW.1 fun h=>?_) (ZAW.1 fun h=>?_)
    ·have:=d2.2 h;omega
    ·have:=d1.2 h;omega
   by_cases hb:T.b k<T.b r
   ·rw[N_ (.inr ⟨hXZ,hb⟩)]at nx
    have fb:(T.b k:Int)<T.b r:=by omega
    refine Xk ?_;simp(disch:=omega)only[hx,ht,hrk,w1,w2,el,qC,P_,↓Xd,wG,seval];refine X2 s1 rfl ?_;simp(disch:=omega)only[f1,hx,ht,hrk,w1,w2,w3,w4,e0,e1,el,es0,es1,qC,P_,↓Xd,wG,seval];refine X2 c1 rfl ?_;simp(disch:=omega)only[De,hx,ht,hrk,hbb,e0,e1,el,es0,es1,BQ,hZ,qC,P_,↓Xd,wG,seval];refine X2 c2 rfl ?_;simp(disch:=omega)only[hd1,hd2,fb,hx,ht,hrk,hbb,e0,e1,el,es0,es1,qC,P_,↓Xd,wG,seval];exact nx _ (by omega) (by omega) (XD (m:=n0+1) (by show K.length≤n0+1;omega) rfl (by simp[Xm,I,De]) (by simp[Xu,XJ,I]) (by rw[Af hn0];unfold BQ;simp only[hX];rfl) (by simp[XK,bx,bf]) (by simp[XK,btt]) (hOb _))
   ·rw[M_ (by
     rintro(g |g)
     ·have:=d1.2 g;omega
     ·exact hb g.2)]at nx
    have fb:¬ (T.b k:Int)<T.b r:=by omega
    refine Xk ?_;simp(disch:=omega)only[hx,ht,hrk,w1,w2,el,qC,P_,↓Xd,wG,seval];refine X2 s1 rfl ?_;simp(disch:=omega)only[f1,hx,ht,hrk,w1,w2,w3,w4,e0,e1,el,es0,es1,qC,P_,↓Xd,wG,seval];refine X2 c1 rfl ?_;simp(disch:=omega)only[De,hx,ht,hrk,hbb,e0,e1,el,es0,es1,BQ,hZ,qC,P_,↓Xd,wG,seval];refine X2 c2 rfl ?_;simp(disch:=omega)only[hd1,hd2,fb,hx,ht,hrk,hbb,e0,e1,el,es0,es1,qC,P_,↓Xd,wG,seval];exact nx _ (by omega) (by omega) (XD (m:=n0+1) (by show K.length≤n0+1;omega) rfl (by simp[Xm,I,De]) (by simp[Xu,XJ,I]) (by rw[Af hn0];unfold BQ;simp only[hZ];rfl) (by simp[XK,bx,bf]) (by simp[XK,btt]) (hOb _))
  ·rw[M_ (by
    rintro(g |g)
    ·have:=d1.2 g;omega
    ·have:¬0<d:=fun h=>by have:=d2.1 h;rw[g.1]at this;exact absurd this (Rat.lt_irrefl)
     omega)]at nx
   have hd3:¬d=0:=hd2;refine Xk ?_;simp(disch:=omega)only[hx,ht,hrk,w1,w2,el,qC,P_,↓Xd,wG,seval];refine X2 s1 rfl ?_;simp(disch:=omega)only[f1,hx,ht,hrk,w1,w2,w3,w4,e0,e1,el,es0,es1,qC,P_,↓Xd,wG,seval];refine X2 c1 rfl ?_;simp(disch:=omega)only[De,hx,ht,hrk,hbb,e0,e1,el,es0,es1,BQ,hZ,qC,P_,↓Xd,wG,seval];refine X2 c2 rfl ?_;simp(disch:=omega)only[hd1,hd3,hx,ht,hrk,hbb,e0,e1,el,es0,es1,qC,P_,↓Xd,wG,seval];exact nx _ (by omega) (by omega) (XD (m:=n0+1) (by show K.length≤n0+1;omega) rfl (by simp[Xm,I,De]) (by simp[Xu,XJ,I]) (by rw[Af hn0];unfold BQ;simp only[hZ];rfl) (by simp[XK,bx,bf]) (by simp[XK,btt]) (hOb _))
theorem dn (H:List AO)(Y:Lay)(v m n E e xb:Nat)(c:Nat→Rat)(t:Tok)(hE:H[e]?=some (.row 0 1 (Xf [I E]))) (hX:H[xb]?=some (.row 0 1 (Xf [.ref Y.x Y.vx 0]))) (hx:H[Y.x]?=some (xO Y v m n)) (hc:H[Y.cid]?=some (DI Y n c)) (hEn:E≤n) (hn:n<100000) (hce:t.ce.H.length≤H.length) (hO:KH H)
  (h:∀j,j<E→0≤c j):TBt Tryz.prog t 228 [.yld t.l,.ref e 0 0,.ref xb 0 0] H H:=by
 unfold xO at hx;unfold DI at hc;refine TBt.intro (fn:=Tryz.f228) Tryz.call228 Tryz.func228 rfl mixed 5 [5,6] [] [] (by kernel_rfl) (L' rfl) hce (fun o ho=>hO o ho _ (N' _)) (Xk ?_);simp(disch:=omega)only[P',hE,hX,hx,hc,Ju,↓Xd,wG,seval];refine Xi (fun k:Nat=>⟨5,[5,6],[.yld t.l,.ref e 0 0,.ref xb 0 0,.any,.any],[(5,I E),(6,I k)],H⟩) (fun k=>k≤E) (fun k=>E-k) 0 (by omega)
  (Xh rfl (by simp[Xm,I]) (by simp[Xu,XJ,I]) rfl) ?_
 intro k hk next
 by_cases hk2:k<E
 ·have s1:=Qv (c k)
  have f1:¬ (c k).num.sign<0:=fun g=>by have:=(BC (c k)).1 g;have:=h k hk2;grind
  have w1:=C7 c (show k≤n by omega);have w2:=BL c (show k≤n by omega);have nx:=next (k+1)
  refine Xk ?_;simp(disch:=omega)only[hE,hX,hx,hc,w1,w2,qC,Ju,↓Xd,wG,seval];refine X2 s1 rfl ?_;simp(disch:=omega)only[f1,Ju,↓Xd,wG,seval];exact nx _ (by omega) (by omega) (Xh rfl (by simp[Xm,I]) (by simp[Xu,XJ,I]) rfl)
 ·obtain rfl:k=E:=by omega
  refine Xk ?_;simp(disch:=omega)only[Ju,↓Xd,wG,seval];exact yz rfl (by simp)
theorem ZN {P:Program}{tok:List Tok}{all:Array Oper}{i:Nat}{s:AS}{o:Oper}{v:AV}{h':List AO}(ho:all[i]?=some o)(hg:TAv all s o=some true)(h:Jb P false none o.op s.ev s.h=some (v,h')) :
  GStep P tok (fun _=>false) true (fun _=>none) all i s (({ s with h:=h' }:AS).E' o.dst v):=⟨o,ho,.inl ⟨hg,⟨fun _ h=>(by cases h),v,h',.inl h,rfl⟩⟩⟩
theorem qz {P:Program}{tok:List Tok}{all:Array Oper}{i:Nat}{s:AS}{o:Oper}{f:Operand}{args:Array Operand}{ts:Array TypeId}{g:FuncId}{as':List AV}{r:AV}(ho:all[i]?=some o)(hg:TAv all s o=some true)(hop:o.op=.call { callee:=.value f,args:=args,argTypes:=ts }) (hf:s.ev f=.fn g []) (h:Fn P g as' r) (ha:TAR (args.toList.map s.ev ++ []) as') :
  GStep P tok (fun _=>false) true (fun _=>none) all i s (({ s with h:=s.h }:AS).E' o.dst r) :=
 ⟨o,ho,.inl ⟨hg,⟨fun _ h=>(by cases h),r,s.h,.inr ⟨f,args,ts,hop,⟨.inl g,_,by rw[hf];rfl,.inl ⟨as',ha,h.call,h.settled,rfl⟩⟩⟩,rfl⟩⟩⟩
theorem kO (H Hf:List AO)(Y:Lay)(v m n E e xb p:Nat)(c:Nat→Rat)(t:Tok)(q:Code)(hE:H[e]?=some (.row 0 1 (Xf [I E]))) (hX:H[xb]?=some (.row 0 1 (Xf [.ref Y.x Y.vx 0]))) (hx:H[Y.x]?=some (xO Y v m n)) (hc:H[Y.cid]?=some (DI Y n c)) (hEn:E≤n) (hn:n<100000) (hce:t.ce.H.length≤H.length) (hOf:KH Hf) (hfl:Hf.length=H.length)
    (hp:p<E) (TA9:c p<0) (h:∀j,j<p→0≤c j) (hy:YC Tryz.prog t (some q) [I p] H Hf):TBb Tryz.prog t (some q) 228 [.yld t.l,.ref e 0 0,.ref xb 0 0] H Hf:=by
  unfold xO at hx;unfold DI at hc;refine TBb.intro (fn:=Tryz.f228) Tryz.call228 Tryz.func228 rfl mixed q 5 [5,6] [] [] (by kernel_rfl) (L' rfl) hce (fun o ho=>hOf o ho _ (by omega)) (Xk ?_);simp(disch:=omega)only[P',hE,hX,hx,hc,Ju,↓Xd,wG,seval];refine Xi (fun k:Nat=>⟨5,[5,6],[.yld t.l,.ref e 0 0,.ref xb 0 0,.any,.any],[(5,I E),(6,I k)],H⟩) (fun k=>k≤p) (fun k=>p-k) 0 (by omega)
    (Xh rfl (by simp[Xm,I]) (by simp[Xu,XJ,I]) rfl) ?_
  intro k hk next
  have s1:=Qv (c k);have w1:=C7 c (show k≤n by omega);have w2:=BL c (show k≤n by omega);by_cases hk2:k<p
  · have f1:¬ (c k).num.sign<0:=fun g=>by have:=(BC (c k)).1 g;have:=h k hk2;grind
    have nx:=next (k+1)
    refine Xk ?_;simp(disch:=omega)only[hE,hX,hx,hc,w1,w2,qC,Ju,↓Xd,wG,seval];refine X2 s1 rfl ?_;simp(disch:=omega)only[f1,Ju,↓Xd,wG,seval];exact nx _ (by omega) (by omega) (Xh rfl (by simp[Xm,I]) (by simp[Xu,XJ,I]) rfl)
  obtain rfl:k=p:=by omega
  clear next
  have L0:Qx Tryz.prog false 145 (.ref xb 0 0) H=some (.ref Y.x Y.vx 0):=by
    rw[Bu,kS,KA,hX,KB,mc];simp[Qd,Xf]
  have L1:Qx Tryz.prog false 86 (.ref Y.x Y.vx 4) H=some (.osl Y.cid Y.cv 4 0 (n+1)):=by
    rw[Bu,td,KA,hx,KB,mc];simp[Qd,Xf]
  have L2:DB Tryz.prog 86 (.osl Y.cid Y.cv 4 0 (n+1)) (I k)=some (.ref Y.cid Y.cv (0+k*4)):=by
    show DB Tryz.prog 86 (.osl Y.cid Y.cv 4 0 (n+1)) (.int .i64 (k:Int))=_;rw[RY,FV,Iv];unfold Qd;rw[N_ (by omega),T_]
  have L3:Qx Tryz.prog false 28 (.ref Y.cid Y.cv (0+k*4)) H=some (qA (c k)):=by
    rw[Bu,XY,KA,hc,KB,eJ];have e:QJ (Xl (Av n c)) (0+k*4) 0 4=qC (c k):=by
      rw[x_];show [Xl (Av n c) (k*4+0),Xl (Av n c) (k*4+1),Xl (Av n c) (k*4+2),Xl (Av n c) (k*4+3)]=_;rw[w1 0 (by omega),w1 1 (by omega),w1 2 (by omega),w1 3 (by omega)];rfl
    rw[e];unfold Qd;rw[N_ ⟨rfl,rfl⟩,N_ (by omega)];rfl
  have L9:Qd ((ZDx Y.x Y.vx 0).TAk=true) (some (ZDx Y.x Y.vx 0,H))=some (ZDx Y.x Y.vx 0,H):=by unfold Qd;rw[N_ (OJ _ _ _)]
  have L5:CG Tryz.prog 148 (.ref Y.x Y.vx 0) 4=some (.ref Y.x Y.vx 4):=by
    simp[HU,DA,RC]
  have f1:(c k).num.sign<0:=(BC (c k)).2 TA9;have B8:Qd (IntKind.i64=.i64) (some (AV.bool (decide ((c k).num.sign<0))))=some (.bool true):=by unfold Qd;rw[N_ rfl,Y' f1]
  refine XF 18 ?_;simp(disch:=omega)only[hE,hX,hx,hc,w1,w2,qC,Ju,↓Xd,wG,seval];have b0:∀s:AS,s.get 17=.bool (decide ((c k).num.sign<0))→s.get 17=.bool true:=fun s g=>by rw[g,Y' f1]
  refine rs (t:=t) (j:=12) (l1:=[0,1,2,3,4,5,6,7,8,9,10,11]) (l2:=[13,14]) rfl rfl (a_.2 rfl) rfl rfl
    ⟨_,ZN (v:=.ref Y.x Y.vx 0) (h':=H) rfl rfl (t_ (zV fun w=>(w,H)) L0),
     _,ZN (v:=.ref Y.x Y.vx 0) (h':=H) rfl rfl (L9:Qd ((ZDx Y.x Y.vx 0).TAk=true) (some (ZDx Y.x Y.vx 0,H))=some (ZDx Y.x Y.vx 0,H)),
     _,ZN (v:=.ref Y.x Y.vx 4) (h':=H) rfl rfl (t_ (zV fun w=>(w,H)) L5),
     _,ZN (v:=.osl Y.cid Y.cv 4 0 (n+1)) (h':=H) rfl rfl (t_ (zV fun w=>(w,H)) L1),
     _,ZN (v:=I k) (h':=H) rfl rfl rfl,
     _,ZN (v:=.ref Y.cid Y.cv (0+k*4)) (h':=H) rfl rfl (t_ (zV fun w=>(w,H)) L2),
     _,ZN (v:=qA (c k)) (h':=H) rfl rfl (t_ (zV fun w=>(w,H)) L3),
     _,qz rfl rfl rfl rfl s1 ⟨X' _,trivial⟩,
     _,ZN (v:=.bool true) (h':=H) rfl rfl (t_ (zV fun w=>(w,H)) B8),
     _,ZN (v:=.bool true) (h':=H) rfl rfl rfl,
     _,ZN (v:=.yld t.l) (h':=H) rfl rfl rfl,
     _,ZN (v:=I k) (h':=H) rfl rfl rfl,rfl⟩
    ⟨rfl,_,_,_,[I k],Hf,rfl,rfl,⟨X' _,trivial⟩,hy,rfl⟩
    ⟨_,ZN (v:=.bool true) (h':=Hf) rfl rfl rfl,_,ZN (v:=.bool true) (h':=Hf) rfl rfl rfl,rfl⟩ ?_
  show Run (yg Tryz.prog Tryz.f228 [] [] H.length Hf) _ _;refine e_ (s':=⟨5,[],[],[(23,.bool true)],Hf⟩) ?_ (Xh rfl trivial ⟨.inr rfl,trivial⟩ rfl);refine Xk ?_;simp(disch:=omega)only[Ju,↓Xd,wG,seval];exact zi rfl (by show Hf.take H.length=_;rw[←hfl,ZAQ])
theorem vo (P:Program)(fn:Func)(str hcs:List Nat)(m l:Nat)(r:Loop)(H':List AO)(q:Option Code):(R6 P fn str hcs m l r H' q).P=P:=rfl
theorem pG (P:Program)(fn:Func)(str hcs:List Nat)(m l:Nat)(r:Loop)(H':List AO)(q:Option Code):(R6 P fn str hcs m l r H' q).fn=fn:=rfl
theorem jG (P:Program)(fn:Func)(str hcs:List Nat)(m l:Nat)(r:Loop)(H':List AO)(q:Option Code):(R6 P fn str hcs m l r H' q).str=888888 :: str:=rfl
theorem jF (P:Program)(fn:Func)(str hcs:List Nat)(m l:Nat)(r:Loop)(H':List AO)(q:Option Code):(R6 P fn str hcs m l r H' q).hcs=hcs:=rfl
set_option linter.defProp false in
def wQ:=ZEM @vo (ZEM @pG (ZEM @jG @jF))
theorem Vn {P:Program}{fn:Func}{str hcs:List Nat}{m l:Nat}{r:Loop}{H:List AO}{q:Option Code}{k:List Item}{s:AS}(hr:r.state=.ready)(h:Run (R6 P fn str hcs m l { r with state:=.busy } H q) k s):Run (R6 P fn str hcs m l r H q) (.beginRound :: k) s :=
 Pj (X:=R6 P fn str hcs m l r H q) rfl rfl hr h
theorem dc {H:List AO}{n:Nat}(h:H.length=n)(x y z:AO)(l:List AO):(H ++ x :: y :: z :: l)[n+2]?=some z:=by
 rw[←h,d_ (by omega),show H.length+2-H.length=2 by omega];rfl
theorem de {H:List AO}{n:Nat}(h:H.length=n)(x y z w:AO)(l:List AO):(H ++ x :: y :: z :: w :: l)[n+3]?=some w:=by
 rw[←h,d_ (by omega),show H.length+3-H.length=3 by omega];rfl
theorem sZ {H:List AO}{n:Nat}(h:H.length=n)(x y z w:AO)(l:List AO):(H ++ x :: y :: z :: l).set (n+2) w=H ++ x :: y :: w :: l:=by
 rw[ZAj _ _ (by omega),←h,show H.length+2-H.length=2 by omega];rfl
theorem Ym {H:List AO}{n:Nat}(h:H.length=n)(x y z w o:AO)(l:List AO):(H ++ x :: y :: z :: w :: l).set (n+3) o=H ++ x :: y :: z :: o :: l:=by
 rw[ZAj _ _ (by omega),←h,show H.length+3-H.length=3 by omega];rfl
theorem SC (H:List AO)(Y:Lay)(E:Nat):G' Tryz.prog 201 [.ref Y.x Y.vx 0,I E] H (.fn 228 [.ref (H.length+1) 0 0,.ref H.length 0 0]) (H ++ [.row 0 1 (Xf [.ref Y.x Y.vx 0]),.row 0 1 (Xf [I E])]):=by
 obtain⟨n0,hn⟩:∃n0,H.length=n0:=⟨_,rfl⟩
 have e0:=BG hn;have e1:=FM hn;have el:=Zz hn;refine G'.intro (fn:=Tryz.f201) Tryz.call201 Tryz.func201 rfl mixed 4 [] [] [] (by kernel_rfl) (L' rfl) (Xk ?_);simp(disch:=omega)only[P',hn,e0,e1,el,P_,↓Xd,wG,seval];exact Pd rfl (by rw[hn];rfl) rfl
theorem Ss {H:List AO}{Y:Lay}{v m n:Nat}(hY:Y.Ok H v m n)(T U:Tb):K1 (HT H Y m n T) (HT H Y m n U):=by
 intro a w k f;by_cases eb:a=Y.bid
 ·subst eb;rw[RH hY,RH hY];simp[DD]
 by_cases ec:a=Y.cid
 ·subst ec;rw[LP hY,LP hY];simp[DI]
 by_cases er:∃j,j<m∧a=Y.rid j
 ·obtain⟨j,hj,rfl⟩:=er
  rw[Lc hY _ hj,Lc hY _ hj];simp[Ds]
 ·rw[Dy T eb ec fun j hj g=>er ⟨j,hj,g⟩,Dy _ eb ec fun j hj g=>er ⟨j,hj,g⟩]
theorem Gb {A B:List AO}(hl:A.length=B.length)(h:K1 A B)(l:List AO):K1 (A ++ l) (B ++ l):=by
 intro a w k f;by_cases ha:a<A.length
 ·rw[S_ ha,S_ (by omega)];exact h a w k f
 ·rw[d_ (by omega),d_ (by omega),hl]
theorem Oj {A:List AO}(h:KH A){l:List AO}(hl:∀o∈l,∀m,A.length≤m→XX m o):KH (A ++ l):=fun o ho m hm=>by
 rw[f_]at hm;rcases m_.1 ho with g |g
 ·exact h o g m (by omega)
 ·exact hl o g m (by omega)
end
end Go.Ab.N
