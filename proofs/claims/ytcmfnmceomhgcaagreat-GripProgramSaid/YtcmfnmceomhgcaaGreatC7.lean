/- Contracts of functions, for every argument that fits. -/
import Derived.Test.YtcmfnmceomhgcaaGreatC6
import Derived.Test.YtcmfnmceomhgcaaGreatC3
import Derived.Test.YtcmfnmceomhgcaaGreatC5
import Derived.Test.YtcmfnmceomhgcaaGreatAb4
set_option linter.unusedSimpArgs false
set_option linter.unusedVariables false
namespace Go.Ab.N
set_option maxRecDepth 10000
set_option maxHeartbeats 4000000
structure Cyc (m n e N:Nat)(S:Nat→Tb)(p r:Nat→Nat):Prop where
 pos:0<N
 le:e≤n
 ok:∀k,(S k).Ok m n e
 st:∀k,Step m n e (S k) (p k) (r k) (S (k+1))
 per:∀k,S (k+N)=S k
section
variable {m n e N:Nat} {S:Nat→Tb} {p r:Nat→Nat}
theorem Cyc.bas (h:Cyc m n e N S p r)(k i:Nat)(hi:i<m):(S (k+1)).b i=if i=r k then p k else(S k).b i:=(h.st k).piv.2.2 i hi
theorem Cyc.first_out (h:Cyc m n e N S p r){i u:Nat}(hi:i<m):∀d,(S (u+d)).b i≠(S u).b i→∃v,u≤v∧v<u+d∧r v=i∧(S v).b i=(S u).b i
 |0,hn=>absurd rfl hn
 |d+1,hn=>by
  by_cases g:(S (u+d)).b i=(S u).b i
  ·refine⟨u+d,by omega,by omega,?_,g⟩
   have:=h.bas (u+d) i hi;by_cases g2:i=r (u+d)
   ·exact g2.symm
   ·rw[if_neg g2]at this
    exact absurd (this.trans g) hn
  ·obtain⟨v,h1,h2,h3⟩:=h.first_out hi d g
   exact⟨v,h1,by omega,h3⟩
theorem Cyc.last_in (h:Cyc m n e N S p r){i v:Nat}(hi:i<m)(hv:r v=i):∀d,∃w,p w=(S (v+1+d)).b i
 |0=>⟨v,by have:=h.bas v i hi;rw[if_pos hv.symm]at this;exact this.symm⟩
 |d+1=>by
  have:=h.bas (v+1+d) i hi;by_cases g:i=r (v+1+d)
  ·rw[if_pos g]at this;exact⟨_,this.symm⟩
  ·rw[if_neg g]at this
   obtain⟨w,hw⟩:=h.last_in hi hv d;exact⟨w,hw.trans this.symm⟩
theorem Cyc.ratio (h:Cyc m n e N S p r)(k:Nat):0≤(S k).t (r k) n/(S k).t (r k) (p k):=by
 have l:=(h.st k).lv;rw[Rat.div_def];exact Rat.mul_nonneg ((h.ok k).rhs _ l.1) (Rat.le_of_lt (Rat.inv_pos.2 l.2.1))
theorem Cyc.up (h:Cyc m n e N S p r)(k:Nat):(S (k+1)).c n=(S k).c n-(S k).c (p k)*((S k).t (r k) n/(S k).t (r k) (p k)):=(h.st k).piv.2.1 n (Nat.le_refl _)
theorem Cyc.mono (h:Cyc m n e N S p r)(k:Nat):∀d,(S k).c n≤(S (k+d)).c n
 |0=>Rat.le_refl
 |d+1=>by
  have h1:=h.mono k d;have h2:=h.up (k+d);have h3:=Rat.mul_nonneg (a:=-(S (k+d)).c (p (k+d))) (by have:=(h.st (k+d)).ent.2.1;grind) (h.ratio (k+d));show _≤(S (k+d+1)).c n;rw[h2];grind
theorem Cyc.zero (h:Cyc m n e N S p r)(k:Nat):(S k).t (r k) n=0:=by
 have h1:=h.mono (k+1) (N-1);have hN:=h.pos;rw[show k+1+(N-1)=k+N by omega,h.per,h.up k]at h1;have hc:=(h.st k).ent.2.1;have hq:=h.ratio k;have l:=(h.st k).lv;have hz:(S k).t (r k) n/(S k).t (r k) (p k)=0:=by
  by_cases g:0<(S k).t (r k) n/(S k).t (r k) (p k)
  ·have:=Rat.mul_pos (a:=-(S k).c (p k)) (by grind) g
   grind
  ·exact Rat.le_antisymm (Rat.not_lt.1 g) hq
 have:=Rat.div_mul_cancel (a:=(S k).t (r k) n) (b:=(S k).t (r k) (p k)) (by have:=l.2.1;grind);rw[hz]at this;grind
theorem Cyc.rhs (h:Cyc m n e N S p r){i:Nat}(hi:i<m)(k:Nat):∀d,(S (k+d)).t i n=(S k).t i n
 |0=>rfl
 |d+1=>by
  have h1:=(h.st (k+d)).piv.1 i n hi (Nat.le_refl _);have h0:=h.zero (k+d);show(S (k+d+1)).t i n=_;rw[h1,←h.rhs hi k d];unfold FL;simp only
  split
  ·rename_i g;rw[g,h0,Rat.div_def];grind
  ·rw[h0,Rat.div_def];grind
theorem Cyc.sim (h:Cyc m n e N S p r)(k:Nat):∀d,(S k).Sim m n (S (k+d))
 |0=>Tb.Sim.refl _ _ _
 |d+1=>(h.sim k d).trans (h.st (k+d)).sim
theorem ss (p:Nat→Nat)(e:Nat)(hp:∀k,p k<e):∃a,∀k,p k≤p a:=by
 apply Classical.byContradiction;intro hn;have hn:∀a,∃k,p a<p k:=fun a=>by
  apply Classical.byContradiction;intro g;exact hn ⟨a,fun k=>Nat.le_of_not_lt fun hk=>g ⟨k,hk⟩⟩
 have:∀B,∃k,B≤p k:=fun B=>by
  induction B with
  |zero=>exact⟨0,Nat.zero_le _⟩
  |succ B ih =>
   obtain⟨k,hk⟩:=ih;obtain⟨k2,hk2⟩:=hn k;exact⟨k2,by omega⟩
 obtain⟨k,hk⟩:=this e;have:=hp k;omega
theorem jb (h:Cyc m n e N S p r):False:=by
 obtain⟨a,ha⟩:=ss p e fun k=>(h.st k).ent.1
 have hN:=h.pos;obtain⟨i0,hi0⟩:∃i0,i0=r a:=⟨_,rfl⟩
 have hm0:i0<m:=hi0▸(h.st a).lv.1;have hin:(S (a+1)).b i0=p a:=by rw[h.bas a i0 hm0,if_pos hi0]
 have hca:=(h.st a).ent;have hout:(S (a+1+(N-1))).b i0≠(S (a+1)).b i0:=by
  rw[show a+1+(N-1)=a+N by omega,h.per,hin];intro g;have:=(h.ok a).cost i0 hm0;rw[g]at this;have:=hca.2.1;grind
 obtain⟨u,u1,u2,u3,u4⟩:=h.first_out hm0 _ hout;rw[hin]at u4;have hcu:=(h.st u).ent;have hlu:=(h.st u).lv;rw[u3]at hlu;have hlt:p u<p a:=by
  rcases Nat.lt_or_eq_of_le (ha u)with g |g
  ·exact g
  ·exfalso
   have h1:=(h.ok u).cost i0 hm0;rw[u4,←g]at h1;have:=hcu.2.1;grind
 have hsim:=h.sim a (u-a);rw[show a+(u-a)=u by omega]at hsim;have hid:=G7 hsim (h.ok u) h.le (p:=p u) (by have:=hcu.1;have:=h.le;omega);have hge:=hca.2.2 (p u) hlt;have hneg:=hcu.2.1;obtain⟨i,hi,hpos⟩:=SU (f:=fun i=>(S a).c ((S u).b i)*(S u).t i (p u)) (n:=m) (by grind);have hpos:0<(S a).c ((S u).b i)*(S u).t i (p u):=hpos;by_cases hii:i=i0
 ·subst hii
  rw[u4]at hpos;have h1:=hca.2.1;have h2:=hlu.2.1;have:=Rat.mul_pos (a:=-(S a).c (p a)) (by grind) h2;grind
 have hjq:(S u).b i≠p a:=fun g=>by
  have h1:=(h.ok u).unit i0 i hm0 hi;have h2:=(h.ok u).unit i0 i0 hm0 hm0;rw[if_neg (Ne.symm hii),g]at h1;rw[if_pos rfl,u4,h1]at h2;exact absurd h2 (by decide)
 have hcj:(S a).c ((S u).b i)≠0:=fun g=>by rw[g]at hpos;grind
 have hout2:(S (u+(a+N-u))).b i≠(S u).b i:=by
  rw[show u+(a+N-u)=a+N by omega,h.per];intro g;exact hcj (by rw[←g];exact(h.ok a).cost i hi)
 obtain⟨v,v1,v2,v3,v4⟩:=h.first_out hi _ hout2;have hz0:=h.zero v;rw[v3]at hz0;have hzi:(S u).t i n=0:=by
  have:=h.rhs hi u (v-u);rw[show u+(v-u)=v by omega]at this;rw[←this,hz0]
 have hzr:=h.zero u;rw[u3]at hzr;obtain⟨w,hw⟩:=h.last_in hi v3 (u+N-(v+1));rw[show v+1+(u+N-(v+1))=u+N by omega,h.per]at hw;have hle:=ha w;have hjlt:(S u).b i<p a:=by omega
 have hc0:=hca.2.2 _ hjlt;have htp:0<(S u).t i (p u):=by
  apply Classical.byContradiction;intro g;have:=Rat.mul_nonneg (b:=-(S u).t i (p u)) hc0 (by grind);grind
 have hz:∀d:Rat,(0:Rat)/d=0:=fun d=>by rw[Rat.div_def,Rat.zero_mul]
 rcases hlu.2.2 i hi htp with g |g
 ·rw[hzr,hzi,hz,hz]at g
  exact absurd g (by decide)
 ·rw[u4]at g
  have:=g.2;omega
end
theorem UA:∀ (K:Nat) (f:Nat→Nat),(∀k,k≤K→f k<K)→∃a b,a<b∧b≤K∧f a=f b
 |0,f,h=>absurd (h 0 (Nat.le_refl _)) (by omega)
 |K+1,f,h=>by
  by_cases g:∃a,a≤K∧f a=f (K+1)
  ·obtain⟨a,h1,h2⟩:=g
   exact⟨a,K+1,by omega,Nat.le_refl _,h2⟩
  ·have g:∀a,a≤K→f a≠f (K+1):=fun a ha e=>g ⟨a,ha,e⟩
   obtain⟨a,b,h1,h2,h3⟩:=UA K (fun k=>if f k=K then f (K+1)else f k) fun k hk=>by
    have h1:=h k (by omega);have h2:=h (K+1) (by omega);have h3:=g k hk
    split <;> omega
   have g1:=g a (by omega);have g2:=g b (by omega);refine⟨a,b,h1,by omega,?_⟩
   split at h3 <;> split at h3 <;> omega
def E1 (e:Nat)(f:Nat→Nat):Nat→Nat
 |0=>0
 |n+1=>f n+e*E1 e f n
theorem Lk {e:Nat}{f:Nat→Nat}:∀ {n:Nat},(∀i,i<n→f i<e)→E1 e f n<e ^ n
 |0,_=>by show 0<e ^ 0;rw[Nat.pow_zero];omega
 |n+1,h=>by
  unfold E1;have h1:=Lk (e:=e) (f:=f) (n:=n) fun i hi=>h i (by omega)
  have h2:=h n (by omega);have h3:=Nat.mul_le_mul_left e (show E1 e f n+1≤e ^ n from h1);rw[Nat.pow_succ,Nat.mul_comm (e ^ n) e];rw[Nat.mul_add,Nat.mul_one]at h3;omega
theorem He {e:Nat}{f g:Nat→Nat}:∀ {n:Nat},(∀i,i<n→f i<e)→(∀i,i<n→g i<e)→E1 e f n=E1 e g n→∀i,i<n→f i=g i
  |0,_,_,_,i,hi=>absurd hi (by omega)
  |n+1,hf,hg,h,i,hi=>by
    unfold E1 at h;have h1:=hf n (by omega);have h2:=hg n (by omega);have h3:f n=g n:=by
      have:=congrArg (· % e) h
      simpa only[Nat.add_mul_mod_self_left,Nat.mod_eq_of_lt h1,Nat.mod_eq_of_lt h2]using this
    have h4:E1 e f n=E1 e g n:=by
      rw[h3]at h;exact Nat.eq_of_mul_eq_mul_left (show 0<e by omega) (Nat.add_left_cancel h)
    rcases Nat.lt_or_eq_of_le (Nat.lt_succ_iff.1 hi)with k |k
    · exact He (fun i hi=>hf i (by omega)) (fun i hi=>hg i (by omega)) h4 i k
    · rw[k];exact h3
theorem Tb.Eqv.symm {m n:Nat}{T U:Tb}(h:T.Eqv m n U):U.Eqv m n T:=⟨fun i k hi hk=>(h.1 i k hi hk).symm,fun k hk=>(h.2.1 k hk).symm,fun i hi=>(h.2.2 i hi).symm⟩
theorem Tb.Eqv.trans {m n:Nat}{T U V:Tb}(h:T.Eqv m n U)(g:U.Eqv m n V):T.Eqv m n V:=⟨fun i k hi hk=>(h.1 i k hi hk).trans (g.1 i k hi hk),fun k hk=>(h.2.1 k hk).trans (g.2.1 k hk),fun i hi=>(h.2.2 i hi).trans (g.2.2 i hi)⟩
theorem jR {m n e K:Nat}{S:Nat→Tb}{p r:Nat→Nat}(he:e≤n)(h0:(S 0).Ok m n e) (hs:∀k,k<K→Step m n e (S k) (p k) (r k) (S (k+1))):∀k,k≤K→(S k).Ok m n e∧(S 0).Sim m n (S k)
 |0,_=>⟨h0,Tb.Sim.refl _ _ _⟩
 |k+1,hk=>by
  obtain⟨h1,h2⟩:=jR he h0 hs k (by omega);exact⟨(hs k (by omega)).ok h1 he,h2.trans (hs k (by omega)).sim⟩
theorem RJ {m n e K:Nat}{S:Nat→Tb}{p r:Nat→Nat}(he:e≤n)(h0:(S 0).Ok m n e) (hs:∀k,k<K→Step m n e (S k) (p k) (r k) (S (k+1))):K<e ^ m:=by
 apply Classical.byContradiction;intro hK;have hok:=jR he h0 hs;obtain⟨a,b,h1,h2,h3⟩:=UA (e ^ m) (fun k=>E1 e (S k).b m) fun k hk=>Lk fun i hi=>(hok k (by omega)).1.bas i hi
 have hb:=He (fun i hi=>(hok a (by omega)).1.bas i hi) (fun i hi=>(hok b (by omega)).1.bas i hi) h3;have hsim:(S a).Sim m n (S b):=(hok a (by omega)).2.symm.trans (hok b (by omega)).2;have heq:=OX hsim (hok a (by omega)).1 (hok b (by omega)).1 he hb;have hlt:∀k,k%(b-a)<b-a:=fun k=>Nat.mod_lt _ (by omega)
 refine jb (m:=m) (n:=n) (e:=e) (N:=b-a) (S:=fun k=>S (a+k%(b-a))) (p:=fun k=>p (a+k%(b-a))) (r:=fun k=>r (a+k%(b-a))) ⟨by omega,he,fun k=>(hok _ (by have:=hlt k;omega)).1,fun k=>?_,fun k=>by simp only[Nat.add_mod_right]⟩;have hk:=hlt k;have h5:=hs (a+k%(b-a)) (by omega);by_cases g:k%(b-a)+1<b-a
 ·have:(k+1)%(b-a)=k%(b-a)+1:=by rw[Nat.add_mod,Nat.mod_eq_of_lt (show 1<b-a by omega),Nat.mod_eq_of_lt g]
  simp only[this];exact h5
 ·have h6:k%(b-a)+1=b-a:=by omega
  have:(k+1)%(b-a)=0:=by
   by_cases g1:b-a=1
   ·rw[g1,Nat.mod_one]
   ·rw[Nat.add_mod,Nat.mod_eq_of_lt (show 1<b-a by omega),h6,Nat.mod_self]
  simp only[this,Nat.add_zero];refine⟨h5.ent,h5.lv,?_⟩;rw[show a+k%(b-a)+1=b by omega]at h5;exact heq.trans h5.piv
def Lw (T:Tb):Nat→Option Nat
 |0=>none
 |k+1=>match Lw T k with
  |some p=>some p
  |none=>if T.c k<0 then some k else none
theorem EI {T:Tb}:∀ {e:Nat},Lw T e=none→∀j,j<e→0≤T.c j
 |e+1,h,j,hj=>by
  unfold Lw at h;cases g:Lw T e with
  |some p=>rw[g]at h;cases h
  |none =>
   rw[g]at h;simp only at h;rcases Nat.lt_or_eq_of_le (Nat.lt_succ_iff.1 hj)with k |k
   ·exact EI g j k
   ·subst k
    split at h
    ·cases h
    ·rename_i q;exact Rat.not_lt.1 q
theorem EJ {T:Tb}{p:Nat}:∀ {e:Nat},Lw T e=some p→Lx e T p
 |e+1,h=>by
  unfold Lw at h;cases g:Lw T e with
  |some q =>
   rw[g]at h;cases h;have:=EJ g;exact⟨by have:=this.1;omega,this.2⟩
  |none =>
   rw[g]at h;simp only at h
   split at h
   ·rename_i q
    cases h;exact⟨by omega,q,EI g⟩
   ·cases h
def Tb.q (T:Tb)(n p i:Nat):Rat:=T.t i n/T.t i p
def KZ (T:Tb)(n p:Nat):Nat→Option Nat
 |0=>none
 |k+1=>if 0<T.t k p then
   match KZ T n p k with
   |none=>some k
   |some r=>if T.q n p k<T.q n p r∨(T.q n p k=T.q n p r∧T.b k<T.b r)then some k else some r
  else KZ T n p k
theorem FE {T:Tb}{n p:Nat}:∀ {m:Nat},KZ T n p m=none→∀i,i<m→¬0<T.t i p
 |m+1,h,i,hi=>by
  unfold KZ at h
  split at h
  ·split at h
   ·cases h
   ·split at h <;> cases h
  ·rename_i g
   rcases Nat.lt_or_eq_of_le (Nat.lt_succ_iff.1 hi)with k |k
   ·exact FE h i k
   ·rw[k];exact g
theorem BU {T:Tb}{n p:Nat}:∀ {m r:Nat},KZ T n p m=some r→iI m n T p r
 |m+1,r,h=>by
  unfold KZ at h
  split at h
  ·rename_i hp
   split at h
   ·rename_i g
    cases h;refine⟨by omega,hp,fun i hi hi2=>?_⟩;rcases Nat.lt_or_eq_of_le (Nat.lt_succ_iff.1 hi)with k |k
    ·exact absurd hi2 (FE g i k)
    ·rw[k];exact .inr ⟨rfl,Nat.le_refl _⟩
   ·rename_i r0 g
    obtain⟨g1,g2,g3⟩:=BU g
    split at h
    ·rename_i hl
     cases h;refine⟨by omega,hp,fun i hi hi2=>?_⟩;rcases Nat.lt_or_eq_of_le (Nat.lt_succ_iff.1 hi)with k |k
     ·have h3:=g3 i k hi2
      unfold Tb.q at hl;rcases hl with hl | ⟨hl,hb⟩
      ·rcases h3 with h3 | ⟨h3,_⟩
       ·exact .inl (by grind)
       ·exact .inl (by rw[←h3];exact hl)
      ·rcases h3 with h3 | ⟨h3,h4⟩
       ·exact .inl (by rw[hl];exact h3)
       ·exact .inr ⟨hl.trans h3,by omega⟩
     ·rw[k];exact .inr ⟨rfl,Nat.le_refl _⟩
    ·rename_i hl
     cases h;refine⟨by omega,g2,fun i hi hi2=>?_⟩;rcases Nat.lt_or_eq_of_le (Nat.lt_succ_iff.1 hi)with k |k
     ·exact g3 i k hi2
     ·subst k
      unfold Tb.q at hl;simp only[not_or,Rat.not_lt,not_and,Nat.not_lt]at hl;by_cases e:T.t r n/T.t r p=T.t i n/T.t i p
      ·exact .inr ⟨e,hl.2 e.symm⟩
      ·refine .inl ?_
       apply Classical.byContradiction;intro w;exact e (Rat.le_antisymm hl.1 (Rat.not_lt.1 w))
  ·obtain⟨g1,g2,g3⟩:=BU h
   rename_i hp;refine⟨by omega,g2,fun i hi hi2=>?_⟩;rcases Nat.lt_or_eq_of_le (Nat.lt_succ_iff.1 hi)with k |k
   ·exact g3 i k hi2
   ·subst k;exact absurd hi2 hp
def BX (m n e:Nat)(T:Tb):Option Tb:=match Lw T e with
 |none=>none
 |some p=>match KZ T n p m with
  |none=>none
  |some r=>some (FL T r p)
def AE (m n e:Nat)(T:Tb):Nat→Tb
 |0=>T
 |k+1=>(BX m n e (AE m n e T k)).getD (AE m n e T k)
theorem M2 {m n e:Nat}{T U:Tb}(h:BX m n e T=some U):∃p r,Step m n e T p r U:=by
 unfold BX at h
 split at h
 ·cases h
 ·rename_i p hp
  split at h
  ·cases h
  ·rename_i r hr
   cases h;exact⟨p,r,EJ hp,BU hr,⟨fun _ _ _ _=>rfl,fun _ _=>rfl,fun _ _=>rfl⟩⟩
theorem jO {m n e:Nat}(T:Tb)(he:e≤n)(h0:T.Ok m n e):∃K,BX m n e (AE m n e T K)=none∧∀k,k<K→BX m n e (AE m n e T k)=some (AE m n e T (k+1)):=by
 have hsome:∀k,BX m n e (AE m n e T k)≠none→BX m n e (AE m n e T k)=some (AE m n e T (k+1)):=fun k hk=>by
  cases g:BX m n e (AE m n e T k)with
  |none=>exact absurd g hk
  |some U=>show some U=some ((BX m n e (AE m n e T k)).getD _);rw[g];rfl
 have hex:∃K,BX m n e (AE m n e T K)=none:=by
  apply Classical.byContradiction;intro hn;have hn:∀k,BX m n e (AE m n e T k)=some (AE m n e T (k+1)):=fun k=>hsome k fun g=>hn ⟨k,g⟩
  have hs:=fun k=>M2 (hn k)
  let p:Nat→Nat:=fun k=>(hs k).choose
  let r:Nat→Nat:=fun k=>(hs k).choose_spec.choose
  have hst:∀k,Step m n e (AE m n e T k) (p k) (r k) (AE m n e T (k+1)):=fun k=>(hs k).choose_spec.choose_spec
  have:=RJ (K:=e ^ m) (S:=AE m n e T) he h0 fun k _=>hst k
  omega
 obtain⟨K,hK⟩:=hex
 induction K using Nat.strongRecOn with
 |_ K ih =>
  by_cases g:∃k,k<K∧BX m n e (AE m n e T k)=none
  ·obtain⟨k,h1,h2⟩:=g
   exact ih k h1 h2
  ·exact⟨K,hK,fun k hk=>hsome k fun h=>g ⟨k,hk,h⟩⟩
theorem Wp {m n e K:Nat}{T:Tb}(he:e≤n)(h0:T.Ok m n e)(hs:∀k,k<K→BX m n e (AE m n e T k)=some (AE m n e T (k+1))):∀k,k≤K→(AE m n e T k).Ok m n e∧T.Sim m n (AE m n e T k)
 |0,_=>⟨h0,Tb.Sim.refl _ _ _⟩
 |k+1,hk=>by
  obtain⟨h1,h2⟩:=Wp he h0 hs k (by omega);obtain⟨p,r,h3⟩:=M2 (hs k (by omega));exact⟨h3.ok h1 he,h2.trans h3.sim⟩
theorem Ca (f:Nat→Rat)(a:Nat):∀b,XB f (a+b)=XB f a+XB (fun i=>f (a+i)) b
 |0=>by show XB f a=XB f a+0;grind
 |b+1=>by
  show XB f (a+b)+f (a+b)=XB f a+(XB _ b+f (a+b));rw[Ca f a b];grind
def JC (v m:Nat)(A:Nat→Nat→Rat)(B G:Nat→Rat):Tb where
 t i k:=if k<v then A i k else if k<2*v then -A i (k-v)else if k=2*v+i then 1 else if k=2*v+2*m then B i else 0
 c k:=if k<v then -G k else if k<2*v then G (k-v)else 0
 b i:=2*v+i
section
variable {v m:Nat} {A:Nat→Nat→Rat} {B G:Nat→Rat}
theorem WE (hB:∀i,i<m→0≤B i):(JC v m A B G).Ok m (2*v+2*m) (2*v+m):=by
 refine⟨fun i hi=>?_,fun i k hi hk=>?_,fun i hi=>?_,fun i hi=>?_⟩
 ·show 2*v+i<2*v+m;omega
 ·show(if 2*v+k<v then _ else if 2*v+k<2*v then _ else if 2*v+k=2*v+i then(1:Rat)else if 2*v+k=2*v+2*m then _ else _)=_
  rw[if_neg (by omega),if_neg (by omega)];by_cases h:i=k
  ·rw[if_pos h,if_pos (by omega)]
  ·rw[if_neg h,if_neg (by omega),if_neg (by omega)]
 ·show(if 2*v+i<v then _ else if 2*v+i<2*v then _ else(0:Rat))=0
  rw[if_neg (by omega),if_neg (by omega)]
 ·show 0≤(if 2*v+2*m<v then _ else if 2*v+2*m<2*v then _ else if 2*v+2*m=2*v+i then(1:Rat)else if 2*v+2*m=2*v+2*m then B i else _)
  rw[if_neg (by omega),if_neg (by omega),if_neg (by omega),if_pos rfl];exact hB i hi
theorem oG (y:Nat→Rat){i:Nat}(hi:i<m):XB (fun j=>(JC v m A B G).t i j*y j) (2*v+2*m+1)=XB (fun k=>A i k*(y k-y (v+k))) v+y (2*v+i)+B i*y (2*v+2*m):=by
 rw[show 2*v+2*m+1=v+(v+(2*m+1))by omega,Ca,Ca];have e1:XB (fun j=>(JC v m A B G).t i j*y j) v=XB (fun k=>A i k*y k) v:=XH fun k hk=>by
  show(if k<v then _ else _)*y k=_;rw[if_pos hk]
 have e2:XB (fun k=>(JC v m A B G).t i (v+k)*y (v+k)) v=XB (fun k=>(-1)*(A i k*y (v+k))) v:=XH fun k hk=>by
  show(if v+k<v then _ else if v+k<2*v then -A i (v+k-v)else _)*y (v+k)=_;rw[if_neg (by omega),if_pos (by omega),show v+k-v=k by omega];grind
 have e3:∀l,l<2*m+1→(JC v m A B G).t i (v+(v+l))*y (v+(v+l))=(if l=i then y (2*v+i)else if l=2*m then B i*y (2*v+2*m)else 0):=fun l hl=>by
  show(if v+(v+l)<v then _ else if v+(v+l)<2*v then _ else if v+(v+l)=2*v+i then(1:Rat)else if v+(v+l)=2*v+2*m then B i else 0)*y (v+(v+l))=_;rw[if_neg (by omega),if_neg (by omega)];by_cases h:l=i
  ·rw[if_pos (by omega),if_pos h,show v+(v+l)=2*v+i by omega];grind
  ·rw[if_neg (by omega),if_neg h]
   by_cases h2:l=2*m
   ·rw[if_pos (by omega),if_pos h2,show v+(v+l)=2*v+2*m by omega]
   ·rw[if_neg (by omega),if_neg h2];grind
 have e4:XB (fun l=>(JC v m A B G).t i (v+(v+l))*y (v+(v+l))) (2*m+1)=y (2*v+i)+B i*y (2*v+2*m):=by
  rw[XH e3];show XB _ (2*m)+_=_;rw[ZQ (k:=i) (by omega) fun l hl hn=>by rw[if_neg hn,if_neg (by omega)],if_pos rfl];simp only[if_neg (show ¬2*m=i by omega),if_true]
 rw[e1,e2,e4,QS];rw[show(fun k=>A i k*(y k-y (v+k)))=fun k=>A i k*y k-A i k*y (v+k)from funext fun k=>by grind,CZ];grind
theorem pW (y:Nat→Rat):XB (fun j=>(JC v m A B G).c j*y j) (2*v+2*m+1) = -XB (fun k=>G k*(y k-y (v+k))) v:=by
 rw[show 2*v+2*m+1=v+(v+(2*m+1))by omega,Ca,Ca];have e1:XB (fun j=>(JC v m A B G).c j*y j) v=XB (fun k=>(-1)*(G k*y k)) v:=XH fun k hk=>by
  show(if k<v then _ else _)*y k=_;rw[if_pos hk];grind
 have e2:XB (fun k=>(JC v m A B G).c (v+k)*y (v+k)) v=XB (fun k=>G k*y (v+k)) v:=XH fun k hk=>by
  show(if v+k<v then _ else if v+k<2*v then G (v+k-v)else _)*y (v+k)=_;rw[if_neg (by omega),if_pos (by omega),show v+k-v=k by omega]
 have e3:XB (fun l=>(JC v m A B G).c (v+(v+l))*y (v+(v+l))) (2*m+1)=0:=Kl fun l hl=>by
  show(if v+(v+l)<v then _ else if v+(v+l)<2*v then _ else(0:Rat))*y (v+(v+l))=0;rw[if_neg (by omega),if_neg (by omega)];grind
 rw[e1,e2,e3,QS];rw[show(fun k=>G k*(y k-y (v+k)))=fun k=>G k*y k-G k*y (v+k)from funext fun k=>by grind,CZ];grind
structure IsOpt (v m:Nat)(A:Nat→Nat→Rat)(B G:Nat→Rat)(x y:Nat→Rat)(val:Rat):Prop where
 feas:∀i,i<m→XB (fun k=>A i k*x k) v≤B i
 dpos:∀i,i<m→0≤y i
 dual:∀k,k<v→XB (fun i=>A i k*y i) m=G k
 val1:XB (fun k=>G k*x k) v=val
 val2:XB (fun i=>B i*y i) m=val
theorem p7 {f g:Nat→Rat}{n:Nat}(h:∀i,i<n→f i≤g i):XB f n≤XB g n:=by
 have:=Cs (f:=fun i=>g i-f i) (n:=n) fun i hi=>by have:=h i hi;grind
 rw[CZ]at this;grind
theorem IsOpt.most {x y:Nat→Rat}{val:Rat}(h:IsOpt v m A B G x y val){z:Nat→Rat}(hz:∀i,i<m→XB (fun k=>A i k*z k) v≤B i):XB (fun k=>G k*z k) v≤val:=by
 have e:XB (fun k=>G k*z k) v=XB (fun i=>y i*XB (fun k=>A i k*z k) v) m:=by
  rw[XH fun i hi=>(QS (y i) (fun k=>A i k*z k) v).symm,EZ];refine XH fun k hk=>?_
  rw[←h.dual k hk,Rat.mul_comm,←QS];exact XH fun i hi=>by grind
 rw[e,←h.val2];refine p7 fun i hi=>?_
 have:=Rat.mul_le_mul_of_nonneg_right (hz i hi) (h.dpos i hi);grind
theorem IsOpt.uniq {x y x' y':Nat→Rat}{val val':Rat}(h:IsOpt v m A B G x y val)(h':IsOpt v m A B G x' y' val'):val=val':=by
 refine Rat.le_antisymm ?_ ?_
 ·rw[←h.val1];exact h'.most h.feas
 ·rw[←h'.val1];exact h.most h'.feas
def KN (m n:Nat)(T:Tb)(j:Nat):Rat:=XB (fun i=>if T.b i=j then T.t i n else 0) m
theorem o9 {n e:Nat}{T:Tb}(h:T.Ok m n e)(j:Nat):0≤KN m n T j:=Cs fun i hi=>by
 split
 ·exact h.rhs i hi
 ·exact Rat.le_refl
theorem jc {n e:Nat}{T:Tb}(h:T.Ok m n e)(he:e≤n)(j:Nat)(hj:j≠n):FA m T n j = -KN m n T j:=by
 unfold FA KN;rw[if_neg hj];grind
theorem sI {n e:Nat}{T:Tb}(h:T.Ok m n e)(he:e≤n):FA m T n n=1:=by
 unfold FA;rw[if_pos rfl,Kl fun i hi=>by rw[if_neg (by have:=h.bas i hi;omega)]];grind
theorem aH {T:Tb}(hB:∀ i,i<m→0≤B i)(hs:(JC v m A B G).Sim m (2*v+2*m) T) (hT:T.Ok m (2*v+2*m) (2*v+m)) (hc:∀j,j<2*v+m→0≤T.c j) :
  IsOpt v m A B G (fun k=>KN m (2*v+2*m) T k-KN m (2*v+2*m) T (v+k)) (fun i=>T.c (2*v+i)) (T.c (2*v+2*m)):=by
 have he:2*v+m≤2*v+2*m:=by omega
 have hk:=hT.dir_ker he (Nat.le_refl _);have hd:=fun j hj=>jc hT he j hj
 have hn:=sI hT he;have hby:=fun p hp=>G7 (p:=p) hs.symm (WE hB) he hp
 have hcol:∀p,p≤2*v+2*m→T.c p=(JC v m A B G).c p+XB (fun i=>(JC v m A B G).t i p*T.c (2*v+i)) m:=fun p hp=>by
  have:=hby p hp;have e:XB (fun i=>T.c ((JC v m A B G).b i)*(JC v m A B G).t i p) m=XB (fun i=>(JC v m A B G).t i p*T.c (2*v+i)) m:=XH fun i _=>Rat.mul_comm _ _
  rw[e]at this;grind
 refine⟨fun i hi=>?_,fun i hi=>hc _ (by omega),fun k hk'=>?_,?_,?_⟩
 ·have:=(hs _).1.2 hk i hi
  rw[oG _ hi,hn,hd _ (by omega),XH (g:=fun k=>(-1)*(A i k*(KN m (2*v+2*m) T k-KN m (2*v+2*m) T (v+k)))) fun k hk=>by rw[hd _ (by omega),hd _ (by omega)];grind,QS]at this;have:=o9 hT (2*v+i);grind
 ·have h1:=hcol k (by omega)
  have h2:=hcol (v+k) (by omega);have g1:=hc k (by omega);have g2:=hc (v+k) (by omega);rw[XH (g:=fun i=>A i k*T.c (2*v+i)) fun i _=>by
   show(if k<v then _ else _)*_=_;rw[if_pos hk'],show(JC v m A B G).c k = -G k by show(if k<v then _ else _)=_;rw[if_pos hk']]at h1
  rw[XH (g:=fun i=>(-1)*(A i k*T.c (2*v+i))) fun i _=>by
   show(if v+k<v then _ else if v+k<2*v then -A i (v+k-v)else _)*_=_;rw[if_neg (by omega),if_pos (by omega),show v+k-v=k by omega];grind,QS,show(JC v m A B G).c (v+k)=G k by
    show(if v+k<v then _ else if v+k<2*v then G (v+k-v)else _)=_;rw[if_neg (by omega),if_pos (by omega),show v+k-v=k by omega]]at h2
  refine Rat.le_antisymm ?_ ?_ <;> grind
 ·have h1:=(hs _).2 ((hs _).1.2 hk)
  rw[hT.dir_cost he (Nat.le_refl _),pW,XH (g:=fun k=>(-1)*(G k*(KN m (2*v+2*m) T k-KN m (2*v+2*m) T (v+k)))) fun k hk=>by rw[hd _ (by omega),hd _ (by omega)];grind,QS]at h1;rw[←h1];grind
 ·have h1:=hcol (2*v+2*m) (Nat.le_refl _)
  rw[h1,show(JC v m A B G).c (2*v+2*m)=0 by
   show(if 2*v+2*m<v then _ else if 2*v+2*m<2*v then _ else _)=_;rw[if_neg (by omega),if_neg (by omega)]]
  rw[XH (f:=fun i=>(JC v m A B G).t i (2*v+2*m)*T.c (2*v+i)) (g:=fun i=>B i*T.c (2*v+i)) fun i hi=>by
   show(if 2*v+2*m<v then _ else if 2*v+2*m<2*v then _ else if 2*v+2*m=2*v+i then(1:Rat)else if 2*v+2*m=2*v+2*m then B i else 0)*_=_;rw[if_neg (by omega),if_neg (by omega),if_neg (by omega),if_pos rfl]]
  grind
theorem sH {T:Tb}{p i0:Nat}(hs:(JC v m A B G).Sim m (2*v+2*m) T) (hT:T.Ok m (2*v+2*m) (2*v+m)) (hp:Lx (2*v+m) T p) (hl:∀i,i<m→¬0<T.t i p) (hi0:i0<m) (hA:∀k,k<v→A i0 k=G k):False:=by
 have he:2*v+m≤2*v+2*m:=by omega
 have hpn:p≤2*v+2*m:=by have:=hp.1;omega
 have hk:=(hs _).1.2 (hT.dir_ker he hpn);have hd:∀j,0≤FA m T p j:=fun j=>by
  unfold FA;have:0≤XB (fun i=>if T.b i=j then -T.t i p else 0) m:=Cs fun i hi=>by
   split
   ·have:=hl i hi;grind
   ·exact Rat.le_refl
  rw[XH (g:=fun i=>(-1)*(if T.b i=j then T.t i p else 0)) fun i _=>by split <;> grind,QS]at this
  split <;> grind
 have hn0:FA m T p (2*v+2*m)=0:=by
  unfold FA;rw[if_neg (by have:=hp.1;omega),Kl fun i hi=>by rw[if_neg (by have:=hT.bas i hi;omega)]];grind
 have h1:=hk i0 hi0;rw[oG _ hi0,hn0,XH (g:=fun k=>G k*(FA m T p k-FA m T p (v+k))) fun k hk=>by rw[hA k hk]]at h1;have h2:=(hs _).2 hk;rw[hT.dir_cost he hpn,pW]at h2;have h3:=hp.2.1;have h4:=hd (2*v+i0);grind
end
end Go.Ab.N
namespace Go.Ab.N
set_option maxRecDepth 10000
set_option maxHeartbeats 4000000
def Fc (f:Nat→Int):Nat→Int
 |0=>0
 |n+1=>Fc f n+f n
theorem Mz {f g:Nat→Int}:∀ {n:Nat},(∀i,i<n→f i=g i)→Fc f n=Fc g n
 |0,_=>rfl
 |n+1,h=>by
  unfold Fc;rw[Mz fun i hi=>h i (by omega),h n (by omega)]
theorem SX (f g:Nat→Int):∀n,Fc (fun i=>f i-g i) n=Fc f n-Fc g n
 |0=>rfl
 |n+1=>by unfold Fc;rw[SX f g n];omega
theorem WD {f:Nat→Int}{c:Int}:∀ {n:Nat},(∀i,i<n→-c≤f i∧f i≤c)→-(n*c)≤Fc f n∧Fc f n≤n*c
 |0,_=>by unfold Fc;simp
 |n+1,h=>by
  unfold Fc;have h1:=WD (f:=f) (c:=c) (n:=n) fun i hi=>h i (by omega)
  have h2:=h n (by omega);have h3:((n+1:Nat):Int)*c=n*c+c:=by rw[Int.natCast_add,Int.add_mul];simp
  rw[h3];omega
theorem SW (f:Nat→Int):∀n,((Fc f n:Int):Rat)=XB (fun i=>(f i:Rat)) n
 |0=>rfl
 |n+1=>by unfold Fc XB;rw[Rat.intCast_add,SW f n]
def CM (L x k:Nat):Nat:=x/L ^ k%L
theorem OO {L:Nat}(hL:0<L)(x k:Nat):CM L x k<L:=Nat.mod_lt _ hL
theorem Np (L x k:Nat):CM L x (k+1)=CM L (x/L) k:=by
 unfold CM;rw[Nat.div_div_eq_div_mul,Nat.pow_succ,Nat.mul_comm (L ^ k) L]
theorem R7 {L:Nat}(hL:0<L):∀ (n x y:Nat),x<L ^ n→y<L ^ n→(∀k,k<n→CM L x k=CM L y k)→x=y
 |0,x,y,hx,hy,_=>by rw[Nat.pow_zero]at hx hy;omega
 |n+1,x,y,hx,hy,h=>by
  have h0:=h 0 (by omega);unfold CM at h0;rw[Nat.pow_zero,Nat.div_one,Nat.div_one]at h0;have h1:=R7 hL n (x/L) (y/L) (Nat.div_lt_of_lt_mul (by rw[Nat.pow_succ,Nat.mul_comm]at hx;exact hx)) (Nat.div_lt_of_lt_mul (by rw[Nat.pow_succ,Nat.mul_comm]at hy;exact hy)) fun k hk=>by
   rw[←Np,←Np];exact h (k+1) (by omega)
  rw[←Nat.div_add_mod x L,←Nat.div_add_mod y L,h0,h1]
theorem ti {m C:Nat}(Z:Nat→Nat→Int)(hZ:∀i k,i<m→k≤m→(Z i k).natAbs≤C) :
  ∃z:Nat→Int,(∃k,k≤m∧z k≠0)∧(∀k,(z k).natAbs≤(2*((m+1)*C)+1) ^ m)∧∀i,i<m→Fc (fun k=>Z i k*z k) (m+1)=0:=by
 obtain⟨Q,hQ⟩:∃Q,Q=(m+1)*C:=⟨_,rfl⟩
 rw[←hQ];obtain⟨M,hM⟩:∃M,M=(2*Q+1) ^ m:=⟨_,rfl⟩
 rw[←hM];have hL:0<M+1:=by omega
 let s:Nat→Nat→Int:=fun x i=>Fc (fun k=>Z i k*(CM (M+1) x k:Int)) (m+1)
 have hs:∀x i,i<m→-((Q*M:Nat):Int)≤s x i∧s x i≤((Q*M:Nat):Int):=fun x i hi=>by
  have:=WD (f:=fun k=>Z i k*(CM (M+1) x k:Int)) (c:=((C*M:Nat):Int)) (n:=m+1) fun k hk=>by
   have h1:=hZ i k hi (by omega);have h2:=OO hL x k;have h3:(Z i k*(CM (M+1) x k:Int)).natAbs≤C*M:=by
    rw[Int.natAbs_mul,Int.natAbs_natCast];exact Nat.mul_le_mul h1 (by omega)
   omega
  have e:((m+1:Nat):Int)*((C*M:Nat):Int)=((Q*M:Nat):Int):=by
   rw[hQ,←Int.natCast_mul,Nat.mul_assoc]
  rw[e]at this;exact this
 let c:Nat→Nat→Nat:=fun x i=>(s x i+((Q*M:Nat):Int)).toNat
 have hc:∀x i,i<m→c x i<2*(Q*M)+1:=fun x i hi=>by
  have:=hs x i hi;show(s x i+((Q*M:Nat):Int)).toNat<_;omega
 have hlt:(2*(Q*M)+1) ^ m<(M+1) ^ (m+1):=by
  have h1:2*(Q*M)+1≤(2*Q+1)*(M+1):=by
   rw[Nat.add_mul,Nat.one_mul,Nat.mul_add,Nat.mul_one,Nat.mul_assoc];omega
  have h2:=Nat.pow_le_pow_left h1 m;rw[Nat.mul_pow,←hM]at h2;have h3:0<(M+1) ^ m:=Nat.pow_pos hL;have h2:(2*(Q*M)+1) ^ m≤M*(M+1) ^ m:=h2;rw[Nat.pow_succ,Nat.mul_add,Nat.mul_one,Nat.mul_comm ((M+1) ^ m) M];omega
 obtain⟨a,b,h1,h2,h3⟩:=UA ((2*(Q*M)+1) ^ m) (fun x=>E1 (2*(Q*M)+1) (c x) m) fun x _=>Lk fun i hi=>hc x i hi
 have h4:=He (fun i hi=>hc a i hi) (fun i hi=>hc b i hi) h3;have h5:∀i,i<m→s a i=s b i:=fun i hi=>by
  have g1:=hs a i hi;have g2:=hs b i hi;have g3:(s a i+((Q*M:Nat):Int)).toNat=(s b i+((Q*M:Nat):Int)).toNat:=h4 i hi;omega
 refine⟨fun k=>(CM (M+1) a k:Int)-(CM (M+1) b k:Int),?_,fun k=>?_,fun i hi=>?_⟩
 ·apply Classical.byContradiction
  intro hn;have:=R7 hL (m+1) a b (by omega) (by omega) fun k hk=>by
   apply Classical.byContradiction;intro g;exact hn ⟨k,by omega,by show(CM (M+1) a k:Int)-(CM (M+1) b k:Int)≠0;omega⟩
  omega
 ·show((CM (M+1) a k:Int)-(CM (M+1) b k:Int)).natAbs≤M
  have g1:=OO hL a k;have g2:=OO hL b k;omega
 ·have e:∀k,Z i k*((CM (M+1) a k:Int)-(CM (M+1) b k:Int))=Z i k*(CM (M+1) a k:Int)-Z i k*(CM (M+1) b k:Int):=fun k=>Int.mul_sub _ _ _
  rw[Mz fun k _=>e k,SX];have:=h5 i hi;show s a i-s b i=0;omega
theorem RX (f:Nat→Rat)(g:Nat→Nat)(z:Nat→Rat){N:Nat}:∀ {M:Nat},(∀k,k<M→g k<N)→XB (fun j=>f j*XB (fun k=>if g k=j then z k else 0) M) N=XB (fun k=>f (g k)*z k) M
 |M,hg=>by
  have e:∀j,f j*XB (fun k=>if g k=j then z k else 0) M=XB (fun k=>f j*(if g k=j then z k else 0)) M:=fun j=>(QS _ _ _).symm
  rw[XH fun j _=>e j,EZ];refine XH fun k hk=>?_
  rw[ZQ (k:=g k) (hg k hk) fun j _ hn=>by rw[if_neg (Ne.symm hn)];grind,if_pos rfl]
theorem SI {m n e C:Nat}{T0 T:Tb}(hs:T0.Sim m n T)(hT:T.Ok m n e)(he:e≤n)(D:Nat→Int)(Z:Nat→Nat→Int)(hD:∀ i,i<m→D i≠0)(hDZ:∀i j,i<m→j≤n→(D i:Rat)*T0.t i j=(Z i j:Rat)) (hZ:∀i j,i<m→j≤n→(Z i j).natAbs≤C)
  {i p:Nat} (hi:i<m) (hp:p≤n):∃a b:Int,b≠0∧a.natAbs≤(2*((m+1)*C)+1) ^ m∧b.natAbs≤(2*((m+1)*C)+1) ^ m∧T.t i p=Rat.divInt a b:=by
 let g:Nat→Nat:=fun k=>if k<m then T.b k else p
 have hg:∀k,k<m+1→g k<n+1:=fun k hk=>by
  show(if k<m then T.b k else p)<n+1
  split
  ·rename_i h;have:=hT.bas k h;omega
  ·omega
 obtain⟨z,⟨k0,hk0,hz0⟩,hzb,hz⟩:=ti (m:=m) (C:=C) (fun i k=>Z i (g k)) fun i k hi hk=>hZ i _ hi (by have:=hg k (by omega);omega)
 have hker:T0.ker m n fun j=>XB (fun k=>if g k=j then(z k:Rat)else 0) (m+1):=fun i hi=>by
  rw[RX (fun j=>T0.t i j) g (fun k=>(z k:Rat)) hg];have h1:=congrArg (fun x:Int=>(x:Rat)) (hz i hi);rw[SW,XH (g:=fun k=>(D i:Rat)*(T0.t i (g k)*(z k:Rat))) fun k hk=>by rw[Rat.intCast_mul,←hDZ i _ hi (by have:=hg k hk;omega)];grind,QS]at h1;rcases Rat.mul_eq_zero.1 h1 with h |h
  ·exact absurd (Rat.intCast_eq_zero_iff.1 h) (hD i hi)
  ·exact h
 have hker:=(hs _).1.1 hker;have hrow:∀i,i<m→(z i:Rat) = -(T.t i p*(z m:Rat)):=fun i hi=>by
  have h1:=hker i hi;rw[RX (fun j=>T.t i j) g (fun k=>(z k:Rat)) hg]at h1;have h2:XB (fun k=>T.t i (g k)*(z k:Rat)) m+T.t i (g m)*(z m:Rat)=0:=h1;rw[show g m=p from if_neg (Nat.lt_irrefl m),ZQ (k:=i) hi fun k hk hn=>by
   show T.t i (if k<m then T.b k else p)*_=0;rw[if_pos hk,hT.unit i k hi hk,if_neg (Ne.symm hn)];grind]at h2
  rw[show g i=T.b i from if_pos hi,hT.unit i i hi hi,if_pos rfl]at h2;grind
 have hm:z m≠0:=fun h=>by
  rcases Nat.lt_or_eq_of_le hk0 with k |k
  ·have:=hrow k0 k
   rw[h]at this;have:(z k0:Rat)=0:=by rw[this];have:(((0:Int):Int):Rat)=0:=rfl;grind
   exact hz0 (Rat.intCast_eq_zero_iff.1 this)
  ·exact hz0 (by rw[k];exact h)
 refine⟨-z i,z m,hm,by rw[Int.natAbs_neg];exact hzb i,hzb m,?_⟩;have h1:=hrow i hi;have h2:(z m:Rat)≠0:=fun h=>hm (Rat.intCast_eq_zero_iff.1 h)
 rw[Rat.divInt_eq_div,Rat.intCast_neg,h1,Rat.div_def];have:=Rat.mul_inv_cancel _ h2;grind
end Go.Ab.N
namespace Go.Ab.N
open Go Go.RowKit Go.Proofs
set_option maxRecDepth 10000
set_option maxHeartbeats 4000000
theorem V0 {v m:Nat}{A:Nat→Nat→Rat}{B G:Nat→Rat}(hB:∀ i,i<m→0≤B i){i0:Nat}(hi0:i0<m)(hA:∀k,k<v→A i0 k=G k) :
  ∃ (K:Nat) (S:Nat→Tb),S 0=JC v m A B G∧(∀k,k≤K→(S k).Ok m (2*v+2*m) (2*v+m)∧(JC v m A B G).Sim m (2*v+2*m) (S k)) ∧
   (∀k,k<K→∃p r,Lx (2*v+m) (S k) p∧KZ (S k) (2*v+2*m) p m=some r∧S (k+1)=FL (S k) r p)∧(∀j,j<2*v+m→0≤(S K).c j) ∧
   IsOpt v m A B G (fun k=>KN m (2*v+2*m) (S K) k-KN m (2*v+2*m) (S K) (v+k)) (fun i=>(S K).c (2*v+i)) ((S K).c (2*v+2*m)):=by
 have he:2*v+m≤2*v+2*m:=by omega
 have h0:=WE (v:=v) (m:=m) (A:=A) (B:=B) (G:=G) hB;obtain⟨K,hK,hs⟩:=jO (JC v m A B G) he h0;have hok:=Wp he h0 hs;have hend:Lw (AE m (2*v+2*m) (2*v+m) (JC v m A B G) K) (2*v+m)=none:=by
  cases he2:Lw (AE m (2*v+2*m) (2*v+m) (JC v m A B G) K) (2*v+m)with
  |none=>rfl
  |some p =>
   exfalso;unfold BX at hK;rw[he2]at hK;simp only at hK;cases hl:KZ (AE m (2*v+2*m) (2*v+m) (JC v m A B G) K) (2*v+2*m) p m with
   |some r=>rw[hl]at hK;cases hK
   |none=>exact sH (hok K (Nat.le_refl _)).2 (hok K (Nat.le_refl _)).1 (EJ he2) (FE hl) hi0 hA
 refine⟨K,AE m (2*v+2*m) (2*v+m) (JC v m A B G),rfl,hok,fun k hk=>?_,EI hend,aH hB (hok K (Nat.le_refl _)).2 (hok K (Nat.le_refl _)).1 (EI hend)⟩;have h1:=hs k hk;unfold BX at h1;cases hp:Lw (AE m (2*v+2*m) (2*v+m) (JC v m A B G) k) (2*v+m)with
 |none=>rw[hp]at h1;cases h1
 |some p =>
  rw[hp]at h1;simp only at h1;cases hl:KZ (AE m (2*v+2*m) (2*v+m) (JC v m A B G) k) (2*v+2*m) p m with
  |none=>rw[hl]at h1;cases h1
  |some r =>
   rw[hl]at h1;simp only at h1;exact⟨p,r,EJ hp,hl,(Option.some.inj h1).symm⟩
def Il (f:Nat→Rat):Nat→Int
 |0=>1
 |k+1=>Il f k*(f k).den
theorem VB (f:Nat→Rat):∀k,Il f k≠0
 |0=>by unfold Il;omega
 |k+1=>by
  unfold Il;have:=(f k).den_nz;exact Int.mul_ne_zero (VB f k) (by omega)
theorem VA (f:Nat→Rat){c:Nat}(h:∀k,qb (f k)≤c):∀k,bl (Il f k)≤k*c+3
 |0=>by
  have:bl (1:Int)≤3:=Zt ⟨by omega,by omega⟩;show bl 1≤_;omega
 |k+1=>by
  unfold Il;have h1:=JE (Il f k) (f k).den;have h2:=VA f h k;have h3:=JG (f k);have h4:=h k;have e:(k+1)*c=k*c+c:=Nat.succ_mul k c;omega
theorem G8 (f:Nat→Rat):∀k j,j<k→∃z:Int,(Il f k:Rat)*f j=(z:Rat)
 |k+1,j,hj=>by
  unfold Il;by_cases e:j=k
  ·subst e
   refine⟨Il f j*(f j).num,?_⟩;have hd:((f j).den:Rat)≠0:=by
    intro h;exact(f j).den_nz (by exact_mod_cast h)
   have hn:((f j).den:Rat)*f j=((f j).num:Rat):=by
    have h1:((f j).num:Rat)/(((f j).den:Int):Rat)=f j:=(Rat.divInt_eq_div _ _).symm.trans (Rat.num_divInt_den (f j));have h2:((((f j).den:Nat):Int):Rat)=((f j).den:Rat):=rfl;rw[h2]at h1;have h3:=Rat.div_mul_cancel (a:=((f j).num:Rat)) hd;rw[h1]at h3;rw[Rat.mul_comm];exact h3
   rw[Rat.intCast_mul,Rat.intCast_mul,Rat.mul_assoc];show(Il f j:Rat)*((((f j).den:Nat):Rat)*f j)=_;rw[hn]
  ·obtain⟨z,hz⟩:=G8 f k j (by omega)
   refine⟨z*(f k).den,?_⟩;rw[Rat.intCast_mul,Rat.intCast_mul,←hz];grind
theorem Re {v m c:Nat}{A:Nat→Nat→Rat}{B G:Nat→Rat}{T:Tb}(hs:(JC v m A B G).Sim m (2*v+2*m) T) (hT:T.Ok m (2*v+2*m) (2*v+m)) (hm:m+1<100000000) (hA:∀i k,qb (A i k)≤c) (hB:∀i,qb (B i)≤c) {i p:Nat} (hi:i<m) (hp:p≤2*v+2*m) :
  qb (T.t i p)≤m*((v+2)*c+5)+1:=by
 let f:Nat→Nat→Rat:=fun i k=>if k<v then A i k else B i
 have hf:∀i k,qb (f i k)≤c:=fun i k=>by
  show qb (if k<v then A i k else B i)≤c
  split
  ·exact hA i k
  ·exact hB i
 let D:Nat→Int:=fun i=>Il (f i) (v+1)
 have hD:∀i,D i≠0:=fun i=>VB _ _
 have hDb:∀i,bl (D i)≤(v+1)*c+3:=fun i=>VA _ (hf i) _
 have hint:∀i j,j≤2*v+2*m→∃z:Int,(D i:Rat)*(JC v m A B G).t i j=(z:Rat)∧bl z≤(v+2)*c+3:=fun i j _=>by
  have he:(v+2)*c=(v+1)*c+c:=Nat.succ_mul (v+1) c;have hz:∀x:Rat,qb x≤c→(∃z:Int,(D i:Rat)*x=(z:Rat))→∃z:Int,(D i:Rat)*x=(z:Rat)∧bl z≤(v+2)*c+3:=fun x hx ⟨z,hz⟩=>by
   refine⟨z,hz,?_⟩;have h1:z*x.den=D i*x.num:=by
    have h2:((x.num:Int):Rat)/(((x.den:Nat):Int):Rat)=x:=(Rat.divInt_eq_div _ _).symm.trans (Rat.num_divInt_den x);have hd:(((x.den:Nat):Int):Rat)≠0:=fun h=>x.den_nz (by have:=Rat.intCast_eq_zero_iff.1 h;omega)
    have h3:=Rat.div_mul_cancel (a:=((x.num:Int):Rat)) hd;rw[h2]at h3;have h4:((z*x.den:Int):Rat)=((D i*x.num:Int):Rat):=by
     rw[Rat.intCast_mul,Rat.intCast_mul,←hz,←h3];grind
    exact Rat.intCast_inj.1 h4
   have h5:z.natAbs≤(D i*x.num).natAbs:=Cx (m:=(x.den:Int)) (by have:=x.den_nz;omega) h1.symm;have h6:=QY h5;have h7:=JE (D i) x.num;have h8:=hDb i;have h9:=Jz x;omega
  have hd1:bl (D i)≤(v+2)*c+3:=by have:=hDb i;omega
  show ∃z:Int,(D i:Rat)*(if j<v then A i j else if j<2*v then -A i (j-v)else if j=2*v+i then 1 else if j=2*v+2*m then B i else 0)=(z:Rat)∧_;by_cases h1:j<v
  ·rw[if_pos h1]
   exact hz _ (hA i j) (by have:=G8 (f i) (v+1) j (by omega);rwa[show f i j=A i j from if_pos h1]at this)
  rw[if_neg h1];by_cases h2:j<2*v
  ·rw[if_pos h2]
   obtain⟨z,q1,q2⟩:=hz _ (hA i (j-v)) (by have:=G8 (f i) (v+1) (j-v) (by omega);rwa[show f i (j-v)=A i (j-v)from if_pos (by omega)]at this);exact⟨-z,by rw[Rat.intCast_neg,←q1];grind,by rw[eQ];exact q2⟩
  rw[if_neg h2];by_cases h3:j=2*v+i
  ·rw[if_pos h3];exact⟨D i,by grind,hd1⟩
  rw[if_neg h3];by_cases h4:j=2*v+2*m
  ·rw[if_pos h4]
   exact hz _ (hB i) (by have:=G8 (f i) (v+1) v (by omega);rwa[show f i v=B i from if_neg (Nat.lt_irrefl v)]at this)
  ·rw[if_neg h4]
   refine⟨0,by have:(((0:Int):Int):Rat)=0:=rfl;grind,?_⟩;have:bl (0:Int)≤3:=Zt ⟨by omega,by omega⟩;omega
 obtain⟨L,hL⟩:∃L,L=(v+2)*c+3:=⟨_,rfl⟩
 obtain⟨C,hC⟩:∃C:Nat,(C:Int)=pw L:=⟨(pw L).toNat,by have:=Jn L;omega⟩
 let Z:Nat→Nat→Int:=fun i j=>if h:j≤2*v+2*m then(hint i j h).choose else 0
 have hZ1:∀i j,j≤2*v+2*m→(D i:Rat)*(JC v m A B G).t i j=(Z i j:Rat)∧bl (Z i j)≤L:=fun i j h=>by
  have hz:Z i j=(hint i j h).choose:=dif_pos h;rw[hz,hL];exact(hint i j h).choose_spec
 have hZC:∀i j,j≤2*v+2*m→(Z i j).natAbs≤C:=fun i j h=>by
  have h1:=Nj (Z i j);have h2:=Cl (hZ1 i j h).2;omega
 obtain⟨a,b,hb,ha1,hb1,e⟩:=SI (C:=C) hs hT (by omega) D Z (fun i _=>hD i) (fun i j _ h=>(hZ1 i j h).1) (fun i j _ h=>hZC i j h) hi hp;have hM:(((2*((m+1)*C)+1) ^ m:Nat):Int)<pw (m*(L+2)+1):=by
  have hC1:1≤C:=by have:=Jn L;omega
  have h1:((2*((m+1)*C)+1:Nat):Int)≤pw (L+2):=by
   rw[show L+2=2+L by omega,Do,←hC];have h2:2*((m+1)*C)+1≤1000000000000000000*C:=by
    have:(m+1)*C≤100000000*C:=Nat.mul_le_mul_right C (by omega);omega
   have h3:pw 2=1000000000000000000:=by simp[pw]
   rw[h3];have h4:=Int.ofNat_le.2 h2;rw[Int.natCast_mul 1000000000000000000 C]at h4;exact h4
  generalize 2*((m+1)*C)+1=W at *;have h4:∀k,((W ^ k:Nat):Int)≤pw (k*(L+2)):=fun k=>by
   induction k with
   |zero=>simp[pw]
   |succ k ih =>
    rw[Nat.pow_succ,show(k+1)*(L+2)=k*(L+2)+(L+2)from Nat.succ_mul _ _,Do,Int.natCast_mul];exact Int.mul_le_mul ih h1 (by omega) (by have:=Jn (k*(L+2));omega)
  have h5:=h4 m;have h6:=Jn (m*(L+2));have h7:pw (m*(L+2)+1)=1000000000*pw (m*(L+2)):=rfl;omega
 have hbig:m*(L+2)+1=m*((v+2)*c+5)+1:=by rw[hL]
 rw[e,←hbig];exact KK _ _ _ (by omega) (G2 (by omega)) (G2 (by omega))
theorem GB {f:Nat→Rat}{E:Nat}:∀ {m:Nat},(∀i,i<m→qb (f i)≤E)→qb (XB f m)≤m*(E+1)+1
 |0,_=>by
  have:=AY;show qb 0≤_;omega
 |m+1,h=>by
  unfold XB;have h1:=GB (f:=f) (m:=m) fun i hi=>h i (by omega)
  have h2:=h m (by omega);have h3:=ZA (XB f m) (f m);rw[Nat.succ_mul];omega
theorem Vy {v m c E:Nat}{A:Nat→Nat→Rat}{B G:Nat→Rat}{T:Tb}(hs:(JC v m A B G).Sim m (2*v+2*m) T) (hT:T.Ok m (2*v+2*m) (2*v+m)) (hG:∀k,qb (G k)≤c) (hE:∀i p,i<m→p≤2*v+2*m→qb (T.t i p)≤E) {p:Nat} (hp:p≤2*v+2*m) :
  qb (T.c p)≤c+1+(m*(c+1+E+1)+1)+1:=by
 have h0:∀j,qb ((JC v m A B G).c j)≤c+1:=fun j=>by
  show qb (if j<v then -G j else if j<2*v then G (j-v)else 0)≤c+1;have:=AY
  split
  ·rw[Dp];have:=hG j;omega
  ·split
   ·have:=hG (j-v);omega
   ·omega
 rw[←G7 hs hT (by omega) hp];have h1:=Cy ((JC v m A B G).c p) (XB (fun i=>(JC v m A B G).c (T.b i)*T.t i p) m);have h2:=h0 p;have h3:=GB (f:=fun i=>(JC v m A B G).c (T.b i)*T.t i p) (E:=c+1+E) (m:=m) fun i hi=>by
  have a1:=Qk ((JC v m A B G).c (T.b i)) (T.t i p);have a2:=h0 (T.b i);have a3:=hE i p hi hp;omega
 omega
end Go.Ab.N
namespace Go.Ab.N
open Go Go.RowKit Go.Proofs
noncomputable section
set_option maxRecDepth 10000
set_option maxHeartbeats 4000000
open Classical
structure Lay where
 x:Nat
 vx:Nat
 tid:Nat
 tv:Nat
 bid:Nat
 bv:Nat
 cid:Nat
 cv:Nat
 rid:Nat→Nat
 rv:Nat→Nat
def A6 (n:Nat)(f:Nat→Rat):Nat→Rat:=fun k=>if k≤n then f k else 0
theorem Ex {n:Nat}(f:Nat→Rat){k:Nat}(h:k≤n):A6 n f k=f k:=if_pos h
theorem HF {n:Nat}{f g:Nat→Rat}(h:∀k,k≤n→f k=g k):A6 n f=A6 n g:=funext fun k=>by
 unfold A6
 split
 ·exact h k (by assumption)
 ·rfl
theorem Bv {n:Nat}(f:Nat→Rat){k:Nat}(hk:k≤n)(j:Nat)(h:j<4):Xn (A6 n f) (k*4+j)=(qC (f k)).getD j .any:=by rw[ZW _ _ _ h,Ex f hk]
theorem Be {n:Nat}(f:Nat→Rat){k:Nat}(hk:k≤n):Xn (A6 n f) (k*4)=(qC (f k)).getD 0 .any:=Bv f hk 0 (by omega)
theorem Sp {n:Nat}(f:Nat→Rat){k:Nat}(hk:k≤n)(x:Rat):FQ (Xn (A6 n f)) (k*4) (qC x)=Xn (A6 n (fun i=>if i=k then x else f i)):=by
 rw[CU];congr 1;funext i;unfold A6;show(if i=k then x else if i≤n then f i else 0)=if i≤n then(if i=k then x else f i)else 0;by_cases h:i=k
 ·rw[if_pos h,if_pos (h▸hk),if_pos h]
 ·rw[if_neg h,if_neg h]
theorem ku {n c:Nat}(f g:Nat→Rat)(hc:c≤n):(fun k=>A6 n f k-A6 n f c*A6 n g k)=A6 n (fun k=>f k-f c*g k):=funext fun k=>by
 rw[Ex f hc];unfold A6
 split
 ·rfl
 ·grind
def CV (Y:Lay)(n:Nat)(i:Nat)(f:Nat→Rat):AO:=.row (Y.rv i) ((n+1)*4) (Xn (A6 n f))
def Dd (Y:Lay)(n:Nat)(f:Nat→Rat):AO:=.row Y.cv ((n+1)*4) (Xn (A6 n f))
def D7 (Y:Lay)(m:Nat)(b:Nat→Nat):AO:=.row Y.bv m (fun i=>I ((if i<m then b i else 0:Nat)))
def tO (Y:Lay)(m n:Nat):AO:=.row Y.tv m (fun i=>.osl (Y.rid i) (Y.rv i) 4 0 (n+1))
def xO (Y:Lay)(v m n:Nat):AO:=.row Y.vx 6 (Xf [I v,I m,I n,.osl Y.tid Y.tv 1 0 m,.osl Y.cid Y.cv 4 0 (n+1),.osl Y.bid Y.bv 1 0 m])
structure Lay.Ok (Y:Lay)(H:List AO)(v m n:Nat):Prop where
 x:H[Y.x]?=some (xO Y v m n)
 t:H[Y.tid]?=some (tO Y m n)
 bl:Y.bid<H.length
 cl:Y.cid<H.length
 rl:∀i,i<m→Y.rid i<H.length
 xb:Y.x≠Y.bid
 xc:Y.x≠Y.cid
 xr:∀i,i<m→Y.x≠Y.rid i
 tb:Y.tid≠Y.bid
 tc:Y.tid≠Y.cid
 tr:∀i,i<m→Y.tid≠Y.rid i
 bc:Y.bid≠Y.cid
 br:∀i,i<m→Y.bid≠Y.rid i
 cr:∀i,i<m→Y.cid≠Y.rid i
 rr:∀i j,i<m→j<m→Y.rid i=Y.rid j→i=j
def HR (H:List AO)(Y:Lay)(n:Nat)(f:Nat→Nat→Rat):Nat→List AO
 |0=>H
 |i+1=>(HR H Y n f i).set (Y.rid i) (CV Y n i (f i))
def HT (H:List AO)(Y:Lay)(m n:Nat)(T:Tb):List AO:=((HR H Y n T.t m).set Y.cid (Dd Y n T.c)).set Y.bid (D7 Y m T.b)
section
variable {H:List AO} {Y:Lay} {v m n:Nat}
theorem IQ (f:Nat→Nat→Rat):∀i,(HR H Y n f i).length=H.length
 |0=>rfl
 |i+1=>by unfold HR;rw[List.length_set,IQ f i]
theorem DV (T:Tb):(HT H Y m n T).length=H.length:=by unfold HT;rw[List.length_set,List.length_set,IQ]
theorem Vc (f:Nat→Nat→Rat){a:Nat}:∀i,(∀j,j<i→a≠Y.rid j)→(HR H Y n f i)[a]?=H[a]?
 |0,_=>rfl
 |i+1,h=>by unfold HR;rw[List.getElem?_set_ne (Ne.symm (h i (by omega))),Vc f i fun j hj=>h j (by omega)]
theorem pQ (f:Nat→Nat→Rat)(h:Y.Ok H v m n){k:Nat}:∀i,i≤m→k<i→(HR H Y n f i)[Y.rid k]?=some (CV Y n k (f k))
 |i+1,hi,hk=>by
  unfold HR;by_cases e:k=i
  ·subst e;rw[List.getElem?_set_self (by rw[IQ];exact h.rl k (by omega))]
  ·rw[List.getElem?_set_ne (fun g=>e (h.rr i k (by omega) (by omega) g).symm),pQ f h i (by omega) (by omega)]
theorem cN (h:Y.Ok H v m n)(T:Tb):(HT H Y m n T)[Y.x]?=some (xO Y v m n):=by
 unfold HT;rw[List.getElem?_set_ne (Ne.symm h.xb),List.getElem?_set_ne (Ne.symm h.xc),Vc _ _ fun j hj=>h.xr j hj,h.x]
theorem lM (h:Y.Ok H v m n)(T:Tb):(HT H Y m n T)[Y.tid]?=some (tO Y m n):=by
 unfold HT;rw[List.getElem?_set_ne (Ne.symm h.tb),List.getElem?_set_ne (Ne.symm h.tc),Vc _ _ fun j hj=>h.tr j hj,h.t]
theorem Pu (h:Y.Ok H v m n)(T:Tb):(HT H Y m n T)[Y.bid]?=some (D7 Y m T.b):=by
 unfold HT;rw[List.getElem?_set_self (by rw[List.length_set,IQ];exact h.bl)]
theorem IR (h:Y.Ok H v m n)(T:Tb):(HT H Y m n T)[Y.cid]?=some (Dd Y n T.c):=by
 unfold HT;rw[List.getElem?_set_ne h.bc,List.getElem?_set_self (by rw[IQ];exact h.cl)]
theorem Ij (h:Y.Ok H v m n)(T:Tb){i:Nat}(hi:i<m):(HT H Y m n T)[Y.rid i]?=some (CV Y n i (T.t i)):=by
 unfold HT;rw[List.getElem?_set_ne (h.br i hi),List.getElem?_set_ne (h.cr i hi),pQ _ h m (Nat.le_refl _) hi]
theorem gu {L M:List AO}(hl:L.length=M.length)(h:∀a,a<L.length→L[a]?=M[a]?):L=M:=List.ext_getElem? fun a=>by
 by_cases ha:a<L.length
 ·exact h a ha
 ·rw[List.getElem?_eq_none (by omega),List.getElem?_eq_none (by omega)]
theorem D1 (T:Tb){a:Nat}(hb:a≠Y.bid)(hc:a≠Y.cid)(hr:∀i,i<m→a≠Y.rid i):(HT H Y m n T)[a]?=H[a]?:=by
 unfold HT;rw[List.getElem?_set_ne (Ne.symm hb),List.getElem?_set_ne (Ne.symm hc),Vc _ _ hr]
theorem Pv (h:Y.Ok H v m n)(T:Tb){i:Nat}(hi:i<m)(f:Nat→Rat):(HT H Y m n T).set (Y.rid i) (CV Y n i f)=HT H Y m n { T with t:=fun j=>if j=i then f else T.t j }:=by
 refine gu (by rw[List.length_set,DV,DV]) fun a ha=>?_
 by_cases e:a=Y.rid i
 ·subst e
  rw[List.getElem?_set_self (by rw[DV];exact h.rl i hi),Ij h _ hi];simp
 rw[List.getElem?_set_ne (Ne.symm e)];by_cases eb:a=Y.bid
 ·subst eb;rw[Pu h,Pu h]
 by_cases ec:a=Y.cid
 ·subst ec;rw[IR h,IR h]
 by_cases er:∃j,j<m∧a=Y.rid j
 ·obtain⟨j,hj,rfl⟩:=er
  rw[Ij h _ hj,Ij h _ hj];have:j≠i:=fun g=>e (by rw[g])
  simp only[if_neg this]
 ·rw[D1 T eb ec fun j hj g=>er ⟨j,hj,g⟩,D1 _ eb ec fun j hj g=>er ⟨j,hj,g⟩]
theorem Pt {f g:Nat→Nat→Rat}(h:∀i k,i<m→k≤n→f i k=g i k):∀i,i≤m→HR H Y n f i=HR H Y n g i
 |0,_=>rfl
 |i+1,hi=>by
  unfold HR CV;rw[Pt h i (by omega),HF fun k hk=>h i k (by omega) hk]
theorem cJ {T U:Tb}(h:T.Eqv m n U):HT H Y m n T=HT H Y m n U:=by
 unfold HT Dd D7;rw[Pt h.1 m (Nat.le_refl _),HF h.2.1];have:(fun i=>I ((if i<m then T.b i else 0:Nat)))=fun i=>I ((if i<m then U.b i else 0:Nat)):=funext fun i=>by
  by_cases hi:i<m
  ·rw[if_pos hi,if_pos hi,h.2.2 i hi]
  ·rw[if_neg hi,if_neg hi]
 rw[this]
theorem cM (h:Y.Ok H v m n)(T:Tb)(f:Nat→Rat):(HT H Y m n T).set Y.cid (Dd Y n f)=HT H Y m n { T with c:=f }:=by
 unfold HT;rw[List.set_comm _ _ h.bc,List.set_set]
theorem cL (h:Y.Ok H v m n)(T:Tb)(f:Nat→Nat):(HT H Y m n T).set Y.bid (D7 Y m f)=HT H Y m n { T with b:=f }:=by
 unfold HT;rw[List.set_set]
end
def Kt (H:List AO):Prop:=∀o∈H,∀m,H.length≤m→Qa m o
theorem CI {H:List AO}{a:Nat}{o:AO}(h:Kt H)(ho:∀m,H.length≤m→Qa m o):Kt (H.set a o):=fun p hp m hm=>by
 rw[List.length_set]at hm;rcases List.mem_or_eq_of_mem_set hp with g |g
 ·exact h p g m hm
 ·rw[g];exact ho m hm
theorem eI {H:List AO}{Y:Lay}{n:Nat}(f:Nat→Nat→Rat)(h:Kt H):∀i,Kt (HR H Y n f i)
 |0=>h
 |i+1=>CI (eI f h i) fun m _=>KV _ _ _ _
theorem D8 {H:List AO}{Y:Lay}{m n:Nat}(T:Tb)(h:Kt H):Kt (HT H Y m n T) :=
 CI (CI (eI _ h m) fun m _=>KV _ _ _ _) fun k _=>fun j _=>X6 (Xb _)
def QZ (H:List AO):Prop:=∀o∈H,o≠.unborn
theorem Zd {H:List AO}{a:Nat}{o:AO}(h:QZ H)(ho:o≠.unborn):QZ (H.set a o):=fun p hp=>by
 rcases List.mem_or_eq_of_mem_set hp with g |g
 ·exact h p g
 ·rw[g];exact ho
theorem Vu {H:List AO}{Y:Lay}{n:Nat}(f:Nat→Nat→Rat)(h:QZ H):∀i,QZ (HR H Y n f i)
 |0=>h
 |i+1=>Zd (Vu f h i) (by simp[CV])
theorem OI {H:List AO}{Y:Lay}{m n:Nat}(T:Tb)(h:QZ H):QZ (HT H Y m n T) :=
 Zd (Zd (Vu _ h m) (by simp[Dd])) (by simp[D7])
theorem QB {H:List AO}(h:QZ H)(id:Nat):H[id]?≠some .unborn:=fun g=>h _ (List.mem_of_getElem? g) rfl
theorem Kf {H l:List AO}(h:QZ H)(hl:QZ l):QZ (H ++ l):=fun o ho=>(List.mem_append.1 ho).elim (h o) (hl o)
theorem LV (b:Rat):b⁻¹=Rat.divInt b.den b.num:=by rw[Rat.inv_def]
theorem UE (b:Rat):qb b⁻¹≤qb b:=by
 rw[LV];exact KK _ _ _ (UF b) (JG b) (Jz b)
theorem Ei (a b:Rat):qb (a/b)≤qb a+qb b:=by
 rw[Rat.div_def];have:=Qk a b⁻¹;have:=UE b;omega
theorem IG (a b:Rat)(hb0:b≠0)(ha:qb a≤rm)(hb:qb b≤rm):Fn Tryz.prog 193 [qA a,qA b] (qA (a/b)):=by
 obtain⟨R,hR⟩:∃R,R=qA (a/b):=⟨_,rfl⟩
 have sR:Settled R:=hR▸Xa _;have nb:=Ef b;have g2:(b=0)=False:=eq_false hb0;have c1:=De b;have hn0:b.num≠0:=fun h=>hb0 (Rat.num_eq_zero.1 h)
 have c2:=EO b.den b.num hn0 (by rw[Int.gcd_comm];exact b.reduced);rw[←LV]at c2;have qi:=UE b;have c3:=Aq a b⁻¹ ha (by omega);rw[←Rat.div_def]at c3;rw[←hR];refine Fq Tryz.call193 Tryz.func193 5 [] [] [] (by simp[wS]) (Xk ?_);simp(maxSteps:=999999)only[AS.start,↓X4,wF,seval];simp(disch:=omega)only[nb,g2,↓Xd,wG,seval];refine X1 c1 rfl ?_;simp(disch:=omega)only[qA,qC,↓Xd,wG,seval];refine X1 c2 rfl ?_;simp(disch:=omega)only[qA,qC,↓Xd,wG,seval];refine X1 c3 rfl ?_;simp(disch:=omega)only[qA,qC,↓Xd,wG,seval];exact J2 rfl XR rfl rfl rfl sR (hR.trans rfl)
def OT (T:Tb)(r p k:Nat):Tb:={ T with t:=fun i j=>if i=r∧j<k then T.t r j/T.t r p else T.t i j }
def H3 (T:Tb)(r p k:Nat):Tb:={ T with t:=fun i=>if i<k∧i≠r then fun j=>T.t i j-T.t i p*T.t r j else T.t i }
theorem uF (T:Tb)(r p:Nat):OT T r p 0=T:=by
 unfold OT;have:(fun i j=>if i=r∧j<0 then T.t r j/T.t r p else T.t i j)=T.t:=funext fun i=>funext fun j=>if_neg fun h=>Nat.not_lt_zero _ h.2
 rw[this]
theorem rF (T:Tb)(r p k j:Nat)(h:k≤j):(OT T r p k).t r j=T.t r j:=if_neg fun g=>by omega
theorem fR (T:Tb)(r p k:Nat):({ OT T r p k with t:=fun j=>if j=r then(fun i=>if i=k then T.t r k/T.t r p else(OT T r p k).t r i)else(OT T r p k).t j }:Tb)=OT T r p (k+1):=by
 unfold OT;have:(fun j=>if j=r then(fun i=>if i=k then T.t r k/T.t r p else if r=r∧i<k then T.t r i/T.t r p else T.t r i)else fun i=>if j=r∧i<k then T.t r i/T.t r p else T.t j i)=fun i j=>if i=r∧j<k+1 then T.t r j/T.t r p else T.t i j:=funext fun j=>funext fun i=>by
  by_cases h:j=r
  ·rw[if_pos h]
   by_cases h2:i=k
   ·rw[if_pos h2,if_pos ⟨h,by omega⟩,h2]
   ·rw[if_neg h2]
    by_cases h3:i<k
    ·rw[if_pos ⟨rfl,h3⟩,if_pos ⟨h,by omega⟩]
    ·rw[if_neg (fun g=>h3 g.2),if_neg (fun g=>by omega),h]
  ·rw[if_neg h,if_neg (fun g=>h g.1),if_neg (fun g=>h g.1)]
 exact congrArg (fun t=>(⟨t,T.c,T.b⟩:Tb)) this
theorem vM (T:Tb)(r p:Nat):H3 T r p 0=T:=by
 unfold H3;have:(fun i=>if i<0∧i≠r then(fun j=>T.t i j-T.t i p*T.t r j)else T.t i)=T.t:=funext fun i=>if_neg fun h=>Nat.not_lt_zero _ h.1
 rw[this]
theorem tM (T:Tb)(r p k i:Nat)(h:k≤i):(H3 T r p k).t i=T.t i:=if_neg fun g=>by omega
theorem qF (T:Tb)(r p k:Nat):(H3 T r p k).t r=T.t r:=if_neg fun g=>g.2 rfl
theorem kX (T:Tb)(r p:Nat):H3 T r p r=H3 T r p (r+1):=by
 unfold H3;have:(fun i=>if i<r∧i≠r then(fun j=>T.t i j-T.t i p*T.t r j)else T.t i)=fun i=>if i<r+1∧i≠r then(fun j=>T.t i j-T.t i p*T.t r j)else T.t i:=funext fun i=>by
  by_cases h:i<r
  ·rw[if_pos ⟨h,by omega⟩,if_pos ⟨by omega,by omega⟩]
  ·rw[if_neg (fun g=>h g.1),if_neg (fun g=>by omega)]
 rw[this]
theorem kY (T:Tb)(r p k:Nat)(h:k≠r):({ H3 T r p k with t:=fun j=>if j=k then(fun i=>T.t k i-T.t k p*T.t r i)else(H3 T r p k).t j }:Tb)=H3 T r p (k+1):=by
 unfold H3;have:(fun j=>if j=k then(fun i=>T.t k i-T.t k p*T.t r i)else if j<k∧j≠r then(fun i=>T.t j i-T.t j p*T.t r i)else T.t j)=fun i=>if i<k+1∧i≠r then(fun j=>T.t i j-T.t i p*T.t r j)else T.t i:=funext fun j=>by
  by_cases h2:j=k
  ·rw[if_pos h2,if_pos ⟨by omega,by omega⟩,h2]
  ·rw[if_neg h2]
   by_cases h3:j<k∧j≠r
   ·rw[if_pos h3,if_pos ⟨by omega,h3.2⟩]
   ·rw[if_neg h3,if_neg (fun g=>h3 ⟨by omega,g.2⟩)]
 exact congrArg (fun t=>(⟨t,T.c,T.b⟩:Tb)) this
theorem wy {m:Nat}(b:Nat→Nat)(r p:Nat)(hr:r<m):DS (fun i=>I ((if i<m then b i else 0:Nat))) r (I p)=fun i=>I ((if i<m then(if i=r then p else b i)else 0:Nat)):=by
 funext i;unfold DS;by_cases h:i=r
 ·rw[if_pos h,h,if_pos hr,if_pos rfl]
 ·rw[if_neg h,if_neg h]
theorem ve {T:Tb}{r p n Q:Nat}(h:∀k,k≤n→qb (T.t r k)≤Q) (hp:p≤n) (k:Nat) (hk:k≤n):qb ((OT T r p (n+1)).t r k)≤2*Q:=by
 have e:(OT T r p (n+1)).t r k=T.t r k/T.t r p:=if_pos ⟨rfl,by omega⟩;rw[e];have:=Ei (T.t r k) (T.t r p);have:=h k hk;have:=h p hp;omega
theorem fQ (T:Tb)(r p k:Nat){i:Nat}(h:i≠r):(OT T r p k).t i=T.t i:=funext fun j=>if_neg fun g=>h g.1
theorem jn (H:List AO)(Y:Lay)(v m n r p:Nat)(T:Tb)(hY:Y.Ok H v m n)(hH:Kt H)(hB:QZ H)(hr:r<m)(hp:p≤n)(hd:T.t r p≠0)(hn:n<100000)(hm:m<100000){Q:Nat}(hQ:Q≤15000000)(hq:∀i k,i<m→k≤n→qb (T.t i k)≤Q) (hqc:∀k,k≤n→qb (T.c k)≤Q) :
  HCall Tryz.prog 203 [.ref Y.x Y.vx 0,I r,I p] (HT H Y m n T) (.tup []) (HT H Y m n (FL T r p)):=by
 have hlen:=fun T=>DV (H:=H) (Y:=Y) (m:=m) (n:=n) T
 have hx:=fun T l=>XZ (cN hY T) l
 have ht:=fun T l=>XZ (lM hY T) l
 have hrw:=fun T l=>XZ (Ij hY T hr) l
 unfold xO at hx;unfold tO at ht;unfold CV at hrw;obtain⟨n0,hn0⟩:∃n0,H.length=n0:=⟨_,rfl⟩
 have e0:=fun T=>Bi (H:=HT H Y m n T) ((hlen T).trans hn0)
 have e1:=fun T=>FD (H:=HT H Y m n T) ((hlen T).trans hn0)
 have el:=fun T=>Zw (H:=HT H Y m n T) ((hlen T).trans hn0)
 have es0:=fun T=>CO (H:=HT H Y m n T) ((hlen T).trans hn0)
 have es1:=fun T=>HX (H:=HT H Y m n T) ((hlen T).trans hn0)
 have et1:=fun T=>ZI (H:=HT H Y m n T) ((hlen T).trans hn0)
 have x0:=hx T [];have t0:=ht T [];have r0:=hrw T [];rw[List.append_nil]at x0 t0 r0;have a1:=Bv (T.t r) hp;have a2:=Be (T.t r) hp;have l0:=(hlen T).trans hn0;refine HCall.introC (fn:=Tryz.f203) Tryz.call203 Tryz.func203 rfl mixed 11 [27,28,29,50,51,52] [4,5003,5006,5008,5009,12,13003,13007,13010] [12] (by kernel_rfl) (Nat.le_of_ble_eq_true rfl) (X6 (Z6 (by simp))) (fun o ho=>D8 _ hH o ho _ (by rw[hlen,hlen];exact Nat.le_refl _)) (Xk ?_);simp(disch:=omega)only[AS.start,x0,t0,r0,hx,ht,hrw,e0,el,es0,a1,a2,l0,qC,List.append_assoc,↓Xd,wG,seval];refine Xj (fun k:Nat=>⟨11,[27,28,29,50,51,52],[.ref Y.x Y.vx 0,I r,I p,.any,.any,.any,.ref n0 0 0,.any,.any,.any,.any],[(27,.osl (Y.rid r) (Y.rv r) 4 0 (n+1)),(28,I (n+1:Nat)),(29,I k)],HT H Y m n (OT T r p k) ++ [.row 0 4 (Xf (qC (T.t r p)))]⟩) (fun k=>k≤n+1) (fun k=>n+1-k) 0 (by omega)
  (Xi rfl (by simp[Xm,I]) (by simp[Xw,XA,I]) (by rw[uF];rfl)) ?_
 have hb1:∀T',∀o∈HT H Y m n T' ++ [.row 0 4 (Xf (qC (T.t r p)))],Qa (n0+1) o:=fun T' o ho=>by
  rcases List.mem_append.1 ho with h |h
  ·exact D8 _ hH o h _ (by rw[hlen];omega)
  ·rw[List.mem_singleton.1 h];exact QX (by simp[qC,Xc,X5])
 have xlt:Y.x<n0:=hn0▸(List.getElem?_eq_some_iff.1 hY.x).1;have rlt:=hY.rl r hr;have bx:Jq (n0+1) (.ref Y.x Y.vx 0)=True:=eq_true (QH (by omega));have bf:Jq (n0+1) (.ref n0 0 0)=True:=eq_true (QH (by omega));have br:Jq (n0+1) (.osl (Y.rid r) (Y.rv r) 4 0 (n+1))=True:=eq_true (JR (by omega));intro k hk next
 by_cases hk2:k<n+1
 ·have w1:=Bv ((OT T r p k).t r) (show k≤n by omega)
  have w2:=Be ((OT T r p k).t r) (show k≤n by omega);rw[rF T r p k k (Nat.le_refl _)]at w1 w2;have q1:=hq r k hr (by omega);have q2:=hq r p hr hp;have c1:=IG (T.t r k) (T.t r p) hd (by unfold rm;omega) (by unfold rm;omega);have hst:=Sp ((OT T r p k).t r) (show k≤n by omega) (T.t r k/T.t r p);have hsr:=Pv hY (OT T r p k) hr (fun i=>if i=k then T.t r k/T.t r p else(OT T r p k).t r i);rw[fR]at hsr;unfold CV at hsr;rw[←hst]at hsr;have hrlen:Y.rid r<(HT H Y m n (OT T r p k)).length:=by rw[hlen];exact rlt
  have esr:=Kv hrlen;have nx:=next (k+1)
  refine Xk ?_;simp(disch:=omega)only[hx,ht,hrw,e0,e1,el,es0,es1,w1,w2,qC,List.append_assoc,↓Xd,wG,seval];refine X1 c1 rfl ?_;simp(disch:=omega)only[esr,hrw,qC,List.append_assoc,↓Xd,wG,seval];exact nx _ (by omega) (by omega) (XT (m:=n0+1) (by show(HT H Y m n T).length≤n0+1;rw[hlen];omega) rfl (by simp[Xm,I]) (by simp[Xw,XA,I]) (by rw[←hsr];exact ZI (by rw[List.length_set,hlen];exact hn0) _ _) (by simp[XW,bx,bf]) (by simp[XW,br]) (hb1 _))
 obtain rfl:k=n+1:=by omega
 clear next
 refine Xk ?_;simp(disch:=omega)only[hx,ht,el,List.append_assoc,↓Xd,wG,seval];obtain⟨T1,hT1⟩:∃T1,T1=OT T r p (n+1):=⟨_,rfl⟩
 have btt:Jq (n0+1) (.osl Y.tid Y.tv 1 0 m)=True:=eq_true (JR (by have:=(List.getElem?_eq_some_iff.1 hY.t).1;omega));refine Xj (fun k:Nat=>⟨11,[27,28,29,50,51,52],[.ref Y.x Y.vx 0,I r,I p,.any,.any,.any,.ref n0 0 0,.any,.any,.any,.any],[(50,.osl Y.tid Y.tv 1 0 m),(51,I m),(52,I k)],HT H Y m n (H3 T1 r p k) ++ [.row 0 4 (Xf (qC (T.t r p)))]⟩) (fun k=>k≤m) (fun k=>m-k) 0 (by omega)
  (Xi rfl (by simp[Xm,I]) (by simp[Xw,XA,I]) (by rw[vM,hT1];rfl)) ?_
 intro k hk next
 have hcall:∀ (T':Tb) (a va:Nat) (f:Nat→Rat),a≠Y.rid r→(HT H Y m n T')[a]?=some (.row va ((n+1)*4) (Xn (A6 n f)))→(∀j,j≤n→qb (f j)≤2*Q)→T'.t r=T1.t r →
   HCall Tryz.prog 200 [.osl a va 4 0 (n+1),.osl (Y.rid r) (Y.rv r) 4 0 (n+1),I p] (HT H Y m n T' ++ [.row 0 4 (Xf (qC (T.t r p)))]) (.tup []) ((HT H Y m n T').set a (.row va ((n+1)*4) (Xn (A6 n (fun j=>f j-f p*T1.t r j)))) ++ [.row 0 4 (Xf (qC (T.t r p)))]):=fun T' a va f hab ha hf hr'=>by
  have h1:=WJ (HT H Y m n T' ++ [.row 0 4 (Xf (qC (T.t r p)))]) a (Y.rid r) va (Y.rv r) (n+1) (A6 n f) (A6 n (T1.t r)) p hab (XZ ha _) (by rw[←hr'];exact hrw T' _) (by omega) (by omega) (Q:=2*Q)
   (fun j hj=>by rw[Ex f (by omega)];exact hf j (by omega)) (fun j hj=>by rw[Ex _ (by omega),hT1];exact ve (fun k hk=>hq r k hr hk) hp j (by omega)) (by omega)
   (fun o ho q hq'=>by
    rw[el]at hq';rcases List.mem_append.1 ho with h |h
    ·exact D8 _ hH o h _ (by rw[hlen];omega)
    ·rw[List.mem_singleton.1 h];exact QX (by simp[qC,Xc,X5]))
  rw[ku _ _ hp,Kv (List.getElem?_eq_some_iff.1 ha).1]at h1;exact h1
 have hborn:∀ (T':Tb) (id:Nat),(HT H Y m n T' ++ [AO.row 0 4 (Xf (qC (T.t r p)))])[id]?≠some AO.unborn:=fun T'=>QB (Kf (OI _ hB) (fun o ho=>by rw[List.mem_singleton.1 ho];simp))
 by_cases hk2:k<m
 ·have hrk:=fun T l=>XZ (Ij hY T hk2) l
  unfold CV at hrk;have nx:=next (k+1)
  by_cases hkr:k=r
  ·subst hkr
   refine Xk ?_;simp(disch:=omega)only[hx,ht,hrk,el,List.append_assoc,↓Xd,wG,seval];exact nx _ (by omega) (by omega) (Xi rfl (by simp[Xm,I]) (by simp[Xw,XA,I]) (by rw[kX];rfl))
  ·have f1:¬ (k:Int)=r:=by omega
   have hc:=hcall (H3 T1 r p k) (Y.rid k) (Y.rv k) (T1.t k) (fun g=>hkr (hY.rr _ _ hk2 hr g)) (by have:=Ij hY (H3 T1 r p k) hk2;rw[tM _ _ _ _ _ (Nat.le_refl _)]at this;exact this) (fun j hj=>by rw[hT1,fQ _ _ _ _ hkr];have:=hq k j hk2 hj;omega) (qF _ _ _ _);have hset:=Pv hY (H3 T1 r p k) hk2 (fun j=>T1.t k j-T1.t k p*T1.t r j);rw[kY _ _ _ _ hkr]at hset;unfold CV at hset;rw[hset]at hc;have hce:JP (HT H Y m n (H3 T1 r p k) ++ [AO.row 0 4 (Xf (qC (T.t r p)))]) (HT H Y m n (H3 T1 r p (k+1)) ++ [AO.row 0 4 (Xf (qC (T.t r p)))]):=by
    rw[←hset,←Kv (by rw[hlen];exact hY.rl k hk2)];exact QE (XZ (Ij hY _ hk2) _) (by simp[CV]) (by simp)
   refine Xk ?_;simp(disch:=omega)only[hx,ht,hrk,hrw,el,f1,List.append_assoc,↓Xd,wG,seval];refine XJ rfl hc hce (hborn _) (X2 _) ?_;simp(disch:=omega)only[↓Xd,wG,seval];exact nx _ (by omega) (by omega) (Xi rfl (by simp[Xm,I]) (by simp[Xw,XA,I]) rfl)
 obtain rfl:k=m:=by omega
 clear next
 have hcc:=fun T l=>XZ (IR hY T) l
 unfold Dd at hcc;have hc:=hcall (H3 T1 r p k) Y.cid Y.cv T.c (hY.cr r hr) (by have:=IR hY (H3 T1 r p k);rw[show(H3 T1 r p k).c=T.c by rw[hT1];rfl]at this;exact this) (fun j hj=>by have:=hqc j hj;omega) (qF _ _ _ _);have hset:=cM hY (H3 T1 r p k) (fun j=>T.c j-T.c p*T1.t r j);unfold Dd at hset;rw[hset]at hc;have hce:JP (HT H Y k n (H3 T1 r p k) ++ [AO.row 0 4 (Xf (qC (T.t r p)))]) (HT H Y k n { H3 T1 r p k with c:=fun j=>T.c j-T.c p*T1.t r j } ++ [AO.row 0 4 (Xf (qC (T.t r p)))]):=by
  rw[←hset,←Kv (by rw[hlen];exact hY.cl)];exact QE (XZ (IR hY _) _) (by simp[Dd]) (by simp)
 have hsb:=cL hY { H3 T1 r p k with c:=fun j=>T.c j-T.c p*T1.t r j } (fun i=>if i=r then p else T.b i);have hbb:=fun T l=>XZ (Pu hY T) l
 unfold D7 at hbb hsb;have hb0:({ H3 T1 r p k with c:=fun j=>T.c j-T.c p*T1.t r j }:Tb).b=T.b:=by rw[hT1];rfl
 have hbb:=hbb { H3 T1 r p k with c:=fun j=>T.c j-T.c p*T1.t r j };rw[hb0]at hbb;have hfin:HT H Y k n { H3 T1 r p k with c:=fun j=>T.c j-T.c p*T1.t r j,b:=fun i=>if i=r then p else T.b i }=HT H Y k n (FL T r p):=by
  refine cJ ⟨fun i j hi hj=>?_,fun j hj=>?_,fun i hi=>rfl⟩
  ·have er:T1.t r j=T.t r j/T.t r p:=by rw[hT1];exact if_pos ⟨rfl,by omega⟩
   show(if i<k∧i≠r then(fun j=>T1.t i j-T1.t i p*T1.t r j)else T1.t i) j=if i=r then T.t r j/T.t r p else T.t i j-T.t i p*(T.t r j/T.t r p)
   by_cases e:i=r
   ·rw[if_neg (fun g=>g.2 e),if_pos e,e,er]
   ·rw[if_pos ⟨hi,e⟩,if_neg e,er,hT1,fQ _ _ _ _ e]
  ·have er:T1.t r j=T.t r j/T.t r p:=by rw[hT1];exact if_pos ⟨rfl,by omega⟩
   show T.c j-T.c p*T1.t r j=T.c j-T.c p*(T.t r j/T.t r p);rw[er]
 have hfull:(HT H Y k n { H3 T1 r p k with c:=fun j=>T.c j-T.c p*T1.t r j }).set Y.bid (.row Y.bv k (DS (fun i=>I ((if i<k then T.b i else 0:Nat))) r (I p)))=HT H Y k n (FL T r p):=by
  rw[wy T.b r p hr];exact hsb.trans hfin
 have hesb:=Kv (H:=HT H Y k n { H3 T1 r p k with c:=fun j=>T.c j-T.c p*T1.t r j }) (a:=Y.bid) (by rw[hlen];exact hY.bl);refine Xk ?_;simp(disch:=omega)only[hx,ht,hcc,hrw,el,List.append_assoc,↓Xd,wG,seval];refine XJ rfl hc hce (hborn _) (X2 _) ?_;simp(disch:=omega)only[hx,hbb,hesb,List.append_assoc,↓Xd,wG,seval];exact Wn rfl ((Ch (by rw[List.length_set,hlen,hlen]) _).trans hfull)
def CJ:Option Nat→Int
 |none=>-1
 |some r=>(r:Int)
def zeroR:List AV:=[.bool false,.sl 0 0 (fun _=>.any) true,.bool false,.sl 0 0 (fun _=>.any) true]
def Bj (T:Tb)(n p:Nat):Option Nat→AO
 |none=>.row 0 4 (Xf zeroR)
 |some r=>.row 0 4 (Xf (qC (T.t r n/T.t r p)))
theorem TQ (T:Tb)(n p:Nat)(b:Option Nat)(m:Nat):Qa m (Bj T n p b):=by
 cases b with
 |none=>exact QX (by simp[zeroR,X5,JB])
 |some r=>exact QX (by simp[qC,Xc,X5])
theorem am {T:Tb}{n p k:Nat}(h:¬0<T.t k p):KZ T n p (k+1)=KZ T n p k:=by
 show(if 0<T.t k p then _ else _)=_;rw[if_neg h]
theorem Uj {T:Tb}{n p k:Nat}(h:0<T.t k p)(hn:KZ T n p k=none):KZ T n p (k+1)=some k:=by
 show(if 0<T.t k p then _ else _)=_;rw[if_pos h,hn]
theorem ak {T:Tb}{n p k r:Nat}(h:0<T.t k p)(hn:KZ T n p k=some r):KZ T n p (k+1)=if T.q n p k<T.q n p r∨(T.q n p k=T.q n p r∧T.b k<T.b r)then some k else some r:=by
 show(if 0<T.t k p then _ else _)=_;rw[if_pos h,hn]
theorem vk {P:Program}{fn:Func}{str hcs:List Nat}{m:Nat}{a:AV}{H:List AO}{s:AS}{t:Nat}(hr:fn.results=#[.tmp t])(h:s.get t=a)(hH:s.h.take m=H):RetOk (Hj P fn str hcs m a H) s :=
 ⟨s.get t,by simp[Sj,ZN,Hj,hr,Jj,Zq,Bb],h,hH⟩
theorem Uk (H:List AO)(Y:Lay)(v m n p:Nat)(T:Tb)(hY:Y.Ok H v m n)(hH:Kt H)(hB:QZ H)(hp:p≤n)(hn:n<100000)(hm:m<100000){Q:Nat}(hQ:Q≤15000000)(hq:∀i k,i<m→k≤n→qb (T.t i k)≤Q) :
  HCall Tryz.prog 202 [.ref Y.x Y.vx 0,I p] (HT H Y m n T) (I (CJ (KZ T n p m))) (HT H Y m n T):=by
 obtain⟨R,hR⟩:∃R,R=KZ T n p m:=⟨_,rfl⟩
 rw[←hR];have hlen:=DV (H:=H) (Y:=Y) (m:=m) (n:=n) T;have hx:=fun l=>XZ (cN hY T) l
 have ht:=fun l=>XZ (lM hY T) l
 have hbb:=fun l=>XZ (Pu hY T) l
 unfold xO at hx;unfold tO at ht;unfold D7 at hbb;have x0:=hx [];have t0:=ht [];rw[List.append_nil]at x0 t0;have hHb:=D8 (Y:=Y) (m:=m) (n:=n) T hH;have xlt:Y.x<(HT H Y m n T).length:=(List.getElem?_eq_some_iff.1 (cN hY T)).1;have tlt:Y.tid<(HT H Y m n T).length:=(List.getElem?_eq_some_iff.1 (lM hY T)).1;have hrs:=fun {i:Nat} (hi:i<m) l=>XZ (Ij hY T hi) l
 unfold CV at hrs;generalize hK:HT H Y m n T=K at *;obtain⟨n0,hn0⟩:∃n0,K.length=n0:=⟨_,rfl⟩
 have e0:=Bi hn0;have e1:=FD hn0;have el:=Zw hn0;have es0:=CO hn0;have es1:=HX hn0;have bx:Jq (n0+1) (.ref Y.x Y.vx 0)=True:=eq_true (QH (by omega));have bf:Jq (n0+1) (.ref n0 0 0)=True:=eq_true (QH (by omega));have btt:Jq (n0+1) (.osl Y.tid Y.tv 1 0 m)=True:=eq_true (JR (by omega));refine HCall.introC (fn:=Tryz.f202) Tryz.call202 Tryz.func202 rfl mixed 11 [14,15,16] [7,8004,8006,8010,12,13001] [] (by kernel_rfl) (Nat.le_of_ble_eq_true rfl) (X6 (Xb _)) (fun o ho=>hHb o ho _ (Nat.le_refl _)) (Xk ?_);simp(disch:=omega)only[AS.start,x0,t0,hx,ht,e0,el,es0,hn0,List.append_assoc,↓Xd,wG,seval];refine Xj (fun k:Nat=>⟨11,[14,15,16],[.ref Y.x Y.vx 0,I p,.any,.any,.any,I (CJ (KZ T n p k)),.ref n0 0 0,.any,.any,.any,.any],[(14,.osl Y.tid Y.tv 1 0 m),(15,I m),(16,I k)],K ++ [Bj T n p (KZ T n p k)]⟩) (fun k=>k≤m) (fun k=>m-k) 0 (by omega)
  (Xi rfl (by simp[Xm,I,CJ,KZ]) (by simp[Xw,XA,I]) (by rfl)) ?_
 intro k hk next
 by_cases hk2:k<m
 rotate_left
 ·obtain rfl:k=m:=by omega
  refine Xk ?_;simp(disch:=omega)only[↓Xd,wG,seval];exact vk rfl (by rw[hR];rfl) (Ch rfl _)
 have hrk:=hrs hk2;have w1:=Bv (T.t k) hp;have w2:=Be (T.t k) hp;have w3:=Bv (T.t k) (Nat.le_refl n);have w4:=Be (T.t k) (Nat.le_refl n);have q1:=hq k p hk2 hp;have q2:=hq k n hk2 (Nat.le_refl n);have s1:=Qe (T.t k p);have z1:=Ph (T.t k p);have nx:=next (k+1)
 have hOb:∀b,∀o∈K ++ [Bj T n p b],Qa (n0+1) o:=fun b o ho=>by
  rcases List.mem_append.1 ho with h |h
  ·exact hHb o h _ (by omega)
  ·rw[List.mem_singleton.1 h];exact TQ _ _ _ _ _
 generalize hbk:KZ T n p k=B at *;by_cases h0:0<T.t k p
 rotate_left
 ·have f1:(T.t k p).num.sign≤0:=by have:=mt z1.1 h0;omega
  rw[am h0,hbk]at nx;refine Xk ?_;simp(disch:=omega)only[hx,ht,hrk,w1,w2,el,qC,List.append_assoc,↓Xd,wG,seval];refine X1 s1 rfl ?_;simp(disch:=omega)only[f1,↓Xd,wG,seval];exact nx _ (by omega) (by omega) (Xi rfl (by simp[Xm,I]) (by simp[Xw,XA,I]) rfl)
 have f1:¬ (T.t k p).num.sign≤0:=by have:=z1.2 h0;omega
 have c1:=IG (T.t k n) (T.t k p) (by grind) (by unfold rm;omega) (by unfold rm;omega);have qq:=Ei (T.t k n) (T.t k p);cases B with
 |none =>
  rw[Uj h0 hbk]at nx;refine Xk ?_;simp(disch:=omega)only[hx,ht,hrk,w1,w2,el,qC,List.append_assoc,↓Xd,wG,seval];refine X1 s1 rfl ?_;simp(disch:=omega)only[f1,hx,ht,hrk,w1,w2,w3,w4,e0,e1,el,es0,es1,qC,List.append_assoc,↓Xd,wG,seval];refine X1 c1 rfl ?_;simp(disch:=omega)only[CJ,hx,ht,hrk,hbb,e0,e1,el,es0,es1,Bj,zeroR,qC,List.append_assoc,↓Xd,wG,seval];exact nx _ (by omega) (by omega) (XT (m:=n0+1) (by show K.length≤n0+1;omega) rfl (by simp[Xm,I,CJ]) (by simp[Xw,XA,I]) (ZI hn0 _ _) (by simp[XW,bx,bf]) (by simp[XW,btt]) (hOb _))
 |some r =>
  have hl:=BU hbk;have hrm:r<m:=by have:=hl.1;omega
  have q3:=hq r p hrm hp;have q4:=hq r n hrm (Nat.le_refl n);have q5:=Ei (T.t r n) (T.t r p);have c2:=QR (T.t k n/T.t k p) (T.t r n/T.t r p) (by unfold rm;omega) (by unfold rm;omega);have d1:=Dr (T.t k n/T.t k p) (T.t r n/T.t r p);have d2:=AZ (T.t k n/T.t k p) (T.t r n/T.t r p);rw[ak h0 hbk]at nx;unfold Tb.q at nx;generalize hX:T.t k n/T.t k p=X at *;generalize hZ:T.t r n/T.t r p=Z at *;generalize Bs X Z=d at *;by_cases hd1:d<0
  ·rw[if_pos (.inl (d1.1 hd1))]at nx
   refine Xk ?_;simp(disch:=omega)only[hx,ht,hrk,w1,w2,el,qC,List.append_assoc,↓Xd,wG,seval];refine X1 s1 rfl ?_;simp(disch:=omega)only[f1,hx,ht,hrk,w1,w2,w3,w4,e0,e1,el,es0,es1,qC,List.append_assoc,↓Xd,wG,seval];refine X1 c1 rfl ?_;simp(disch:=omega)only[CJ,hx,ht,hrk,hbb,e0,e1,el,es0,es1,Bj,hZ,qC,List.append_assoc,↓Xd,wG,seval];refine X1 c2 rfl ?_;simp(disch:=omega)only[hd1,hx,ht,hrk,hbb,e0,e1,el,es0,es1,qC,List.append_assoc,↓Xd,wG,seval];exact nx _ (by omega) (by omega) (XT (m:=n0+1) (by show K.length≤n0+1;omega) rfl (by simp[Xm,I,CJ]) (by simp[Xw,XA,I]) (by rw[ZI hn0];unfold Bj;simp only[hX];rfl) (by simp[XW,bx,bf]) (by simp[XW,btt]) (hOb _))
  by_cases hd2:d=0
  ·have hXZ:X=Z:=by
    refine Rat.le_antisymm (Rat.not_lt.1 fun h=>?_) (Rat.not_lt.1 fun h=>?_)
    ·have:=d2.2 h;omega
    ·have:=d1.2 h;omega
   by_cases hb:T.b k<T.b r
   ·rw[if_pos (.inr ⟨hXZ,hb⟩)]at nx
    have fb:(T.b k:Int)<T.b r:=by omega
    refine Xk ?_;simp(disch:=omega)only[hx,ht,hrk,w1,w2,el,qC,List.append_assoc,↓Xd,wG,seval];refine X1 s1 rfl ?_;simp(disch:=omega)only[f1,hx,ht,hrk,w1,w2,w3,w4,e0,e1,el,es0,es1,qC,List.append_assoc,↓Xd,wG,seval];refine X1 c1 rfl ?_;simp(disch:=omega)only[CJ,hx,ht,hrk,hbb,e0,e1,el,es0,es1,Bj,hZ,qC,List.append_assoc,↓Xd,wG,seval];refine X1 c2 rfl ?_;simp(disch:=omega)only[hd1,hd2,fb,hx,ht,hrk,hbb,e0,e1,el,es0,es1,qC,List.append_assoc,↓Xd,wG,seval];exact nx _ (by omega) (by omega) (XT (m:=n0+1) (by show K.length≤n0+1;omega) rfl (by simp[Xm,I,CJ]) (by simp[Xw,XA,I]) (by rw[ZI hn0];unfold Bj;simp only[hX];rfl) (by simp[XW,bx,bf]) (by simp[XW,btt]) (hOb _))
   ·rw[if_neg (by
     rintro(g |g)
     ·have:=d1.2 g;omega
     ·exact hb g.2)]at nx
    have fb:¬ (T.b k:Int)<T.b r:=by omega
    refine Xk ?_;simp(disch:=omega)only[hx,ht,hrk,w1,w2,el,qC,List.append_assoc,↓Xd,wG,seval];refine X1 s1 rfl ?_;simp(disch:=omega)only[f1,hx,ht,hrk,w1,w2,w3,w4,e0,e1,el,es0,es1,qC,List.append_assoc,↓Xd,wG,seval];refine X1 c1 rfl ?_;simp(disch:=omega)only[CJ,hx,ht,hrk,hbb,e0,e1,el,es0,es1,Bj,hZ,qC,List.append_assoc,↓Xd,wG,seval];refine X1 c2 rfl ?_;simp(disch:=omega)only[hd1,hd2,fb,hx,ht,hrk,hbb,e0,e1,el,es0,es1,qC,List.append_assoc,↓Xd,wG,seval];exact nx _ (by omega) (by omega) (XT (m:=n0+1) (by show K.length≤n0+1;omega) rfl (by simp[Xm,I,CJ]) (by simp[Xw,XA,I]) (by rw[ZI hn0];unfold Bj;simp only[hZ];rfl) (by simp[XW,bx,bf]) (by simp[XW,btt]) (hOb _))
  ·rw[if_neg (by
    rintro(g |g)
    ·have:=d1.2 g;omega
    ·have:¬0<d:=fun h=>by have:=d2.1 h;rw[g.1]at this;exact absurd this (Rat.lt_irrefl)
     omega)]at nx
   have hd3:¬d=0:=hd2;refine Xk ?_;simp(disch:=omega)only[hx,ht,hrk,w1,w2,el,qC,List.append_assoc,↓Xd,wG,seval];refine X1 s1 rfl ?_;simp(disch:=omega)only[f1,hx,ht,hrk,w1,w2,w3,w4,e0,e1,el,es0,es1,qC,List.append_assoc,↓Xd,wG,seval];refine X1 c1 rfl ?_;simp(disch:=omega)only[CJ,hx,ht,hrk,hbb,e0,e1,el,es0,es1,Bj,hZ,qC,List.append_assoc,↓Xd,wG,seval];refine X1 c2 rfl ?_;simp(disch:=omega)only[hd1,hd3,hx,ht,hrk,hbb,e0,e1,el,es0,es1,qC,List.append_assoc,↓Xd,wG,seval];exact nx _ (by omega) (by omega) (XT (m:=n0+1) (by show K.length≤n0+1;omega) rfl (by simp[Xm,I,CJ]) (by simp[Xw,XA,I]) (by rw[ZI hn0];unfold Bj;simp only[hZ];rfl) (by simp[XW,bx,bf]) (by simp[XW,btt]) (hOb _))
theorem aj (H:List AO)(Y:Lay)(v m n E e xb:Nat)(c:Nat→Rat)(t:Tok)(hE:H[e]?=some (.row 0 1 (Xf [I E]))) (hX:H[xb]?=some (.row 0 1 (Xf [.ref Y.x Y.vx 0]))) (hx:H[Y.x]?=some (xO Y v m n)) (hc:H[Y.cid]?=some (Dd Y n c)) (hEn:E≤n) (hn:n<100000) (hce:t.ce.H.length≤H.length) (hO:Kt H)
  (h:∀j,j<E→0≤c j):ICall Tryz.prog t 228 [.yld t.l,.ref e 0 0,.ref xb 0 0] H H:=by
 unfold xO at hx;unfold Dd at hc;refine ICall.intro (fn:=Tryz.f228) Tryz.call228 Tryz.func228 rfl mixed 5 [5,6] [] [] (by kernel_rfl) (Nat.le_of_ble_eq_true rfl) hce (fun o ho=>hO o ho _ (Nat.le_refl _)) (Xk ?_);simp(disch:=omega)only[AS.start,hE,hX,hx,hc,Jb,↓Xd,wG,seval];refine Xj (fun k:Nat=>⟨5,[5,6],[.yld t.l,.ref e 0 0,.ref xb 0 0,.any,.any],[(5,I E),(6,I k)],H⟩) (fun k=>k≤E) (fun k=>E-k) 0 (by omega)
  (Xi rfl (by simp[Xm,I]) (by simp[Xw,XA,I]) rfl) ?_
 intro k hk next
 by_cases hk2:k<E
 ·have s1:=Qe (c k)
  have f1:¬ (c k).num.sign<0:=fun g=>by have:=(B0 (c k)).1 g;have:=h k hk2;grind
  have w1:=Bv c (show k≤n by omega);have w2:=Be c (show k≤n by omega);have nx:=next (k+1)
  refine Xk ?_;simp(disch:=omega)only[hE,hX,hx,hc,w1,w2,qC,Jb,↓Xd,wG,seval];refine X1 s1 rfl ?_;simp(disch:=omega)only[f1,Jb,↓Xd,wG,seval];exact nx _ (by omega) (by omega) (Xi rfl (by simp[Xm,I]) (by simp[Xw,XA,I]) rfl)
 ·obtain rfl:k=E:=by omega
  refine Xk ?_;simp(disch:=omega)only[Jb,↓Xd,wG,seval];exact vn rfl (by simp)
theorem Zh {P:Program}{tok:List Tok}{all:Array Oper}{i:Nat}{s:AS}{o:Oper}{v:AV}{h':List AO}(ho:all[i]?=some o)(hg:gval all s o=some true)(h:QU P false none o.op s.ev s.h=some (v,h')) :
  GStep P tok (fun _=>false) true (fun _=>none) all i s (({ s with h:=h' }:AS).putO o.dst v):=⟨o,ho,.inl ⟨hg,⟨fun _ h=>(by cases h),v,h',.inl h,rfl⟩⟩⟩
theorem nP {P:Program}{tok:List Tok}{all:Array Oper}{i:Nat}{s:AS}{o:Oper}{f:Operand}{args:Array Operand}{ts:Array TypeId}{g:FuncId}{as':List AV}{r:AV}(ho:all[i]?=some o)(hg:gval all s o=some true)(hop:o.op=.call { callee:=.value f,args:=args,argTypes:=ts }) (hf:s.ev f=.fn g []) (h:Fn P g as' r) (ha:WeakL (args.toList.map s.ev ++ []) as') :
  GStep P tok (fun _=>false) true (fun _=>none) all i s (({ s with h:=s.h }:AS).putO o.dst r) :=
 ⟨o,ho,.inl ⟨hg,⟨fun _ h=>(by cases h),r,s.h,.inr ⟨f,args,ts,hop,⟨.inl g,_,by rw[hf];rfl,.inl ⟨as',ha,h.call,h.settled,rfl⟩⟩⟩,rfl⟩⟩⟩
theorem iC (H Hf:List AO)(Y:Lay)(v m n E e xb p:Nat)(c:Nat→Rat)(t:Tok)(q:Code)(hE:H[e]?=some (.row 0 1 (Xf [I E]))) (hX:H[xb]?=some (.row 0 1 (Xf [.ref Y.x Y.vx 0]))) (hx:H[Y.x]?=some (xO Y v m n)) (hc:H[Y.cid]?=some (Dd Y n c)) (hEn:E≤n) (hn:n<100000) (hce:t.ce.H.length≤H.length) (hOf:Kt Hf) (hfl:Hf.length=H.length)
    (hp:p<E) (hneg:c p<0) (h:∀j,j<p→0≤c j) (hy:YC Tryz.prog t (some q) [I p] H Hf):ICallQ Tryz.prog t (some q) 228 [.yld t.l,.ref e 0 0,.ref xb 0 0] H Hf:=by
  unfold xO at hx;unfold Dd at hc;refine ICallQ.intro (fn:=Tryz.f228) Tryz.call228 Tryz.func228 rfl mixed q 5 [5,6] [] [] (by kernel_rfl) (Nat.le_of_ble_eq_true rfl) hce (fun o ho=>hOf o ho _ (by omega)) (Xk ?_);simp(disch:=omega)only[AS.start,hE,hX,hx,hc,Jb,↓Xd,wG,seval];refine Xj (fun k:Nat=>⟨5,[5,6],[.yld t.l,.ref e 0 0,.ref xb 0 0,.any,.any],[(5,I E),(6,I k)],H⟩) (fun k=>k≤p) (fun k=>p-k) 0 (by omega)
    (Xi rfl (by simp[Xm,I]) (by simp[Xw,XA,I]) rfl) ?_
  intro k hk next
  have s1:=Qe (c k);have w1:=Bv c (show k≤n by omega);have w2:=Be c (show k≤n by omega);by_cases hk2:k<p
  · have f1:¬ (c k).num.sign<0:=fun g=>by have:=(B0 (c k)).1 g;have:=h k hk2;grind
    have nx:=next (k+1)
    refine Xk ?_;simp(disch:=omega)only[hE,hX,hx,hc,w1,w2,qC,Jb,↓Xd,wG,seval];refine X1 s1 rfl ?_;simp(disch:=omega)only[f1,Jb,↓Xd,wG,seval];exact nx _ (by omega) (by omega) (Xi rfl (by simp[Xm,I]) (by simp[Xw,XA,I]) rfl)
  obtain rfl:k=p:=by omega
  clear next
  have L0:Qm Tryz.prog false 145 (.ref xb 0 0) H=some (.ref Y.x Y.vx 0):=by
    rw[AR,iG,JZ,hX,K0,jx];simp[Q4,Xf]
  have L1:Qm Tryz.prog false 86 (.ref Y.x Y.vx 4) H=some (.osl Y.cid Y.cv 4 0 (n+1)):=by
    rw[AR,qg,JZ,hx,K0,jx];simp[Q4,Xf]
  have L2:D4 Tryz.prog 86 (.osl Y.cid Y.cv 4 0 (n+1)) (I k)=some (.ref Y.cid Y.cv (0+k*4)):=by
    show D4 Tryz.prog 86 (.osl Y.cid Y.cv 4 0 (n+1)) (.int .i64 (k:Int))=_;rw[PI,HO,HJ];unfold Q4;rw[if_pos (by omega),Int.toNat_natCast]
  have L3:Qm Tryz.prog false 28 (.ref Y.cid Y.cv (0+k*4)) H=some (qA (c k)):=by
    rw[AR,XR,JZ,hc,K0,aO];have e:Qw (Xn (A6 n c)) (0+k*4) 0 4=qC (c k):=by
      rw[Nat.zero_add];show [Xn (A6 n c) (k*4+0),Xn (A6 n c) (k*4+1),Xn (A6 n c) (k*4+2),Xn (A6 n c) (k*4+3)]=_;rw[w1 0 (by omega),w1 1 (by omega),w1 2 (by omega),w1 3 (by omega)];rfl
    rw[e];unfold Q4;rw[if_pos ⟨rfl,rfl⟩,if_pos (by omega)];rfl
  have L9:Q4 ((AV.ref Y.x Y.vx 0).isPtr=true) (some (AV.ref Y.x Y.vx 0,H))=some (AV.ref Y.x Y.vx 0,H):=by unfold Q4;rw[if_pos (NA _ _ _)]
  have L5:Ce Tryz.prog 148 (.ref Y.x Y.vx 0) 4=some (.ref Y.x Y.vx 4):=by
    simp[H8,D3,Pp]
  have f1:(c k).num.sign<0:=(B0 (c k)).2 hneg;have B8:Q4 (IntKind.i64=.i64) (some (AV.bool (decide ((c k).num.sign<0))))=some (.bool true):=by unfold Q4;rw[if_pos rfl,decide_eq_true f1]
  refine XG 18 ?_;simp(disch:=omega)only[hE,hX,hx,hc,w1,w2,qC,Jb,↓Xd,wG,seval];have b0:∀s:AS,s.get 17=.bool (decide ((c k).num.sign<0))→s.get 17=.bool true:=fun s g=>by rw[g,decide_eq_true f1]
  refine oJ (t:=t) (j:=12) (l1:=[0,1,2,3,4,5,6,7,8,9,10,11]) (l2:=[13,14]) rfl rfl (List.mem_singleton.2 rfl) rfl rfl
    ⟨_,Zh (v:=.ref Y.x Y.vx 0) (h':=H) rfl rfl (congrArg (Option.map fun w=>(w,H)) L0),
     _,Zh (v:=.ref Y.x Y.vx 0) (h':=H) rfl rfl (L9:Q4 ((AV.ref Y.x Y.vx 0).isPtr=true) (some (AV.ref Y.x Y.vx 0,H))=some (AV.ref Y.x Y.vx 0,H)),
     _,Zh (v:=.ref Y.x Y.vx 4) (h':=H) rfl rfl (congrArg (Option.map fun w=>(w,H)) L5),
     _,Zh (v:=.osl Y.cid Y.cv 4 0 (n+1)) (h':=H) rfl rfl (congrArg (Option.map fun w=>(w,H)) L1),
     _,Zh (v:=I k) (h':=H) rfl rfl rfl,
     _,Zh (v:=.ref Y.cid Y.cv (0+k*4)) (h':=H) rfl rfl (congrArg (Option.map fun w=>(w,H)) L2),
     _,Zh (v:=qA (c k)) (h':=H) rfl rfl (congrArg (Option.map fun w=>(w,H)) L3),
     _,nP rfl rfl rfl rfl s1 ⟨Weak.rfl' _,trivial⟩,
     _,Zh (v:=.bool true) (h':=H) rfl rfl (congrArg (Option.map fun w=>(w,H)) B8),
     _,Zh (v:=.bool true) (h':=H) rfl rfl rfl,
     _,Zh (v:=.yld t.l) (h':=H) rfl rfl rfl,
     _,Zh (v:=I k) (h':=H) rfl rfl rfl,rfl⟩
    ⟨rfl,_,_,_,[I k],Hf,rfl,rfl,⟨Weak.rfl' _,trivial⟩,hy,rfl⟩
    ⟨_,Zh (v:=.bool true) (h':=Hf) rfl rfl rfl,_,Zh (v:=.bool true) (h':=Hf) rfl rfl rfl,rfl⟩ ?_
  show Run (uN Tryz.prog Tryz.f228 [] [] H.length Hf) _ _;refine Run.sub (s':=⟨5,[],[],[(23,.bool true)],Hf⟩) ?_ (Xi rfl trivial ⟨.inr rfl,trivial⟩ rfl);refine Xk ?_;simp(disch:=omega)only[Jb,↓Xd,wG,seval];exact wt rfl (by show Hf.take H.length=_;rw[←hfl,List.take_length])
theorem rQ (P:Program)(fn:Func)(str hcs:List Nat)(m l:Nat)(r:Loop)(H':List AO)(q:Option Code):(OV P fn str hcs m l r H' q).P=P:=rfl
theorem mW (P:Program)(fn:Func)(str hcs:List Nat)(m l:Nat)(r:Loop)(H':List AO)(q:Option Code):(OV P fn str hcs m l r H' q).fn=fn:=rfl
theorem gn (P:Program)(fn:Func)(str hcs:List Nat)(m l:Nat)(r:Loop)(H':List AO)(q:Option Code):(OV P fn str hcs m l r H' q).str=888888 :: str:=rfl
theorem gm (P:Program)(fn:Func)(str hcs:List Nat)(m l:Nat)(r:Loop)(H':List AO)(q:Option Code):(OV P fn str hcs m l r H' q).hcs=hcs:=rfl
set_option linter.defProp false in
def wQ:=And.intro @rQ (And.intro @mW (And.intro @gn @gm))
theorem U7 {P:Program}{fn:Func}{str hcs:List Nat}{m l:Nat}{r:Loop}{H:List AO}{q:Option Code}{k:List Item}{s:AS}(hr:r.state=.ready)(h:Run (OV P fn str hcs m l { r with state:=.busy } H q) k s):Run (OV P fn str hcs m l r H q) (.beginRound :: k) s :=
 O4 (X:=OV P fn str hcs m l r H q) rfl rfl hr h
theorem YW {H:List AO}{n:Nat}(h:H.length=n)(x y z:AO)(l:List AO):(H ++ x :: y :: z :: l)[n+2]?=some z:=by
 rw[←h,List.getElem?_append_right (by omega),show H.length+2-H.length=2 by omega];rfl
theorem YX {H:List AO}{n:Nat}(h:H.length=n)(x y z w:AO)(l:List AO):(H ++ x :: y :: z :: w :: l)[n+3]?=some w:=by
 rw[←h,List.getElem?_append_right (by omega),show H.length+3-H.length=3 by omega];rfl
theorem qa {H:List AO}{n:Nat}(h:H.length=n)(x y z w:AO)(l:List AO):(H ++ x :: y :: z :: l).set (n+2) w=H ++ x :: y :: w :: l:=by
 rw[List.set_append_right _ _ (by omega),←h,show H.length+2-H.length=2 by omega];rfl
theorem VT {H:List AO}{n:Nat}(h:H.length=n)(x y z w o:AO)(l:List AO):(H ++ x :: y :: z :: w :: l).set (n+3) o=H ++ x :: y :: z :: o :: l:=by
 rw[List.set_append_right _ _ (by omega),←h,show H.length+3-H.length=3 by omega];rfl
theorem Rd (H:List AO)(Y:Lay)(E:Nat):HCall Tryz.prog 201 [.ref Y.x Y.vx 0,I E] H (.fn 228 [.ref (H.length+1) 0 0,.ref H.length 0 0]) (H ++ [.row 0 1 (Xf [.ref Y.x Y.vx 0]),.row 0 1 (Xf [I E])]):=by
 obtain⟨n0,hn⟩:∃n0,H.length=n0:=⟨_,rfl⟩
 have e0:=Bi hn;have e1:=FD hn;have el:=Zw hn;refine HCall.intro (fn:=Tryz.f201) Tryz.call201 Tryz.func201 rfl mixed 4 [] [] [] (by kernel_rfl) (Nat.le_of_ble_eq_true rfl) (Xk ?_);simp(disch:=omega)only[AS.start,hn,e0,e1,el,List.append_assoc,↓Xd,wG,seval];exact jE rfl (by rw[hn];rfl) rfl
theorem R4 {H:List AO}{Y:Lay}{v m n:Nat}(hY:Y.Ok H v m n)(T U:Tb):JP (HT H Y m n T) (HT H Y m n U):=by
 intro a w k f;by_cases eb:a=Y.bid
 ·subst eb;rw[Pu hY,Pu hY];simp[D7]
 by_cases ec:a=Y.cid
 ·subst ec;rw[IR hY,IR hY];simp[Dd]
 by_cases er:∃j,j<m∧a=Y.rid j
 ·obtain⟨j,hj,rfl⟩:=er
  rw[Ij hY _ hj,Ij hY _ hj];simp[CV]
 ·rw[D1 T eb ec fun j hj g=>er ⟨j,hj,g⟩,D1 _ eb ec fun j hj g=>er ⟨j,hj,g⟩]
theorem Fy {A B:List AO}(hl:A.length=B.length)(h:JP A B)(l:List AO):JP (A ++ l) (B ++ l):=by
 intro a w k f;by_cases ha:a<A.length
 ·rw[List.getElem?_append_left ha,List.getElem?_append_left (by omega)];exact h a w k f
 ·rw[List.getElem?_append_right (by omega),List.getElem?_append_right (by omega),hl]
theorem Ni {A:List AO}(h:Kt A){l:List AO}(hl:∀o∈l,∀m,A.length≤m→Qa m o):Kt (A ++ l):=fun o ho m hm=>by
 rw[List.length_append]at hm;rcases List.mem_append.1 ho with g |g
 ·exact h o g m (by omega)
 ·exact hl o g m (by omega)
end
end Go.Ab.N
