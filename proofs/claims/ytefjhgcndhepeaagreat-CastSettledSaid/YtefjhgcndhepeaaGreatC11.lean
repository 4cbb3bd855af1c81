/- Contracts of functions of these chapters, for every argument that fits, and what they need. -/
import Derived.Test.YtefjhgcndhepeaaGreatC10
import Derived.Test.YtefjhgcndhepeaaGreatC6
import Derived.Test.YtefjhgcndhepeaaGreatC9
import Derived.Test.YtefjhgcndhepeaaGreatC7
set_option linter.unusedSimpArgs false
set_option linter.unusedVariables false
open Nat renaming reducePow → Y1, reduceLT → Y2, reduceLeDiff → Y3, reduceEqDiff → Y4, reduceAdd → Y5, reduceMul → Y6, reduceSub → Y7, reduceBEq → Y8, reduceDiv → Y9, reduceMod → YA
namespace Go.Ab.N
open Go Go.RowKit Go.Proofs
noncomputable section
set_option maxRecDepth 10000
set_option maxHeartbeats 4000000
open Classical
theorem qP (L:List V2) (N:Nat) (R:List Nat) (p k:Nat) (h:Rok L R) (hd:R.Nodup) (hN:R.length≤N) (h3:3<R.length) (hp:p<R.length) (hs:XU L k) (hk:k≤10000) :
  HCall Tryz.prog 275 [.ref 0 0 0,I p] (LX L N R) (.agg [I (nr R (p+R.length - 1)),I (R.getD p 0:Nat),I (nr R (p+R.length+1))]) (LX L N (Zk L (R.length - 1) (R.eraseIdx p))):=by
 have c1:=GG L R p h (by have:=h.len; omega)
 have cd:=N5 (.row 0 2 (Xq [Xt L,.osl 1 (N - R.length) 1 0 R.length])) (zs R) (N - R.length) p (by rw [Xl]; exact hp)
 rw [Xl,Tc] at cd
 have hl:(R.eraseIdx p).length=R.length - 1:=by rw [List.length_eraseIdx,if_pos hp]
 have cc:=fg L N (R.eraseIdx p) k (Bo h h3 hp) (hd.eraseIdx p) (by omega) hs hk
 rw [hl] at cc
 have v2:=Bc R p
 have hR:=h
 obtain ⟨h0,hn,hmem,hL⟩:=hR
 generalize Zk L (R.length - 1) (R.eraseIdx p)=R2 at *
 generalize nr R (p+R.length - 1)=a at *
 generalize nr R (p+R.length+1)=c at *
 generalize R.getD p 0=b at *
 have f1:((p:Int)<R.length)=True:=eq_true (by omega)
 have f2:(p<R.length)=True:=eq_true hp
 have f3:(p+1≤R.length)=True:=eq_true (by omega)
 have w1:=wj p (by omega)
 refine HCall.introC (fn:=Tryz.f275) Tryz.call275 Tryz.func275 rfl mixed 8 [] [] [] (by kernel_rfl) (Nat.le_of_ble_eq_true rfl) (X6 (Q6 (by simp [X8]))) (fun o ho=>((Kw _ _ _).2 o ho).1) (X0 1000 ?_)
 simp only [AS.start,J9,List.cons_append,List.nil_append,↓X2,wA,seval,wE]
 refine JI c1 rfl ⟨Iw (N:=N) (rest:=[.row 0 3 (Xq [I 0,I 0,I 0])]),Qy (X8 _) rfl,trivial⟩ (gk (by simp [I,Cr])) ?_
 simp only [w1,f1,f2,f3,v2,Int.toNat_natCast,↓X2,wA,seval,wE]
 have o2:∀ o∈[AO.row 0 2 (Xq [Xt L,.osl 1 (N - R.length) 1 0 R.length]),.row (N - R.length+1) (R.length - 1) (Q4 I 0 (zs (R.eraseIdx p)))],o≠.unborn∧∀ v n f,o≠.con v n f:=fun o ho=>by
  simp only [List.mem_cons,List.not_mem_nil,or_false] at ho
  rcases ho with rfl | rfl <;> exact ⟨by simp,by simp⟩
 have bA:∀ a∈[AV.osl 1 (N - R.length) 1 0 R.length,I p,I ((p+1:Nat):Int)],Jq 2 a:=fun a ha=>by
  simp only [List.mem_cons,List.not_mem_nil,or_false] at ha
  rcases ha with rfl | rfl | rfl
  ·exact Id (by omega)
  ·exact X6 (X8 _)
  ·exact X6 (X8 _)
 have bR:∀ a∈[AV.ref 0 0 0],Jq 2 a:=fun a ha=>by
  rw [List.mem_singleton.1 ha]
  have:Jq 2 (.ref 0 0 0)=True:=by simp [Xy]
  exact this▸trivial
 refine Al (H1:=LX L N R) (H1':=[AO.row 0 2 (Xq [Xt L,.osl 1 (N - R.length) 1 0 R.length]),.row (N - R.length+1) (R.length - 1) (Q4 I 0 (zs (R.eraseIdx p)))]) (rest:=[.row 0 3 (Xq [I 0,I 0,I 0]),.row 0 3 (Xq [I a,I b,I c])]) rfl cd rfl rfl bA (fun o ho=>((Kw L N R).2 o ho).1) (fun o ho=>((Kw L N R).2 o ho).2.1) (fun o ho=>(o2 o ho).1) (QP (fun o ho=>((Kw L N R).2 o ho).2.2) (fun o ho=>(o2 o ho).2)) (XS _) ?_
 simp only [List.cons_append,List.nil_append,↓X2,wA,seval,wE]
 refine Al (H1:=LX L N (R.eraseIdx p)) (H1':=LX L N R2) (rest:=[.row 0 3 (Xq [I 0,I 0,I 0]),.row 0 3 (Xq [I a,I b,I c])]) rfl cc (by rw [J9,hl,show N - (R.length - 1)=N - R.length+1 by omega]; rfl) rfl bR (fun o ho=>((Kw L N _).2 o ho).1) (fun o ho=>((Kw L N _).2 o ho).2.1) (fun o ho=>((Kw L N _).2 o ho).2.1) (QP (fun o ho=>((Kw L N _).2 o ho).2.2) (fun o ho=>((Kw L N _).2 o ho).2.2)) (XS _) ?_
 simp only [J9,List.cons_append,List.nil_append,↓X2,wA,seval,wE]
 exact Wd (v:=.agg [I a,I b,I c]) rfl (by simp [AS.get,JF,gR,rd,Qn,Xq,A2,I]) rfl rfl
def cI (R:List Nat):AV:=.agg [X9 (zs R)]
theorem QK (R:List Nat):cI R=.agg [X9 (zs R)]:=nrfl rfl
theorem ZO (R:List Nat):Settled (cI R):=Q6 (by simp [X7])
theorem Eh (R:List Nat) (p:Nat) (k:Int) (m:Nat) (h0:0<R.length) (hn:R.length<1000000) (hk:p+k+R.length=m) (hp:p<1000000) (h1:-10≤k) (h2:k≤10):Fn Tryz.prog 278 [cI R,I p,I k] (I (nr R m)):=by
 have w1:IntKind.i64.wrap ((p:Int)+k)=(p:Int)+k:=by rw [IntKind.wrap_i64]; omega
 have w2:IntKind.i64.wrap ((p:Int)+k+R.length)=(m:Int):=by rw [IntKind.wrap_i64]; omega
 have hmod:(m:Int).tmod R.length=((m % R.length:Nat):Int):=rfl
 have hlt:m % R.length<R.length:=Nat.mod_lt _ h0
 have f1:(((m % R.length:Nat):Int)<R.length)=True:=eq_true (by omega)
 have f2:(m % R.length<R.length)=True:=eq_true hlt
 have f3:(m % R.length+1≤R.length)=True:=eq_true (by omega)
 have f6:((R.length:Int)=0)=False:=eq_false (by omega)
 have f6':(R.length=0)=False:=eq_false (by omega)
 have w3:IntKind.i64.wrap (((m % R.length:Nat):Int))=((m % R.length:Nat):Int):=by rw [IntKind.wrap_i64]; omega
 have v1:=pJ R m
 refine Fq Tryz.call278 Tryz.func278 8 [] [] [] (by simp [ZO,X8]) (X0 1000 ?_)
 simp only [AS.start,QK,X4,Xl,w1,w2,w3,hmod,f1,f2,f3,f6,f6',v1,Int.toNat_natCast,↓X2,wA,seval,wE]
 exact Xs rfl rfl (X8 _) rfl
theorem Ss (L:List V2) (R:List Nat) (p k:Nat) (h:Rok L R) (hp:p<R.length) (hs:XU L k) (hk:k≤10000):Fn Tryz.prog 292 [Xt L,cI R,I p] (I (I5 L R p)):=by
 have c1:=Eh R p (-1) (p+R.length - 1) h.pos h.len (by have:=h.pos; omega) (by have:=h.len; omega) (by omega) (by omega)
 have c3:=Eh R p 1 (p+R.length+1) h.pos h.len (by omega) (by have:=h.len; omega) (by omega) (by omega)
 have c2:=AW (L.getD (nr R (p+R.length - 1)) v0) (L.getD (R.getD p 0) v0) (L.getD (nr R (p+R.length+1)) v0) (by have:=hs (nr R (p+R.length - 1)); unfold vs; omega) (by have:=hs (R.getD p 0); unfold vs; omega) (by have:=hs (nr R (p+R.length+1)); unfold vs; omega)
 obtain ⟨h0,hn,hmem,hL⟩:=h
 have m1:=hmem ((p+R.length - 1) % R.length)
 have m2:=hmem ((p+R.length+1) % R.length)
 have m3:=hmem p
 change nr R (p+R.length - 1)<L.length at m1
 change nr R (p+R.length+1)<L.length at m2
 unfold I5
 generalize nr R (p+R.length - 1)=a at *
 generalize nr R (p+R.length+1)=c at *
 have v2:=Bc R p
 generalize R.getD p 0=b at *
 have f1:((p:Int)<R.length)=True:=eq_true (by omega)
 have f2:(p<R.length)=True:=eq_true hp
 have f3:(p+1≤R.length)=True:=eq_true (by omega)
 have a1:((a:Int)<L.length)=True:=eq_true (by omega)
 have a2:(a<L.length)=True:=eq_true m1
 have a3:(a*8+8≤L.length*8)=True:=eq_true (by omega)
 have b1:((b:Int)<L.length)=True:=eq_true (by omega)
 have b2:(b<L.length)=True:=eq_true m3
 have b3:(b*8+8≤L.length*8)=True:=eq_true (by omega)
 have e1:((c:Int)<L.length)=True:=eq_true (by omega)
 have e2:(c<L.length)=True:=eq_true m2
 have e3:(c*8+8≤L.length*8)=True:=eq_true (by omega)
 have va:=vF L a
 have vb:=vF L b
 have vc:=vF L c
 refine Fq Tryz.call292 Tryz.func292 7 [] [] [] (by simp [Xf,ZO,X8]) (X0 1000 ?_)
 simp only [AS.start,QK,X5,X4,Xl,↓X2,wA,seval,wE]
 refine X1 c1 (by simp only [QK,X4,Xl]; rfl) ?_
 simp only [QK,X5,X4,Xl,f1,f2,f3,a1,a2,a3,b1,b2,b3,e1,e2,e3,va,vb,vc,v2,Int.toNat_natCast,↓X2,wA,seval,wE]
 refine X1 c3 (by simp only [QK,X4,Xl]; rfl) ?_
 simp only [QK,X5,X4,Xl,f1,f2,f3,a1,a2,a3,b1,b2,b3,e1,e2,e3,va,vb,vc,v2,Int.toNat_natCast,↓X2,wA,seval,wE]
 refine X1 c2 rfl ?_
 simp only [↓X2,wA,seval,wE]
 exact Xs rfl rfl (X8 _) rfl
theorem rZ (a b c q:V2) (ha:vb a≤vs) (hb:vb b≤vs) (hc:vb c≤vs) (hq:vb q≤vs):Fn Tryz.prog 293 [vA a,vA b,vA c,vA q] (.bool (decide (kf a b c q))):=by
 have c1:=AW a b q ha hb hq
 have c2:=AW b c q hb hc hq
 have c3:=AW c a q hc ha hq
 have hin:decide (kf a b c q)=decide (0≤Jj a b q∧0≤Jj b c q∧0≤Jj c a q):=decide_eq_decide.2 Iff.rfl
 generalize decide (kf a b c q)=E at *
 generalize Jj a b q=x at *
 generalize Jj b c q=y at *
 generalize Jj c a q=z at *
 refine Fq Tryz.call293 Tryz.func293 9 [] [] [] (by simp [Xm]) (X0 1000 ?_)
 simp only [AS.start,↓X2,wA,seval,wE]
 refine X1 c1 rfl ?_
 by_cases h1:0≤x
 rotate_left
 ·have g1:(0≤x)=False:=eq_false h1
  have hE:E=false:=by rw [hin]; exact decide_eq_false (fun h=>h1 h.1)
  simp only [g1,↓X2,wA,seval,wE]
  exact Xs (v:=.bool false) rfl rfl (X3 _) (by rw [hE])
 have g1:(0≤x)=True:=eq_true h1
 simp only [g1,↓X2,wA,seval,wE]
 refine X1 c2 rfl ?_
 by_cases h2:0≤y
 rotate_left
 ·have g2:(0≤y)=False:=eq_false h2
  have hE:E=false:=by rw [hin]; exact decide_eq_false (fun h=>h2 h.2.1)
  simp only [g1,g2,↓X2,wA,seval,wE]
  exact Xs (v:=.bool false) rfl rfl (X3 _) (by rw [hE])
 have g2:(0≤y)=True:=eq_true h2
 simp only [g1,g2,↓X2,wA,seval,wE]
 refine X1 c3 rfl ?_
 by_cases h3:0≤z
 rotate_left
 ·have g3:(0≤z)=False:=eq_false h3
  have hE:E=false:=by rw [hin]; exact decide_eq_false (fun h=>h3 h.2.2)
  simp only [g1,g2,g3,↓X2,wA,seval,wE]
  exact Xs (v:=.bool false) rfl rfl (X3 _) (by rw [hE])
 have g3:(0≤z)=True:=eq_true h3
 have hE:E=true:=by rw [hin]; exact decide_eq_true ⟨h1,h2,h3⟩
 simp only [g1,g2,g3,↓X2,wA,seval,wE]
 exact Xs (v:=.bool true) rfl rfl (X3 _) (by rw [hE])
theorem SV {R:List Nat} {i:Nat} (h:i<R.length):R.take (i+1)=R.take i ++ [R.getD i 0]:=by
 rw [List.take_add_one,List.getD_eq_getElem?_getD,List.getElem?_eq_getElem h]; rfl
theorem gc {R:List Nat} {i:Nat} (h:i<R.length):(R.take (i+1)).eraseIdx i=R.take i:=by
 have hl:(R.take i).length=i:=by rw [List.length_take]; omega
 rw [SV h,List.eraseIdx_append_of_length_le (by omega),hl,Nat.sub_self]
 simp
theorem fZ {R:List Nat} {i p:Nat} (h:i<R.length) (hp:i≠p):(R.take (i+1)).eraseIdx p=(R.take i).eraseIdx p ++ [R.getD i 0]:=by
 have hl:(R.take i).length=i:=by rw [List.length_take]; omega
 rw [SV h]
 by_cases hlt:p<i
 ·rw [List.eraseIdx_append_of_lt_length (by omega)]
 ·rw [List.eraseIdx_of_length_le (by simp; omega),List.eraseIdx_of_length_le (by omega)]
theorem oY (R:List Nat) (x:Nat):zs (R ++ [x])=zs R ++ [(x:Int)]:=by unfold zs; rw [List.map_append]; rfl
theorem Ml (R:List Nat) (p:Nat) (hn:R.length<1000000) (hp:p<1000000):Fn Tryz.prog 280 [cI R,I p] (cI (R.eraseIdx p)):=by
 have s0:∀ v n l,XI 3 (.row v n (Q4 I 0 l))=True:=fun v n l=>eq_true fun j _=>X6 (X8 _)
 refine Fq Tryz.call280 Tryz.func280 7 [] [6,70000002,7001] [] (by simp [ZO,X8]) (X0 1000 ?_)
 simp only [AS.start,QK,X4,Xl,↓X2,wA,seval,wE]
 refine Xe (fun i:Nat=>⟨7,[],[cI R,I p,.ref 0 0 0,.any,.ref 1 0 0,.ref 2 0 0,I i],[],[.con 0 1 (Xq [X9 (zs R)]),.row 0 1 (Xq [.sl 0 0 (fun _=>.any) true]),.row 0 1 (Xq [.osl 3 ((R.take i).eraseIdx p).length 1 0 ((R.take i).eraseIdx p).length]),.row ((R.take i).eraseIdx p).length ((R.take i).eraseIdx p).length (Q4 I 0 (zs ((R.take i).eraseIdx p)))]⟩) (fun i=>i≤R.length) (fun i=>R.length - i) 0 (by omega)
  (Sub.trans (Qr 0 rfl) ((QA 2 1 (fun _=>.sl 0 0 (fun _=>.any) true) rfl (Nat.le_refl _) (fun j hj=>by have e:j=0:=Nat.lt_one_iff.1 hj; subst e; rfl)).trans ((Ay 2 1 (Q4 I 0 []) rfl 1 (Nat.le_refl _)).trans ((QA 2 1 (Xq [.osl 3 0 1 0 0]) rfl (Nat.le_refl _) (fun j hj=>by have e:j=0:=Nat.lt_one_iff.1 hj; subst e; rfl)).trans (Xa rfl (by simp [Xh,QK,X4,Xl,I]) (by simp [Xi]) (by simp [X4,Xl,zs])))))) ?_
 intro i hi next
 have w1:=wj i (by omega)
 by_cases hi2:i<R.length
 rotate_left
 ·obtain rfl:i=R.length:=by omega
  rw [List.take_length] at *
  refine X0 1000 ?_
  simp only [QK,X4,Xl,Int.lt_irrefl,Nat.lt_irrefl,↓X2,wA,seval,wE]
  have hz:=Es (l:=zs (R.eraseIdx p)) (H:=[.con 0 1 (Xq [.sl R.length R.length (Q4 I 0 (zs R)) false]),.row 0 1 (Xq [.osl 3 (R.eraseIdx p).length 1 0 (R.eraseIdx p).length]),.row 0 1 (Xq [.osl 3 (R.eraseIdx p).length 1 0 (R.eraseIdx p).length]),.row (R.eraseIdx p).length (R.eraseIdx p).length (Q4 I 0 (zs (R.eraseIdx p)))]) (id:=3) (ver:=(R.eraseIdx p).length) (n:=(R.eraseIdx p).length) rfl (by rw [Xl]; exact Nat.le_refl _)
  rw [Xl] at hz
  exact BK (v:=.agg [.osl 3 (R.eraseIdx p).length 1 0 (R.eraseIdx p).length]) rfl (by simp [AS.get,JF,Oz,rd,Qn,Xq,A2]) (A7 ⟨hz,trivial⟩)
 have f1:((i:Int)<R.length)=True:=eq_true (by omega)
 have f2:(i<R.length)=True:=eq_true hi2
 have f3:(i+1≤R.length)=True:=eq_true (by omega)
 have v1:=Bc R i
 have nx:=next (i+1)
 by_cases hip:i=p
 ·subst hip
  have g1:((i:Int)=(i:Int))=True:=eq_true rfl
  have e0:(R.take i).eraseIdx i=R.take i:=List.eraseIdx_of_length_le (by rw [List.length_take]; omega)
  rw [gc hi2] at nx
  rw [e0]
  refine X0 1000 ?_
  simp only [QK,X4,Xl,w1,f1,f2,f3,v1,g1,Int.toNat_natCast,↓X2,wA,seval,wE]
  exact nx _ (by omega) (by omega) (Xa rfl (by simp [Xh,QK,X4,Xl,I]) (by simp [Xi]) (by simp [X4,Xl]))
 ·have g1:((i:Int)=(p:Int))=False:=eq_false (by omega)
  have hle:((R.take i).eraseIdx p).length≤R.length:=by
   have:=List.length_eraseIdx_le (R.take i) p
   rw [List.length_take] at this; omega
  rw [fZ hi2 hip,oY,List.length_append,List.length_singleton] at nx
  generalize (R.take i).eraseIdx p=W at *
  have hap:=CJ (zs W) ((R.getD i 0:Nat):Int)
  rw [Xl] at hap
  refine X0 1000 ?_
  simp only [QK,X4,Xl,w1,f1,f2,f3,v1,g1,Int.toNat_natCast,↓X2,wA,seval,wE]
  exact ⟨⟨by omega,by omega⟩,nx _ (by omega) (by omega) (Xa rfl (by simp [Xh,QK,X4,Xl,I]) (by simp [Xi]) (by rw [← hap]; simp [X4,Xl,I]))⟩
theorem vd {a b:Int} (h:a<b):(a<b)=True:=eq_true h
theorem uC {a b:Int} (h:b≤a):(a<b)=False:=eq_false (by omega)
theorem v8 {a b:Int} (h:a≤b):(a≤b)=True:=eq_true h
theorem uB {a b:Int} (h:b<a):(a≤b)=False:=eq_false (by omega)
theorem v7 {a b:Int} (h:a=b):(a=b)=True:=eq_true h
theorem uA {a b:Int} (h:a≠b):(a=b)=False:=eq_false h
theorem vf {a b:Nat} (h:a<b):(a<b)=True:=eq_true h
theorem uM {a b:Nat} (h:b≤a):(a<b)=False:=eq_false (by omega)
theorem ve {a b:Nat} (h:a≤b):(a≤b)=True:=eq_true h
theorem uL {a b:Nat} (h:b<a):(a≤b)=False:=eq_false (by omega)
theorem uJ {a b:Nat} (h:a=b):(a=b)=True:=eq_true h
theorem uK {a b:Nat} (h:a≠b):(a=b)=False:=eq_false h
theorem tE {x:Int} (h:-9223372036854775808≤x∧x<9223372036854775808):IntKind.i64.wrap x=x:=by rw [IntKind.wrap_i64]; omega
theorem uD {n:Nat}:(n:Int).toNat=n:=Int.toNat_natCast n
theorem uf (f:Nat→AV) (i:Nat) (v:AV) (j:Nat):CF f i v j=if j=i then v else f j:=nrfl rfl
def bS (l:List AV) (i:Nat) (a:AV):Nat→AV:=CF (Xq l) i a
def Vx (x:AV) (f:Nat→AV):Nat→AV:=fun j=>match j with | 0=>x | j+1=>f j
theorem sq (l:List AV) (i:Nat) (a:AV):CF (Xq l) i a=bS l i a:=nrfl rfl
theorem ss (x a:AV) (l:List AV):bS (x :: l) 0 a=Xq (a :: l):=by
 funext j; unfold bS CF Xq; cases j <;> simp
theorem sr (x a:AV) (l:List AV) (n:Nat):bS (x :: l) (n+1) a=Vx x (bS l n a):=by
 funext j; unfold bS CF Xq Vx; cases j <;> simp
theorem m7 (x:AV) (l:List AV):Vx x (Xq l)=Xq (x :: l):=by
 funext j; unfold Xq Vx; cases j <;> simp
def sg (x:Rat):Bool:=decide (x.num<0)
theorem Xo (x:Rat):decide (x.num<0)=sg x:=nrfl rfl
set_option linter.defProp false in
def wD:=And.intro @uf (And.intro @sq <| And.intro @ss <| And.intro @sr <| And.intro @m7 <| And.intro @vd (And.intro @uC (And.intro @v8 (And.intro @uB (And.intro @v7 (And.intro @uA (And.intro @vf (And.intro @uM (And.intro @ve (And.intro @uL (And.intro @uJ (And.intro @uK (And.intro @tE @uD)))))))))))))
def tC (d:Nat×Nat×Nat):List AV:=[I d.1,I d.2.1,I d.2.2]
theorem Fj (d:Nat×Nat×Nat):∀ x∈tC d,Settled x:=by simp [tC,X8]
def jr (l:List (Nat×Nat×Nat)):AV:=sd tC 3 (0,0,0) l
theorem A9 (l:List (Nat×Nat×Nat)):jr l=.sl l.length (l.length*3) (Xw tC 3 (0,0,0) l) false:=nrfl rfl
theorem HQ (l:List (Nat×Nat×Nat)):Settled (jr l):=J0 fun j _=>Xd (Fj _) _
def HZ (L:List V2) (R:List Nat):Nat:=(List.range (R.length - 1)).findIdx (BU L R)
theorem VD (L:List V2) (R:List Nat):HZ L R≤R.length - 1:=by
 have:=List.findIdx_le_length (xs:=List.range (R.length - 1)) (p:=BU L R)
 rwa [List.length_range] at this
theorem VC {L:List V2} {R:List Nat} {p:Nat} (h1:p≤R.length - 1) (h2:∀ j,j<p→BU L R j=false) (h3:p=R.length - 1∨BU L R p=true):HZ L R=p:=by
 have hle:=VD L R
 rcases Nat.lt_trichotomy (HZ L R) p with h | h | h
 ·have:=List.findIdx_getElem (xs:=List.range (R.length - 1)) (p:=BU L R) (w:=by rw [List.length_range]; unfold HZ at h; omega)
  rw [List.getElem_range] at this
  have h4:=h2 _ h
  unfold HZ at h4
  rw [h4] at this; cases this
 ·exact h
 ·rcases h3 with h3 | h3
  ·omega
  ·have:=List.not_of_lt_findIdx (xs:=List.range (R.length - 1)) (p:=BU L R) (i:=p) h
   rw [List.getElem_range,h3] at this
   exact absurd this (by simp)
def Fo (R:List Nat) (p:Nat):Nat×Nat×Nat:=(nr R (p+R.length - 1),R.getD p 0,nr R (p+R.length+1))
def Cf (L:List V2) (R:List Nat):List Nat:=Zk L (R.length - 1) (R.eraseIdx (HZ L R))
def Cd (L:List V2):Nat→List Nat→List (Nat×Nat×Nat)
 | 0,R=>[(R.getD 0 0,R.getD 1 0,R.getD 2 0)]
 | f+1,R=>if 3<R.length then Fo R (HZ L R) :: Cd L f (Cf L R) else [(R.getD 0 0,R.getD 1 0,R.getD 2 0)]
def Ce (L:List V2):List (Nat×Nat×Nat):=Cd L L.length (List.range L.length)
theorem fh (L:List V2):∀ (f:Nat) (R:List Nat),Rok L R→R.Nodup→3≤R.length→Rok L (Zk L f R)∧(Zk L f R).Nodup∧3≤(Zk L f R).length∧(Zk L f R).length≤R.length
 | 0,R,h,hd,h3=>⟨h,hd,h3,Nat.le_refl _⟩
 | f+1,R,h,hd,h3=>by
  unfold Zk
  split
  ·rename_i hc
   have hl:(R.eraseIdx (KN L R)).length=R.length - 1:=by rw [List.length_eraseIdx,if_pos hc.2]
   obtain ⟨a1,a2,a3,a4⟩:=fh L f _ (Bo h hc.1 hc.2) (hd.eraseIdx _) (by omega)
   exact ⟨a1,a2,a3,by omega⟩
  ·exact ⟨h,hd,h3,Nat.le_refl _⟩
theorem E9 {L:List V2} {R:List Nat} (h:Rok L R) (hd:R.Nodup) (h3:3<R.length):Rok L (Cf L R)∧(Cf L R).Nodup∧3≤(Cf L R).length∧(Cf L R).length≤R.length - 1:=by
 have hp:HZ L R<R.length:=by have:=VD L R; omega
 have hl:(R.eraseIdx (HZ L R)).length=R.length - 1:=by rw [List.length_eraseIdx,if_pos hp]
 obtain ⟨a1,a2,a3,a4⟩:=fh L (R.length - 1) _ (Bo h h3 hp) (hd.eraseIdx _) (by omega)
 exact ⟨a1,a2,a3,by unfold Cf; omega⟩
theorem N4 (L:List V2):∀ (f g:Nat) (R:List Nat),Rok L R→R.Nodup→R.length≤f→R.length≤g→Cd L f R=Cd L g R
 | 0,g,R,h,_,hf,_=>by have:=h.pos; omega
 | f+1,0,R,h,_,_,hg=>by have:=h.pos; omega
 | f+1,g+1,R,h,hd,hf,hg=>by
  unfold Cd
  split
  ·rename_i h3
   obtain ⟨a1,a2,a3,a4⟩:=E9 h hd h3
   rw [N4 L f g _ a1 a2 (by omega) (by omega)]
  ·rfl
theorem Vy {L:List V2} {R:List Nat} (h:Rok L R) (hd:R.Nodup) (h3:3<R.length):Cd L R.length R=Fo R (HZ L R) :: Cd L (Cf L R).length (Cf L R):=by
 obtain ⟨a1,a2,a3,a4⟩:=E9 h hd h3
 cases hl:R.length with
 | zero=>omega
 | succ n =>
  show (if 3<R.length then _ else _)=_
  rw [if_pos h3,N4 L n (Cf L R).length _ a1 a2 (by omega) (Nat.le_refl _)]
theorem PQ {L:List V2} {R:List Nat} (h3:¬ 3<R.length) (f:Nat):Cd L f R=[(R.getD 0 0,R.getD 1 0,R.getD 2 0)]:=by
 cases f with
 | zero=>rfl
 | succ n=>unfold Cd; rw [if_neg h3]
theorem Au {L:List V2} (h:3≤L.length) (hl:L.length<1000000):Rok L (List.range L.length):=⟨by rw [List.length_range]; omega,by rw [List.length_range]; omega,fun j=>by
 rw [List.getD_eq_getElem?_getD]
 by_cases hj:j<L.length
 ·rw [List.getElem?_range hj]; exact hj
 ·rw [List.getElem?_eq_none (by rw [List.length_range]; omega)]; show 0<L.length; omega,hl⟩
theorem Ws {P:Program} {fn:Func} {str hcs:List Nat} {s:AS} {t u id ver:Nat} {e:AV} (D:List (Nat×Nat×Nat)) (hr:fn.results=#[.tmp t,.tmp u]) (hs:s.get t=.osl id ver 3 0 D.length) (ho:s.h[id]?=some (.row ver (D.length*3) (Xw tC 3 (0,0,0) D))) (hu:s.get u=e) (he:Settled e):RetOk (Qt P fn str hcs (.tup [jr D,e])) s:=by
 refine Sn hr (Zs ⟨?_,Qy he hu,trivial⟩)
 rw [hs,A9]
 refine Qz (.inl ho) (by omega) (fun h=>by rw [h]) fun j hj=>?_
 rw [Nat.zero_add]
 exact (Xd (Fj _) _).sees _
theorem P2 (c:Nat×Nat×Nat):∀ j,j<3→((tC c).getD j .any).one=true:=fun j hj=>by
 match j,hj with
 | 0,_=>rfl
 | 1,_=>rfl
 | 2,_=>rfl
 | j+3,h=>omega
theorem lQ (L:List V2) (k:Nat) (hs:XU L k) (hk:k≤1000) (hp:Ar L):Fn Tryz.prog 263 [Xt L] (.tup [jr (Ce L),I 0]):=by
 have hl:=hp.1
 have cv:=NM L (fun i=>Nat.le_trans (hs i) hk) (by omega)
 rw [decide_eq_true hp] at cv
 have ca:=ql L (by omega)
 obtain ⟨T,hT⟩:∃ T,T=Ce L:=⟨_,rfl⟩
 rw [← hT]
 have h0:=Au hl.1 (by omega)
 have d0:(List.range L.length).Nodup:=List.nodup_range
 refine Fq Tryz.call263 Tryz.func263 7 [] [] [3,9] (by simp [Xf]) (X0 1000 ?_)
 simp only [AS.start,↓X2,wA,seval,wE]
 refine X1 cv rfl ?_
 simp only [↓X2,wA,seval,wE]
 refine Z4 rfl ca (QP (fun o h=>absurd h (List.not_mem_nil)) (fun o ho=>((Kw _ _ _).2 o ho).2.2)) (fun id=>by simp) (XS _) ?_
 have hlr:(List.range L.length).length=L.length:=List.length_range
 have hTc:T=Cd L (List.range L.length).length (List.range L.length):=by rw [hT,hlr]; rfl
 generalize hN:2*L.length=N
 generalize List.range L.length=R0 at *
 simp only [J9,↓X2,wA,seval,wE]
 refine Xe (fun w:List (Nat×Nat×Nat)×List Nat=>⟨7,[],[Xt L,.any,.any,.any,.ref 0 0 0,.osl 2 w.1.length 3 0 w.1.length,.any],[],LX L N w.2 ++ [.row w.1.length (w.1.length*3) (Xw tC 3 (0,0,0) w.1)]⟩) (fun w=>Rok L w.2∧w.2.Nodup∧3≤w.2.length∧w.1.length+w.2.length≤L.length∧w.1 ++ Cd L w.2.length w.2=T) (fun w=>w.2.length) ([],R0) ⟨h0,d0,by show 3≤R0.length; omega,by simp [hlr],by rw [hTc]; rfl⟩
  (Sub.trans (Qg 5 3 (Xw tC 3 (0,0,0) []) rfl) (Xa rfl (by simp [AS.put,Xh]) (by simp [AS.put,Xi]) (by simp [AS.put,J9]))) ?_
 rintro ⟨D,R⟩ ⟨h,hd,h3,hDl,hDT⟩ next
 replace h:Rok L R:=h
 replace hd:R.Nodup:=hd
 replace h3:3≤R.length:=h3
 replace hDl:D.length+R.length≤L.length:=hDl
 replace hDT:D ++ Cd L R.length R=T:=hDT
 have hNR:R.length≤N:=by omega
 by_cases h4:3<R.length
 rotate_left
 ·have e3:R.length=3:=by omega
  rw [PQ h4] at hDT
  have hap:=Q0 tC 3 (0,0,0) D (R.getD 0 0,R.getD 1 0,R.getD 2 0) (by omega)
  rw [hDT] at hap
  have hTl:T.length=D.length+1:=by rw [← hDT]; simp
  refine X0 1000 ?_
  simp (disch:=omega) only [J9,List.cons_append,List.nil_append,Bc,KY,wD,↓X2,wA,seval,wE]
  exact ⟨P2 (R.getD 0 0,R.getD 1 0,R.getD 2 0),Ws T rfl (by rw [hTl]; rfl) (by rw [hTl,← hap]; rfl) rfl (X8 _)⟩
 have hgo:=Vy h hd h4
 obtain ⟨b1,b2,b3,b4⟩:=E9 h hd h4
 refine X0 1000 ?_
 simp (disch:=omega) only [J9,List.cons_append,List.nil_append,wD,↓X2,wA,seval,wE]
 refine Xe (fun p:Nat=>⟨7,[],[Xt L,.any,.any,.any,.ref 0 0 0,.osl 2 D.length 3 0 D.length,I p],[],LX L N R ++ [.row D.length (D.length*3) (Xw tC 3 (0,0,0) D)]⟩) (fun p=>p≤R.length - 1∧∀ j,j<p→BU L R j=false) (fun p=>R.length - p) 0 ⟨by omega,fun j hj=>absurd hj (Nat.not_lt_zero j)⟩
  (Xa rfl (by simp [Xh,I]) (by simp [Xi]) (by simp [J9])) ?_
 rintro p ⟨hp1,hno⟩ next2
 have hn:=h.len
 have ce:=qU L R p k h (by omega) hs (by omega)
 have cc:=qP L N R p k h hd hNR h4 (by omega) hs (by omega)
 have hlr:(R.eraseIdx p).length=R.length - 1:=by rw [List.length_eraseIdx,if_pos (by omega)]
 by_cases hgo2:p<R.length - 1∧BU L R p=false
 ·refine X0 1000 ?_
  simp (disch:=omega) only [J9,List.cons_append,List.nil_append,wD,↓X2,wA,seval,wE]
  refine JI ce rfl ⟨Iw,Qy (X8 _) rfl,trivial⟩ (An _) ?_
  simp (disch:=omega) only [hgo2.2,J9,List.cons_append,List.nil_append,wD,↓X2,wA,seval,wE]
  exact next2 (p+1) _ ⟨by omega,JJ.2 ⟨hno,hgo2.2⟩⟩ (by omega) (Xa rfl (by simp [Xh,I]) (by simp [Xi]) (by simp [J9]))
 have hep:HZ L R=p:=VC hp1 hno (by
  by_cases h1:p=R.length - 1
  ·exact .inl h1
  ·right
   cases he:BU L R p with
   | true=>rfl
   | false=>exact absurd ⟨by omega,he⟩ hgo2)
 have hD:(D ++ [Fo R p]) ++ Cd L (Cf L R).length (Cf L R)=T:=by rw [← hDT,hgo,hep,List.append_assoc]; rfl
 have hap:=Q0 tC 3 (0,0,0) D (Fo R p) (by omega)
 have hcs:Zk L (R.length - 1) (R.eraseIdx p)=Cf L R:=by unfold Cf; rw [hep]
 rw [hcs] at cc
 have hDn:(D ++ [Fo R p]).length=D.length+1:=by simp
 have nx:=next (D ++ [Fo R p],Cf L R)
 rw [List.length_append,List.length_singleton] at nx
 have htr:tC (Fo R p)=[I (nr R (p+R.length - 1)),I (R.getD p 0:Nat),I (nr R (p+R.length+1))]:=rfl
 have hone:=P2 (Fo R p)
 rw [htr] at hap hone
 generalize D ++ [Fo R p]=D2 at *
 generalize Cf L R=R2 at *
 generalize nr R (p+R.length - 1)=a at *
 generalize nr R (p+R.length+1)=c at *
 generalize R.getD p 0=b at *
 clear hgo hcs htr
 have bR:∀ a∈[AV.ref 0 0 0,I p],Jq 2 a:=fun a ha=>by
  simp only [List.mem_cons,List.not_mem_nil,or_false] at ha
  rcases ha with rfl | rfl
  ·have:Jq 2 (.ref 0 0 0)=True:=by simp [Xy]
   exact this▸trivial
  ·exact X6 (X8 _)
 refine X0 1000 ?_
 by_cases hl:p<R.length - 1
 have he:BU L R p=true:=by
  cases he:BU L R p with
  | true=>rfl
  | false=>exact absurd ⟨hl,he⟩ hgo2
 simp (disch:=omega) only [J9,List.cons_append,List.nil_append,wD,↓X2,wA,seval,wE]
 refine JI ce rfl ⟨Iw,Qy (X8 _) rfl,trivial⟩ (An _) ?_
 simp (disch:=omega) only [he,J9,List.cons_append,List.nil_append,wD,↓X2,wA,seval,wE]
 rotate_left
 simp (disch:=omega) only [J9,List.cons_append,List.nil_append,wD,↓X2,wA,seval,wE]
 all_goals
  refine Al (H1:=LX L N R) (H1':=LX L N R2) (rest:=[.row D.length (D.length*3) (Xw tC 3 (0,0,0) D)]) rfl cc rfl rfl bR (fun o ho=>((Kw L N R).2 o ho).1) (fun o ho=>((Kw L N _).2 o ho).2.1) (fun o ho=>((Kw L N _).2 o ho).2.1) (QP (fun o ho=>((Kw L N _).2 o ho).2.2) (fun o ho=>((Kw L N _).2 o ho).2.2)) (XS _) ?_
  simp (disch:=omega) only [J9,List.cons_append,List.nil_append,wD,↓X2,wA,seval,wE]
  exact ⟨hone,nx _ ⟨b1,b2,b3,by show D.length+1+R2.length≤L.length; omega,hD⟩ (by show R2.length<R.length; omega) (Xa rfl (by simp [Xh]) (by simp [Xi]) (by rw [← hap]; simp [J9,I]))⟩
theorem nN (L:List V2) (R:List Nat) (p k:Nat) (h:Rok L R) (hp:p<R.length) (hs:XU L k) (hk:k≤10000):Fn Tryz.prog 277 [Xt L,cI R,I p] (.bool (BU L R p)):=by
 have c1:=Ss L R p k h hp hs hk
 have c2:=Eh R p (-1) (p+R.length - 1) h.pos h.len (by have:=h.pos; omega) (by have:=h.len; omega) (by omega) (by omega)
 have c3:=Eh R p 1 (p+R.length+1) h.pos h.len (by omega) (by have:=h.len; omega) (by omega) (by omega)
 obtain ⟨h0,hn,hmem,hL⟩:=h
 have m1:=hmem ((p+R.length - 1) % R.length)
 have m2:=hmem ((p+R.length+1) % R.length)
 have m3:=hmem p
 change nr R (p+R.length - 1)<L.length at m1
 change nr R (p+R.length+1)<L.length at m2
 have hear:BU L R p=decide (0<I5 L R p∧∀ j,j<R.length→Bx L (nr R (p+R.length - 1)) (R.getD p 0) (nr R (p+R.length+1)) (R.getD j 0)):=rfl
 generalize BU L R p=E at *
 generalize I5 L R p=S at *
 generalize nr R (p+R.length - 1)=a at *
 generalize nr R (p+R.length+1)=c at *
 have v2:=Bc R p
 generalize R.getD p 0=b at *
 have f1:((p:Int)<R.length)=True:=eq_true (by omega)
 have f2:(p<R.length)=True:=eq_true hp
 have f3:(p+1≤R.length)=True:=eq_true (by omega)
 have a1:((a:Int)<L.length)=True:=eq_true (by omega)
 have a2:(a<L.length)=True:=eq_true m1
 have a3:(a*8+8≤L.length*8)=True:=eq_true (by omega)
 have b1:((b:Int)<L.length)=True:=eq_true (by omega)
 have b2:(b<L.length)=True:=eq_true m3
 have b3:(b*8+8≤L.length*8)=True:=eq_true (by omega)
 have e1:((c:Int)<L.length)=True:=eq_true (by omega)
 have e2:(c<L.length)=True:=eq_true m2
 have e3:(c*8+8≤L.length*8)=True:=eq_true (by omega)
 have va:=vF L a
 have vb:=vF L b
 have vc:=vF L c
 refine Fq Tryz.call277 Tryz.func277 12 [] [] [] (by simp [Xf,ZO,X8]) (X0 1000 ?_)
 simp only [AS.start,QK,X5,X4,↓X2,wA,seval,wE]
 refine X1 c1 rfl ?_
 by_cases hS:S≤0
 ·have g1:(S≤0)=True:=eq_true hS
  have hE:E=false:=by rw [hear]; exact decide_eq_false fun hh=>by omega
  simp only [QK,X5,X4,g1,↓X2,wA,seval,wE]
  exact Xs (v:=.bool false) rfl rfl (X3 _) (by rw [hE])
 have g1:(S≤0)=False:=eq_false hS
 simp only [QK,X5,X4,g1,↓X2,wA,seval,wE]
 refine X1 c2 rfl ?_
 simp only [QK,X5,X4,Xl,f1,f2,f3,v2,Int.toNat_natCast,↓X2,wA,seval,wE]
 refine X1 c3 (by simp only [QK,X4,Xl]; rfl) ?_
 simp only [QK,X5,X4,Xl,↓X2,wA,seval,wE]
 have sA:=hs a
 have sB:=hs b
 have sC:=hs c
 generalize hA:L.getD a v0=A at *
 generalize hB:L.getD b v0=B at *
 generalize hC:L.getD c v0=C at *
 have hfree:∀ q,Bx L a b c q=(q=a∨q=c∨q=b∨¬ kf A B C (L.getD q v0)):=fun q=>by unfold Bx; rw [hA,hB,hC]
 refine Xe (fun j:Nat=>⟨12,[],[Xt L,.any,.any,.any,.ref 0 0 0,.any,.any,I a,I b,I c,I j,.any],[],[.row 0 1 (Xq [X9 (zs R)])]⟩) (fun j=>j≤R.length∧∀ i,i<j→Bx L a b c (R.getD i 0)) (fun j=>R.length - j) 0 ⟨by omega,fun i hi=>absurd hi (Nat.not_lt_zero i)⟩
  (Xa rfl (by simp [Xh,X5,X4,Xl,I]) (by simp [Xi]) (by simp [X4,Xl])) ?_
 rintro j ⟨hj,hno⟩ next
 have w1:=wj j (by omega)
 by_cases hj2:j<R.length
 rotate_left
 ·obtain rfl:j=R.length:=by omega
  have hE:E=true:=by rw [hear]; exact decide_eq_true ⟨by omega,hno⟩
  refine X0 1000 ?_
  simp only [X5,X4,Xl,Int.lt_irrefl,Nat.lt_irrefl,↓X2,wA,seval,wE]
  exact Xs (v:=.bool true) rfl rfl (X3 _) (by rw [hE])
 have k1:((j:Int)<R.length)=True:=eq_true (by omega)
 have k2:(j<R.length)=True:=eq_true hj2
 have k3:(j+1≤R.length)=True:=eq_true (by omega)
 have v3:=Bc R j
 have m4:=hmem j
 have nx:=next (j+1)
 have hgo:=fun hfr=>JJ.2 (show (∀ i,i<j→Bx L a b c (R.getD i 0))∧Bx L a b c (R.getD j 0) from ⟨hno,hfr⟩)
 have hstop:¬ Bx L a b c (R.getD j 0)→E=false:=fun hb=>by rw [hear]; exact decide_eq_false fun hh=>hb (hh.2 j hj2)
 rw [hfree] at hgo hstop
 generalize R.getD j 0=q at *
 have sQ:=hs q
 have x1:((q:Int)<L.length)=True:=eq_true (by omega)
 have x2:(q<L.length)=True:=eq_true m4
 have x3:(q*8+8≤L.length*8)=True:=eq_true (by omega)
 have vq:=vF L q
 generalize hQ:L.getD q v0=Q at *
 have cin:=rZ A B C Q (by unfold vs; omega) (by unfold vs; omega) (by unfold vs; omega) (by unfold vs; omega)
 by_cases q1:q=a
 ·have g1:((q:Int)=(a:Int))=True:=eq_true (by omega)
  refine X0 1000 ?_
  simp only [X5,X4,Xl,w1,k1,k2,k3,v3,g1,Int.toNat_natCast,↓X2,wA,seval,wE]
  exact nx _ ⟨by omega,hgo (.inl q1)⟩ (by omega) (Xa rfl (by simp [Xh,X5,X4,Xl,I]) (by simp [Xi]) (by simp [X4,Xl]))
 have g1':((q:Int)=(a:Int))=False:=eq_false (by omega)
 by_cases q3:q=b
 ·have g3:((q:Int)=(b:Int))=True:=eq_true (by omega)
  refine X0 1000 ?_
  simp only [X5,X4,Xl,w1,k1,k2,k3,v3,g1',g3,Int.toNat_natCast,↓X2,wA,seval,wE]
  exact nx _ ⟨by omega,hgo (.inr (.inr (.inl q3)))⟩ (by omega) (Xa rfl (by simp [Xh,X5,X4,Xl,I]) (by simp [Xi]) (by simp [X4,Xl]))
 have g3':((q:Int)=(b:Int))=False:=eq_false (by omega)
 by_cases q2:q=c
 ·have g2:((q:Int)=(c:Int))=True:=eq_true (by omega)
  refine X0 1000 ?_
  simp only [X5,X4,Xl,w1,k1,k2,k3,v3,g1',g3',g2,Int.toNat_natCast,↓X2,wA,seval,wE]
  exact nx _ ⟨by omega,hgo (.inr (.inl q2))⟩ (by omega) (Xa rfl (by simp [Xh,X5,X4,Xl,I]) (by simp [Xi]) (by simp [X4,Xl]))
 have g2':((q:Int)=(c:Int))=False:=eq_false (by omega)
 refine X0 1000 ?_
 simp only [X5,X4,Xl,w1,k1,k2,k3,v3,g1',g3',g2',a1,a2,a3,b1,b2,b3,e1,e2,e3,x1,x2,x3,va,vb,vc,vq,Int.toNat_natCast,↓X2,wA,seval,wE]
 refine X1 cin rfl ?_
 by_cases hin:kf A B C Q
 ·have hE:E=false:=hstop (by
   rintro (e | e | e | e)
   ·exact q1 e
   ·exact q2 e
   ·exact q3 e
   ·exact e hin)
  simp only [decide_eq_true hin,↓X2,wA,seval,wE]
  exact Xs (v:=.bool false) rfl rfl (X3 _) (by rw [hE])
 ·simp only [decide_eq_false hin,X5,X4,Xl,w1,↓X2,wA,seval,wE]
  exact nx _ ⟨by omega,hgo (.inr (.inr (.inr hin)))⟩ (by omega) (Xa rfl (by simp [Xh,X5,X4,Xl,I]) (by simp [Xi]) (by simp [X4,Xl]))
theorem jN (n:Nat) (hn:n<1000000):Fn Tryz.prog 276 [I n] (cI (List.range n)):=by
 refine Fq Tryz.call276 Tryz.func276 5 [] [] [] (by simp [X8]) (X0 1000 ?_)
 simp only [AS.start,↓X2,wA,seval,wE]
 refine Xe (fun i:Nat=>⟨5,[],[I n,.any,.ref 0 0 0,.ref 1 0 0,I i],[],[.row 0 1 (Xq [.sl 0 0 (fun _=>.any) true]),.row 0 1 (Xq [.osl 2 i 1 0 i]),.row i i (Q4 I 0 (zs (List.range i)))]⟩) (fun i=>i≤n) (fun i=>n - i) 0 (by omega)
  (Sub.trans (QA 1 1 (fun _=>.sl 0 0 (fun _=>.any) true) rfl (Nat.le_refl _) (fun j hj=>by have e:j=0:=Nat.lt_one_iff.1 hj; subst e; rfl)) ((Ay 1 1 (Q4 I 0 []) rfl 1 (Nat.le_refl _)).trans ((QA 1 1 (Xq [.osl 2 0 1 0 0]) rfl (Nat.le_refl _) (fun j hj=>by have e:j=0:=Nat.lt_one_iff.1 hj; subst e; rfl)).trans (Xa rfl (by simp [Xh,I]) (by simp [Xi]) (by simp [zs]))))) ?_
 intro i hi next
 have w1:=wj i (by omega)
 by_cases hi2:i<n
 rotate_left
 ·obtain rfl:i=n:=by omega
  refine X0 1000 ?_
  simp only [Int.lt_irrefl,Nat.lt_irrefl,↓X2,wA,seval,wE]
  have hz:=Es (l:=zs (List.range i)) (H:=[.row 0 1 (Xq [.osl 2 i 1 0 i]),.row 0 1 (Xq [.osl 2 i 1 0 i]),.row i i (Q4 I 0 (zs (List.range i)))]) (id:=2) (ver:=i) (n:=i) rfl (by rw [Xl,List.length_range]; exact Nat.le_refl _)
  rw [Xl,List.length_range] at hz
  exact BK (v:=.agg [.osl 2 i 1 0 i]) rfl (by simp [AS.get,JF,Oz,rd,Qn,Xq,A2]) (A7 ⟨hz,trivial⟩)
 have f1:((i:Int)<n)=True:=eq_true (by omega)
 have nx:=next (i+1)
 rw [ER] at nx
 have hz:(zs (List.range i)).length=i:=by rw [Xl,List.length_range]
 generalize zs (List.range i)=Z at *
 have hap:=CJ Z (i:Int)
 rw [hz] at hap
 refine X0 1000 ?_
 simp only [w1,f1,Int.toNat_natCast,↓X2,wA,seval,wE]
 exact ⟨⟨by omega,by omega⟩,nx _ (by omega) (by omega) (Xa rfl (by simp [Xh,I]) (by simp [Xi]) (by rw [← hap]))⟩
theorem Rh {L:List V2} {R:List Nat} {p:Nat} (h1:p≤R.length) (h2:∀ j,j<p→I5 L R j≠0) (h3:p=R.length∨I5 L R p=0):KN L R=p:=by
 have hle:=Li L R
 rcases Nat.lt_trichotomy (KN L R) p with h | h | h
 ·exact absurd (Ng (by omega)) (h2 _ h)
 ·exact h
 ·rcases h3 with h3 | h3
  ·omega
  ·exact absurd h3 (Lj h)
theorem qK {L:List V2} {R:List Nat} (h3:3<R.length) (hq:KN L R<R.length):Zk L R.length R=Zk L (R.eraseIdx (KN L R)).length (R.eraseIdx (KN L R)):=by
 rw [List.length_eraseIdx,if_pos hq]
 cases hl:R.length with
 | zero=>omega
 | succ n =>
  show (if 3<R.length∧KN L R<R.length then Zk L n (R.eraseIdx (KN L R)) else R)=_
  rw [if_pos ⟨h3,hq⟩]; rfl
theorem Vv {L:List V2} {R:List Nat} (h:¬ (3<R.length∧KN L R<R.length)):Zk L R.length R=R:=by
 cases hl:R.length with
 | zero=>rfl
 | succ n=>unfold Zk; rw [if_neg h]
theorem U1 (L:List V2) (R0:List Nat) (k:Nat) (h:Rok L R0) (hs:XU L k) (hk:k≤10000):Fn Tryz.prog 279 [Xt L,cI R0] (cI (Zk L R0.length R0)):=by
 refine Fq Tryz.call279 Tryz.func279 6 [] [] [] (by simp [Xf,ZO]) (X0 1000 ?_)
 simp only [AS.start,QK,X4,X5,↓X2,wA,seval,wE]
 refine Xe (fun w:List Nat×Nat=>⟨6,[],[Xt L,.any,.any,.ref 0 0 0,.ref 1 0 0,I w.2],[],[.row 0 1 (Xq [X9 (zs w.1)]),.row 0 1 (Xq [.sl 0 0 (fun _=>.any) true])]⟩) (fun w=>Rok L w.1∧w.2≤w.1.length∧(∀ j,j<w.2→I5 L w.1 j≠0)∧Zk L w.1.length w.1=Zk L R0.length R0) (fun w=>2000000*w.1.length+(1000000 - w.2)) (R0,0) ⟨h,Nat.zero_le _,fun j hj=>absurd hj (Nat.not_lt_zero j),rfl⟩
  (Sub.trans (QA 1 1 (Xq [.sl 0 0 (fun _=>.any) true]) rfl (Nat.le_refl _) (fun j hj=>by have e:j=0:=Nat.lt_one_iff.1 hj; subst e; rfl)) (Xa rfl (by simp [Xh,X5,I]) (by simp [Xi]) (by simp [X4,Xl]))) ?_
 rintro ⟨R,p⟩ ⟨hR,hp,hno,hcl⟩ next
 replace hR:Rok L R:=hR
 replace hp:p≤R.length:=hp
 replace hno:∀ j,j<p→I5 L R j≠0:=hno
 replace hcl:Zk L R.length R=Zk L R0.length R0:=hcl
 have hn:=hR.len
 have w1:=wj p (by omega)
 by_cases hgo:3<R.length∧p<R.length
 rotate_left
 ·have e:Zk L R.length R=R:=by
   by_cases h3:3<R.length
   ·exact Vv fun hh=>by rw [Rh hp hno (.inl (by omega))] at hh; omega
   ·exact Vv fun hh=>h3 hh.1
  rw [e] at hcl
  rw [← hcl]
  have fin:∀ {s:AS},s.get 4=.ref 1 0 0→s.h=[.row 0 1 (Xq [X9 (zs R)]),.row 0 1 (Xq [X9 (zs R)])]→RetOk (Qt Tryz.prog Tryz.f279 [] [] (cI R)) s:=fun h1 h2=>by
   refine BK (v:=.agg [X9 (zs R)]) rfl ?_ ?_
   ·rw [h1,h2]; simp [JF,Oz,rd,Qn,Xq,A2]
   ·exact (ZO R).sees _
  by_cases h3:3<R.length
  ·obtain rfl:p=R.length:=by omega
   have f1:((3:Int)<R.length)=True:=eq_true (by omega)
   refine X0 1000 ?_
   simp only [X5,X4,Xl,f1,Int.lt_irrefl,Nat.lt_irrefl,↓X2,wA,seval,wE]
   exact fin rfl (by simp [X4,Xl])
  ·have f1:((3:Int)<R.length)=False:=eq_false (by omega)
   refine X0 1000 ?_
   simp only [X5,X4,Xl,f1,↓X2,wA,seval,wE]
   exact fin rfl (by simp [X4,Xl])
 obtain ⟨h3,hp2⟩:=hgo
 have cs:=Ss L R p k hR hp2 hs hk
 have cw:=Ml R p hn (by omega)
 rw [QK,X4,Xl] at cs cw
 have f1:((3:Int)<R.length)=True:=eq_true (by omega)
 have f2:((p:Int)<R.length)=True:=eq_true (by omega)
 by_cases hz:I5 L R p=0
 ·have g1:(I5 L R p=0)=True:=eq_true hz
  have hf:=Rh hp hno (.inr hz)
  have hg:=qK (L:=L) h3 (by rw [hf]; exact hp2)
  rw [hf,hcl] at hg
  have hl:(R.eraseIdx p).length=R.length - 1:=by rw [List.length_eraseIdx,if_pos hp2]
  have nx:=next (R.eraseIdx p,0)
  refine X0 1000 ?_
  simp only [X5,X4,Xl,f1,f2,w1,↓X2,wA,seval,wE]
  refine X1 cs rfl ?_
  simp only [X5,X4,Xl,g1,↓X2,wA,seval,wE]
  refine X1 cw rfl ?_
  simp only [QK,X5,X4,Xl,↓X2,wA,seval,wE]
  exact nx _ ⟨Bo hR h3 hp2,Nat.zero_le _,fun j hj=>absurd hj (Nat.not_lt_zero j),hg.symm⟩ (by show 2000000*(R.eraseIdx p).length+(1000000 - 0)<2000000*R.length+(1000000 - p); omega) (Xa rfl (by simp [Xh,X5,I]) (by simp [Xi]) (by simp [X4,Xl]))
 ·have g1:(I5 L R p=0)=False:=eq_false hz
  have nx:=next (R,p+1)
  refine X0 1000 ?_
  simp only [X5,X4,Xl,f1,f2,w1,↓X2,wA,seval,wE]
  refine X1 cs rfl ?_
  simp only [X5,X4,Xl,g1,w1,↓X2,wA,seval,wE]
  exact nx _ ⟨hR,hp2,fun j hj=>by
    rcases Nat.lt_succ_iff_lt_or_eq.1 hj with h | h
    ·exact hno j h
    ·exact h▸hz,hcl⟩ (by show 2000000*R.length+(1000000 - (p+1))<2000000*R.length+(1000000 - p); omega) (Xa rfl (by simp [Xh,X5,I]) (by simp [Xi]) (by simp [X4,Xl]))
theorem nM (L:List V2) (k:Nat) (hs:XU L k) (hk:k≤1000) (hp:XN L):Fn Tryz.prog 264 [Xt L] (.tup [jr (Ce L),I 0]):=by
 have hl:=(KR L hp).1
 have cv:=Gc L (fun i=>Nat.le_trans (hs i) hk) (by omega)
 rw [decide_eq_true hp] at cv
 have ca:=jN L.length (by omega)
 obtain ⟨T,hT⟩:∃ T,T=Ce L:=⟨_,rfl⟩
 rw [← hT]
 have h0:=Au hl.1 (by omega)
 have d0:(List.range L.length).Nodup:=List.nodup_range
 have hlr:(List.range L.length).length=L.length:=List.length_range
 have hTc:T=Cd L (List.range L.length).length (List.range L.length):=by rw [hT,hlr]; rfl
 have s0:∀ l,XI 2 (.row 0 1 (Xq [X9 l]))=True:=fun l=>eq_true (XG (by simp [X7]))
 have s1:∀ v n l,XI 2 (.row v n (Xw tC 3 (0,0,0) l))=True:=fun v n l=>eq_true fun j _=>X6 (Xd (Fj _) _)
 refine Fq Tryz.call264 Tryz.func264 7 [] [9,10001,10005,10009,11,120000004] [] (by simp [Xf]) (X0 1000 ?_)
 simp only [AS.start,X5,↓X2,wA,seval,wE]
 refine X1 cv rfl ?_
 simp only [X5,↓X2,wA,seval,wE]
 refine X1 ca rfl ?_
 generalize List.range L.length=R0 at *
 simp only [X5,QK,X4,Xl,↓X2,wA,seval,wE]
 refine Xe (fun w:List (Nat×Nat×Nat)×List Nat=>⟨7,[],[Xt L,.any,.any,.any,.ref 0 0 0,.osl 1 w.1.length 3 0 w.1.length,.any],[],[.row 0 1 (Xq [X9 (zs w.2)]),.row w.1.length (w.1.length*3) (Xw tC 3 (0,0,0) w.1)]⟩) (fun w=>Rok L w.2∧w.2.Nodup∧3≤w.2.length∧w.1.length+w.2.length≤L.length∧w.1 ++ Cd L w.2.length w.2=T) (fun w=>w.2.length) ([],R0) ⟨h0,d0,by show 3≤R0.length; omega,by simp [hlr],by rw [hTc]; rfl⟩
  (Sub.trans (Qg 5 3 (Xw tC 3 (0,0,0) []) rfl) (Xa rfl (by simp [AS.put,Xh,X5]) (by simp [AS.put,Xi]) (by simp [AS.put,X4,Xl]))) ?_
 rintro ⟨D,R⟩ ⟨h,hd,h3,hDl,hDT⟩ next
 replace h:Rok L R:=h
 replace hd:R.Nodup:=hd
 replace h3:3≤R.length:=h3
 replace hDl:D.length+R.length≤L.length:=hDl
 replace hDT:D ++ Cd L R.length R=T:=hDT
 by_cases h4:3<R.length
 rotate_left
 ·have e3:R.length=3:=by omega
  rw [PQ h4] at hDT
  have hap:=Q0 tC 3 (0,0,0) D (R.getD 0 0,R.getD 1 0,R.getD 2 0) (by omega)
  rw [hDT] at hap
  have hTl:T.length=D.length+1:=by rw [← hDT]; simp
  refine X0 1000 ?_
  simp (disch:=omega) only [X5,X4,Xl,Bc,KY,wD,↓X2,wA,seval,wE]
  exact ⟨P2 (R.getD 0 0,R.getD 1 0,R.getD 2 0),Ws T rfl (by rw [hTl]; rfl) (by rw [hTl,← hap]; rfl) rfl (X8 _)⟩
 have hgo:=Vy h hd h4
 obtain ⟨b1,b2,b3,b4⟩:=E9 h hd h4
 have hn:=h.len
 refine X0 1000 ?_
 simp (disch:=omega) only [X5,X4,Xl,wD,↓X2,wA,seval,wE]
 refine Xe (fun p:Nat=>⟨7,[],[Xt L,.any,.any,.any,.ref 0 0 0,.osl 1 D.length 3 0 D.length,I p],[],[.row 0 1 (Xq [X9 (zs R)]),.row D.length (D.length*3) (Xw tC 3 (0,0,0) D)]⟩) (fun p=>p≤R.length - 1∧∀ j,j<p→BU L R j=false) (fun p=>R.length - p) 0 ⟨by omega,fun j hj=>absurd hj (Nat.not_lt_zero j)⟩
  (Xa rfl (by simp [Xh,X5,I]) (by simp [Xi]) (by simp [X4,Xl])) ?_
 rintro p ⟨hp1,hno⟩ next2
 have ce:=nN L R p k h (by omega) hs (by omega)
 have c1:=Eh R p (-1) (p+R.length - 1) h.pos h.len (by have:=h.pos; omega) (by omega) (by omega) (by omega)
 have c2:=Eh R p 1 (p+R.length+1) h.pos h.len (by omega) (by omega) (by omega) (by omega)
 have cw:=Ml R p hn (by omega)
 have hre:=Bo h h4 (show p<R.length by omega)
 have hlr:(R.eraseIdx p).length=R.length - 1:=by rw [List.length_eraseIdx,if_pos (by omega)]
 have cc:=U1 L (R.eraseIdx p) k hre hs (by omega)
 rw [hlr] at cc
 rw [QK,X4,Xl] at ce c1 c2 cw
 by_cases hgo2:p<R.length - 1∧BU L R p=false
 ·refine X0 1000 ?_
  simp (disch:=omega) only [X5,X4,Xl,wD,↓X2,wA,seval,wE]
  refine X1 ce rfl ?_
  simp (disch:=omega) only [hgo2.2,X5,X4,Xl,wD,↓X2,wA,seval,wE]
  exact next2 (p+1) _ ⟨by omega,JJ.2 ⟨hno,hgo2.2⟩⟩ (by omega) (Xa rfl (by simp [Xh,X5,I]) (by simp [Xi]) (by simp [X4,Xl]))
 have hep:HZ L R=p:=VC hp1 hno (by
  by_cases h1:p=R.length - 1
  ·exact .inl h1
  ·right
   cases he:BU L R p with
   | true=>rfl
   | false=>exact absurd ⟨by omega,he⟩ hgo2)
 have hD:(D ++ [Fo R p]) ++ Cd L (Cf L R).length (Cf L R)=T:=by rw [← hDT,hgo,hep,List.append_assoc]; rfl
 have hap:=Q0 tC 3 (0,0,0) D (Fo R p) (by omega)
 have hcs:Zk L (R.length - 1) (R.eraseIdx p)=Cf L R:=by unfold Cf; rw [hep]
 rw [hcs] at cc
 have nx:=next (D ++ [Fo R p],Cf L R)
 rw [List.length_append,List.length_singleton] at nx
 have htr:tC (Fo R p)=[I (nr R (p+R.length - 1)),I (R.getD p 0:Nat),I (nr R (p+R.length+1))]:=rfl
 have hone:=P2 (Fo R p)
 rw [htr] at hap hone
 generalize D ++ [Fo R p]=D2 at *
 generalize Cf L R=R2 at *
 have v2:=Bc R p
 generalize nr R (p+R.length - 1)=a at *
 generalize nr R (p+R.length+1)=c at *
 generalize R.getD p 0=b at *
 clear hgo hcs htr
 refine X0 1000 ?_
 by_cases hl:p<R.length - 1
 have he:BU L R p=true:=by
  cases he:BU L R p with
  | true=>rfl
  | false=>exact absurd ⟨hl,he⟩ hgo2
 simp (disch:=omega) only [X5,X4,Xl,wD,↓X2,wA,seval,wE]
 refine X1 ce rfl ?_
 simp (disch:=omega) only [he,X5,X4,Xl,wD,↓X2,wA,seval,wE]
 rotate_left
 simp (disch:=omega) only [X5,X4,Xl,wD,↓X2,wA,seval,wE]
 all_goals
  refine X1 c1 rfl ?_
  simp (disch:=omega) only [X5,X4,Xl,v2,wD,↓X2,wA,seval,wE]
  refine X1 c2 rfl ?_
  simp (disch:=omega) only [X5,X4,Xl,v2,wD,↓X2,wA,seval,wE]
  refine ⟨hone,?_⟩
  refine X1 cw rfl ?_
  simp (disch:=omega) only [QK,X5,X4,Xl,wD,↓X2,wA,seval,wE]
  refine X1 cc (by simp only [QK,X4,Xl]; rfl) ?_
  simp (disch:=omega) only [QK,X5,X4,Xl,wD,↓X2,wA,seval,wE]
  exact nx _ ⟨b1,b2,b3,by show D.length+1+R2.length≤L.length; omega,hD⟩ (by show R2.length<R.length; omega) (Xa rfl (by simp [Xh,X5,I]) (by simp [Xi]) (by rw [← hap]; simp [X4,Xl,I,P6]))
def jp (L:List V2) (d:Nat×Nat×Nat):List V2:=[L.getD d.1 v0,L.getD d.2.1 v0,L.getD d.2.2 v0]
def Ki (L:List V2):List (List V2):=(Ce L).map (jp L)
theorem L6 (L:List V2):∀ (f:Nat) (R:List Nat),Rok L R→R.Nodup→3≤R.length→∀ d∈Cd L f R,d.1<L.length∧d.2.1<L.length∧d.2.2<L.length
 | 0,R,h,_,_,d,hd=>by
  rw [List.mem_singleton.1 hd]
  exact ⟨h.mem 0,h.mem 1,h.mem 2⟩
 | f+1,R,h,hn,h3,d,hd=>by
  unfold Cd at hd
  split at hd
  ·rename_i h4
   obtain ⟨b1,b2,b3,_⟩:=E9 h hn h4
   rcases List.mem_cons.1 hd with rfl | hd
   ·exact ⟨h.mem _,h.mem _,h.mem _⟩
   ·exact L6 L f _ b1 b2 b3 d hd
  ·rw [List.mem_singleton.1 hd]
   exact ⟨h.mem 0,h.mem 1,h.mem 2⟩
theorem FC (L:List V2):∀ (f:Nat) (R:List Nat),Rok L R→R.Nodup→3≤R.length→(Cd L f R).length≤R.length
 | 0,R,h,_,_=>h.pos
 | f+1,R,h,hn,h3=>by
  unfold Cd
  split
  ·rename_i h4
   obtain ⟨b1,b2,b3,b4⟩:=E9 h hn h4
   have:=FC L f _ b1 b2 b3
   rw [List.length_cons]; omega
  ·exact h.pos
theorem c9 (A B C:V2):Weak (I8 A B C).loose (Xt [A,B,C]):=by
 rw [XR,X5]
 show Weak (AV.sl 3 24 _ false) _
 refine Ww (Nat.le_refl _) fun j hj=>?_
 have hj:j<24:=hj
 match j,hj with
 | 0,_=>rfl
 | 1,_=>rfl
 | 2,_=>rfl
 | 3,_=>rfl
 | 4,_=>rfl
 | 5,_=>rfl
 | 6,_=>rfl
 | 7,_=>rfl
 | 8,_=>rfl
 | 9,_=>rfl
 | 10,_=>rfl
 | 11,_=>rfl
 | 12,_=>rfl
 | 13,_=>rfl
 | 14,_=>rfl
 | 15,_=>rfl
 | 16,_=>rfl
 | 17,_=>rfl
 | 18,_=>rfl
 | 19,_=>rfl
 | 20,_=>rfl
 | 21,_=>rfl
 | 22,_=>rfl
 | 23,_=>rfl
 | j+24,h=>omega
theorem Zy (L:List V2):(Ki L).length=(Ce L).length:=by simp [Ki]
theorem E7 (L:List V2) (i:Nat) (h:i<(Ce L).length):(Ki L).getD i []=jp L ((Ce L).getD i (0,0,0)):=by
 unfold Ki
 rw [List.getD_eq_getElem?_getD,List.getElem?_map,List.getD_eq_getElem?_getD,List.getElem?_eq_getElem h]; rfl
theorem tF (T:List (Nat×Nat×Nat)) (i:Nat):Xw tC 3 (0,0,0) T (i*3)=I (T.getD i (0,0,0)).1∧Xw tC 3 (0,0,0) T (i*3+1)=I (T.getD i (0,0,0)).2.1∧Xw tC 3 (0,0,0) T (i*3+2)=I (T.getD i (0,0,0)).2.2 :=
 ⟨K6 _ _ _ _ _ (by omega),JR _ _ _ _ _ _ (by omega),JR _ _ _ _ _ _ (by omega)⟩
theorem HW {H:List AO} (W:List (List V2)) (A B C:V2) (j:Nat) (hj:j<W.length+1):ZR H (QM W.length (Q4 Xt [] W) 1 (Xq [(I8 A B C).loose]) j) (Q4 Xt [] (W ++ [[A,B,C]]) j):=by
 unfold QM
 by_cases h:j<W.length
 ·rw [if_pos h,KY,KY]
  have:(W ++ [[A,B,C]]).getD j []=W.getD j []:=by rw [List.getD_eq_getElem?_getD,List.getD_eq_getElem?_getD,List.getElem?_append_left h]
  rw [this]; exact J1 _ _
 ·obtain rfl:j=W.length:=by omega
  rw [if_neg (by omega),if_pos (by omega),KY,Nat.sub_self]
  have:(W ++ [[A,B,C]]).getD W.length []=[A,B,C]:=by rw [List.getD_eq_getElem?_getD,List.getElem?_append_right (Nat.le_refl _),Nat.sub_self]; rfl
  rw [this]
  exact fun c v _ _ hv=>c9 A B C c v hv
theorem oL {P:Program} {fn:Func} {str hcs:List Nat} {s:AS} {t u id ver:Nat} {e:AV} (W:List (List V2)) (hr:fn.results=#[.tmp t,.tmp u]) (hs:s.get t=.osl id ver 1 0 W.length) (ho:s.h[id]?=some (.row ver W.length (Q4 Xt [] W))) (hu:s.get u=e) (he:Settled e):RetOk (Qt P fn str hcs (.tup [GA W,e])) s:=by
 refine Sn hr (Zs ⟨?_,Qy he hu,trivial⟩)
 rw [hs,XC]
 refine Qz (.inl ho) (by omega) (fun h=>h) fun j hj=>?_
 rw [Nat.zero_add]
 exact (Xf _).sees _
theorem nK (L:List V2) (k:Nat) (hs:XU L k) (hk:k≤1000) (hp:XN L):Fn Tryz.prog 246 [Xt L] (.tup [GA (Ki L),I 0]):=by
 have hl:=(KR L hp).1
 have cc:=nM L k hs hk hp
 have hTl:(Ce L).length≤12:=by have:=FC L L.length _ (Au hl.1 (by omega)) List.nodup_range (by rw [List.length_range]; omega); rw [List.length_range] at this; unfold Ce; omega
 have hm:=L6 L L.length _ (Au hl.1 (by omega)) List.nodup_range (by rw [List.length_range]; omega)
 have hcl:=Zy L
 have hca:=E7 L
 change ∀ d∈Ce L,_ at hm
 generalize Ce L=T at *
 generalize Ki L=C at *
 have hbL:Jq 1 (Xt L)=True:=eq_true (X6 (Xf L))
 have hbT:Jq 1 (jr T)=True:=eq_true (X6 (HQ T))
 refine Fq Tryz.call246 Tryz.func246 8 [] [6] [] (by simp [Xf]) (X0 1000 ?_)
 simp only [AS.start,X5,↓X2,wA,seval,wE]
 refine X1 cc rfl ?_
 simp only [X5,A9,↓X2,wA,seval,wE]
 refine Xe (fun i:Nat=>⟨8,[],[Xt L,.any,.any,.any,jr T,I 0,.osl 0 i 1 0 i,I i],[],[.row i i (Q4 Xt [] (C.take i))]⟩) (fun i=>i≤T.length) (fun i=>T.length - i) 0 (by omega)
  (Sub.trans (Qg 6 1 (Q4 Xt [] []) rfl) (Xa rfl (by simp [AS.put,Xh,X5,A9,I]) (by simp [AS.put,Xi]) (by simp [AS.put]))) ?_
 intro i hi next
 have w1:=wj i (by omega)
 by_cases hi2:i<T.length
 rotate_left
 ·obtain rfl:i=T.length:=by omega
  refine X0 1000 ?_
  simp only [X5,A9,Int.lt_irrefl,Nat.lt_irrefl,↓X2,wA,seval,wE]
  rw [List.take_of_length_le (by omega)]
  exact oL C rfl (by rw [hcl]; rfl) (by rw [hcl]; rfl) rfl (X8 _)
 have t1:=tF T i
 obtain ⟨m1,m2,m3⟩:=hm (T.getD i (0,0,0)) (JC hi2)
 have hc1:=hca i hi2
 have htk:C.take (i+1)=C.take i ++ [C.getD i []]:=Qq C [] i (by omega)
 have hwl:(C.take i).length=i:=by rw [List.length_take]; omega
 have nx:=next (i+1)
 rw [htk,hc1] at nx
 unfold jp at nx
 generalize (T.getD i (0,0,0)).1=a at *
 generalize (T.getD i (0,0,0)).2.1=b at *
 generalize (T.getD i (0,0,0)).2.2=c at *
 have va:=vF L a
 have vb:=vF L b
 have vc:=vF L c
 have hgr:=@HW [.row (i+1) (i+1) (QM i (Q4 Xt [] (C.take i)) 1 (Xq [(I8 (L.getD a v0) (L.getD b v0) (L.getD c v0)).loose]))] (C.take i) (L.getD a v0) (L.getD b v0) (L.getD c v0)
 rw [hwl] at hgr
 generalize L.getD a v0=A at *
 generalize L.getD b v0=B at *
 generalize L.getD c v0=D at *
 generalize C.take i=W at *
 refine X0 1000 ?_
 simp (disch:=omega) only [X5,A9,t1,va,vb,vc,wD,Int.reduceToNat,↓X2,wA,seval,wE]
 exact nx _ (by omega) (by omega) (Sub.trans (Xa (s':=⟨8,[],[Xt L,.any,.any,.any,jr T,I 0,.osl 0 (i+1) 1 0 (i+1),I (i+1:Nat)],[],[.row (i+1) (i+1) (QM i (Q4 Xt [] W) 1 (Xq [(I8 A B D).loose]))]⟩) rfl (by simp [Xh,X5,A9,I]) (by simp [Xi]) (by simp [XR,X4,AV.loose])) (Sub.trans (Zv 0 (Q4 Xt [] (W ++ [[A,B,D]])) rfl (fun j hj=>hgr j hj)) (Xa rfl (by simp [Xh]) (by simp [Xi]) rfl)))
theorem ub {P:Program} {fn:Func} {str hcs:List Nat} {b:Nat} {r1 r2:AV} {H:List AO} {s:AS} {t u:Nat} (hr:fn.results=#[.tmp t,.tmp u]) (h1:s.get t=r1) (h2:s.get u=r2) (hH:s.h=H):RetOk (GN P fn str hcs b (.tup [r1,r2]) H) s :=
 ⟨.tup [r1,r2],by show KT P fn s=_; simp [KT,hr,QZ,Qp,A3,h1,h2],rfl,hH⟩
theorem qM (o1 o2:AO) (B1:∀ m,2≤m→XI m o1) (B2:∀ m,2≤m→XI m o2) (L:List V2) (k:Nat) (hs:XU L k) (hk:k≤1000) (hp:Ar L) :
  HCall Tryz.prog 245 [Xt L] [o1,o2] (.tup [.osl 2 (Ki L).length 1 0 (Ki L).length,I 0]) [o1,o2,.row (Ki L).length (Ki L).length (Q4 Xt [] (Ki L))]:=by
 have hl:=hp.1
 have cc:=lQ L k hs hk hp
 have hTl:(Ce L).length≤12:=by have:=FC L L.length _ (Au hl.1 (by omega)) List.nodup_range (by rw [List.length_range]; omega); rw [List.length_range] at this; unfold Ce; omega
 have hm:=L6 L L.length _ (Au hl.1 (by omega)) List.nodup_range (by rw [List.length_range]; omega)
 have hcl:=Zy L
 have hca:=E7 L
 change ∀ d∈Ce L,_ at hm
 generalize Ce L=T at *
 generalize Ki L=C at *
 have hbL:Jq 3 (Xt L)=True:=eq_true (X6 (Xf L))
 have hbT:Jq 3 (jr T)=True:=eq_true (X6 (HQ T))
 have q1:XI 3 o1=True:=eq_true (B1 3 (by omega))
 have q2:XI 3 o2=True:=eq_true (B2 3 (by omega))
 have s1:∀ v n f A B C,XI 3 (.row v (n+1) (QM n (Q4 Xt [] f) 1 (Xq [(I8 A B C).loose])))=True:=fun v n f A B C=>eq_true fun j hj=>by
  unfold QM
  have hset:Settled (I8 A B C).loose:=by rw [XR]; exact J0 fun j _=>Xd (l:=[_,_,_,_,_,_,_,_,_,_,_,_,_,_,_,_,_,_,_,_,_,_,_,_]) (by simp [X7,X3]) j
  split
  ·exact X6 (Xf _)
  ·rw [show j - n=0 by omega]
   exact X6 hset
 refine HCall.intro (fn:=Tryz.f245) Tryz.call245 Tryz.func245 rfl mixed 9 [14,15,16] [6,70000008] [] (by kernel_rfl) (Nat.le_of_ble_eq_true rfl) (X0 1000 ?_)
 simp only [AS.start,X5,↓X2,wA,seval,wE]
 refine X1 cc rfl ?_
 simp only [X5,A9,↓X2,wA,seval,wE]
 refine Xe (fun i:Nat=>⟨9,[14,15,16],[Xt L,.any,.any,.any,.any,I 0,.osl 2 i 1 0 i,.any,.any],[(14,jr T),(15,I T.length),(16,I i)],[o1,o2,.row i i (Q4 Xt [] (C.take i))]⟩) (fun i=>i≤T.length) (fun i=>T.length - i) 0 (by omega)
  (Sub.trans (Qg 6 1 (Q4 Xt [] []) rfl) (Xa rfl (by simp [AS.put,Xh,X5,I]) (by simp [AS.put,Xi,Xv,A9,I]) (by simp [AS.put]))) ?_
 intro i hi next
 have w1:=wj i (by omega)
 by_cases hi2:i<T.length
 rotate_left
 ·obtain rfl:i=T.length:=by omega
  refine X0 1000 ?_
  simp only [X5,A9,Int.lt_irrefl,Nat.lt_irrefl,↓X2,wA,seval,wE]
  rw [List.take_of_length_le (by omega)]
  exact ub rfl (by rw [hcl]; rfl) rfl (by rw [hcl])
 have t1:=tF T i
 obtain ⟨m1,m2,m3⟩:=hm (T.getD i (0,0,0)) (JC hi2)
 have hc1:=hca i hi2
 have htk:C.take (i+1)=C.take i ++ [C.getD i []]:=Qq C [] i (by omega)
 have hwl:(C.take i).length=i:=by rw [List.length_take]; omega
 have nx:=next (i+1)
 rw [htk,hc1] at nx
 unfold jp at nx
 generalize (T.getD i (0,0,0)).1=a at *
 generalize (T.getD i (0,0,0)).2.1=b at *
 generalize (T.getD i (0,0,0)).2.2=c at *
 have va:=vF L a
 have vb:=vF L b
 have vc:=vF L c
 have hgr:=@HW [o1,o2,.row (i+1) (i+1) (QM i (Q4 Xt [] (C.take i)) 1 (Xq [(I8 (L.getD a v0) (L.getD b v0) (L.getD c v0)).loose]))] (C.take i) (L.getD a v0) (L.getD b v0) (L.getD c v0)
 rw [hwl] at hgr
 generalize L.getD a v0=A at *
 generalize L.getD b v0=B at *
 generalize L.getD c v0=D at *
 generalize C.take i=W at *
 refine X0 1000 ?_
 simp (disch:=omega) only [X5,A9,t1,va,vb,vc,wD,Int.reduceToNat,↓X2,wA,seval,wE]
 exact nx _ (by omega) (by omega) (Sub.trans (Xz (m:=3) (s':=⟨9,[14,15,16],[Xt L,.any,.any,.any,.any,I 0,.osl 2 (i+1) 1 0 (i+1),.any,.any],[(14,jr T),(15,I T.length),(16,I (i+1:Nat))],[o1,o2,.row (i+1) (i+1) (QM i (Q4 Xt [] W) 1 (Xq [(I8 A B D).loose]))]⟩) (by simp [GN]) rfl (by simp [Xh,X5,I]) (by simp [Xi,Xv,A9,I]) (by simp [XR,X4,AV.loose]) (by simp [Xy,hbL]) (by simp [Xy,hbT]) (by simp [q1,q2,s1])) (Sub.trans (Zv 2 (Q4 Xt [] (W ++ [[A,B,D]])) rfl (fun j hj=>hgr j hj)) (Xa rfl (by simp [Xh]) (by simp [Xi,Xv]) rfl)))
def I4 (f:List V2→List V2) (C:List (List V2)) (i:Nat):List (List V2):=(C.take i).map f ++ C.drop i
theorem rD (f:List V2→List V2) (C:List (List V2)):I4 f C 0=C:=rfl
theorem gY (f:List V2→List V2) (C:List (List V2)):I4 f C C.length=C.map f:=by unfold I4; simp
theorem nc (f:List V2→List V2) (C:List (List V2)) (i:Nat) (h:i<C.length):(I4 f C i).getD i []=C.getD i []:=by
 unfold I4
 rw [List.getD_eq_getElem?_getD,List.getElem?_append_right (by simp; omega),List.getD_eq_getElem?_getD]
 simp [Nat.min_eq_left (Nat.le_of_lt h)]
theorem gZ (f:List V2→List V2) (C:List (List V2)) (i:Nat) (h:i≤C.length):(I4 f C i).length=C.length:=by unfold I4; simp; omega
theorem i9 (f:List V2→List V2) (C:List (List V2)) (i:Nat) (h:i<C.length):(I4 f C i).set i (f (C.getD i []))=I4 f C (i+1):=by
 refine List.ext_getElem? fun j=>?_
 unfold I4
 rw [List.getElem?_set]
 by_cases hj:i=j
 ·subst hj
  rw [if_pos rfl,if_pos (by simp; omega),List.getElem?_append_left (by simp; omega),List.getElem?_map,List.getElem?_take,if_pos (by omega),List.getElem?_eq_getElem h,List.getD_eq_getElem?_getD,List.getElem?_eq_getElem h]; rfl
 ·rw [if_neg hj]
  by_cases hlt:j<i
  ·rw [List.getElem?_append_left (by simp; omega),List.getElem?_append_left (by simp; omega),List.getElem?_map,List.getElem?_map,List.getElem?_take,List.getElem?_take,if_pos hlt,if_pos (by omega)]
  ·rw [List.getElem?_append_right (by simp; omega),List.getElem?_append_right (by simp; omega),List.getElem?_drop,List.getElem?_drop]
   congr 1
   simp; omega
def KD (p:PV) (t c:V2):List (List V2):=(Ki (XB p.rim)).map (Ks t c)
theorem Eo {R:List (Int×Int)} (h:QY R):XU (XB R) 3:=fun i=>by rw [Gg]; exact KA h i
theorem DZ:vb v0≤3:=by
 have:=KA (R:=[]) (fun c hc=>absurd hc List.not_mem_nil) 0
 exact this
theorem Du (L:List V2) (k:Nat) (h:XU L k) (hk:3≤k) (i:Nat):XU ((Ki L).getD i []) k:=by
 by_cases hi:i<(Ce L).length
 ·rw [E7 L i hi]
  intro j
  unfold jp
  match j with
  | 0=>exact h _
  | 1=>exact h _
  | 2=>exact h _
  | j+3=>exact Nat.le_trans DZ hk
 ·have e:(Ki L).getD i []=[]:=by rw [List.getD_eq_getElem?_getD,List.getElem?_eq_none (by rw [Zy]; omega)]; rfl
  rw [e]
  exact fun j=>Nat.le_trans DZ hk
theorem EY (L:List V2) (i:Nat) (hi:i<(Ce L).length):((Ki L).getD i []).length=3:=by rw [E7 L i hi]; rfl
theorem Ig {L:List V2} (hl:3≤L.length∧L.length≤12):(Ce L).length≤12:=by
 have:=FC L L.length _ (Au hl.1 (by omega)) List.nodup_range (by rw [List.length_range]; omega)
 rw [List.length_range] at this
 unfold Ce; omega
theorem Mh (l:List V2):(Xt l).cells=[Xt l]:=nrfl rfl
theorem T4 (l:List V2):(Xt l).one=true:=nrfl rfl
theorem Mi (l:List V2):(Xt l).loose=Xt l:=nrfl rfl
theorem NG (p:PV) (t c:V2) (hp:Ar (XB p.rim)) (hn:QY p.rim) (ht:vb t≤1000) (hc:vb c≤1000):Fn Tryz.prog 202 [Qd p,W4 t c] (GA (KD p t c)):=by
 have hl:=hp.1
 have hle:=Ig hl
 have hrl:(XB p.rim).length=p.rim.length:=by simp [XB]
 have r1:=OR p (by omega) (AP hn)
 have sm:=Eo hn
 have hcs:=Du (XB p.rim) 3 sm (Nat.le_refl _)
 have h3:=EY (XB p.rim)
 have hcl:=Zy (XB p.rim)
 have B1:∀ m,2≤m→XI m (.row 0 25 (Xq (XD p))):=fun m _=>XG (XF p)
 have B2:∀ m,2≤m→XI m (.row 0 16 (Xq (G0 t c))):=fun m _=>XG (KX t c)
 have co:=qM (.row 0 25 (Xq (XD p))) (.row 0 16 (Xq (G0 t c))) B1 B2 (XB p.rim) 3 sm (by omega) hp
 unfold KD
 generalize XB p.rim=L at *
 rw [← hcl] at h3 hle
 generalize Ki L=C at *
 refine Fq Tryz.call202 Tryz.func202 9 [15,16,17] [] [] (by simp [Xu,ZN]) (X0 1000 ?_)
 simp (disch:=omega) only [AS.start,Qd,XD,W4,G0,wD,↓X2,wA,seval,wE]
 refine X1 r1 rfl ?_
 simp (disch:=omega) only [X5,wD,↓X2,wA,seval,wE]
 refine Z4 rfl co (QP (fun o h=>?_) (fun o h=>?_)) (fun id=>?_) (XS _) ?_
 ·simp only [List.mem_cons,List.not_mem_nil,or_false] at h
  rcases h with rfl | rfl <;> simp
 ·simp only [List.mem_cons,List.not_mem_nil,or_false] at h
  rcases h with rfl | rfl | rfl <;> simp
 ·match id with
  | 0=>simp
  | 1=>simp
  | n+2=>simp
 simp (disch:=omega) only [wD,↓X2,wA,seval,wE]
 refine Xe (fun i:Nat=>⟨9,[15,16,17],[.any,.any,.any,.ref 1 0 0,.any,.osl 2 C.length 1 0 C.length,.any,.any,.any],[(15,.osl 2 C.length 1 0 C.length),(16,I C.length),(17,I i)],[.row 0 25 (Xq (XD p)),.row 0 16 (Xq (G0 t c)),.row C.length C.length (Q4 Xt [] (I4 (Ks t c) C i))]⟩) (fun i=>i≤C.length) (fun i=>C.length - i) 0 (by omega)
  (Xa rfl (by simp [Xh,I]) (by simp [Xi,Xv,I]) (by simp [XD,G0,X4,Xg,Xn,rD,I])) ?_
 intro i hi next
 by_cases hi2:i<C.length
 rotate_left
 ·obtain rfl:i=C.length:=by omega
  refine X0 1000 ?_
  simp (disch:=omega) only [wD,↓X2,wA,seval,wE]
  rw [gY]
  have hml:(C.map (Ks t c)).length=C.length:=List.length_map ..
  refine At rfl ?_
  rw [XC,hml]
  refine Qz (id:=2) (m:=C.length) (f:=Q4 Xt [] (C.map (Ks t c))) (.inl rfl) (by omega) (fun h=>h) fun j hj=>?_
  rw [Nat.zero_add]
  exact (Xf _).sees _
 have v1:=pE (I4 (Ks t c) C i) i
 rw [nc _ _ _ hi2] at v1
 have cm:=iF t c (C.getD i []) 3 (hcs i) (by omega) (by rw [h3 i hi2]; omega) (by omega) (by omega)
 refine X0 1000 ?_
 simp (disch:=omega) only [v1,wD,↓X2,wA,seval,wE]
 refine X1 cm rfl ?_
 simp (disch:=omega) only [Mh,T4,Mi,wD,↓X2,wA,seval,wE]
 exact next (i+1) _ (by omega) (by omega) (Xa rfl (by simp [Xh]) (by simp [Xi,Xv,I]) (by rw [← i9 _ _ _ hi2,← Wv _ _ _ _ _ (by rw [gZ _ _ _ hi]; exact hi2)]))
theorem HC (p:PV) (t c:V2) (hp:XN (XB p.rim)) (hn:QY p.rim) (ht:vb t≤1000) (hc:vb c≤1000):Fn Tryz.prog 212 [Qd p,W4 t c] (GA (KD p t c)):=by
 have hl:=(KR _ hp).1
 have hle:=Ig hl
 have hrl:(XB p.rim).length=p.rim.length:=by simp [XB]
 have r1:=Gf p (by omega) (AP hn)
 have sm:=Eo hn
 have hcs:=Du (XB p.rim) 3 sm (Nat.le_refl _)
 have h3:=EY (XB p.rim)
 have hcl:=Zy (XB p.rim)
 have co:=nK (XB p.rim) 3 sm (by omega) hp
 unfold KD
 generalize XB p.rim=L at *
 rw [← hcl] at h3 hle
 generalize Ki L=C at *
 have q1:XI 3 (.row 0 25 (Xq (XD p)))=True:=eq_true (XG (XF p))
 have q2:XI 3 (.con 0 16 (Xq (G0 t c)))=True:=eq_true (fun j _=>X6 (Xd (KX t c) j))
 have q3:∀ v n l,XI 3 (.row v n (Q4 Xt [] l))=True:=fun v n l=>eq_true fun j _=>X6 (Xf _)
 have q4:Jq 3 (GA C)=True:=eq_true (X6 (K5 C))
 refine Fq Tryz.call212 Tryz.func212 9 [] [6,70000003] [] (by simp [Xu,ZN]) (X0 1000 ?_)
 simp (disch:=omega) only [AS.start,Qd,XD,W4,G0,wD,↓X2,wA,seval,wE]
 refine X1 r1 rfl ?_
 simp (disch:=omega) only [X5,wD,↓X2,wA,seval,wE]
 refine X1 co rfl ?_
 simp (disch:=omega) only [XC,wD,↓X2,wA,seval,wE]
 refine Xe (fun i:Nat=>⟨9,[],[.any,.any,.any,.ref 1 0 0,.any,GA C,.any,.osl 2 i 1 0 i,I i],[],[.row 0 25 (Xq (XD p)),.con 0 16 (Xq (G0 t c)),.row i i (Q4 Xt [] ((C.map (Ks t c)).take i))]⟩) (fun i=>i≤C.length) (fun i=>C.length - i) 0 (by omega)
  (Sub.trans (Qr 1 rfl) (Sub.trans (Qg 7 1 (Q4 Xt [] []) rfl) (Xa rfl (by simp [AS.put,Xh,XC,I]) (by simp [AS.put,Xi]) (by simp [AS.put,XD,G0,X4,Xg,Xn,I])))) ?_
 have hml:(C.map (Ks t c)).length=C.length:=List.length_map ..
 intro i hi next
 by_cases hi2:i<C.length
 rotate_left
 ·obtain rfl:i=C.length:=by omega
  refine X0 1000 ?_
  simp (disch:=omega) only [XC,wD,↓X2,wA,seval,wE]
  rw [List.take_of_length_le (by omega)]
  refine At rfl ?_
  rw [XC,hml]
  refine Qz (id:=2) (m:=C.length) (f:=Q4 Xt [] (C.map (Ks t c))) (.inl rfl) (by omega) (fun h=>h) fun j hj=>?_
  rw [Nat.zero_add]
  exact (Xf _).sees _
 have v1:=pE C i
 have cm:=Si t c (C.getD i []) 3 (hcs i) (by omega) (by rw [h3 i hi2]; omega) (by omega) (by omega)
 have hat:(C.map (Ks t c)).getD i []=Ks t c (C.getD i []):=by rw [List.getD_eq_getElem?_getD,List.getElem?_map,List.getD_eq_getElem?_getD,List.getElem?_eq_getElem hi2]; rfl
 have htk:(C.map (Ks t c)).take (i+1)=(C.map (Ks t c)).take i ++ [Ks t c (C.getD i [])]:=by rw [Qq _ [] i (by omega),hat]
 have hap:=IL Xt [] ((C.map (Ks t c)).take i) (Ks t c (C.getD i []))
 rw [← htk,List.length_take,Nat.min_eq_left (by omega),Nat.mul_one] at hap
 refine X0 1000 ?_
 simp (disch:=omega) only [XC,v1,wD,↓X2,wA,seval,wE]
 refine X1 cm rfl ?_
 simp (disch:=omega) only [Mh,T4,Mi,wD,↓X2,wA,seval,wE]
 exact next (i+1) _ (by omega) (by omega) (Xa rfl (by simp [Xh,XC,I]) (by simp [Xi]) (by rw [← hap]))
def GW (f:FV):V2:=(f.lo.add f.hi).scale (Rat.divInt 1 2)
def ZY (a b:PV) (f:FV) (e:Rat):Bool:=Mz (KD a KZ v0) (KD b f.turn (GW f)) (-e)
structure GP (p:PV) (t:Rat):Prop where
 even:p.even
 poly:XN (XB p.rim)
 tol:p.tol=RQ.of t
 qt:qb t≤20
structure FV.fine (f:FV):Prop where
 turn:vb f.turn≤60
 lo:vb f.lo≤300
 hi:vb f.hi≤300
theorem EX (p:PV) (t c:V2):(KD p t c).length=(Ce (XB p.rim)).length:=by unfold KD; rw [List.length_map,Zy]
theorem L0 (p:PV) (t c:V2) (hn:QY p.rim) (ht:vb t≤100) (hc:vb c≤700):∀ i,i<(KD p t c).length→Shp 1000 ((KD p t c).getD i []):=fun i hi=>by
 rw [EX] at hi
 have e:(KD p t c).getD i []=Ks t c ((Ki (XB p.rim)).getD i []):=by
  unfold KD
  rw [List.getD_eq_getElem?_getD,List.getElem?_map,List.getD_eq_getElem?_getD,List.getElem?_eq_getElem (by rw [Zy]; exact hi)]; rfl
 have hs:=Du (XB p.rim) 3 (Eo hn) (Nat.le_refl _) i
 have h3:=EY (XB p.rim) i hi
 rw [e]
 generalize (Ki (XB p.rim)).getD i []=W at *
 have hl:(Ks t c W).length=3:=by unfold Ks; rw [List.length_map,h3]
 refine ⟨fun j=>?_,by omega,by omega⟩
 by_cases hj:j<W.length
 ·have ej:(Ks t c W).getD j v0=put t c (W.getD j v0):=by
   unfold Ks
   rw [List.getD_eq_getElem?_getD,List.getElem?_map,List.getD_eq_getElem?_getD,List.getElem?_eq_getElem hj]; rfl
  rw [ej]
  have:=sv t c (W.getD j v0)
  have:=hs j
  omega
 ·rw [List.getD_eq_getElem?_getD,List.getElem?_eq_none (by omega)]
  exact Nat.le_trans DZ (by omega)
theorem OL:qb (Rat.divInt 1 2)≤10:=by decide +kernel
theorem V4 (f:FV) (h:f.fine):vb (GW f)≤700:=by
 have h1:=Ck f.lo f.hi
 have h2:=jC (f.lo.add f.hi) (Rat.divInt 1 2)
 have:=OL
 have:=h.lo; have:=h.hi
 unfold GW; omega
theorem DY:vb KZ≤10:=by decide +kernel
theorem PM (a b:PV) (f:FV) {ta tb:Rat} (ha:GP a ta) (hb:GP b tb) (hf:f.fine):(∀ i,i<(KD a KZ v0).length→Shp 1000 ((KD a KZ v0).getD i []))∧(∀ i,i<(KD b f.turn (GW f)).length→Shp 1000 ((KD b f.turn (GW f)).getD i [])) ∧
  (KD a KZ v0).length≤1000∧(KD b f.turn (GW f)).length≤1000:=by
 have h1:=Ig (KR _ ha.poly).1
 have h2:=Ig (KR _ hb.poly).1
 have:=DY
 have:=DZ
 exact ⟨L0 a KZ v0 ha.even.near (by omega) (by omega),L0 b f.turn (GW f) hb.even.near (by have:=hf.turn; omega) (V4 f hf),by rw [EX]; omega,by rw [EX]; omega⟩
theorem T7:Weak (.agg (vC KZ ++ [.bool false,.sl 0 0 (fun _=>.any) true,.bool false,.sl 0 0 (fun _=>.any) true,.bool false,.sl 0 0 (fun _=>.any) true,.bool false,.sl 0 0 (fun _=>.any) true])) (W4 KZ v0):=by
 refine XP ?_
 have h:=Gy true
 exact ⟨Weak.rfl' _,Weak.rfl' _,Weak.rfl' _,Weak.rfl' _,Weak.rfl' _,Weak.rfl' _,Weak.rfl' _,Weak.rfl' _,h⟩
theorem Nb (a b:PV) (f:FV) {ta tb:Rat} (ha:GP a ta) (hb:GP b tb) (hf:f.fine):Fn Tryz.prog 137 [Qd a,Qd b,Ke f] (.bool (ZY a b f (ta+tb))):=by
 have qa:=ha.qt; have q2:=hb.qt
 have f1:=hf.turn; have f2:=hf.lo; have f3:=hf.hi
 have c1:=OG f.lo f.hi (by unfold vm; omega) (by unfold vm; omega)
 have c2:=D8 1 2 (CU (by omega) (by omega)) (CU (by omega) (by omega))
 have m1:=Ck f.lo f.hi
 have m2:=V4 f hf
 have c3:=NL (f.lo.add f.hi) (Rat.divInt 1 2) (by unfold vm; omega) (by have:=OL; unfold vm; omega)
 have c4:=NG a KZ v0 (KR _ ha.poly) ha.even.near (by have:=DY; omega) (by have:=DZ; omega)
 have c5:=NG b f.turn (GW f) (KR _ hb.poly) hb.even.near (by omega) (by omega)
 have qe:=Jx ta tb
 have c6:Fn Tryz.prog 70 [a.tol.A,b.tol.A] (qA (ta+tb)):=by rw [ha.tol,hb.tol]; exact AG ta tb (by unfold rm; omega) (by unfold rm; omega)
 have c7:=D6 (ta+tb)
 obtain ⟨k1,k2,k3,k4⟩:=PM a b f ha hb hf
 have c8:=kJ _ _ (-(ta+tb)) 1000 k1 k2 (by omega) (by omega) (by rw [BH]; omega) k3 k4
 change Fn _ _ [vA (f.lo.add f.hi),qA (Rat.divInt 1 2)] (vA (GW f)) at c3
 obtain ⟨V,hV⟩:∃ V,V=ZY a b f (ta+tb):=⟨_,rfl⟩
 change Fn _ _ _ (.tup [.any,.bool (ZY a b f (ta+tb))]) at c8
 rw [← hV] at c8 ⊢
 generalize GW f=M at *
 refine Fq Tryz.call137 Tryz.func137 10 [] [1,20000005,2,30000003,30000004,30000007] [] (by simp [Xu,XE]) (X0 1000 ?_)
 simp (disch:=omega) only [AS.start,Qd,XD,Ke,Qc,↓Xo,wD,↓X2,wA,seval,wE]
 refine X1 c1 rfl ?_
 simp (disch:=omega) only [↓Xo,wD,↓X2,wA,seval,wE]
 refine X1 c2 rfl ?_
 simp (disch:=omega) only [↓Xo,wD,↓X2,wA,seval,wE]
 refine X1 c3 rfl ?_
 simp (disch:=omega) only [↓Xo,wD,↓X2,wA,seval,wE]
 refine X1 aP rfl ?_
 simp (disch:=omega) only [↓Xo,wD,↓X2,wA,seval,wE]
 refine Qm c4 ⟨Weak.rfl' _,T7,trivial⟩ ?_
 simp (disch:=omega) only [XC,↓Xo,wD,↓X2,wA,seval,wE]
 refine X1 c5 rfl ?_
 simp (disch:=omega) only [XC,↓Xo,wD,↓X2,wA,seval,wE]
 refine X1 c6 rfl ?_
 simp (disch:=omega) only [XC,↓Xo,wD,↓X2,wA,seval,wE]
 refine X1 c7 rfl ?_
 simp (disch:=omega) only [XC,↓Xo,wD,↓X2,wA,seval,wE]
 refine X1 c8 rfl ?_
 simp (disch:=omega) only [↓Xo,wD,↓X2,wA,seval,wE]
 exact Xs rfl rfl (X3 _) rfl
theorem Sd (a b:PV) (f:FV) {ta tb:Rat} (ha:GP a ta) (hb:GP b tb) (hf:f.fine):Fn Tryz.prog 151 [Qd a,Qd b,Ke f] (.bool (ZY a b f (ta+tb))):=by
 have qa:=ha.qt; have q2:=hb.qt
 have f1:=hf.turn; have f2:=hf.lo; have f3:=hf.hi
 have c1:=Fh f.lo f.hi (by unfold vm; omega) (by unfold vm; omega)
 have c2:=Jr 1 2 (CU (by omega) (by omega)) (CU (by omega) (by omega))
 have m1:=Ck f.lo f.hi
 have m2:=V4 f hf
 have c3:=OP (f.lo.add f.hi) (Rat.divInt 1 2) (by unfold vm; omega) (by have:=OL; unfold vm; omega)
 have c4:=HC a KZ v0 ha.poly ha.even.near (by have:=DY; omega) (by have:=DZ; omega)
 have c5:=HC b f.turn (GW f) hb.poly hb.even.near (by omega) (by omega)
 have qe:=Jx ta tb
 have c6:Fn Tryz.prog 76 [a.tol.A,b.tol.A] (qA (ta+tb)):=by rw [ha.tol,hb.tol]; exact Jy ta tb (by unfold rm; omega) (by unfold rm; omega)
 have c7:=ZD (ta+tb) (by unfold rm; omega)
 obtain ⟨k1,k2,k3,k4⟩:=PM a b f ha hb hf
 have c8:=nL _ _ (-(ta+tb)) 1000 k1 k2 (by omega) (by omega) (by rw [BH]; omega) k3 k4
 change Fn _ _ [vA (f.lo.add f.hi),qA (Rat.divInt 1 2)] (vA (GW f)) at c3
 obtain ⟨V,hV⟩:∃ V,V=ZY a b f (ta+tb):=⟨_,rfl⟩
 change Fn _ _ _ (.tup [.any,.bool (ZY a b f (ta+tb))]) at c8
 rw [← hV] at c8 ⊢
 generalize GW f=M at *
 refine Fq Tryz.call151 Tryz.func151 11 [] [1,20000005,2,30000003,3,40000004,40000007] [] (by simp [Xu,XE]) (X0 1000 ?_)
 simp (disch:=omega) only [AS.start,Qd,XD,Ke,Qc,↓Xo,wD,↓X2,wA,seval,wE]
 refine X1 c1 rfl ?_
 simp (disch:=omega) only [↓Xo,wD,↓X2,wA,seval,wE]
 refine X1 c2 rfl ?_
 simp (disch:=omega) only [↓Xo,wD,↓X2,wA,seval,wE]
 refine X1 c3 rfl ?_
 simp (disch:=omega) only [↓Xo,wD,↓X2,wA,seval,wE]
 refine X1 OQ rfl ?_
 simp (disch:=omega) only [↓Xo,wD,↓X2,wA,seval,wE]
 refine Qm c4 ⟨Weak.rfl' _,T7,trivial⟩ ?_
 simp (disch:=omega) only [XC,↓Xo,wD,↓X2,wA,seval,wE]
 refine X1 c5 rfl ?_
 simp (disch:=omega) only [XC,↓Xo,wD,↓X2,wA,seval,wE]
 refine X1 c6 rfl ?_
 simp (disch:=omega) only [XC,↓Xo,wD,↓X2,wA,seval,wE]
 refine X1 c7 rfl ?_
 simp (disch:=omega) only [XC,↓Xo,wD,↓X2,wA,seval,wE]
 refine X1 c8 rfl ?_
 simp (disch:=omega) only [↓Xo,wD,↓X2,wA,seval,wE]
 exact Xs rfl rfl (X3 _) rfl
def Kj (a b:PV) (f:FV) (e:Rat):Int :=
 if Db a.rim.length b.rim.length f then if G1 a b f then if MD a b f then
  if (XV a.rim b.rim f e).2.2=true∧(XV a.rim b.rim f e).1=f.lo∧(XV a.rim b.rim f e).2.1=f.hi then if ZY a b f e=true then 0 else 13
  else 22 else 21 else 12 else 5
theorem T0 (a b:PV) (f:FV) (na:QY a.rim) (nb:QY b.rim) (e:Rat) (ht:vb f.turn≤1000) (qe:qb e≤3000):vb (XV a.rim b.rim f e).1≤7000∧vb (XV a.rim b.rim f e).2.1≤7000:=by
 have z:=DZ
 have h1:=Cu na nb f ht f.M.toNat
 have h2:=Cs na nb f ht f.M.toNat
 have h3:=Kd (BB a.rim b.rim f f.M.toNat) ⟨e,e⟩
 have h4:=Ck (Bz a.rim b.rim f f.M.toNat) ⟨e,e⟩
 have h5:vb ⟨e,e⟩=qb e:=by unfold vb; simp
 unfold XV
 split
 ·simp only
  split
  ·exact ⟨by show vb v0≤_; omega,by show vb v0≤_; omega⟩
  ·exact ⟨by simp only; omega,by simp only; omega⟩
 ·exact ⟨by show vb v0≤_; omega,by show vb v0≤_; omega⟩
theorem HD (a b:PV) (f:FV) {ta tb:Rat} (ha:GP a ta) (hb:GP b tb) (hf:f.fine):Fn Tryz.prog 61 [Qd a,Qd b,Ke f] (I (Kj a b f (ta+tb))):=by
 obtain ⟨V,hV⟩:∃ V,V=Kj a b f (ta+tb):=⟨_,rfl⟩
 rw [← hV]
 unfold Kj at hV
 have qa:=ha.qt; have q2:=hb.qt
 have qe:=Jx ta tb
 have f1:=hf.turn; have f2:=hf.lo; have f3:=hf.hi
 have fin:∀ {s:AS} {n:Int},s.get 6=I n→n=V→RetOk (Qt Tryz.prog Tryz.f61 [] [] (I V)) s:=fun h e=>Xs rfl h (X8 _) (by rw [e])
 have c1:=HF a b f ha.even.rim hb.even.rim
 have c4:=NO a b f ha.even hb.even (by omega) ha.tol hb.tol (by omega) (by omega)
 have ⟨g1,g2⟩:=T0 a b f ha.even.near hb.even.near (ta+tb) (by omega) (by omega)
 have c7:=Sd a b f ha hb hf
 refine Fq Tryz.call61 Tryz.func61 10 [] [] [] (by simp [Xu,XE]) (X0 1000 ?_)
 simp (disch:=omega) only [AS.start,Qd,XD,Ke,Qc,↓Xo,wD,↓X2,wA,seval,wE]
 refine X1 c1 rfl ?_
 by_cases h1:Db a.rim.length b.rim.length f
 rotate_left
 ·simp (disch:=omega) only [decide_eq_false h1,↓Xo,wD,↓X2,wA,seval,wE]
  exact fin rfl (by rw [hV,if_neg h1])
 have c2:=OU a b f h1 ha.even hb.even
 have c3:=Pt a b f h1 ha.even hb.even (by unfold vm; omega)
 rw [if_pos h1] at hV
 simp (disch:=omega) only [decide_eq_true h1,↓Xo,wD,↓X2,wA,seval,wE]
 refine X1 c2 rfl ?_
 by_cases h2:G1 a b f
 rotate_left
 ·simp (disch:=omega) only [decide_eq_false h2,↓Xo,wD,↓X2,wA,seval,wE]
  exact fin rfl (by rw [hV,if_neg h2])
 rw [if_pos h2] at hV
 simp (disch:=omega) only [decide_eq_true h2,↓Xo,wD,↓X2,wA,seval,wE]
 refine X1 c3 rfl ?_
 by_cases h3:MD a b f
 rotate_left
 ·simp (disch:=omega) only [decide_eq_false h3,↓Xo,wD,↓X2,wA,seval,wE]
  exact fin rfl (by rw [hV,if_neg h3])
 rw [if_pos h3] at hV
 simp (disch:=omega) only [decide_eq_true h3,↓Xo,wD,↓X2,wA,seval,wE]
 refine X1 c4 rfl ?_
 generalize XV a.rim b.rim f (ta+tb)=G at *
 obtain ⟨lo,hi,ok⟩:=G
 simp only at hV g1 g2
 have c5:=LM lo f.lo (by unfold vm; omega) (by unfold vm; omega)
 have c6:=LM hi f.hi (by unfold vm; omega) (by unfold vm; omega)
 cases ok with
 | false =>
  simp (disch:=omega) only [↓Xo,wD,↓X2,wA,seval,wE]
  exact fin rfl (by rw [hV,if_neg (fun h=>by cases h.1)])
 | true =>
  simp (disch:=omega) only [↓Xo,wD,↓X2,wA,seval,wE]
  refine X1 c5 rfl ?_
  by_cases h4:lo=f.lo
  rotate_left
  ·simp (disch:=omega) only [decide_eq_false h4,↓Xo,wD,↓X2,wA,seval,wE]
   exact fin rfl (by rw [hV,if_neg (fun h=>h4 h.2.1)])
  simp (disch:=omega) only [decide_eq_true h4,↓Xo,wD,↓X2,wA,seval,wE]
  refine X1 c6 rfl ?_
  by_cases h5:hi=f.hi
  rotate_left
  ·simp (disch:=omega) only [decide_eq_false h5,↓Xo,wD,↓X2,wA,seval,wE]
   exact fin rfl (by rw [hV,if_neg (fun h=>h5 h.2.2)])
  rw [if_pos ⟨rfl,h4,h5⟩] at hV
  simp (disch:=omega) only [decide_eq_true h5,↓Xo,wD,↓X2,wA,seval,wE]
  refine X1 c7 rfl ?_
  cases h6:ZY a b f (ta+tb) with
  | false =>
   simp (disch:=omega) only [↓Xo,wD,↓X2,wA,seval,wE]
   exact fin rfl (by rw [hV,h6]; rfl)
  | true =>
   simp (disch:=omega) only [↓Xo,wD,↓X2,wA,seval,wE]
   exact fin rfl (by rw [hV,h6]; rfl)
theorem GQ (a b:PV) (f:FV) {ta tb:Rat} (ha:GP a ta) (hb:GP b tb) (hf:f.fine):Fn Tryz.prog 52 [Qd a,Qd b,Ke f] (I (Kj a b f (ta+tb))):=by
 obtain ⟨V,hV⟩:∃ V,V=Kj a b f (ta+tb):=⟨_,rfl⟩
 rw [← hV]
 unfold Kj at hV
 have qa:=ha.qt; have q2:=hb.qt
 have qe:=Jx ta tb
 have f1:=hf.turn; have f2:=hf.lo; have f3:=hf.hi
 have fin:∀ {s:AS} {n:Int},s.get 6=I n→n=V→RetOk (Qt Tryz.prog Tryz.f52 [] [] (I V)) s:=fun h e=>Xs rfl h (X8 _) (by rw [e])
 have c1:=Hl a b f ha.even.rim hb.even.rim
 have c4:=IE a b f ha.even hb.even (by omega) ha.tol hb.tol (by omega) (by omega)
 have ⟨g1,g2⟩:=T0 a b f ha.even.near hb.even.near (ta+tb) (by omega) (by omega)
 have c7:=Nb a b f ha hb hf
 refine Fq Tryz.call52 Tryz.func52 10 [] [] [] (by simp [Xu,XE]) (X0 1000 ?_)
 simp (disch:=omega) only [AS.start,Qd,XD,Ke,Qc,↓Xo,wD,↓X2,wA,seval,wE]
 refine X1 c1 rfl ?_
 by_cases h1:Db a.rim.length b.rim.length f
 rotate_left
 ·simp (disch:=omega) only [decide_eq_false h1,↓Xo,wD,↓X2,wA,seval,wE]
  exact fin rfl (by rw [hV,if_neg h1])
 have c2:=HA a b f h1 ha.even hb.even
 have c3:=TK a b f h1 ha.even hb.even
 have cl:=Dq a b f f.M.toNat
 have hM:f.M.toNat<1000000:=by have:=h1.2.2.2.1; have:=ha.even.rim; omega
 have ca:=MU (Qs a b f f.M.toNat) 142 [ph f] (fun x=>decide (x=f.turn)) (by omega) (fun x hx=>by rw [List.mem_singleton.1 hx]; exact C8 f) (fun x hx=>YJ x f (by have:=EW a b f ha.even.near hb.even.near _ x hx; unfold vm; omega) (by unfold vm; omega))
 have hany:(Qs a b f f.M.toNat).any (fun x=>decide (x=f.turn))=decide (MD a b f):=by
  have:=IJ a b f f.turn f.M.toNat
  cases hq:(Qs a b f f.M.toNat).any (fun x=>decide (x=f.turn)) with
  | true=>exact (decide_eq_true (p:=MD a b f) (this.1 hq)).symm
  | false=>exact (decide_eq_false (p:=MD a b f) (fun hh=>by rw [this.2 hh] at hq; cases hq)).symm
 rw [hany] at ca
 generalize Qs a b f f.M.toNat=W at *
 have sB:JS [.row 0 25 (Xq (XD a)),.row 0 25 (Xq (XD b)),.row 0 29 (Xq (Qc f))] (.ref 2 0 0) (ph f):=KU (.inl rfl) (by omega) fun j hj=>(Xd (Qj f) j).sees _
 rw [if_pos h1] at hV
 simp (disch:=omega) only [decide_eq_true h1,↓Xo,wD,↓X2,wA,seval,wE]
 refine X1 c2 rfl ?_
 by_cases h2:G1 a b f
 rotate_left
 ·simp (disch:=omega) only [decide_eq_false h2,↓Xo,wD,↓X2,wA,seval,wE]
  exact fin rfl (by rw [hV,if_neg h2])
 rw [if_pos h2] at hV
 simp (disch:=omega) only [decide_eq_true h2,↓Xo,wD,↓X2,wA,seval,wE]
 refine X1 c3 rfl ?_
 simp (disch:=omega) only [X5,↓Xo,wD,↓X2,wA,seval,wE]
 refine JI ca rfl ⟨(Xf W).sees _,C7 ⟨sB,trivial⟩,trivial⟩ (An _) ?_
 by_cases h3:MD a b f
 rotate_left
 ·simp (disch:=omega) only [decide_eq_false h3,↓Xo,wD,↓X2,wA,seval,wE]
  exact fin rfl (by rw [hV,if_neg h3])
 rw [if_pos h3] at hV
 simp (disch:=omega) only [decide_eq_true h3,↓Xo,wD,↓X2,wA,seval,wE]
 refine X1 c4 rfl ?_
 generalize XV a.rim b.rim f (ta+tb)=G at *
 obtain ⟨lo,hi,ok⟩:=G
 simp only at hV g1 g2
 have c5:=Iq lo f.lo (by unfold vm; omega) (by unfold vm; omega)
 have c6:=Iq hi f.hi (by unfold vm; omega) (by unfold vm; omega)
 cases ok with
 | false =>
  simp (disch:=omega) only [↓Xo,wD,↓X2,wA,seval,wE]
  exact fin rfl (by rw [hV,if_neg (fun h=>by cases h.1)])
 | true =>
  simp (disch:=omega) only [↓Xo,wD,↓X2,wA,seval,wE]
  refine X1 c5 rfl ?_
  by_cases h4:lo=f.lo
  rotate_left
  ·simp (disch:=omega) only [decide_eq_false h4,↓Xo,wD,↓X2,wA,seval,wE]
   exact fin rfl (by rw [hV,if_neg (fun h=>h4 h.2.1)])
  simp (disch:=omega) only [decide_eq_true h4,↓Xo,wD,↓X2,wA,seval,wE]
  refine X1 c6 rfl ?_
  by_cases h5:hi=f.hi
  rotate_left
  ·simp (disch:=omega) only [decide_eq_false h5,↓Xo,wD,↓X2,wA,seval,wE]
   exact fin rfl (by rw [hV,if_neg (fun h=>h5 h.2.2)])
  rw [if_pos ⟨rfl,h4,h5⟩] at hV
  simp (disch:=omega) only [decide_eq_true h5,↓Xo,wD,↓X2,wA,seval,wE]
  refine X1 c7 rfl ?_
  cases h6:ZY a b f (ta+tb) with
  | false =>
   simp (disch:=omega) only [↓Xo,wD,↓X2,wA,seval,wE]
   exact fin rfl (by rw [hV,h6]; rfl)
  | true =>
   simp (disch:=omega) only [↓Xo,wD,↓X2,wA,seval,wE]
   exact fin rfl (by rw [hV,h6]; rfl)
def QU (a b:PV) (f:FV) (e:Rat):FV:={ f with lo:=(XV a.rim b.rim f e).1,hi:=(XV a.rim b.rim f e).2.1 }
theorem Gm (a b:PV) (f:FV) {ta tb:Rat} (ha:GP a ta) (hb:GP b tb) (hf:f.fine):Fn Tryz.prog 110 [Qd a,Qd b,Ke f] (Ke (QU a b f (ta+tb)))∧Fn Tryz.prog 112 [Qd a,Qd b,Ke f] (Ke (QU a b f (ta+tb))):=by
 have qa:=ha.qt; have q2:=hb.qt
 have f1:=hf.turn
 have c1:=IE a b f ha.even hb.even (by omega) ha.tol hb.tol (by omega) (by omega)
 have c2:=NO a b f ha.even hb.even (by omega) ha.tol hb.tol (by omega) (by omega)
 obtain ⟨R,hR⟩:∃ R,R=Ke (QU a b f (ta+tb)):=⟨_,rfl⟩
 have sR:Settled R:=hR▸XE _
 rw [← hR]
 unfold QU at hR
 generalize XV a.rim b.rim f (ta+tb)=G at *
 obtain ⟨lo,hi,ok⟩:=G
 constructor
 refine Fq Tryz.call110 Tryz.func110 7 [] [] [] (by simp [Xu,XE]) (X0 1000 ?_)
 rotate_left
 refine Fq Tryz.call112 Tryz.func112 10 [] [] [] (by simp [Xu,XE]) (X0 1000 ?_)
 all_goals
  simp (disch:=omega) only [AS.start,Qd,XD,Ke,Qc,↓Xo,wD,↓X2,wA,seval,wE]
  first | refine X1 c1 rfl ?_ | refine X1 c2 rfl ?_
  simp (disch:=omega) only [↓Xo,wD,↓X2,wA,seval,wE]
  exact Zg rfl Ht rfl rfl rfl sR (hR.trans rfl)
def fv0:FV:=⟨0,0,0,0,0,v0,v0,v0⟩
def DG (a b:PV) (f:FV) (ca cb:PV) (ta tb sa sb:Rat):FV×Int :=
 if (a=Ba a ca∧ta≤sa)∧(b=Ba b cb∧tb≤sb) then if Kj a b f (ta+tb)=0 then (QU ca cb f (sa+sb),0) else (fv0,Kj a b f (ta+tb)) else (fv0,1)
def JE (a b:PV) (f:FV) (e:Rat):FV×Int:=if Kj a b (QU a b f e) e=0 then (QU a b f e,0) else (fv0,Kj a b (QU a b f e) e)
def De:List AV:=[I 0,I 0,I 0,I 0,I 0] ++ (Zd ++ (Zd ++ Zd))
theorem Gx:WeakL De (Qc fv0):=by
 obtain ⟨w1,w2,w3,w4,w5,w6,w7,w8,_⟩:=Zb
 exact ⟨Weak.rfl' _,Weak.rfl' _,Weak.rfl' _,Weak.rfl' _,Weak.rfl' _,w1,w2,w3,w4,w5,w6,w7,w8,w1,w2,w3,w4,w5,w6,w7,w8,w1,w2,w3,w4,w5,w6,w7,w8,trivial⟩
theorem Uu (a b:PV) (f:FV) (ca cb:PV) {ta tb sa sb:Rat} (ha:GP a ta) (hb:GP b tb) (hca:GP ca sa) (hcb:GP cb sb) (h1:a.small) (h2:b.small) (h3:ca.small) (h4:cb.small) (hf:f.fine) :
  Fn Tryz.prog 31 [Qd a,Qd b,Ke f,Qd ca,Qd cb] (.tup [Ke (DG a b f ca cb ta tb sa sb).1,I (DG a b f ca cb ta tb sa sb).2]) ∧
  Fn Tryz.prog 34 [Qd a,Qd b,Ke f,Qd ca,Qd cb] (.tup [Ke (DG a b f ca cb ta tb sa sb).1,I (DG a b f ca cb ta tb sa sb).2]):=by
 have i1:=RD a ca h1 h3 ha.tol hca.tol
 have i2:=RD b cb h2 h4 hb.tol hcb.tol
 have j1:=VO a ca h1 h3 ha.tol hca.tol
 have j2:=VO b cb h2 h4 hb.tol hcb.tol
 have k1:=GQ a b f ha hb hf
 have k2:=HD a b f ha hb hf
 obtain ⟨s1,s2⟩:=Gm ca cb f hca hcb hf
 obtain ⟨R,hR⟩:∃ R,R=DG a b f ca cb ta tb sa sb:=⟨_,rfl⟩
 rw [← hR]
 unfold DG at hR
 generalize Kj a b f (ta+tb)=k at *
 generalize QU ca cb f (sa+sb)=G at *
 constructor
 refine Fq Tryz.call31 Tryz.func31 13 [] [] [] (by simp [Xu,XE]) (X0 1000 ?_)
 rotate_left
 refine Fq Tryz.call34 Tryz.func34 13 [] [] [] (by simp [Xu,XE]) (X0 1000 ?_)
 all_goals
  simp (disch:=omega) only [AS.start,Qd,XD,Ke,Qc,↓Xo,wD,↓X2,wA,seval,wE]
  first | refine X1 i1 rfl ?_ | refine X1 j1 rfl ?_
  by_cases g1:a=Ba a ca∧ta≤sa
  rotate_left
  ·simp (disch:=omega) only [decide_eq_false g1,↓Xo,wD,↓X2,wA,seval,wE]
   rw [if_neg (fun h=>g1 h.1)] at hR
   subst hR
   exact QJ rfl (Xp (L:=De) Ht rfl rfl rfl) (by unfold Qp; rfl) (Xr (XE _) (XP Gx)) ((X8 _).sees _)
  simp (disch:=omega) only [decide_eq_true g1,↓Xo,wD,↓X2,wA,seval,wE]
  first | refine X1 i2 rfl ?_ | refine X1 j2 rfl ?_
  by_cases g2:b=Ba b cb∧tb≤sb
  rotate_left
  ·simp (disch:=omega) only [decide_eq_false g2,↓Xo,wD,↓X2,wA,seval,wE]
   rw [if_neg (fun h=>g2 h.2)] at hR
   subst hR
   exact QJ rfl (Xp (L:=De) Ht rfl rfl rfl) (by unfold Qp; rfl) (Xr (XE _) (XP Gx)) ((X8 _).sees _)
  rw [if_pos ⟨g1,g2⟩] at hR
  simp (disch:=omega) only [decide_eq_true g2,↓Xo,wD,↓X2,wA,seval,wE]
  first | refine X1 k1 rfl ?_ | refine X1 k2 rfl ?_
  by_cases g3:k=0
  rotate_left
  ·simp (disch:=omega) only [↓Xo,wD,↓X2,wA,seval,wE]
   rw [if_neg g3] at hR
   subst hR
   exact QJ rfl (Xp (L:=De) Ht rfl rfl rfl) (by unfold Qp; rfl) (Xr (XE _) (XP Gx)) ((X8 _).sees _)
  simp (disch:=omega) only [↓Xo,wD,↓X2,wA,seval,wE]
  rw [if_pos g3] at hR
  first | refine X1 s1 rfl ?_ | refine X1 s2 rfl ?_
  simp (disch:=omega) only [Ke,Qc,↓Xo,wD,↓X2,wA,seval,wE]
  subst hR
  exact QJ rfl (Xp (L:=Qc G) Ht rfl rfl rfl) (by unfold Qp; rfl) (Qy (XE _) rfl) ((X8 _).sees _)
end
end Go.Ab.N
