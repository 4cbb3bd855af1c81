/- Contracts of functions of these chapters, for every argument that fits, and what they need. -/
import Derived.Test.YtefjhgcndhepeaaGreatC10
import Derived.Test.YtefjhgcndhepeaaGreatC6
import Derived.Test.YtefjhgcndhepeaaGreatC9
import Derived.Test.YtefjhgcndhepeaaGreatC7
set_option linter.unusedSimpArgs false
set_option linter.unusedVariables false
open Nat renaming reducePow → Y1, reduceLT → Y2, reduceLeDiff → Y3, reduceEqDiff → Y4, reduceAdd → Y5, reduceMul → Y6, reduceSub → Y7, reduceBEq → Y8, reduceDiv → Y9, reduceMod → YA
namespace Go.Ab.N
open Go Go.RowKit Go.Proofs
noncomputable section
set_option maxRecDepth 10000
set_option maxHeartbeats 4000000
open Classical
theorem rg (L:List V2) (N:Nat) (R:List Nat) (p k:Nat) (h:Rok L R) (hd:R.Nodup) (hN:R.length≤N) (h3:3<R.length) (hp:p<R.length) (hs:XW L k) (hk:k≤10000) :
  HCall Tryz.prog 275 [.ref 0 0 0,I p] (M2 L N R) (.agg [I (nr R (p+R.length - 1)),I (R.getD p 0:Nat),I (nr R (p+R.length+1))]) (M2 L N (Zl L (R.length - 1) (R.eraseIdx p))):=by
 have c1:=GS L R p h (by have:=h.len; omega)
 have cd:=N9 (.row 0 2 (Xp [Xt L,.osl 1 (N - R.length) 1 0 R.length])) (zs R) (N - R.length) p (by rw [Xl]; exact hp)
 rw [Xl,Ti] at cd
 have hl:(R.eraseIdx p).length=R.length - 1:=by rw [List.length_eraseIdx,if_pos hp]
 have cc:=fy L N (R.eraseIdx p) k (Bs h h3 hp) (hd.eraseIdx p) (by omega) hs hk
 rw [hl] at cc
 have v2:=Bh R p
 have hR:=h
 obtain ⟨h0,hn,hmem,hL⟩:=hR
 generalize Zl L (R.length - 1) (R.eraseIdx p)=R2 at *
 generalize nr R (p+R.length - 1)=a at *
 generalize nr R (p+R.length+1)=c at *
 generalize R.getD p 0=b at *
 have f1:((p:Int)<R.length)=True:=eq_true (by omega)
 have f2:(p<R.length)=True:=eq_true hp
 have f3:(p+1≤R.length)=True:=eq_true (by omega)
 have w1:=wj p (by omega)
 refine HCall.introC (fn:=Tryz.f275) Tryz.call275 Tryz.func275 rfl mixed 8 [] [] [] (by kernel_rfl) (Nat.le_of_ble_eq_true rfl) (X6 (Q7 (by simp [X8]))) (fun o ho=>((Kw _ _ _).2 o ho).1) (X0 1000 ?_)
 simp only [AS.start,Jb,List.cons_append,List.nil_append,↓X2,wA,seval,wE]
 refine JH c1 rfl ⟨IC (N:=N) (rest:=[.row 0 3 (Xp [I 0,I 0,I 0])]),QH (X8 _) rfl,trivial⟩ (gE (by simp [I,Cw])) ?_
 simp only [w1,f1,f2,f3,v2,Int.toNat_natCast,↓X2,wA,seval,wE]
 have o2:∀ o∈[AO.row 0 2 (Xp [Xt L,.osl 1 (N - R.length) 1 0 R.length]),.row (N - R.length+1) (R.length - 1) (Q4 I 0 (zs (R.eraseIdx p)))],o≠.unborn∧∀ v n f,o≠.con v n f:=fun o ho=>by
  simp only [List.mem_cons,List.not_mem_nil,or_false] at ho
  rcases ho with rfl | rfl <;> exact ⟨by simp,by simp⟩
 have bA:∀ a∈[AV.osl 1 (N - R.length) 1 0 R.length,I p,I ((p+1:Nat):Int)],Js 2 a:=fun a ha=>by
  simp only [List.mem_cons,List.not_mem_nil,or_false] at ha
  rcases ha with rfl | rfl | rfl
  ·exact Im (by omega)
  ·exact X6 (X8 _)
  ·exact X6 (X8 _)
 have bR:∀ a∈[AV.ref 0 0 0],Js 2 a:=fun a ha=>by
  rw [List.mem_singleton.1 ha]
  have:Js 2 (.ref 0 0 0)=True:=by simp [Xy]
  exact this▸trivial
 refine An (H1:=M2 L N R) (H1':=[AO.row 0 2 (Xp [Xt L,.osl 1 (N - R.length) 1 0 R.length]),.row (N - R.length+1) (R.length - 1) (Q4 I 0 (zs (R.eraseIdx p)))]) (rest:=[.row 0 3 (Xp [I 0,I 0,I 0]),.row 0 3 (Xp [I a,I b,I c])]) rfl cd rfl rfl bA (fun o ho=>((Kw L N R).2 o ho).1) (fun o ho=>((Kw L N R).2 o ho).2.1) (fun o ho=>(o2 o ho).1) (QP (fun o ho=>((Kw L N R).2 o ho).2.2) (fun o ho=>(o2 o ho).2)) (XS _) ?_
 simp only [List.cons_append,List.nil_append,↓X2,wA,seval,wE]
 refine An (H1:=M2 L N (R.eraseIdx p)) (H1':=M2 L N R2) (rest:=[.row 0 3 (Xp [I 0,I 0,I 0]),.row 0 3 (Xp [I a,I b,I c])]) rfl cc (by rw [Jb,hl,show N - (R.length - 1)=N - R.length+1 by omega]; rfl) rfl bR (fun o ho=>((Kw L N _).2 o ho).1) (fun o ho=>((Kw L N _).2 o ho).2.1) (fun o ho=>((Kw L N _).2 o ho).2.1) (QP (fun o ho=>((Kw L N _).2 o ho).2.2) (fun o ho=>((Kw L N _).2 o ho).2.2)) (XS _) ?_
 simp only [Jb,List.cons_append,List.nil_append,↓X2,wA,seval,wE]
 exact Wn (v:=.agg [I a,I b,I c]) rfl (by simp [AS.get,JF,ii,rd,Qo,Xp,A1,I]) rfl rfl
def cW (R:List Nat):AV:=.agg [X9 (zs R)]
theorem QK (R:List Nat):cW R=.agg [X9 (zs R)]:=nrfl rfl
theorem ZP (R:List Nat):Settled (cW R):=Q7 (by simp [X7])
theorem Ep (R:List Nat) (p:Nat) (k:Int) (m:Nat) (h0:0<R.length) (hn:R.length<1000000) (hk:p+k+R.length=m) (hp:p<1000000) (h1:-10≤k) (h2:k≤10):Fn Tryz.prog 278 [cW R,I p,I k] (I (nr R m)):=by
 have w1:IntKind.i64.wrap ((p:Int)+k)=(p:Int)+k:=by rw [IntKind.wrap_i64]; omega
 have w2:IntKind.i64.wrap ((p:Int)+k+R.length)=(m:Int):=by rw [IntKind.wrap_i64]; omega
 have hmod:(m:Int).tmod R.length=((m % R.length:Nat):Int):=rfl
 have hlt:m % R.length<R.length:=Nat.mod_lt _ h0
 have f1:(((m % R.length:Nat):Int)<R.length)=True:=eq_true (by omega)
 have f2:(m % R.length<R.length)=True:=eq_true hlt
 have f3:(m % R.length+1≤R.length)=True:=eq_true (by omega)
 have f6:((R.length:Int)=0)=False:=eq_false (by omega)
 have f6':(R.length=0)=False:=eq_false (by omega)
 have w3:IntKind.i64.wrap (((m % R.length:Nat):Int))=((m % R.length:Nat):Int):=by rw [IntKind.wrap_i64]; omega
 have v1:=q9 R m
 refine Fq Tryz.call278 Tryz.func278 8 [] [] [] (by simp [ZP,X8]) (X0 1000 ?_)
 simp only [AS.start,QK,X4,Xl,w1,w2,w3,hmod,f1,f2,f3,f6,f6',v1,Int.toNat_natCast,↓X2,wA,seval,wE]
 exact Xr rfl rfl (X8 _) rfl
theorem SA (L:List V2) (R:List Nat) (p k:Nat) (h:Rok L R) (hp:p<R.length) (hs:XW L k) (hk:k≤10000):Fn Tryz.prog 292 [Xt L,cW R,I p] (I (Id L R p)):=by
 have c1:=Ep R p (-1) (p+R.length - 1) h.pos h.len (by have:=h.pos; omega) (by have:=h.len; omega) (by omega) (by omega)
 have c3:=Ep R p 1 (p+R.length+1) h.pos h.len (by omega) (by have:=h.len; omega) (by omega) (by omega)
 have c2:=B5 (L.getD (nr R (p+R.length - 1)) v0) (L.getD (R.getD p 0) v0) (L.getD (nr R (p+R.length+1)) v0) (by have:=hs (nr R (p+R.length - 1)); unfold vs; omega) (by have:=hs (R.getD p 0); unfold vs; omega) (by have:=hs (nr R (p+R.length+1)); unfold vs; omega)
 obtain ⟨h0,hn,hmem,hL⟩:=h
 have m1:=hmem ((p+R.length - 1) % R.length)
 have m2:=hmem ((p+R.length+1) % R.length)
 have m3:=hmem p
 change nr R (p+R.length - 1)<L.length at m1
 change nr R (p+R.length+1)<L.length at m2
 unfold Id
 generalize nr R (p+R.length - 1)=a at *
 generalize nr R (p+R.length+1)=c at *
 have v2:=Bh R p
 generalize R.getD p 0=b at *
 have f1:((p:Int)<R.length)=True:=eq_true (by omega)
 have f2:(p<R.length)=True:=eq_true hp
 have f3:(p+1≤R.length)=True:=eq_true (by omega)
 have a1:((a:Int)<L.length)=True:=eq_true (by omega)
 have a2:(a<L.length)=True:=eq_true m1
 have a3:(a*8+8≤L.length*8)=True:=eq_true (by omega)
 have b1:((b:Int)<L.length)=True:=eq_true (by omega)
 have b2:(b<L.length)=True:=eq_true m3
 have b3:(b*8+8≤L.length*8)=True:=eq_true (by omega)
 have e1:((c:Int)<L.length)=True:=eq_true (by omega)
 have e2:(c<L.length)=True:=eq_true m2
 have e3:(c*8+8≤L.length*8)=True:=eq_true (by omega)
 have va:=vF L a
 have vb:=vF L b
 have vc:=vF L c
 refine Fq Tryz.call292 Tryz.func292 7 [] [] [] (by simp [Xf,ZP,X8]) (X0 1000 ?_)
 simp only [AS.start,QK,X5,X4,Xl,↓X2,wA,seval,wE]
 refine X1 c1 (by simp only [QK,X4,Xl]; rfl) ?_
 simp only [QK,X5,X4,Xl,f1,f2,f3,a1,a2,a3,b1,b2,b3,e1,e2,e3,va,vb,vc,v2,Int.toNat_natCast,↓X2,wA,seval,wE]
 refine X1 c3 (by simp only [QK,X4,Xl]; rfl) ?_
 simp only [QK,X5,X4,Xl,f1,f2,f3,a1,a2,a3,b1,b2,b3,e1,e2,e3,va,vb,vc,v2,Int.toNat_natCast,↓X2,wA,seval,wE]
 refine X1 c2 rfl ?_
 simp only [↓X2,wA,seval,wE]
 exact Xr rfl rfl (X8 _) rfl
theorem sH (a b c q:V2) (ha:vb a≤vs) (hb:vb b≤vs) (hc:vb c≤vs) (hq:vb q≤vs):Fn Tryz.prog 293 [vA a,vA b,vA c,vA q] (.bool (decide (kD a b c q))):=by
 have c1:=B5 a b q ha hb hq
 have c2:=B5 b c q hb hc hq
 have c3:=B5 c a q hc ha hq
 have hin:decide (kD a b c q)=decide (0≤Jl a b q∧0≤Jl b c q∧0≤Jl c a q):=decide_eq_decide.2 Iff.rfl
 generalize decide (kD a b c q)=E at *
 generalize Jl a b q=x at *
 generalize Jl b c q=y at *
 generalize Jl c a q=z at *
 refine Fq Tryz.call293 Tryz.func293 9 [] [] [] (by simp [Xn]) (X0 1000 ?_)
 simp only [AS.start,↓X2,wA,seval,wE]
 refine X1 c1 rfl ?_
 by_cases h1:0≤x
 rotate_left
 ·have g1:(0≤x)=False:=eq_false h1
  have hE:E=false:=by rw [hin]; exact decide_eq_false (fun h=>h1 h.1)
  simp only [g1,↓X2,wA,seval,wE]
  exact Xr (v:=.bool false) rfl rfl (X3 _) (by rw [hE])
 have g1:(0≤x)=True:=eq_true h1
 simp only [g1,↓X2,wA,seval,wE]
 refine X1 c2 rfl ?_
 by_cases h2:0≤y
 rotate_left
 ·have g2:(0≤y)=False:=eq_false h2
  have hE:E=false:=by rw [hin]; exact decide_eq_false (fun h=>h2 h.2.1)
  simp only [g1,g2,↓X2,wA,seval,wE]
  exact Xr (v:=.bool false) rfl rfl (X3 _) (by rw [hE])
 have g2:(0≤y)=True:=eq_true h2
 simp only [g1,g2,↓X2,wA,seval,wE]
 refine X1 c3 rfl ?_
 by_cases h3:0≤z
 rotate_left
 ·have g3:(0≤z)=False:=eq_false h3
  have hE:E=false:=by rw [hin]; exact decide_eq_false (fun h=>h3 h.2.2)
  simp only [g1,g2,g3,↓X2,wA,seval,wE]
  exact Xr (v:=.bool false) rfl rfl (X3 _) (by rw [hE])
 have g3:(0≤z)=True:=eq_true h3
 have hE:E=true:=by rw [hin]; exact decide_eq_true ⟨h1,h2,h3⟩
 simp only [g1,g2,g3,↓X2,wA,seval,wE]
 exact Xr (v:=.bool true) rfl rfl (X3 _) (by rw [hE])
theorem T1 {R:List Nat} {i:Nat} (h:i<R.length):R.take (i+1)=R.take i ++ [R.getD i 0]:=by
 rw [List.take_add_one,List.getD_eq_getElem?_getD,List.getElem?_eq_getElem h]; rfl
theorem gt {R:List Nat} {i:Nat} (h:i<R.length):(R.take (i+1)).eraseIdx i=R.take i:=by
 have hl:(R.take i).length=i:=by rw [List.length_take]; omega
 rw [T1 h,List.eraseIdx_append_of_length_le (by omega),hl,Nat.sub_self]
 simp
theorem gr {R:List Nat} {i p:Nat} (h:i<R.length) (hp:i≠p):(R.take (i+1)).eraseIdx p=(R.take i).eraseIdx p ++ [R.getD i 0]:=by
 have hl:(R.take i).length=i:=by rw [List.length_take]; omega
 rw [T1 h]
 by_cases hlt:p<i
 ·rw [List.eraseIdx_append_of_lt_length (by omega)]
 ·rw [List.eraseIdx_of_length_le (by simp; omega),List.eraseIdx_of_length_le (by omega)]
theorem pr (R:List Nat) (x:Nat):zs (R ++ [x])=zs R ++ [(x:Int)]:=by unfold zs; rw [List.map_append]; rfl
theorem Ms (R:List Nat) (p:Nat) (hn:R.length<1000000) (hp:p<1000000):Fn Tryz.prog 280 [cW R,I p] (cW (R.eraseIdx p)):=by
 have s0:∀ v n l,XH 3 (.row v n (Q4 I 0 l))=True:=fun v n l=>eq_true fun j _=>X6 (X8 _)
 refine Fq Tryz.call280 Tryz.func280 7 [] [6,70000002,7001] [] (by simp [ZP,X8]) (X0 1000 ?_)
 simp only [AS.start,QK,X4,Xl,↓X2,wA,seval,wE]
 refine Xe (fun i:Nat=>⟨7,[],[cW R,I p,.ref 0 0 0,.any,.ref 1 0 0,.ref 2 0 0,I i],[],[.con 0 1 (Xp [X9 (zs R)]),.row 0 1 (Xp [.sl 0 0 (fun _=>.any) true]),.row 0 1 (Xp [.osl 3 ((R.take i).eraseIdx p).length 1 0 ((R.take i).eraseIdx p).length]),.row ((R.take i).eraseIdx p).length ((R.take i).eraseIdx p).length (Q4 I 0 (zs ((R.take i).eraseIdx p)))]⟩) (fun i=>i≤R.length) (fun i=>R.length - i) 0 (by omega)
  (Sub.trans (Qt 0 rfl) ((QC 2 1 (fun _=>.sl 0 0 (fun _=>.any) true) rfl (Nat.le_refl _) (fun j hj=>by have e:j=0:=Nat.lt_one_iff.1 hj; subst e; rfl)).trans ((AA 2 1 (Q4 I 0 []) rfl 1 (Nat.le_refl _)).trans ((QC 2 1 (Xp [.osl 3 0 1 0 0]) rfl (Nat.le_refl _) (fun j hj=>by have e:j=0:=Nat.lt_one_iff.1 hj; subst e; rfl)).trans (Xa rfl (by simp [Xh,QK,X4,Xl,I]) (by simp [Xi]) (by simp [X4,Xl,zs])))))) ?_
 intro i hi next
 have w1:=wj i (by omega)
 by_cases hi2:i<R.length
 rotate_left
 ·obtain rfl:i=R.length:=by omega
  rw [List.take_length] at *
  refine X0 1000 ?_
  simp only [QK,X4,Xl,Int.lt_irrefl,Nat.lt_irrefl,↓X2,wA,seval,wE]
  have hz:=ED (l:=zs (R.eraseIdx p)) (H:=[.con 0 1 (Xp [.sl R.length R.length (Q4 I 0 (zs R)) false]),.row 0 1 (Xp [.osl 3 (R.eraseIdx p).length 1 0 (R.eraseIdx p).length]),.row 0 1 (Xp [.osl 3 (R.eraseIdx p).length 1 0 (R.eraseIdx p).length]),.row (R.eraseIdx p).length (R.eraseIdx p).length (Q4 I 0 (zs (R.eraseIdx p)))]) (id:=3) (ver:=(R.eraseIdx p).length) (n:=(R.eraseIdx p).length) rfl (by rw [Xl]; exact Nat.le_refl _)
  rw [Xl] at hz
  exact BO (v:=.agg [.osl 3 (R.eraseIdx p).length 1 0 (R.eraseIdx p).length]) rfl (by simp [AS.get,JF,OI,rd,Qo,Xp,A1]) (A7 ⟨hz,trivial⟩)
 have f1:((i:Int)<R.length)=True:=eq_true (by omega)
 have f2:(i<R.length)=True:=eq_true hi2
 have f3:(i+1≤R.length)=True:=eq_true (by omega)
 have v1:=Bh R i
 have nx:=next (i+1)
 by_cases hip:i=p
 ·subst hip
  have g1:((i:Int)=(i:Int))=True:=eq_true rfl
  have e0:(R.take i).eraseIdx i=R.take i:=List.eraseIdx_of_length_le (by rw [List.length_take]; omega)
  rw [gt hi2] at nx
  rw [e0]
  refine X0 1000 ?_
  simp only [QK,X4,Xl,w1,f1,f2,f3,v1,g1,Int.toNat_natCast,↓X2,wA,seval,wE]
  exact nx _ (by omega) (by omega) (Xa rfl (by simp [Xh,QK,X4,Xl,I]) (by simp [Xi]) (by simp [X4,Xl]))
 ·have g1:((i:Int)=(p:Int))=False:=eq_false (by omega)
  have hle:((R.take i).eraseIdx p).length≤R.length:=by
   have:=List.length_eraseIdx_le (R.take i) p
   rw [List.length_take] at this; omega
  rw [gr hi2 hip,pr,List.length_append,List.length_singleton] at nx
  generalize (R.take i).eraseIdx p=W at *
  have hap:=CP (zs W) ((R.getD i 0:Nat):Int)
  rw [Xl] at hap
  refine X0 1000 ?_
  simp only [QK,X4,Xl,w1,f1,f2,f3,v1,g1,Int.toNat_natCast,↓X2,wA,seval,wE]
  exact ⟨⟨by omega,by omega⟩,nx _ (by omega) (by omega) (Xa rfl (by simp [Xh,QK,X4,Xl,I]) (by simp [Xi]) (by rw [← hap]; simp [X4,Xl,I]))⟩
theorem vW {a b:Int} (h:a<b):(a<b)=True:=eq_true h
theorem v7 {a b:Int} (h:b≤a):(a<b)=False:=eq_false (by omega)
theorem vV {a b:Int} (h:a≤b):(a≤b)=True:=eq_true h
theorem v6 {a b:Int} (h:b<a):(a≤b)=False:=eq_false (by omega)
theorem vU {a b:Int} (h:a=b):(a=b)=True:=eq_true h
theorem uZ {a b:Int} (h:a≠b):(a=b)=False:=eq_false h
theorem vY {a b:Nat} (h:a<b):(a<b)=True:=eq_true h
theorem vu {a b:Nat} (h:b≤a):(a<b)=False:=eq_false (by omega)
theorem vX {a b:Nat} (h:a≤b):(a≤b)=True:=eq_true h
theorem vt {a b:Nat} (h:b<a):(a≤b)=False:=eq_false (by omega)
theorem vo {a b:Nat} (h:a=b):(a=b)=True:=eq_true h
theorem vp {a b:Nat} (h:a≠b):(a=b)=False:=eq_false h
theorem tZ {x:Int} (h:-9223372036854775808≤x∧x<9223372036854775808):IntKind.i64.wrap x=x:=by rw [IntKind.wrap_i64]; omega
theorem v8 {n:Nat}:(n:Int).toNat=n:=Int.toNat_natCast n
theorem uK (f:Nat→AV) (i:Nat) (v:AV) (j:Nat):CL f i v j=if j=i then v else f j:=nrfl rfl
def cI (l:List AV) (i:Nat) (a:AV):Nat→AV:=CL (Xp l) i a
def VG (x:AV) (f:Nat→AV):Nat→AV:=fun j=>match j with | 0=>x | j+1=>f j
theorem sU (l:List AV) (i:Nat) (a:AV):CL (Xp l) i a=cI l i a:=nrfl rfl
theorem sW (x a:AV) (l:List AV):cI (x :: l) 0 a=Xp (a :: l):=by
 funext j; unfold cI CL Xp; cases j <;> simp
theorem sV (x a:AV) (l:List AV) (n:Nat):cI (x :: l) (n+1) a=VG x (cI l n a):=by
 funext j; unfold cI CL Xp VG; cases j <;> simp
theorem mo (x:AV) (l:List AV):VG x (Xp l)=Xp (x :: l):=by
 funext j; unfold Xp VG; cases j <;> simp
def sg (x:Rat):Bool:=decide (x.num<0)
theorem Xo (x:Rat):decide (x.num<0)=sg x:=nrfl rfl
set_option linter.defProp false in
def wD:=And.intro @uK (And.intro @sU <| And.intro @sW <| And.intro @sV <| And.intro @mo <| And.intro @vW (And.intro @v7 (And.intro @vV (And.intro @v6 (And.intro @vU (And.intro @uZ (And.intro @vY (And.intro @vu (And.intro @vX (And.intro @vt (And.intro @vo (And.intro @vp (And.intro @tZ @v8)))))))))))))
def tC (d:Nat×Nat×Nat):List AV:=[I d.1,I d.2.1,I d.2.2]
theorem Fy (d:Nat×Nat×Nat):∀ x∈tC d,Settled x:=by simp [tC,X8]
def jJ (l:List (Nat×Nat×Nat)):AV:=sL tC 3 (0,0,0) l
theorem A9 (l:List (Nat×Nat×Nat)):jJ l=.sl l.length (l.length*3) (Xw tC 3 (0,0,0) l) false:=nrfl rfl
theorem HX (l:List (Nat×Nat×Nat)):Settled (jJ l):=J2 fun j _=>Xd (Fy _) _
def I7 (L:List V2) (R:List Nat):Nat:=(List.range (R.length - 1)).findIdx (C0 L R)
theorem VM (L:List V2) (R:List Nat):I7 L R≤R.length - 1:=by
 have:=List.findIdx_le_length (xs:=List.range (R.length - 1)) (p:=C0 L R)
 rwa [List.length_range] at this
theorem VL {L:List V2} {R:List Nat} {p:Nat} (h1:p≤R.length - 1) (h2:∀ j,j<p→C0 L R j=false) (h3:p=R.length - 1∨C0 L R p=true):I7 L R=p:=by
 have hle:=VM L R
 rcases Nat.lt_trichotomy (I7 L R) p with h | h | h
 ·have:=List.findIdx_getElem (xs:=List.range (R.length - 1)) (p:=C0 L R) (w:=by rw [List.length_range]; unfold I7 at h; omega)
  rw [List.getElem_range] at this
  have h4:=h2 _ h
  unfold I7 at h4
  rw [h4] at this; cases this
 ·exact h
 ·rcases h3 with h3 | h3
  ·omega
  ·have:=List.not_of_lt_findIdx (xs:=List.range (R.length - 1)) (p:=C0 L R) (i:=p) h
   rw [List.getElem_range,h3] at this
   exact absurd this (by simp)
def FB (R:List Nat) (p:Nat):Nat×Nat×Nat:=(nr R (p+R.length - 1),R.getD p 0,nr R (p+R.length+1))
def Cl (L:List V2) (R:List Nat):List Nat:=Zl L (R.length - 1) (R.eraseIdx (I7 L R))
def Cj (L:List V2):Nat→List Nat→List (Nat×Nat×Nat)
 | 0,R=>[(R.getD 0 0,R.getD 1 0,R.getD 2 0)]
 | f+1,R=>if 3<R.length then FB R (I7 L R) :: Cj L f (Cl L R) else [(R.getD 0 0,R.getD 1 0,R.getD 2 0)]
def Ck (L:List V2):List (Nat×Nat×Nat):=Cj L L.length (List.range L.length)
theorem fz (L:List V2):∀ (f:Nat) (R:List Nat),Rok L R→R.Nodup→3≤R.length→Rok L (Zl L f R)∧(Zl L f R).Nodup∧3≤(Zl L f R).length∧(Zl L f R).length≤R.length
 | 0,R,h,hd,h3=>⟨h,hd,h3,Nat.le_refl _⟩
 | f+1,R,h,hd,h3=>by
  unfold Zl
  split
  ·rename_i hc
   have hl:(R.eraseIdx (KN L R)).length=R.length - 1:=by rw [List.length_eraseIdx,if_pos hc.2]
   obtain ⟨a1,a2,a3,a4⟩:=fz L f _ (Bs h hc.1 hc.2) (hd.eraseIdx _) (by omega)
   exact ⟨a1,a2,a3,by omega⟩
  ·exact ⟨h,hd,h3,Nat.le_refl _⟩
theorem Eh {L:List V2} {R:List Nat} (h:Rok L R) (hd:R.Nodup) (h3:3<R.length):Rok L (Cl L R)∧(Cl L R).Nodup∧3≤(Cl L R).length∧(Cl L R).length≤R.length - 1:=by
 have hp:I7 L R<R.length:=by have:=VM L R; omega
 have hl:(R.eraseIdx (I7 L R)).length=R.length - 1:=by rw [List.length_eraseIdx,if_pos hp]
 obtain ⟨a1,a2,a3,a4⟩:=fz L (R.length - 1) _ (Bs h h3 hp) (hd.eraseIdx _) (by omega)
 exact ⟨a1,a2,a3,by unfold Cl; omega⟩
theorem N8 (L:List V2):∀ (f g:Nat) (R:List Nat),Rok L R→R.Nodup→R.length≤f→R.length≤g→Cj L f R=Cj L g R
 | 0,g,R,h,_,hf,_=>by have:=h.pos; omega
 | f+1,0,R,h,_,_,hg=>by have:=h.pos; omega
 | f+1,g+1,R,h,hd,hf,hg=>by
  unfold Cj
  split
  ·rename_i h3
   obtain ⟨a1,a2,a3,a4⟩:=Eh h hd h3
   rw [N8 L f g _ a1 a2 (by omega) (by omega)]
  ·rfl
theorem VH {L:List V2} {R:List Nat} (h:Rok L R) (hd:R.Nodup) (h3:3<R.length):Cj L R.length R=FB R (I7 L R) :: Cj L (Cl L R).length (Cl L R):=by
 obtain ⟨a1,a2,a3,a4⟩:=Eh h hd h3
 cases hl:R.length with
 | zero=>omega
 | succ n =>
  show (if 3<R.length then _ else _)=_
  rw [if_pos h3,N8 L n (Cl L R).length _ a1 a2 (by omega) (Nat.le_refl _)]
theorem R5 {L:List V2} {R:List Nat} (h3:¬ 3<R.length) (f:Nat):Cj L f R=[(R.getD 0 0,R.getD 1 0,R.getD 2 0)]:=by
 cases f with
 | zero=>rfl
 | succ n=>unfold Cj; rw [if_neg h3]
theorem Aw {L:List V2} (h:3≤L.length) (hl:L.length<1000000):Rok L (List.range L.length):=⟨by rw [List.length_range]; omega,by rw [List.length_range]; omega,fun j=>by
 rw [List.getD_eq_getElem?_getD]
 by_cases hj:j<L.length
 ·rw [List.getElem?_range hj]; exact hj
 ·rw [List.getElem?_eq_none (by rw [List.length_range]; omega)]; show 0<L.length; omega,hl⟩
theorem WB {P:Program} {fn:Func} {str hcs:List Nat} {s:AS} {t u id ver:Nat} {e:AV} (D:List (Nat×Nat×Nat)) (hr:fn.results=#[.tmp t,.tmp u]) (hs:s.get t=.osl id ver 3 0 D.length) (ho:s.h[id]?=some (.row ver (D.length*3) (Xw tC 3 (0,0,0) D))) (hu:s.get u=e) (he:Settled e):RetOk (Qr P fn str hcs (.tup [jJ D,e])) s:=by
 refine Sv hr (Zt ⟨?_,QH he hu,trivial⟩)
 rw [hs,A9]
 refine QB (.inl ho) (by omega) (fun h=>by rw [h]) fun j hj=>?_
 rw [Nat.zero_add]
 exact (Xd (Fy _) _).sees _
theorem Pb (c:Nat×Nat×Nat):∀ j,j<3→((tC c).getD j .any).one=true:=fun j hj=>by
 match j,hj with
 | 0,_=>rfl
 | 1,_=>rfl
 | 2,_=>rfl
 | j+3,h=>omega
theorem mh (L:List V2) (k:Nat) (hs:XW L k) (hk:k≤1000) (hp:At L):Fn Tryz.prog 263 [Xt L] (.tup [jJ (Ck L),I 0]):=by
 have hl:=hp.1
 have cv:=NR L (fun i=>Nat.le_trans (hs i) hk) (by omega)
 rw [decide_eq_true hp] at cv
 have ca:=qJ L (by omega)
 obtain ⟨T,hT⟩:∃ T,T=Ck L:=⟨_,rfl⟩
 rw [← hT]
 have h0:=Aw hl.1 (by omega)
 have d0:(List.range L.length).Nodup:=List.nodup_range
 refine Fq Tryz.call263 Tryz.func263 7 [] [] [3,9] (by simp [Xf]) (X0 1000 ?_)
 simp only [AS.start,↓X2,wA,seval,wE]
 refine X1 cv rfl ?_
 simp only [↓X2,wA,seval,wE]
 refine Z3 rfl ca (QP (fun o h=>absurd h (List.not_mem_nil)) (fun o ho=>((Kw _ _ _).2 o ho).2.2)) (fun id=>by simp) (XS _) ?_
 have hlr:(List.range L.length).length=L.length:=List.length_range
 have hTc:T=Cj L (List.range L.length).length (List.range L.length):=by rw [hT,hlr]; rfl
 generalize hN:2*L.length=N
 generalize List.range L.length=R0 at *
 simp only [Jb,↓X2,wA,seval,wE]
 refine Xe (fun w:List (Nat×Nat×Nat)×List Nat=>⟨7,[],[Xt L,.any,.any,.any,.ref 0 0 0,.osl 2 w.1.length 3 0 w.1.length,.any],[],M2 L N w.2 ++ [.row w.1.length (w.1.length*3) (Xw tC 3 (0,0,0) w.1)]⟩) (fun w=>Rok L w.2∧w.2.Nodup∧3≤w.2.length∧w.1.length+w.2.length≤L.length∧w.1 ++ Cj L w.2.length w.2=T) (fun w=>w.2.length) ([],R0) ⟨h0,d0,by show 3≤R0.length; omega,by simp [hlr],by rw [hTc]; rfl⟩
  (Sub.trans (Qi 5 3 (Xw tC 3 (0,0,0) []) rfl) (Xa rfl (by simp [AS.put,Xh]) (by simp [AS.put,Xi]) (by simp [AS.put,Jb]))) ?_
 rintro ⟨D,R⟩ ⟨h,hd,h3,hDl,hDT⟩ next
 replace h:Rok L R:=h
 replace hd:R.Nodup:=hd
 replace h3:3≤R.length:=h3
 replace hDl:D.length+R.length≤L.length:=hDl
 replace hDT:D ++ Cj L R.length R=T:=hDT
 have hNR:R.length≤N:=by omega
 by_cases h4:3<R.length
 rotate_left
 ·have e3:R.length=3:=by omega
  rw [R5 h4] at hDT
  have hap:=Q0 tC 3 (0,0,0) D (R.getD 0 0,R.getD 1 0,R.getD 2 0) (by omega)
  rw [hDT] at hap
  have hTl:T.length=D.length+1:=by rw [← hDT]; simp
  refine X0 1000 ?_
  simp (disch:=omega) only [Jb,List.cons_append,List.nil_append,Bh,KY,wD,↓X2,wA,seval,wE]
  exact ⟨Pb (R.getD 0 0,R.getD 1 0,R.getD 2 0),WB T rfl (by rw [hTl]; rfl) (by rw [hTl,← hap]; rfl) rfl (X8 _)⟩
 have hgo:=VH h hd h4
 obtain ⟨b1,b2,b3,b4⟩:=Eh h hd h4
 refine X0 1000 ?_
 simp (disch:=omega) only [Jb,List.cons_append,List.nil_append,wD,↓X2,wA,seval,wE]
 refine Xe (fun p:Nat=>⟨7,[],[Xt L,.any,.any,.any,.ref 0 0 0,.osl 2 D.length 3 0 D.length,I p],[],M2 L N R ++ [.row D.length (D.length*3) (Xw tC 3 (0,0,0) D)]⟩) (fun p=>p≤R.length - 1∧∀ j,j<p→C0 L R j=false) (fun p=>R.length - p) 0 ⟨by omega,fun j hj=>absurd hj (Nat.not_lt_zero j)⟩
  (Xa rfl (by simp [Xh,I]) (by simp [Xi]) (by simp [Jb])) ?_
 rintro p ⟨hp1,hno⟩ next2
 have hn:=h.len
 have ce:=rl L R p k h (by omega) hs (by omega)
 have cc:=rg L N R p k h hd hNR h4 (by omega) hs (by omega)
 have hlr:(R.eraseIdx p).length=R.length - 1:=by rw [List.length_eraseIdx,if_pos (by omega)]
 by_cases hgo2:p<R.length - 1∧C0 L R p=false
 ·refine X0 1000 ?_
  simp (disch:=omega) only [Jb,List.cons_append,List.nil_append,wD,↓X2,wA,seval,wE]
  refine JH ce rfl ⟨IC,QH (X8 _) rfl,trivial⟩ (Ap _) ?_
  simp (disch:=omega) only [hgo2.2,Jb,List.cons_append,List.nil_append,wD,↓X2,wA,seval,wE]
  exact next2 (p+1) _ ⟨by omega,JJ.2 ⟨hno,hgo2.2⟩⟩ (by omega) (Xa rfl (by simp [Xh,I]) (by simp [Xi]) (by simp [Jb]))
 have hep:I7 L R=p:=VL hp1 hno (by
  by_cases h1:p=R.length - 1
  ·exact .inl h1
  ·right
   cases he:C0 L R p with
   | true=>rfl
   | false=>exact absurd ⟨by omega,he⟩ hgo2)
 have hD:(D ++ [FB R p]) ++ Cj L (Cl L R).length (Cl L R)=T:=by rw [← hDT,hgo,hep,List.append_assoc]; rfl
 have hap:=Q0 tC 3 (0,0,0) D (FB R p) (by omega)
 have hcs:Zl L (R.length - 1) (R.eraseIdx p)=Cl L R:=by unfold Cl; rw [hep]
 rw [hcs] at cc
 have hDn:(D ++ [FB R p]).length=D.length+1:=by simp
 have nx:=next (D ++ [FB R p],Cl L R)
 rw [List.length_append,List.length_singleton] at nx
 have htr:tC (FB R p)=[I (nr R (p+R.length - 1)),I (R.getD p 0:Nat),I (nr R (p+R.length+1))]:=rfl
 have hone:=Pb (FB R p)
 rw [htr] at hap hone
 generalize D ++ [FB R p]=D2 at *
 generalize Cl L R=R2 at *
 generalize nr R (p+R.length - 1)=a at *
 generalize nr R (p+R.length+1)=c at *
 generalize R.getD p 0=b at *
 clear hgo hcs htr
 have bR:∀ a∈[AV.ref 0 0 0,I p],Js 2 a:=fun a ha=>by
  simp only [List.mem_cons,List.not_mem_nil,or_false] at ha
  rcases ha with rfl | rfl
  ·have:Js 2 (.ref 0 0 0)=True:=by simp [Xy]
   exact this▸trivial
  ·exact X6 (X8 _)
 refine X0 1000 ?_
 by_cases hl:p<R.length - 1
 have he:C0 L R p=true:=by
  cases he:C0 L R p with
  | true=>rfl
  | false=>exact absurd ⟨hl,he⟩ hgo2
 simp (disch:=omega) only [Jb,List.cons_append,List.nil_append,wD,↓X2,wA,seval,wE]
 refine JH ce rfl ⟨IC,QH (X8 _) rfl,trivial⟩ (Ap _) ?_
 simp (disch:=omega) only [he,Jb,List.cons_append,List.nil_append,wD,↓X2,wA,seval,wE]
 rotate_left
 simp (disch:=omega) only [Jb,List.cons_append,List.nil_append,wD,↓X2,wA,seval,wE]
 all_goals
  refine An (H1:=M2 L N R) (H1':=M2 L N R2) (rest:=[.row D.length (D.length*3) (Xw tC 3 (0,0,0) D)]) rfl cc rfl rfl bR (fun o ho=>((Kw L N R).2 o ho).1) (fun o ho=>((Kw L N _).2 o ho).2.1) (fun o ho=>((Kw L N _).2 o ho).2.1) (QP (fun o ho=>((Kw L N _).2 o ho).2.2) (fun o ho=>((Kw L N _).2 o ho).2.2)) (XS _) ?_
  simp (disch:=omega) only [Jb,List.cons_append,List.nil_append,wD,↓X2,wA,seval,wE]
  exact ⟨hone,nx _ ⟨b1,b2,b3,by show D.length+1+R2.length≤L.length; omega,hD⟩ (by show R2.length<R.length; omega) (Xa rfl (by simp [Xh]) (by simp [Xi]) (by rw [← hap]; simp [Jb,I]))⟩
theorem oe (L:List V2) (R:List Nat) (p k:Nat) (h:Rok L R) (hp:p<R.length) (hs:XW L k) (hk:k≤10000):Fn Tryz.prog 277 [Xt L,cW R,I p] (.bool (C0 L R p)):=by
 have c1:=SA L R p k h hp hs hk
 have c2:=Ep R p (-1) (p+R.length - 1) h.pos h.len (by have:=h.pos; omega) (by have:=h.len; omega) (by omega) (by omega)
 have c3:=Ep R p 1 (p+R.length+1) h.pos h.len (by omega) (by have:=h.len; omega) (by omega) (by omega)
 obtain ⟨h0,hn,hmem,hL⟩:=h
 have m1:=hmem ((p+R.length - 1) % R.length)
 have m2:=hmem ((p+R.length+1) % R.length)
 have m3:=hmem p
 change nr R (p+R.length - 1)<L.length at m1
 change nr R (p+R.length+1)<L.length at m2
 have hear:C0 L R p=decide (0<Id L R p∧∀ j,j<R.length→BC L (nr R (p+R.length - 1)) (R.getD p 0) (nr R (p+R.length+1)) (R.getD j 0)):=rfl
 generalize C0 L R p=E at *
 generalize Id L R p=S at *
 generalize nr R (p+R.length - 1)=a at *
 generalize nr R (p+R.length+1)=c at *
 have v2:=Bh R p
 generalize R.getD p 0=b at *
 have f1:((p:Int)<R.length)=True:=eq_true (by omega)
 have f2:(p<R.length)=True:=eq_true hp
 have f3:(p+1≤R.length)=True:=eq_true (by omega)
 have a1:((a:Int)<L.length)=True:=eq_true (by omega)
 have a2:(a<L.length)=True:=eq_true m1
 have a3:(a*8+8≤L.length*8)=True:=eq_true (by omega)
 have b1:((b:Int)<L.length)=True:=eq_true (by omega)
 have b2:(b<L.length)=True:=eq_true m3
 have b3:(b*8+8≤L.length*8)=True:=eq_true (by omega)
 have e1:((c:Int)<L.length)=True:=eq_true (by omega)
 have e2:(c<L.length)=True:=eq_true m2
 have e3:(c*8+8≤L.length*8)=True:=eq_true (by omega)
 have va:=vF L a
 have vb:=vF L b
 have vc:=vF L c
 refine Fq Tryz.call277 Tryz.func277 12 [] [] [] (by simp [Xf,ZP,X8]) (X0 1000 ?_)
 simp only [AS.start,QK,X5,X4,↓X2,wA,seval,wE]
 refine X1 c1 rfl ?_
 by_cases hS:S≤0
 ·have g1:(S≤0)=True:=eq_true hS
  have hE:E=false:=by rw [hear]; exact decide_eq_false fun hh=>by omega
  simp only [QK,X5,X4,g1,↓X2,wA,seval,wE]
  exact Xr (v:=.bool false) rfl rfl (X3 _) (by rw [hE])
 have g1:(S≤0)=False:=eq_false hS
 simp only [QK,X5,X4,g1,↓X2,wA,seval,wE]
 refine X1 c2 rfl ?_
 simp only [QK,X5,X4,Xl,f1,f2,f3,v2,Int.toNat_natCast,↓X2,wA,seval,wE]
 refine X1 c3 (by simp only [QK,X4,Xl]; rfl) ?_
 simp only [QK,X5,X4,Xl,↓X2,wA,seval,wE]
 have sA:=hs a
 have sB:=hs b
 have sC:=hs c
 generalize hA:L.getD a v0=A at *
 generalize hB:L.getD b v0=B at *
 generalize hC:L.getD c v0=C at *
 have hfree:∀ q,BC L a b c q=(q=a∨q=c∨q=b∨¬ kD A B C (L.getD q v0)):=fun q=>by unfold BC; rw [hA,hB,hC]
 refine Xe (fun j:Nat=>⟨12,[],[Xt L,.any,.any,.any,.ref 0 0 0,.any,.any,I a,I b,I c,I j,.any],[],[.row 0 1 (Xp [X9 (zs R)])]⟩) (fun j=>j≤R.length∧∀ i,i<j→BC L a b c (R.getD i 0)) (fun j=>R.length - j) 0 ⟨by omega,fun i hi=>absurd hi (Nat.not_lt_zero i)⟩
  (Xa rfl (by simp [Xh,X5,X4,Xl,I]) (by simp [Xi]) (by simp [X4,Xl])) ?_
 rintro j ⟨hj,hno⟩ next
 have w1:=wj j (by omega)
 by_cases hj2:j<R.length
 rotate_left
 ·obtain rfl:j=R.length:=by omega
  have hE:E=true:=by rw [hear]; exact decide_eq_true ⟨by omega,hno⟩
  refine X0 1000 ?_
  simp only [X5,X4,Xl,Int.lt_irrefl,Nat.lt_irrefl,↓X2,wA,seval,wE]
  exact Xr (v:=.bool true) rfl rfl (X3 _) (by rw [hE])
 have k1:((j:Int)<R.length)=True:=eq_true (by omega)
 have k2:(j<R.length)=True:=eq_true hj2
 have k3:(j+1≤R.length)=True:=eq_true (by omega)
 have v3:=Bh R j
 have m4:=hmem j
 have nx:=next (j+1)
 have hgo:=fun hfr=>JJ.2 (show (∀ i,i<j→BC L a b c (R.getD i 0))∧BC L a b c (R.getD j 0) from ⟨hno,hfr⟩)
 have hstop:¬ BC L a b c (R.getD j 0)→E=false:=fun hb=>by rw [hear]; exact decide_eq_false fun hh=>hb (hh.2 j hj2)
 rw [hfree] at hgo hstop
 generalize R.getD j 0=q at *
 have sQ:=hs q
 have x1:((q:Int)<L.length)=True:=eq_true (by omega)
 have x2:(q<L.length)=True:=eq_true m4
 have x3:(q*8+8≤L.length*8)=True:=eq_true (by omega)
 have vq:=vF L q
 generalize hQ:L.getD q v0=Q at *
 have cin:=sH A B C Q (by unfold vs; omega) (by unfold vs; omega) (by unfold vs; omega) (by unfold vs; omega)
 by_cases q1:q=a
 ·have g1:((q:Int)=(a:Int))=True:=eq_true (by omega)
  refine X0 1000 ?_
  simp only [X5,X4,Xl,w1,k1,k2,k3,v3,g1,Int.toNat_natCast,↓X2,wA,seval,wE]
  exact nx _ ⟨by omega,hgo (.inl q1)⟩ (by omega) (Xa rfl (by simp [Xh,X5,X4,Xl,I]) (by simp [Xi]) (by simp [X4,Xl]))
 have g1':((q:Int)=(a:Int))=False:=eq_false (by omega)
 by_cases q3:q=b
 ·have g3:((q:Int)=(b:Int))=True:=eq_true (by omega)
  refine X0 1000 ?_
  simp only [X5,X4,Xl,w1,k1,k2,k3,v3,g1',g3,Int.toNat_natCast,↓X2,wA,seval,wE]
  exact nx _ ⟨by omega,hgo (.inr (.inr (.inl q3)))⟩ (by omega) (Xa rfl (by simp [Xh,X5,X4,Xl,I]) (by simp [Xi]) (by simp [X4,Xl]))
 have g3':((q:Int)=(b:Int))=False:=eq_false (by omega)
 by_cases q2:q=c
 ·have g2:((q:Int)=(c:Int))=True:=eq_true (by omega)
  refine X0 1000 ?_
  simp only [X5,X4,Xl,w1,k1,k2,k3,v3,g1',g3',g2,Int.toNat_natCast,↓X2,wA,seval,wE]
  exact nx _ ⟨by omega,hgo (.inr (.inl q2))⟩ (by omega) (Xa rfl (by simp [Xh,X5,X4,Xl,I]) (by simp [Xi]) (by simp [X4,Xl]))
 have g2':((q:Int)=(c:Int))=False:=eq_false (by omega)
 refine X0 1000 ?_
 simp only [X5,X4,Xl,w1,k1,k2,k3,v3,g1',g3',g2',a1,a2,a3,b1,b2,b3,e1,e2,e3,x1,x2,x3,va,vb,vc,vq,Int.toNat_natCast,↓X2,wA,seval,wE]
 refine X1 cin rfl ?_
 by_cases hin:kD A B C Q
 ·have hE:E=false:=hstop (by
   rintro (e | e | e | e)
   ·exact q1 e
   ·exact q2 e
   ·exact q3 e
   ·exact e hin)
  simp only [decide_eq_true hin,↓X2,wA,seval,wE]
  exact Xr (v:=.bool false) rfl rfl (X3 _) (by rw [hE])
 ·simp only [decide_eq_false hin,X5,X4,Xl,w1,↓X2,wA,seval,wE]
  exact nx _ ⟨by omega,hgo (.inr (.inr (.inr hin)))⟩ (by omega) (Xa rfl (by simp [Xh,X5,X4,Xl,I]) (by simp [Xi]) (by simp [X4,Xl]))
theorem kg (n:Nat) (hn:n<1000000):Fn Tryz.prog 276 [I n] (cW (List.range n)):=by
 refine Fq Tryz.call276 Tryz.func276 5 [] [] [] (by simp [X8]) (X0 1000 ?_)
 simp only [AS.start,↓X2,wA,seval,wE]
 refine Xe (fun i:Nat=>⟨5,[],[I n,.any,.ref 0 0 0,.ref 1 0 0,I i],[],[.row 0 1 (Xp [.sl 0 0 (fun _=>.any) true]),.row 0 1 (Xp [.osl 2 i 1 0 i]),.row i i (Q4 I 0 (zs (List.range i)))]⟩) (fun i=>i≤n) (fun i=>n - i) 0 (by omega)
  (Sub.trans (QC 1 1 (fun _=>.sl 0 0 (fun _=>.any) true) rfl (Nat.le_refl _) (fun j hj=>by have e:j=0:=Nat.lt_one_iff.1 hj; subst e; rfl)) ((AA 1 1 (Q4 I 0 []) rfl 1 (Nat.le_refl _)).trans ((QC 1 1 (Xp [.osl 2 0 1 0 0]) rfl (Nat.le_refl _) (fun j hj=>by have e:j=0:=Nat.lt_one_iff.1 hj; subst e; rfl)).trans (Xa rfl (by simp [Xh,I]) (by simp [Xi]) (by simp [zs]))))) ?_
 intro i hi next
 have w1:=wj i (by omega)
 by_cases hi2:i<n
 rotate_left
 ·obtain rfl:i=n:=by omega
  refine X0 1000 ?_
  simp only [Int.lt_irrefl,Nat.lt_irrefl,↓X2,wA,seval,wE]
  have hz:=ED (l:=zs (List.range i)) (H:=[.row 0 1 (Xp [.osl 2 i 1 0 i]),.row 0 1 (Xp [.osl 2 i 1 0 i]),.row i i (Q4 I 0 (zs (List.range i)))]) (id:=2) (ver:=i) (n:=i) rfl (by rw [Xl,List.length_range]; exact Nat.le_refl _)
  rw [Xl,List.length_range] at hz
  exact BO (v:=.agg [.osl 2 i 1 0 i]) rfl (by simp [AS.get,JF,OI,rd,Qo,Xp,A1]) (A7 ⟨hz,trivial⟩)
 have f1:((i:Int)<n)=True:=eq_true (by omega)
 have nx:=next (i+1)
 rw [F3] at nx
 have hz:(zs (List.range i)).length=i:=by rw [Xl,List.length_range]
 generalize zs (List.range i)=Z at *
 have hap:=CP Z (i:Int)
 rw [hz] at hap
 refine X0 1000 ?_
 simp only [w1,f1,Int.toNat_natCast,↓X2,wA,seval,wE]
 exact ⟨⟨by omega,by omega⟩,nx _ (by omega) (by omega) (Xa rfl (by simp [Xh,I]) (by simp [Xi]) (by rw [← hap]))⟩
theorem Rq {L:List V2} {R:List Nat} {p:Nat} (h1:p≤R.length) (h2:∀ j,j<p→Id L R j≠0) (h3:p=R.length∨Id L R p=0):KN L R=p:=by
 have hle:=Lp L R
 rcases Nat.lt_trichotomy (KN L R) p with h | h | h
 ·exact absurd (Nk (by omega)) (h2 _ h)
 ·exact h
 ·rcases h3 with h3 | h3
  ·omega
  ·exact absurd h3 (Lq h)
theorem r8 {L:List V2} {R:List Nat} (h3:3<R.length) (hq:KN L R<R.length):Zl L R.length R=Zl L (R.eraseIdx (KN L R)).length (R.eraseIdx (KN L R)):=by
 rw [List.length_eraseIdx,if_pos hq]
 cases hl:R.length with
 | zero=>omega
 | succ n =>
  show (if 3<R.length∧KN L R<R.length then Zl L n (R.eraseIdx (KN L R)) else R)=_
  rw [if_pos ⟨h3,hq⟩]; rfl
theorem VE {L:List V2} {R:List Nat} (h:¬ (3<R.length∧KN L R<R.length)):Zl L R.length R=R:=by
 cases hl:R.length with
 | zero=>rfl
 | succ n=>unfold Zl; rw [if_neg h]
theorem U8 (L:List V2) (R0:List Nat) (k:Nat) (h:Rok L R0) (hs:XW L k) (hk:k≤10000):Fn Tryz.prog 279 [Xt L,cW R0] (cW (Zl L R0.length R0)):=by
 refine Fq Tryz.call279 Tryz.func279 6 [] [] [] (by simp [Xf,ZP]) (X0 1000 ?_)
 simp only [AS.start,QK,X4,X5,↓X2,wA,seval,wE]
 refine Xe (fun w:List Nat×Nat=>⟨6,[],[Xt L,.any,.any,.ref 0 0 0,.ref 1 0 0,I w.2],[],[.row 0 1 (Xp [X9 (zs w.1)]),.row 0 1 (Xp [.sl 0 0 (fun _=>.any) true])]⟩) (fun w=>Rok L w.1∧w.2≤w.1.length∧(∀ j,j<w.2→Id L w.1 j≠0)∧Zl L w.1.length w.1=Zl L R0.length R0) (fun w=>2000000*w.1.length+(1000000 - w.2)) (R0,0) ⟨h,Nat.zero_le _,fun j hj=>absurd hj (Nat.not_lt_zero j),rfl⟩
  (Sub.trans (QC 1 1 (Xp [.sl 0 0 (fun _=>.any) true]) rfl (Nat.le_refl _) (fun j hj=>by have e:j=0:=Nat.lt_one_iff.1 hj; subst e; rfl)) (Xa rfl (by simp [Xh,X5,I]) (by simp [Xi]) (by simp [X4,Xl]))) ?_
 rintro ⟨R,p⟩ ⟨hR,hp,hno,hcl⟩ next
 replace hR:Rok L R:=hR
 replace hp:p≤R.length:=hp
 replace hno:∀ j,j<p→Id L R j≠0:=hno
 replace hcl:Zl L R.length R=Zl L R0.length R0:=hcl
 have hn:=hR.len
 have w1:=wj p (by omega)
 by_cases hgo:3<R.length∧p<R.length
 rotate_left
 ·have e:Zl L R.length R=R:=by
   by_cases h3:3<R.length
   ·exact VE fun hh=>by rw [Rq hp hno (.inl (by omega))] at hh; omega
   ·exact VE fun hh=>h3 hh.1
  rw [e] at hcl
  rw [← hcl]
  have fin:∀ {s:AS},s.get 4=.ref 1 0 0→s.h=[.row 0 1 (Xp [X9 (zs R)]),.row 0 1 (Xp [X9 (zs R)])]→RetOk (Qr Tryz.prog Tryz.f279 [] [] (cW R)) s:=fun h1 h2=>by
   refine BO (v:=.agg [X9 (zs R)]) rfl ?_ ?_
   ·rw [h1,h2]; simp [JF,OI,rd,Qo,Xp,A1]
   ·exact (ZP R).sees _
  by_cases h3:3<R.length
  ·obtain rfl:p=R.length:=by omega
   have f1:((3:Int)<R.length)=True:=eq_true (by omega)
   refine X0 1000 ?_
   simp only [X5,X4,Xl,f1,Int.lt_irrefl,Nat.lt_irrefl,↓X2,wA,seval,wE]
   exact fin rfl (by simp [X4,Xl])
  ·have f1:((3:Int)<R.length)=False:=eq_false (by omega)
   refine X0 1000 ?_
   simp only [X5,X4,Xl,f1,↓X2,wA,seval,wE]
   exact fin rfl (by simp [X4,Xl])
 obtain ⟨h3,hp2⟩:=hgo
 have cs:=SA L R p k hR hp2 hs hk
 have cw:=Ms R p hn (by omega)
 rw [QK,X4,Xl] at cs cw
 have f1:((3:Int)<R.length)=True:=eq_true (by omega)
 have f2:((p:Int)<R.length)=True:=eq_true (by omega)
 by_cases hz:Id L R p=0
 ·have g1:(Id L R p=0)=True:=eq_true hz
  have hf:=Rq hp hno (.inr hz)
  have hg:=r8 (L:=L) h3 (by rw [hf]; exact hp2)
  rw [hf,hcl] at hg
  have hl:(R.eraseIdx p).length=R.length - 1:=by rw [List.length_eraseIdx,if_pos hp2]
  have nx:=next (R.eraseIdx p,0)
  refine X0 1000 ?_
  simp only [X5,X4,Xl,f1,f2,w1,↓X2,wA,seval,wE]
  refine X1 cs rfl ?_
  simp only [X5,X4,Xl,g1,↓X2,wA,seval,wE]
  refine X1 cw rfl ?_
  simp only [QK,X5,X4,Xl,↓X2,wA,seval,wE]
  exact nx _ ⟨Bs hR h3 hp2,Nat.zero_le _,fun j hj=>absurd hj (Nat.not_lt_zero j),hg.symm⟩ (by show 2000000*(R.eraseIdx p).length+(1000000 - 0)<2000000*R.length+(1000000 - p); omega) (Xa rfl (by simp [Xh,X5,I]) (by simp [Xi]) (by simp [X4,Xl]))
 ·have g1:(Id L R p=0)=False:=eq_false hz
  have nx:=next (R,p+1)
  refine X0 1000 ?_
  simp only [X5,X4,Xl,f1,f2,w1,↓X2,wA,seval,wE]
  refine X1 cs rfl ?_
  simp only [X5,X4,Xl,g1,w1,↓X2,wA,seval,wE]
  exact nx _ ⟨hR,hp2,fun j hj=>by
    rcases Nat.lt_succ_iff_lt_or_eq.1 hj with h | h
    ·exact hno j h
    ·exact h▸hz,hcl⟩ (by show 2000000*R.length+(1000000 - (p+1))<2000000*R.length+(1000000 - p); omega) (Xa rfl (by simp [Xh,X5,I]) (by simp [Xi]) (by simp [X4,Xl]))
theorem od (L:List V2) (k:Nat) (hs:XW L k) (hk:k≤1000) (hp:XO L):Fn Tryz.prog 264 [Xt L] (.tup [jJ (Ck L),I 0]):=by
 have hl:=(KR L hp).1
 have cv:=Gr L (fun i=>Nat.le_trans (hs i) hk) (by omega)
 rw [decide_eq_true hp] at cv
 have ca:=kg L.length (by omega)
 obtain ⟨T,hT⟩:∃ T,T=Ck L:=⟨_,rfl⟩
 rw [← hT]
 have h0:=Aw hl.1 (by omega)
 have d0:(List.range L.length).Nodup:=List.nodup_range
 have hlr:(List.range L.length).length=L.length:=List.length_range
 have hTc:T=Cj L (List.range L.length).length (List.range L.length):=by rw [hT,hlr]; rfl
 have s0:∀ l,XH 2 (.row 0 1 (Xp [X9 l]))=True:=fun l=>eq_true (XF (by simp [X7]))
 have s1:∀ v n l,XH 2 (.row v n (Xw tC 3 (0,0,0) l))=True:=fun v n l=>eq_true fun j _=>X6 (Xd (Fy _) _)
 refine Fq Tryz.call264 Tryz.func264 7 [] [9,10001,10005,10009,11,120000004] [] (by simp [Xf]) (X0 1000 ?_)
 simp only [AS.start,X5,↓X2,wA,seval,wE]
 refine X1 cv rfl ?_
 simp only [X5,↓X2,wA,seval,wE]
 refine X1 ca rfl ?_
 generalize List.range L.length=R0 at *
 simp only [X5,QK,X4,Xl,↓X2,wA,seval,wE]
 refine Xe (fun w:List (Nat×Nat×Nat)×List Nat=>⟨7,[],[Xt L,.any,.any,.any,.ref 0 0 0,.osl 1 w.1.length 3 0 w.1.length,.any],[],[.row 0 1 (Xp [X9 (zs w.2)]),.row w.1.length (w.1.length*3) (Xw tC 3 (0,0,0) w.1)]⟩) (fun w=>Rok L w.2∧w.2.Nodup∧3≤w.2.length∧w.1.length+w.2.length≤L.length∧w.1 ++ Cj L w.2.length w.2=T) (fun w=>w.2.length) ([],R0) ⟨h0,d0,by show 3≤R0.length; omega,by simp [hlr],by rw [hTc]; rfl⟩
  (Sub.trans (Qi 5 3 (Xw tC 3 (0,0,0) []) rfl) (Xa rfl (by simp [AS.put,Xh,X5]) (by simp [AS.put,Xi]) (by simp [AS.put,X4,Xl]))) ?_
 rintro ⟨D,R⟩ ⟨h,hd,h3,hDl,hDT⟩ next
 replace h:Rok L R:=h
 replace hd:R.Nodup:=hd
 replace h3:3≤R.length:=h3
 replace hDl:D.length+R.length≤L.length:=hDl
 replace hDT:D ++ Cj L R.length R=T:=hDT
 by_cases h4:3<R.length
 rotate_left
 ·have e3:R.length=3:=by omega
  rw [R5 h4] at hDT
  have hap:=Q0 tC 3 (0,0,0) D (R.getD 0 0,R.getD 1 0,R.getD 2 0) (by omega)
  rw [hDT] at hap
  have hTl:T.length=D.length+1:=by rw [← hDT]; simp
  refine X0 1000 ?_
  simp (disch:=omega) only [X5,X4,Xl,Bh,KY,wD,↓X2,wA,seval,wE]
  exact ⟨Pb (R.getD 0 0,R.getD 1 0,R.getD 2 0),WB T rfl (by rw [hTl]; rfl) (by rw [hTl,← hap]; rfl) rfl (X8 _)⟩
 have hgo:=VH h hd h4
 obtain ⟨b1,b2,b3,b4⟩:=Eh h hd h4
 have hn:=h.len
 refine X0 1000 ?_
 simp (disch:=omega) only [X5,X4,Xl,wD,↓X2,wA,seval,wE]
 refine Xe (fun p:Nat=>⟨7,[],[Xt L,.any,.any,.any,.ref 0 0 0,.osl 1 D.length 3 0 D.length,I p],[],[.row 0 1 (Xp [X9 (zs R)]),.row D.length (D.length*3) (Xw tC 3 (0,0,0) D)]⟩) (fun p=>p≤R.length - 1∧∀ j,j<p→C0 L R j=false) (fun p=>R.length - p) 0 ⟨by omega,fun j hj=>absurd hj (Nat.not_lt_zero j)⟩
  (Xa rfl (by simp [Xh,X5,I]) (by simp [Xi]) (by simp [X4,Xl])) ?_
 rintro p ⟨hp1,hno⟩ next2
 have ce:=oe L R p k h (by omega) hs (by omega)
 have c1:=Ep R p (-1) (p+R.length - 1) h.pos h.len (by have:=h.pos; omega) (by omega) (by omega) (by omega)
 have c2:=Ep R p 1 (p+R.length+1) h.pos h.len (by omega) (by omega) (by omega) (by omega)
 have cw:=Ms R p hn (by omega)
 have hre:=Bs h h4 (show p<R.length by omega)
 have hlr:(R.eraseIdx p).length=R.length - 1:=by rw [List.length_eraseIdx,if_pos (by omega)]
 have cc:=U8 L (R.eraseIdx p) k hre hs (by omega)
 rw [hlr] at cc
 rw [QK,X4,Xl] at ce c1 c2 cw
 by_cases hgo2:p<R.length - 1∧C0 L R p=false
 ·refine X0 1000 ?_
  simp (disch:=omega) only [X5,X4,Xl,wD,↓X2,wA,seval,wE]
  refine X1 ce rfl ?_
  simp (disch:=omega) only [hgo2.2,X5,X4,Xl,wD,↓X2,wA,seval,wE]
  exact next2 (p+1) _ ⟨by omega,JJ.2 ⟨hno,hgo2.2⟩⟩ (by omega) (Xa rfl (by simp [Xh,X5,I]) (by simp [Xi]) (by simp [X4,Xl]))
 have hep:I7 L R=p:=VL hp1 hno (by
  by_cases h1:p=R.length - 1
  ·exact .inl h1
  ·right
   cases he:C0 L R p with
   | true=>rfl
   | false=>exact absurd ⟨by omega,he⟩ hgo2)
 have hD:(D ++ [FB R p]) ++ Cj L (Cl L R).length (Cl L R)=T:=by rw [← hDT,hgo,hep,List.append_assoc]; rfl
 have hap:=Q0 tC 3 (0,0,0) D (FB R p) (by omega)
 have hcs:Zl L (R.length - 1) (R.eraseIdx p)=Cl L R:=by unfold Cl; rw [hep]
 rw [hcs] at cc
 have nx:=next (D ++ [FB R p],Cl L R)
 rw [List.length_append,List.length_singleton] at nx
 have htr:tC (FB R p)=[I (nr R (p+R.length - 1)),I (R.getD p 0:Nat),I (nr R (p+R.length+1))]:=rfl
 have hone:=Pb (FB R p)
 rw [htr] at hap hone
 generalize D ++ [FB R p]=D2 at *
 generalize Cl L R=R2 at *
 have v2:=Bh R p
 generalize nr R (p+R.length - 1)=a at *
 generalize nr R (p+R.length+1)=c at *
 generalize R.getD p 0=b at *
 clear hgo hcs htr
 refine X0 1000 ?_
 by_cases hl:p<R.length - 1
 have he:C0 L R p=true:=by
  cases he:C0 L R p with
  | true=>rfl
  | false=>exact absurd ⟨hl,he⟩ hgo2
 simp (disch:=omega) only [X5,X4,Xl,wD,↓X2,wA,seval,wE]
 refine X1 ce rfl ?_
 simp (disch:=omega) only [he,X5,X4,Xl,wD,↓X2,wA,seval,wE]
 rotate_left
 simp (disch:=omega) only [X5,X4,Xl,wD,↓X2,wA,seval,wE]
 all_goals
  refine X1 c1 rfl ?_
  simp (disch:=omega) only [X5,X4,Xl,v2,wD,↓X2,wA,seval,wE]
  refine X1 c2 rfl ?_
  simp (disch:=omega) only [X5,X4,Xl,v2,wD,↓X2,wA,seval,wE]
  refine ⟨hone,?_⟩
  refine X1 cw rfl ?_
  simp (disch:=omega) only [QK,X5,X4,Xl,wD,↓X2,wA,seval,wE]
  refine X1 cc (by simp only [QK,X4,Xl]; rfl) ?_
  simp (disch:=omega) only [QK,X5,X4,Xl,wD,↓X2,wA,seval,wE]
  exact nx _ ⟨b1,b2,b3,by show D.length+1+R2.length≤L.length; omega,hD⟩ (by show R2.length<R.length; omega) (Xa rfl (by simp [Xh,X5,I]) (by simp [Xi]) (by rw [← hap]; simp [X4,Xl,I,Pf]))
def jH (L:List V2) (d:Nat×Nat×Nat):List V2:=[L.getD d.1 v0,L.getD d.2.1 v0,L.getD d.2.2 v0]
def Kj (L:List V2):List (List V2):=(Ck L).map (jH L)
theorem Ld (L:List V2):∀ (f:Nat) (R:List Nat),Rok L R→R.Nodup→3≤R.length→∀ d∈Cj L f R,d.1<L.length∧d.2.1<L.length∧d.2.2<L.length
 | 0,R,h,_,_,d,hd=>by
  rw [List.mem_singleton.1 hd]
  exact ⟨h.mem 0,h.mem 1,h.mem 2⟩
 | f+1,R,h,hn,h3,d,hd=>by
  unfold Cj at hd
  split at hd
  ·rename_i h4
   obtain ⟨b1,b2,b3,_⟩:=Eh h hn h4
   rcases List.mem_cons.1 hd with rfl | hd
   ·exact ⟨h.mem _,h.mem _,h.mem _⟩
   ·exact Ld L f _ b1 b2 b3 d hd
  ·rw [List.mem_singleton.1 hd]
   exact ⟨h.mem 0,h.mem 1,h.mem 2⟩
theorem FQ (L:List V2):∀ (f:Nat) (R:List Nat),Rok L R→R.Nodup→3≤R.length→(Cj L f R).length≤R.length
 | 0,R,h,_,_=>h.pos
 | f+1,R,h,hn,h3=>by
  unfold Cj
  split
  ·rename_i h4
   obtain ⟨b1,b2,b3,b4⟩:=Eh h hn h4
   have:=FQ L f _ b1 b2 b3
   rw [List.length_cons]; omega
  ·exact h.pos
theorem cN (A B C:V2):Weak (Ih A B C).loose (Xt [A,B,C]):=by
 rw [XR,X5]
 show Weak (AV.sl 3 24 _ false) _
 refine WF (Nat.le_refl _) fun j hj=>?_
 have hj:j<24:=hj
 match j,hj with
 | 0,_=>rfl
 | 1,_=>rfl
 | 2,_=>rfl
 | 3,_=>rfl
 | 4,_=>rfl
 | 5,_=>rfl
 | 6,_=>rfl
 | 7,_=>rfl
 | 8,_=>rfl
 | 9,_=>rfl
 | 10,_=>rfl
 | 11,_=>rfl
 | 12,_=>rfl
 | 13,_=>rfl
 | 14,_=>rfl
 | 15,_=>rfl
 | 16,_=>rfl
 | 17,_=>rfl
 | 18,_=>rfl
 | 19,_=>rfl
 | 20,_=>rfl
 | 21,_=>rfl
 | 22,_=>rfl
 | 23,_=>rfl
 | j+24,h=>omega
theorem Zy (L:List V2):(Kj L).length=(Ck L).length:=by simp [Kj]
theorem Ef (L:List V2) (i:Nat) (h:i<(Ck L).length):(Kj L).getD i []=jH L ((Ck L).getD i (0,0,0)):=by
 unfold Kj
 rw [List.getD_eq_getElem?_getD,List.getElem?_map,List.getD_eq_getElem?_getD,List.getElem?_eq_getElem h]; rfl
theorem tF (T:List (Nat×Nat×Nat)) (i:Nat):Xw tC 3 (0,0,0) T (i*3)=I (T.getD i (0,0,0)).1∧Xw tC 3 (0,0,0) T (i*3+1)=I (T.getD i (0,0,0)).2.1∧Xw tC 3 (0,0,0) T (i*3+2)=I (T.getD i (0,0,0)).2.2 :=
 ⟨K6 _ _ _ _ _ (by omega),JS _ _ _ _ _ _ (by omega),JS _ _ _ _ _ _ (by omega)⟩
theorem I4 {H:List AO} (W:List (List V2)) (A B C:V2) (j:Nat) (hj:j<W.length+1):ZS H (QM W.length (Q4 Xt [] W) 1 (Xp [(Ih A B C).loose]) j) (Q4 Xt [] (W ++ [[A,B,C]]) j):=by
 unfold QM
 by_cases h:j<W.length
 ·rw [if_pos h,KY,KY]
  have:(W ++ [[A,B,C]]).getD j []=W.getD j []:=by rw [List.getD_eq_getElem?_getD,List.getD_eq_getElem?_getD,List.getElem?_append_left h]
  rw [this]; exact J3 _ _
 ·obtain rfl:j=W.length:=by omega
  rw [if_neg (by omega),if_pos (by omega),KY,Nat.sub_self]
  have:(W ++ [[A,B,C]]).getD W.length []=[A,B,C]:=by rw [List.getD_eq_getElem?_getD,List.getElem?_append_right (Nat.le_refl _),Nat.sub_self]; rfl
  rw [this]
  exact fun c v _ _ hv=>cN A B C c v hv
theorem p7 {P:Program} {fn:Func} {str hcs:List Nat} {s:AS} {t u id ver:Nat} {e:AV} (W:List (List V2)) (hr:fn.results=#[.tmp t,.tmp u]) (hs:s.get t=.osl id ver 1 0 W.length) (ho:s.h[id]?=some (.row ver W.length (Q4 Xt [] W))) (hu:s.get u=e) (he:Settled e):RetOk (Qr P fn str hcs (.tup [GL W,e])) s:=by
 refine Sv hr (Zt ⟨?_,QH he hu,trivial⟩)
 rw [hs,XC]
 refine QB (.inl ho) (by omega) (fun h=>h) fun j hj=>?_
 rw [Nat.zero_add]
 exact (Xf _).sees _
theorem oa (L:List V2) (k:Nat) (hs:XW L k) (hk:k≤1000) (hp:XO L):Fn Tryz.prog 246 [Xt L] (.tup [GL (Kj L),I 0]):=by
 have hl:=(KR L hp).1
 have cc:=od L k hs hk hp
 have hTl:(Ck L).length≤12:=by have:=FQ L L.length _ (Aw hl.1 (by omega)) List.nodup_range (by rw [List.length_range]; omega); rw [List.length_range] at this; unfold Ck; omega
 have hm:=Ld L L.length _ (Aw hl.1 (by omega)) List.nodup_range (by rw [List.length_range]; omega)
 have hcl:=Zy L
 have hca:=Ef L
 change ∀ d∈Ck L,_ at hm
 generalize Ck L=T at *
 generalize Kj L=C at *
 have hbL:Js 1 (Xt L)=True:=eq_true (X6 (Xf L))
 have hbT:Js 1 (jJ T)=True:=eq_true (X6 (HX T))
 refine Fq Tryz.call246 Tryz.func246 8 [] [6] [] (by simp [Xf]) (X0 1000 ?_)
 simp only [AS.start,X5,↓X2,wA,seval,wE]
 refine X1 cc rfl ?_
 simp only [X5,A9,↓X2,wA,seval,wE]
 refine Xe (fun i:Nat=>⟨8,[],[Xt L,.any,.any,.any,jJ T,I 0,.osl 0 i 1 0 i,I i],[],[.row i i (Q4 Xt [] (C.take i))]⟩) (fun i=>i≤T.length) (fun i=>T.length - i) 0 (by omega)
  (Sub.trans (Qi 6 1 (Q4 Xt [] []) rfl) (Xa rfl (by simp [AS.put,Xh,X5,A9,I]) (by simp [AS.put,Xi]) (by simp [AS.put]))) ?_
 intro i hi next
 have w1:=wj i (by omega)
 by_cases hi2:i<T.length
 rotate_left
 ·obtain rfl:i=T.length:=by omega
  refine X0 1000 ?_
  simp only [X5,A9,Int.lt_irrefl,Nat.lt_irrefl,↓X2,wA,seval,wE]
  rw [List.take_of_length_le (by omega)]
  exact p7 C rfl (by rw [hcl]; rfl) (by rw [hcl]; rfl) rfl (X8 _)
 have t1:=tF T i
 obtain ⟨m1,m2,m3⟩:=hm (T.getD i (0,0,0)) (JD hi2)
 have hc1:=hca i hi2
 have htk:C.take (i+1)=C.take i ++ [C.getD i []]:=Qs C [] i (by omega)
 have hwl:(C.take i).length=i:=by rw [List.length_take]; omega
 have nx:=next (i+1)
 rw [htk,hc1] at nx
 unfold jH at nx
 generalize (T.getD i (0,0,0)).1=a at *
 generalize (T.getD i (0,0,0)).2.1=b at *
 generalize (T.getD i (0,0,0)).2.2=c at *
 have va:=vF L a
 have vb:=vF L b
 have vc:=vF L c
 have hgr:=@I4 [.row (i+1) (i+1) (QM i (Q4 Xt [] (C.take i)) 1 (Xp [(Ih (L.getD a v0) (L.getD b v0) (L.getD c v0)).loose]))] (C.take i) (L.getD a v0) (L.getD b v0) (L.getD c v0)
 rw [hwl] at hgr
 generalize L.getD a v0=A at *
 generalize L.getD b v0=B at *
 generalize L.getD c v0=D at *
 generalize C.take i=W at *
 refine X0 1000 ?_
 simp (disch:=omega) only [X5,A9,t1,va,vb,vc,wD,Int.reduceToNat,↓X2,wA,seval,wE]
 exact nx _ (by omega) (by omega) (Sub.trans (Xa (s':=⟨8,[],[Xt L,.any,.any,.any,jJ T,I 0,.osl 0 (i+1) 1 0 (i+1),I (i+1:Nat)],[],[.row (i+1) (i+1) (QM i (Q4 Xt [] W) 1 (Xp [(Ih A B D).loose]))]⟩) rfl (by simp [Xh,X5,A9,I]) (by simp [Xi]) (by simp [XR,X4,AV.loose])) (Sub.trans (Zv 0 (Q4 Xt [] (W ++ [[A,B,D]])) rfl (fun j hj=>hgr j hj)) (Xa rfl (by simp [Xh]) (by simp [Xi]) rfl)))
theorem uG {P:Program} {fn:Func} {str hcs:List Nat} {b:Nat} {r1 r2:AV} {H:List AO} {s:AS} {t u:Nat} (hr:fn.results=#[.tmp t,.tmp u]) (h1:s.get t=r1) (h2:s.get u=r2) (hH:s.h=H):RetOk (GZ P fn str hcs b (.tup [r1,r2]) H) s :=
 ⟨.tup [r1,r2],by show KT P fn s=_; simp [KT,hr,J1,QA,A2,h1,h2],rfl,hH⟩
theorem rc (o1 o2:AO) (B1:∀ m,2≤m→XH m o1) (B2:∀ m,2≤m→XH m o2) (L:List V2) (k:Nat) (hs:XW L k) (hk:k≤1000) (hp:At L) :
  HCall Tryz.prog 245 [Xt L] [o1,o2] (.tup [.osl 2 (Kj L).length 1 0 (Kj L).length,I 0]) [o1,o2,.row (Kj L).length (Kj L).length (Q4 Xt [] (Kj L))]:=by
 have hl:=hp.1
 have cc:=mh L k hs hk hp
 have hTl:(Ck L).length≤12:=by have:=FQ L L.length _ (Aw hl.1 (by omega)) List.nodup_range (by rw [List.length_range]; omega); rw [List.length_range] at this; unfold Ck; omega
 have hm:=Ld L L.length _ (Aw hl.1 (by omega)) List.nodup_range (by rw [List.length_range]; omega)
 have hcl:=Zy L
 have hca:=Ef L
 change ∀ d∈Ck L,_ at hm
 generalize Ck L=T at *
 generalize Kj L=C at *
 have hbL:Js 3 (Xt L)=True:=eq_true (X6 (Xf L))
 have hbT:Js 3 (jJ T)=True:=eq_true (X6 (HX T))
 have q1:XH 3 o1=True:=eq_true (B1 3 (by omega))
 have q2:XH 3 o2=True:=eq_true (B2 3 (by omega))
 have s1:∀ v n f A B C,XH 3 (.row v (n+1) (QM n (Q4 Xt [] f) 1 (Xp [(Ih A B C).loose])))=True:=fun v n f A B C=>eq_true fun j hj=>by
  unfold QM
  have hset:Settled (Ih A B C).loose:=by rw [XR]; exact J2 fun j _=>Xd (l:=[_,_,_,_,_,_,_,_,_,_,_,_,_,_,_,_,_,_,_,_,_,_,_,_]) (by simp [X7,X3]) j
  split
  ·exact X6 (Xf _)
  ·rw [show j - n=0 by omega]
   exact X6 hset
 refine HCall.intro (fn:=Tryz.f245) Tryz.call245 Tryz.func245 rfl mixed 9 [14,15,16] [6,70000008] [] (by kernel_rfl) (Nat.le_of_ble_eq_true rfl) (X0 1000 ?_)
 simp only [AS.start,X5,↓X2,wA,seval,wE]
 refine X1 cc rfl ?_
 simp only [X5,A9,↓X2,wA,seval,wE]
 refine Xe (fun i:Nat=>⟨9,[14,15,16],[Xt L,.any,.any,.any,.any,I 0,.osl 2 i 1 0 i,.any,.any],[(14,jJ T),(15,I T.length),(16,I i)],[o1,o2,.row i i (Q4 Xt [] (C.take i))]⟩) (fun i=>i≤T.length) (fun i=>T.length - i) 0 (by omega)
  (Sub.trans (Qi 6 1 (Q4 Xt [] []) rfl) (Xa rfl (by simp [AS.put,Xh,X5,I]) (by simp [AS.put,Xi,Xv,A9,I]) (by simp [AS.put]))) ?_
 intro i hi next
 have w1:=wj i (by omega)
 by_cases hi2:i<T.length
 rotate_left
 ·obtain rfl:i=T.length:=by omega
  refine X0 1000 ?_
  simp only [X5,A9,Int.lt_irrefl,Nat.lt_irrefl,↓X2,wA,seval,wE]
  rw [List.take_of_length_le (by omega)]
  exact uG rfl (by rw [hcl]; rfl) rfl (by rw [hcl])
 have t1:=tF T i
 obtain ⟨m1,m2,m3⟩:=hm (T.getD i (0,0,0)) (JD hi2)
 have hc1:=hca i hi2
 have htk:C.take (i+1)=C.take i ++ [C.getD i []]:=Qs C [] i (by omega)
 have hwl:(C.take i).length=i:=by rw [List.length_take]; omega
 have nx:=next (i+1)
 rw [htk,hc1] at nx
 unfold jH at nx
 generalize (T.getD i (0,0,0)).1=a at *
 generalize (T.getD i (0,0,0)).2.1=b at *
 generalize (T.getD i (0,0,0)).2.2=c at *
 have va:=vF L a
 have vb:=vF L b
 have vc:=vF L c
 have hgr:=@I4 [o1,o2,.row (i+1) (i+1) (QM i (Q4 Xt [] (C.take i)) 1 (Xp [(Ih (L.getD a v0) (L.getD b v0) (L.getD c v0)).loose]))] (C.take i) (L.getD a v0) (L.getD b v0) (L.getD c v0)
 rw [hwl] at hgr
 generalize L.getD a v0=A at *
 generalize L.getD b v0=B at *
 generalize L.getD c v0=D at *
 generalize C.take i=W at *
 refine X0 1000 ?_
 simp (disch:=omega) only [X5,A9,t1,va,vb,vc,wD,Int.reduceToNat,↓X2,wA,seval,wE]
 exact nx _ (by omega) (by omega) (Sub.trans (Xz (m:=3) (s':=⟨9,[14,15,16],[Xt L,.any,.any,.any,.any,I 0,.osl 2 (i+1) 1 0 (i+1),.any,.any],[(14,jJ T),(15,I T.length),(16,I (i+1:Nat))],[o1,o2,.row (i+1) (i+1) (QM i (Q4 Xt [] W) 1 (Xp [(Ih A B D).loose]))]⟩) (by simp [GZ]) rfl (by simp [Xh,X5,I]) (by simp [Xi,Xv,A9,I]) (by simp [XR,X4,AV.loose]) (by simp [Xy,hbL]) (by simp [Xy,hbT]) (by simp [q1,q2,s1])) (Sub.trans (Zv 2 (Q4 Xt [] (W ++ [[A,B,D]])) rfl (fun j hj=>hgr j hj)) (Xa rfl (by simp [Xh]) (by simp [Xi,Xv]) rfl)))
def Ic (f:List V2→List V2) (C:List (List V2)) (i:Nat):List (List V2):=(C.take i).map f ++ C.drop i
theorem rW (f:List V2→List V2) (C:List (List V2)):Ic f C 0=C:=rfl
theorem iu (f:List V2→List V2) (C:List (List V2)):Ic f C C.length=C.map f:=by unfold Ic; simp
theorem nF (f:List V2→List V2) (C:List (List V2)) (i:Nat) (h:i<C.length):(Ic f C i).getD i []=C.getD i []:=by
 unfold Ic
 rw [List.getD_eq_getElem?_getD,List.getElem?_append_right (by simp; omega),List.getD_eq_getElem?_getD]
 simp [Nat.min_eq_left (Nat.le_of_lt h)]
theorem iv (f:List V2→List V2) (C:List (List V2)) (i:Nat) (h:i≤C.length):(Ic f C i).length=C.length:=by unfold Ic; simp; omega
theorem iw (f:List V2→List V2) (C:List (List V2)) (i:Nat) (h:i<C.length):(Ic f C i).set i (f (C.getD i []))=Ic f C (i+1):=by
 refine List.ext_getElem? fun j=>?_
 unfold Ic
 rw [List.getElem?_set]
 by_cases hj:i=j
 ·subst hj
  rw [if_pos rfl,if_pos (by simp; omega),List.getElem?_append_left (by simp; omega),List.getElem?_map,List.getElem?_take,if_pos (by omega),List.getElem?_eq_getElem h,List.getD_eq_getElem?_getD,List.getElem?_eq_getElem h]; rfl
 ·rw [if_neg hj]
  by_cases hlt:j<i
  ·rw [List.getElem?_append_left (by simp; omega),List.getElem?_append_left (by simp; omega),List.getElem?_map,List.getElem?_map,List.getElem?_take,List.getElem?_take,if_pos hlt,if_pos (by omega)]
  ·rw [List.getElem?_append_right (by simp; omega),List.getElem?_append_right (by simp; omega),List.getElem?_drop,List.getElem?_drop]
   congr 1
   simp; omega
def Ki (p:PV) (t c:V2):List (List V2):=(Kj (XB p.rim)).map (Ks t c)
theorem Ex {R:List (Int×Int)} (h:J0 R):XW (XB R) 3:=fun i=>by rw [Gv]; exact KB h i
theorem F1:vb v0≤3:=by
 have:=KB (R:=[]) (fun c hc=>absurd hc List.not_mem_nil) 0
 exact this
theorem DC (L:List V2) (k:Nat) (h:XW L k) (hk:3≤k) (i:Nat):XW ((Kj L).getD i []) k:=by
 by_cases hi:i<(Ck L).length
 ·rw [Ef L i hi]
  intro j
  unfold jH
  match j with
  | 0=>exact h _
  | 1=>exact h _
  | 2=>exact h _
  | j+3=>exact Nat.le_trans F1 hk
 ·have e:(Kj L).getD i []=[]:=by rw [List.getD_eq_getElem?_getD,List.getElem?_eq_none (by rw [Zy]; omega)]; rfl
  rw [e]
  exact fun j=>Nat.le_trans F1 hk
theorem Fb (L:List V2) (i:Nat) (hi:i<(Ck L).length):((Kj L).getD i []).length=3:=by rw [Ef L i hi]; rfl
theorem In {L:List V2} (hl:3≤L.length∧L.length≤12):(Ck L).length≤12:=by
 have:=FQ L L.length _ (Aw hl.1 (by omega)) List.nodup_range (by rw [List.length_range]; omega)
 rw [List.length_range] at this
 unfold Ck; omega
theorem Mm (l:List V2):(Xt l).cells=[Xt l]:=nrfl rfl
theorem Ta (l:List V2):(Xt l).one=true:=nrfl rfl
theorem Mn (l:List V2):(Xt l).loose=Xt l:=nrfl rfl
theorem NL (p:PV) (t c:V2) (hp:At (XB p.rim)) (hn:J0 p.rim) (ht:vb t≤1000) (hc:vb c≤1000):Fn Tryz.prog 202 [Qf p,We t c] (GL (Ki p t c)):=by
 have hl:=hp.1
 have hle:=In hl
 have hrl:(XB p.rim).length=p.rim.length:=by simp [XB]
 have r1:=OZ p (by omega) (AX hn)
 have sm:=Ex hn
 have hcs:=DC (XB p.rim) 3 sm (Nat.le_refl _)
 have h3:=Fb (XB p.rim)
 have hcl:=Zy (XB p.rim)
 have B1:∀ m,2≤m→XH m (.row 0 25 (Xp (XD p))):=fun m _=>XF (XE p)
 have B2:∀ m,2≤m→XH m (.row 0 16 (Xp (Gf t c))):=fun m _=>XF (KX t c)
 have co:=rc (.row 0 25 (Xp (XD p))) (.row 0 16 (Xp (Gf t c))) B1 B2 (XB p.rim) 3 sm (by omega) hp
 unfold Ki
 generalize XB p.rim=L at *
 rw [← hcl] at h3 hle
 generalize Kj L=C at *
 refine Fq Tryz.call202 Tryz.func202 9 [15,16,17] [] [] (by simp [Xu,ZO]) (X0 1000 ?_)
 simp (disch:=omega) only [AS.start,Qf,XD,We,Gf,wD,↓X2,wA,seval,wE]
 refine X1 r1 rfl ?_
 simp (disch:=omega) only [X5,wD,↓X2,wA,seval,wE]
 refine Z3 rfl co (QP (fun o h=>?_) (fun o h=>?_)) (fun id=>?_) (XS _) ?_
 ·simp only [List.mem_cons,List.not_mem_nil,or_false] at h
  rcases h with rfl | rfl <;> simp
 ·simp only [List.mem_cons,List.not_mem_nil,or_false] at h
  rcases h with rfl | rfl | rfl <;> simp
 ·match id with
  | 0=>simp
  | 1=>simp
  | n+2=>simp
 simp (disch:=omega) only [wD,↓X2,wA,seval,wE]
 refine Xe (fun i:Nat=>⟨9,[15,16,17],[.any,.any,.any,.ref 1 0 0,.any,.osl 2 C.length 1 0 C.length,.any,.any,.any],[(15,.osl 2 C.length 1 0 C.length),(16,I C.length),(17,I i)],[.row 0 25 (Xp (XD p)),.row 0 16 (Xp (Gf t c)),.row C.length C.length (Q4 Xt [] (Ic (Ks t c) C i))]⟩) (fun i=>i≤C.length) (fun i=>C.length - i) 0 (by omega)
  (Xa rfl (by simp [Xh,I]) (by simp [Xi,Xv,I]) (by simp [XD,Gf,X4,Xg,Xm,rW,I])) ?_
 intro i hi next
 by_cases hi2:i<C.length
 rotate_left
 ·obtain rfl:i=C.length:=by omega
  refine X0 1000 ?_
  simp (disch:=omega) only [wD,↓X2,wA,seval,wE]
  rw [iu]
  have hml:(C.map (Ks t c)).length=C.length:=List.length_map ..
  refine Av rfl ?_
  rw [XC,hml]
  refine QB (id:=2) (m:=C.length) (f:=Q4 Xt [] (C.map (Ks t c))) (.inl rfl) (by omega) (fun h=>h) fun j hj=>?_
  rw [Nat.zero_add]
  exact (Xf _).sees _
 have v1:=pX (Ic (Ks t c) C i) i
 rw [nF _ _ _ hi2] at v1
 have cm:=iV t c (C.getD i []) 3 (hcs i) (by omega) (by rw [h3 i hi2]; omega) (by omega) (by omega)
 refine X0 1000 ?_
 simp (disch:=omega) only [v1,wD,↓X2,wA,seval,wE]
 refine X1 cm rfl ?_
 simp (disch:=omega) only [Mm,Ta,Mn,wD,↓X2,wA,seval,wE]
 exact next (i+1) _ (by omega) (by omega) (Xa rfl (by simp [Xh]) (by simp [Xi,Xv,I]) (by rw [← iw _ _ _ hi2,← WE _ _ _ _ _ (by rw [iv _ _ _ hi]; exact hi2)]))
theorem HM (p:PV) (t c:V2) (hp:XO (XB p.rim)) (hn:J0 p.rim) (ht:vb t≤1000) (hc:vb c≤1000):Fn Tryz.prog 212 [Qf p,We t c] (GL (Ki p t c)):=by
 have hl:=(KR _ hp).1
 have hle:=In hl
 have hrl:(XB p.rim).length=p.rim.length:=by simp [XB]
 have r1:=Gu p (by omega) (AX hn)
 have sm:=Ex hn
 have hcs:=DC (XB p.rim) 3 sm (Nat.le_refl _)
 have h3:=Fb (XB p.rim)
 have hcl:=Zy (XB p.rim)
 have co:=oa (XB p.rim) 3 sm (by omega) hp
 unfold Ki
 generalize XB p.rim=L at *
 rw [← hcl] at h3 hle
 generalize Kj L=C at *
 have q1:XH 3 (.row 0 25 (Xp (XD p)))=True:=eq_true (XF (XE p))
 have q2:XH 3 (.con 0 16 (Xp (Gf t c)))=True:=eq_true (fun j _=>X6 (Xd (KX t c) j))
 have q3:∀ v n l,XH 3 (.row v n (Q4 Xt [] l))=True:=fun v n l=>eq_true fun j _=>X6 (Xf _)
 have q4:Js 3 (GL C)=True:=eq_true (X6 (K5 C))
 refine Fq Tryz.call212 Tryz.func212 9 [] [6,70000003] [] (by simp [Xu,ZO]) (X0 1000 ?_)
 simp (disch:=omega) only [AS.start,Qf,XD,We,Gf,wD,↓X2,wA,seval,wE]
 refine X1 r1 rfl ?_
 simp (disch:=omega) only [X5,wD,↓X2,wA,seval,wE]
 refine X1 co rfl ?_
 simp (disch:=omega) only [XC,wD,↓X2,wA,seval,wE]
 refine Xe (fun i:Nat=>⟨9,[],[.any,.any,.any,.ref 1 0 0,.any,GL C,.any,.osl 2 i 1 0 i,I i],[],[.row 0 25 (Xp (XD p)),.con 0 16 (Xp (Gf t c)),.row i i (Q4 Xt [] ((C.map (Ks t c)).take i))]⟩) (fun i=>i≤C.length) (fun i=>C.length - i) 0 (by omega)
  (Sub.trans (Qt 1 rfl) (Sub.trans (Qi 7 1 (Q4 Xt [] []) rfl) (Xa rfl (by simp [AS.put,Xh,XC,I]) (by simp [AS.put,Xi]) (by simp [AS.put,XD,Gf,X4,Xg,Xm,I])))) ?_
 have hml:(C.map (Ks t c)).length=C.length:=List.length_map ..
 intro i hi next
 by_cases hi2:i<C.length
 rotate_left
 ·obtain rfl:i=C.length:=by omega
  refine X0 1000 ?_
  simp (disch:=omega) only [XC,wD,↓X2,wA,seval,wE]
  rw [List.take_of_length_le (by omega)]
  refine Av rfl ?_
  rw [XC,hml]
  refine QB (id:=2) (m:=C.length) (f:=Q4 Xt [] (C.map (Ks t c))) (.inl rfl) (by omega) (fun h=>h) fun j hj=>?_
  rw [Nat.zero_add]
  exact (Xf _).sees _
 have v1:=pX C i
 have cm:=Sp t c (C.getD i []) 3 (hcs i) (by omega) (by rw [h3 i hi2]; omega) (by omega) (by omega)
 have hat:(C.map (Ks t c)).getD i []=Ks t c (C.getD i []):=by rw [List.getD_eq_getElem?_getD,List.getElem?_map,List.getD_eq_getElem?_getD,List.getElem?_eq_getElem hi2]; rfl
 have htk:(C.map (Ks t c)).take (i+1)=(C.map (Ks t c)).take i ++ [Ks t c (C.getD i [])]:=by rw [Qs _ [] i (by omega),hat]
 have hap:=IV Xt [] ((C.map (Ks t c)).take i) (Ks t c (C.getD i []))
 rw [← htk,List.length_take,Nat.min_eq_left (by omega),Nat.mul_one] at hap
 refine X0 1000 ?_
 simp (disch:=omega) only [XC,v1,wD,↓X2,wA,seval,wE]
 refine X1 cm rfl ?_
 simp (disch:=omega) only [Mm,Ta,Mn,wD,↓X2,wA,seval,wE]
 exact next (i+1) _ (by omega) (by omega) (Xa rfl (by simp [Xh,XC,I]) (by simp [Xi]) (by rw [← hap]))
def CC (f:FV):V2:=(f.lo.add f.hi).scale (Rat.divInt 1 2)
def Zz (a b:PV) (f:FV) (e:Rat):Bool:=FK (Ki a KI v0) (Ki b f.turn (CC f)) (-e)
structure GP (p:PV) (t:Rat):Prop where
 even:p.even
 poly:XO (XB p.rim)
 tol:p.tol=RQ.of t
 qt:qb t≤20
structure FV.fine (f:FV):Prop where
 turn:vb f.turn≤60
 lo:vb f.lo≤300
 hi:vb f.hi≤300
theorem Fa (p:PV) (t c:V2):(Ki p t c).length=(Ck (XB p.rim)).length:=by unfold Ki; rw [List.length_map,Zy]
theorem L9 (p:PV) (t c:V2) (hn:J0 p.rim) (ht:vb t≤100) (hc:vb c≤700):∀ i,i<(Ki p t c).length→Shp 1000 ((Ki p t c).getD i []):=fun i hi=>by
 rw [Fa] at hi
 have e:(Ki p t c).getD i []=Ks t c ((Kj (XB p.rim)).getD i []):=by
  unfold Ki
  rw [List.getD_eq_getElem?_getD,List.getElem?_map,List.getD_eq_getElem?_getD,List.getElem?_eq_getElem (by rw [Zy]; exact hi)]; rfl
 have hs:=DC (XB p.rim) 3 (Ex hn) (Nat.le_refl _) i
 have h3:=Fb (XB p.rim) i hi
 rw [e]
 generalize (Kj (XB p.rim)).getD i []=W at *
 have hl:(Ks t c W).length=3:=by unfold Ks; rw [List.length_map,h3]
 refine ⟨fun j=>?_,by omega,by omega⟩
 by_cases hj:j<W.length
 ·have ej:(Ks t c W).getD j v0=put t c (W.getD j v0):=by
   unfold Ks
   rw [List.getD_eq_getElem?_getD,List.getElem?_map,List.getD_eq_getElem?_getD,List.getElem?_eq_getElem hj]; rfl
  rw [ej]
  have:=sY t c (W.getD j v0)
  have:=hs j
  omega
 ·rw [List.getD_eq_getElem?_getD,List.getElem?_eq_none (by omega)]
  exact Nat.le_trans F1 (by omega)
theorem OT:qb (Rat.divInt 1 2)≤10:=by decide +kernel
theorem Vd (f:FV) (h:f.fine):vb (CC f)≤700:=by
 have h1:=Bc f.lo f.hi
 have h2:=jT (f.lo.add f.hi) (Rat.divInt 1 2)
 have:=OT
 have:=h.lo; have:=h.hi
 unfold CC; omega
theorem Ea:vb KI≤10:=by decide +kernel
theorem PZ (a b:PV) (f:FV) {ta tb:Rat} (ha:GP a ta) (hb:GP b tb) (hf:f.fine):(∀ i,i<(Ki a KI v0).length→Shp 1000 ((Ki a KI v0).getD i []))∧(∀ i,i<(Ki b f.turn (CC f)).length→Shp 1000 ((Ki b f.turn (CC f)).getD i [])) ∧
  (Ki a KI v0).length≤1000∧(Ki b f.turn (CC f)).length≤1000:=by
 have h1:=In (KR _ ha.poly).1
 have h2:=In (KR _ hb.poly).1
 have:=Ea
 have:=F1
 exact ⟨L9 a KI v0 ha.even.near (by omega) (by omega),L9 b f.turn (CC f) hb.even.near (by have:=hf.turn; omega) (Vd f hf),by rw [Fa]; omega,by rw [Fa]; omega⟩
theorem Td:Weak (.agg (vC KI ++ [.bool false,.sl 0 0 (fun _=>.any) true,.bool false,.sl 0 0 (fun _=>.any) true,.bool false,.sl 0 0 (fun _=>.any) true,.bool false,.sl 0 0 (fun _=>.any) true])) (We KI v0):=by
 refine XT ?_
 have h:=Mr true
 exact ⟨Weak.rfl' _,Weak.rfl' _,Weak.rfl' _,Weak.rfl' _,Weak.rfl' _,Weak.rfl' _,Weak.rfl' _,Weak.rfl' _,h⟩
theorem Nh (a b:PV) (f:FV) {ta tb:Rat} (ha:GP a ta) (hb:GP b tb) (hf:f.fine):Fn Tryz.prog 137 [Qf a,Qf b,Ke f] (.bool (Zz a b f (ta+tb))):=by
 have qa:=ha.qt; have q2:=hb.qt
 have f1:=hf.turn; have f2:=hf.lo; have f3:=hf.hi
 have c1:=Gd f.lo f.hi (by unfold vm; omega) (by unfold vm; omega)
 have c2:=Dg 1 2 (D0 (by omega) (by omega)) (D0 (by omega) (by omega))
 have m1:=Bc f.lo f.hi
 have m2:=Vd f hf
 have c3:=NQ (f.lo.add f.hi) (Rat.divInt 1 2) (by unfold vm; omega) (by have:=OT; unfold vm; omega)
 have c4:=NL a KI v0 (KR _ ha.poly) ha.even.near (by have:=Ea; omega) (by have:=F1; omega)
 have c5:=NL b f.turn (CC f) (KR _ hb.poly) hb.even.near (by omega) (by omega)
 have qe:=Jy ta tb
 have c6:Fn Tryz.prog 70 [a.tol.A,b.tol.A] (qA (ta+tb)):=by rw [ha.tol,hb.tol]; exact AM ta tb (by unfold rm; omega) (by unfold rm; omega)
 have c7:=De (ta+tb)
 obtain ⟨k1,k2,k3,k4⟩:=PZ a b f ha hb hf
 have c8:=l5 _ _ (-(ta+tb)) 1000 k1 k2 (by omega) (by omega) (by rw [BK]; omega) k3 k4
 change Fn _ _ [vA (f.lo.add f.hi),qA (Rat.divInt 1 2)] (vA (CC f)) at c3
 obtain ⟨V,hV⟩:∃ V,V=Zz a b f (ta+tb):=⟨_,rfl⟩
 change Fn _ _ _ (.tup [.any,.bool (Zz a b f (ta+tb))]) at c8
 rw [← hV] at c8 ⊢
 generalize CC f=M at *
 refine Fq Tryz.call137 Tryz.func137 10 [] [1,20000005,2,30000003,30000004,30000007] [] (by simp [Xu,XK]) (X0 1000 ?_)
 simp (disch:=omega) only [AS.start,Qf,XD,Ke,Q8,↓Xo,wD,↓X2,wA,seval,wE]
 refine X1 c1 rfl ?_
 simp (disch:=omega) only [↓Xo,wD,↓X2,wA,seval,wE]
 refine X1 c2 rfl ?_
 simp (disch:=omega) only [↓Xo,wD,↓X2,wA,seval,wE]
 refine X1 c3 rfl ?_
 simp (disch:=omega) only [↓Xo,wD,↓X2,wA,seval,wE]
 refine X1 bi rfl ?_
 simp (disch:=omega) only [↓Xo,wD,↓X2,wA,seval,wE]
 refine Qv c4 ⟨Weak.rfl' _,Td,trivial⟩ ?_
 simp (disch:=omega) only [XC,↓Xo,wD,↓X2,wA,seval,wE]
 refine X1 c5 rfl ?_
 simp (disch:=omega) only [XC,↓Xo,wD,↓X2,wA,seval,wE]
 refine X1 c6 rfl ?_
 simp (disch:=omega) only [XC,↓Xo,wD,↓X2,wA,seval,wE]
 refine X1 c7 rfl ?_
 simp (disch:=omega) only [XC,↓Xo,wD,↓X2,wA,seval,wE]
 refine X1 c8 rfl ?_
 simp (disch:=omega) only [↓Xo,wD,↓X2,wA,seval,wE]
 exact Xr rfl rfl (X3 _) rfl
theorem Sk (a b:PV) (f:FV) {ta tb:Rat} (ha:GP a ta) (hb:GP b tb) (hf:f.fine):Fn Tryz.prog 151 [Qf a,Qf b,Ke f] (.bool (Zz a b f (ta+tb))):=by
 have qa:=ha.qt; have q2:=hb.qt
 have f1:=hf.turn; have f2:=hf.lo; have f3:=hf.hi
 have c1:=Fw f.lo f.hi (by unfold vm; omega) (by unfold vm; omega)
 have c2:=Jt 1 2 (D0 (by omega) (by omega)) (D0 (by omega) (by omega))
 have m1:=Bc f.lo f.hi
 have m2:=Vd f hf
 have c3:=OX (f.lo.add f.hi) (Rat.divInt 1 2) (by unfold vm; omega) (by have:=OT; unfold vm; omega)
 have c4:=HM a KI v0 ha.poly ha.even.near (by have:=Ea; omega) (by have:=F1; omega)
 have c5:=HM b f.turn (CC f) hb.poly hb.even.near (by omega) (by omega)
 have qe:=Jy ta tb
 have c6:Fn Tryz.prog 76 [a.tol.A,b.tol.A] (qA (ta+tb)):=by rw [ha.tol,hb.tol]; exact Jz ta tb (by unfold rm; omega) (by unfold rm; omega)
 have c7:=ZD (ta+tb) (by unfold rm; omega)
 obtain ⟨k1,k2,k3,k4⟩:=PZ a b f ha hb hf
 have c8:=oc _ _ (-(ta+tb)) 1000 k1 k2 (by omega) (by omega) (by rw [BK]; omega) k3 k4
 change Fn _ _ [vA (f.lo.add f.hi),qA (Rat.divInt 1 2)] (vA (CC f)) at c3
 obtain ⟨V,hV⟩:∃ V,V=Zz a b f (ta+tb):=⟨_,rfl⟩
 change Fn _ _ _ (.tup [.any,.bool (Zz a b f (ta+tb))]) at c8
 rw [← hV] at c8 ⊢
 generalize CC f=M at *
 refine Fq Tryz.call151 Tryz.func151 11 [] [1,20000005,2,30000003,3,40000004,40000007] [] (by simp [Xu,XK]) (X0 1000 ?_)
 simp (disch:=omega) only [AS.start,Qf,XD,Ke,Q8,↓Xo,wD,↓X2,wA,seval,wE]
 refine X1 c1 rfl ?_
 simp (disch:=omega) only [↓Xo,wD,↓X2,wA,seval,wE]
 refine X1 c2 rfl ?_
 simp (disch:=omega) only [↓Xo,wD,↓X2,wA,seval,wE]
 refine X1 c3 rfl ?_
 simp (disch:=omega) only [↓Xo,wD,↓X2,wA,seval,wE]
 refine X1 OY rfl ?_
 simp (disch:=omega) only [↓Xo,wD,↓X2,wA,seval,wE]
 refine Qv c4 ⟨Weak.rfl' _,Td,trivial⟩ ?_
 simp (disch:=omega) only [XC,↓Xo,wD,↓X2,wA,seval,wE]
 refine X1 c5 rfl ?_
 simp (disch:=omega) only [XC,↓Xo,wD,↓X2,wA,seval,wE]
 refine X1 c6 rfl ?_
 simp (disch:=omega) only [XC,↓Xo,wD,↓X2,wA,seval,wE]
 refine X1 c7 rfl ?_
 simp (disch:=omega) only [XC,↓Xo,wD,↓X2,wA,seval,wE]
 refine X1 c8 rfl ?_
 simp (disch:=omega) only [↓Xo,wD,↓X2,wA,seval,wE]
 exact Xr rfl rfl (X3 _) rfl
def JK (a b:PV) (f:FV) (e:Rat):Int :=
 if Cp a.rim.length b.rim.length f then if Gg a b f then if MI a b f then
  if (XJ a.rim b.rim f e).2.2=true∧(XJ a.rim b.rim f e).1=f.lo∧(XJ a.rim b.rim f e).2.1=f.hi then if Zz a b f e=true then 0 else 13
  else 22 else 21 else 12 else 5
theorem T6 (a b:PV) (f:FV) (na:J0 a.rim) (nb:J0 b.rim) (e:Rat) (ht:vb f.turn≤1000) (qe:qb e≤3000):vb (XJ a.rim b.rim f e).1≤7000∧vb (XJ a.rim b.rim f e).2.1≤7000:=by
 have z:=F1
 have h1:=Cz na nb f ht f.M.toNat
 have h2:=Cx na nb f ht f.M.toNat
 have h3:=Kd (AL a.rim b.rim f f.M.toNat) ⟨e,e⟩
 have h4:=Bc (AK a.rim b.rim f f.M.toNat) ⟨e,e⟩
 have h5:vb ⟨e,e⟩=qb e:=by unfold vb; simp
 unfold XJ
 split
 ·simp only
  split
  ·exact ⟨by show vb v0≤_; omega,by show vb v0≤_; omega⟩
  ·exact ⟨by simp only; omega,by simp only; omega⟩
 ·exact ⟨by show vb v0≤_; omega,by show vb v0≤_; omega⟩
theorem Sj (a b:PV) (f:FV) {ta tb:Rat} (ha:GP a ta) (hb:GP b tb) (hf:f.fine):Fn Tryz.prog 61 [Qf a,Qf b,Ke f] (I (JK a b f (ta+tb))):=by
 obtain ⟨V,hV⟩:∃ V,V=JK a b f (ta+tb):=⟨_,rfl⟩
 rw [← hV]
 unfold JK at hV
 have qa:=ha.qt; have q2:=hb.qt
 have qe:=Jy ta tb
 have f1:=hf.turn; have f2:=hf.lo; have f3:=hf.hi
 have fin:∀ {s:AS} {n:Int},s.get 6=I n→n=V→RetOk (Qr Tryz.prog Tryz.f61 [] [] (I V)) s:=fun h e=>Xr rfl h (X8 _) (by rw [e])
 have c1:=HO a b f ha.even.rim hb.even.rim
 have c4:=NT a b f ha.even hb.even (by omega) ha.tol hb.tol (by omega) (by omega)
 have ⟨g1,g2⟩:=T6 a b f ha.even.near hb.even.near (ta+tb) (by omega) (by omega)
 have c7:=Sk a b f ha hb hf
 refine Fq Tryz.call61 Tryz.func61 10 [] [] [] (by simp [Xu,XK]) (X0 1000 ?_)
 simp (disch:=omega) only [AS.start,Qf,XD,Ke,Q8,↓Xo,wD,↓X2,wA,seval,wE]
 refine X1 c1 rfl ?_
 by_cases h1:Cp a.rim.length b.rim.length f
 rotate_left
 ·simp (disch:=omega) only [decide_eq_false h1,↓Xo,wD,↓X2,wA,seval,wE]
  exact fin rfl (by rw [hV,if_neg h1])
 have c2:=P2 a b f h1 ha.even hb.even
 have c3:=PE a b f h1 ha.even hb.even (by unfold vm; omega)
 rw [if_pos h1] at hV
 simp (disch:=omega) only [decide_eq_true h1,↓Xo,wD,↓X2,wA,seval,wE]
 refine X1 c2 rfl ?_
 by_cases h2:Gg a b f
 rotate_left
 ·simp (disch:=omega) only [decide_eq_false h2,↓Xo,wD,↓X2,wA,seval,wE]
  exact fin rfl (by rw [hV,if_neg h2])
 rw [if_pos h2] at hV
 simp (disch:=omega) only [decide_eq_true h2,↓Xo,wD,↓X2,wA,seval,wE]
 refine X1 c3 rfl ?_
 by_cases h3:MI a b f
 rotate_left
 ·simp (disch:=omega) only [decide_eq_false h3,↓Xo,wD,↓X2,wA,seval,wE]
  exact fin rfl (by rw [hV,if_neg h3])
 rw [if_pos h3] at hV
 simp (disch:=omega) only [decide_eq_true h3,↓Xo,wD,↓X2,wA,seval,wE]
 refine X1 c4 rfl ?_
 generalize XJ a.rim b.rim f (ta+tb)=G at *
 obtain ⟨lo,hi,ok⟩:=G
 simp only at hV g1 g2
 have c5:=Db lo f.lo (by unfold vm; omega) (by unfold vm; omega)
 have c6:=Db hi f.hi (by unfold vm; omega) (by unfold vm; omega)
 cases ok with
 | false =>
  simp (disch:=omega) only [↓Xo,wD,↓X2,wA,seval,wE]
  exact fin rfl (by rw [hV,if_neg (fun h=>by cases h.1)])
 | true =>
  simp (disch:=omega) only [↓Xo,wD,↓X2,wA,seval,wE]
  refine X1 c5 rfl ?_
  by_cases h4:lo=f.lo
  rotate_left
  ·simp (disch:=omega) only [decide_eq_false h4,↓Xo,wD,↓X2,wA,seval,wE]
   exact fin rfl (by rw [hV,if_neg (fun h=>h4 h.2.1)])
  simp (disch:=omega) only [decide_eq_true h4,↓Xo,wD,↓X2,wA,seval,wE]
  refine X1 c6 rfl ?_
  by_cases h5:hi=f.hi
  rotate_left
  ·simp (disch:=omega) only [decide_eq_false h5,↓Xo,wD,↓X2,wA,seval,wE]
   exact fin rfl (by rw [hV,if_neg (fun h=>h5 h.2.2)])
  rw [if_pos ⟨rfl,h4,h5⟩] at hV
  simp (disch:=omega) only [decide_eq_true h5,↓Xo,wD,↓X2,wA,seval,wE]
  refine X1 c7 rfl ?_
  cases h6:Zz a b f (ta+tb) with
  | false =>
   simp (disch:=omega) only [↓Xo,wD,↓X2,wA,seval,wE]
   exact fin rfl (by rw [hV,h6]; rfl)
  | true =>
   simp (disch:=omega) only [↓Xo,wD,↓X2,wA,seval,wE]
   exact fin rfl (by rw [hV,h6]; rfl)
theorem Ng (a b:PV) (f:FV) {ta tb:Rat} (ha:GP a ta) (hb:GP b tb) (hf:f.fine):Fn Tryz.prog 52 [Qf a,Qf b,Ke f] (I (JK a b f (ta+tb))):=by
 obtain ⟨V,hV⟩:∃ V,V=JK a b f (ta+tb):=⟨_,rfl⟩
 rw [← hV]
 unfold JK at hV
 have qa:=ha.qt; have q2:=hb.qt
 have qe:=Jy ta tb
 have f1:=hf.turn; have f2:=hf.lo; have f3:=hf.hi
 have fin:∀ {s:AS} {n:Int},s.get 6=I n→n=V→RetOk (Qr Tryz.prog Tryz.f52 [] [] (I V)) s:=fun h e=>Xr rfl h (X8 _) (by rw [e])
 have c1:=Hx a b f ha.even.rim hb.even.rim
 have c4:=IK a b f ha.even hb.even (by omega) ha.tol hb.tol (by omega) (by omega)
 have ⟨g1,g2⟩:=T6 a b f ha.even.near hb.even.near (ta+tb) (by omega) (by omega)
 have c7:=Nh a b f ha hb hf
 refine Fq Tryz.call52 Tryz.func52 10 [] [] [] (by simp [Xu,XK]) (X0 1000 ?_)
 simp (disch:=omega) only [AS.start,Qf,XD,Ke,Q8,↓Xo,wD,↓X2,wA,seval,wE]
 refine X1 c1 rfl ?_
 by_cases h1:Cp a.rim.length b.rim.length f
 rotate_left
 ·simp (disch:=omega) only [decide_eq_false h1,↓Xo,wD,↓X2,wA,seval,wE]
  exact fin rfl (by rw [hV,if_neg h1])
 have c2:=HK a b f h1 ha.even hb.even
 have c3:=TR a b f h1 ha.even hb.even
 have cl:=Dy a b f f.M.toNat
 have hM:f.M.toNat<1000000:=by have:=h1.2.2.2.1; have:=ha.even.rim; omega
 have ca:=MY (Qu a b f f.M.toNat) 142 [pH f] (fun x=>decide (x=f.turn)) (by omega) (fun x hx=>by rw [List.mem_singleton.1 hx]; exact Ce f) (fun x hx=>YT x f (by have:=F9 a b f ha.even.near hb.even.near _ x hx; unfold vm; omega) (by unfold vm; omega))
 have hany:(Qu a b f f.M.toNat).any (fun x=>decide (x=f.turn))=decide (MI a b f):=by
  have:=IR a b f f.turn f.M.toNat
  cases hq:(Qu a b f f.M.toNat).any (fun x=>decide (x=f.turn)) with
  | true=>exact (decide_eq_true (p:=MI a b f) (this.1 hq)).symm
  | false=>exact (decide_eq_false (p:=MI a b f) (fun hh=>by rw [this.2 hh] at hq; cases hq)).symm
 rw [hany] at ca
 generalize Qu a b f f.M.toNat=W at *
 have sB:JT [.row 0 25 (Xp (XD a)),.row 0 25 (Xp (XD b)),.row 0 29 (Xp (Q8 f))] (.ref 2 0 0) (pH f):=KU (.inl rfl) (by omega) fun j hj=>(Xd (Qe f) j).sees _
 rw [if_pos h1] at hV
 simp (disch:=omega) only [decide_eq_true h1,↓Xo,wD,↓X2,wA,seval,wE]
 refine X1 c2 rfl ?_
 by_cases h2:Gg a b f
 rotate_left
 ·simp (disch:=omega) only [decide_eq_false h2,↓Xo,wD,↓X2,wA,seval,wE]
  exact fin rfl (by rw [hV,if_neg h2])
 rw [if_pos h2] at hV
 simp (disch:=omega) only [decide_eq_true h2,↓Xo,wD,↓X2,wA,seval,wE]
 refine X1 c3 rfl ?_
 simp (disch:=omega) only [X5,↓Xo,wD,↓X2,wA,seval,wE]
 refine JH ca rfl ⟨(Xf W).sees _,Cd ⟨sB,trivial⟩,trivial⟩ (Ap _) ?_
 by_cases h3:MI a b f
 rotate_left
 ·simp (disch:=omega) only [decide_eq_false h3,↓Xo,wD,↓X2,wA,seval,wE]
  exact fin rfl (by rw [hV,if_neg h3])
 rw [if_pos h3] at hV
 simp (disch:=omega) only [decide_eq_true h3,↓Xo,wD,↓X2,wA,seval,wE]
 refine X1 c4 rfl ?_
 generalize XJ a.rim b.rim f (ta+tb)=G at *
 obtain ⟨lo,hi,ok⟩:=G
 simp only at hV g1 g2
 have c5:=OP lo f.lo (by unfold vm; omega) (by unfold vm; omega)
 have c6:=OP hi f.hi (by unfold vm; omega) (by unfold vm; omega)
 cases ok with
 | false =>
  simp (disch:=omega) only [↓Xo,wD,↓X2,wA,seval,wE]
  exact fin rfl (by rw [hV,if_neg (fun h=>by cases h.1)])
 | true =>
  simp (disch:=omega) only [↓Xo,wD,↓X2,wA,seval,wE]
  refine X1 c5 rfl ?_
  by_cases h4:lo=f.lo
  rotate_left
  ·simp (disch:=omega) only [decide_eq_false h4,↓Xo,wD,↓X2,wA,seval,wE]
   exact fin rfl (by rw [hV,if_neg (fun h=>h4 h.2.1)])
  simp (disch:=omega) only [decide_eq_true h4,↓Xo,wD,↓X2,wA,seval,wE]
  refine X1 c6 rfl ?_
  by_cases h5:hi=f.hi
  rotate_left
  ·simp (disch:=omega) only [decide_eq_false h5,↓Xo,wD,↓X2,wA,seval,wE]
   exact fin rfl (by rw [hV,if_neg (fun h=>h5 h.2.2)])
  rw [if_pos ⟨rfl,h4,h5⟩] at hV
  simp (disch:=omega) only [decide_eq_true h5,↓Xo,wD,↓X2,wA,seval,wE]
  refine X1 c7 rfl ?_
  cases h6:Zz a b f (ta+tb) with
  | false =>
   simp (disch:=omega) only [↓Xo,wD,↓X2,wA,seval,wE]
   exact fin rfl (by rw [hV,h6]; rfl)
  | true =>
   simp (disch:=omega) only [↓Xo,wD,↓X2,wA,seval,wE]
   exact fin rfl (by rw [hV,h6]; rfl)
def Ql (a b:PV) (f:FV) (e:Rat):FV:={ f with lo:=(XJ a.rim b.rim f e).1,hi:=(XJ a.rim b.rim f e).2.1 }
theorem P7 (a b:PV) (f:FV) {ta tb:Rat} (ha:GP a ta) (hb:GP b tb) (hf:f.fine):Fn Tryz.prog 110 [Qf a,Qf b,Ke f] (Ke (Ql a b f (ta+tb)))∧Fn Tryz.prog 112 [Qf a,Qf b,Ke f] (Ke (Ql a b f (ta+tb))):=by
 have qa:=ha.qt; have q2:=hb.qt
 have f1:=hf.turn
 have c1:=IK a b f ha.even hb.even (by omega) ha.tol hb.tol (by omega) (by omega)
 have c2:=NT a b f ha.even hb.even (by omega) ha.tol hb.tol (by omega) (by omega)
 obtain ⟨R,hR⟩:∃ R,R=Ke (Ql a b f (ta+tb)):=⟨_,rfl⟩
 have sR:Settled R:=hR▸XK _
 rw [← hR]
 unfold Ql at hR
 generalize XJ a.rim b.rim f (ta+tb)=G at *
 obtain ⟨lo,hi,ok⟩:=G
 constructor
 refine Fq Tryz.call110 Tryz.func110 7 [] [] [] (by simp [Xu,XK]) (X0 1000 ?_)
 rotate_left
 refine Fq Tryz.call112 Tryz.func112 10 [] [] [] (by simp [Xu,XK]) (X0 1000 ?_)
 all_goals
  simp (disch:=omega) only [AS.start,Qf,XD,Ke,Q8,↓Xo,wD,↓X2,wA,seval,wE]
  first | refine X1 c1 rfl ?_ | refine X1 c2 rfl ?_
  simp (disch:=omega) only [↓Xo,wD,↓X2,wA,seval,wE]
  exact Zh rfl Nu rfl rfl rfl sR (hR.trans rfl)
def BD:FV:=⟨0,0,0,0,0,v0,v0,v0⟩
def DO (a b:PV) (f:FV) (ca cb:PV) (ta tb sa sb:Rat):FV×Int :=
 if (a=Bf a ca∧ta≤sa)∧(b=Bf b cb∧tb≤sb) then if JK a b f (ta+tb)=0 then (Ql ca cb f (sa+sb),0) else (BD,JK a b f (ta+tb)) else (BD,1)
def Ed:List AV:=[I 0,I 0,I 0,I 0,I 0] ++ (Zd ++ (Zd ++ Zd))
theorem Mq:WeakL Ed (Q8 BD):=by
 obtain ⟨w1,w2,w3,w4,w5,w6,w7,w8,_⟩:=Za
 exact ⟨Weak.rfl' _,Weak.rfl' _,Weak.rfl' _,Weak.rfl' _,Weak.rfl' _,w1,w2,w3,w4,w5,w6,w7,w8,w1,w2,w3,w4,w5,w6,w7,w8,w1,w2,w3,w4,w5,w6,w7,w8,trivial⟩
theorem UB (a b:PV) (f:FV) (ca cb:PV) {ta tb sa sb:Rat} (ha:GP a ta) (hb:GP b tb) (hca:GP ca sa) (hcb:GP cb sb) (h1:a.small) (h2:b.small) (h3:ca.small) (h4:cb.small) (hf:f.fine) :
  Fn Tryz.prog 31 [Qf a,Qf b,Ke f,Qf ca,Qf cb] (.tup [Ke (DO a b f ca cb ta tb sa sb).1,I (DO a b f ca cb ta tb sa sb).2]) ∧
  Fn Tryz.prog 34 [Qf a,Qf b,Ke f,Qf ca,Qf cb] (.tup [Ke (DO a b f ca cb ta tb sa sb).1,I (DO a b f ca cb ta tb sa sb).2]):=by
 have i1:=RJ a ca h1 h3 ha.tol hca.tol
 have i2:=RJ b cb h2 h4 hb.tol hcb.tol
 have j1:=VX a ca h1 h3 ha.tol hca.tol
 have j2:=VX b cb h2 h4 hb.tol hcb.tol
 have k1:=Ng a b f ha hb hf
 have k2:=Sj a b f ha hb hf
 obtain ⟨s1,s2⟩:=P7 ca cb f hca hcb hf
 obtain ⟨R,hR⟩:∃ R,R=DO a b f ca cb ta tb sa sb:=⟨_,rfl⟩
 rw [← hR]
 unfold DO at hR
 generalize JK a b f (ta+tb)=k at *
 generalize Ql ca cb f (sa+sb)=G at *
 constructor
 refine Fq Tryz.call31 Tryz.func31 13 [] [] [] (by simp [Xu,XK]) (X0 1000 ?_)
 rotate_left
 refine Fq Tryz.call34 Tryz.func34 13 [] [] [] (by simp [Xu,XK]) (X0 1000 ?_)
 all_goals
  simp (disch:=omega) only [AS.start,Qf,XD,Ke,Q8,↓Xo,wD,↓X2,wA,seval,wE]
  first | refine X1 i1 rfl ?_ | refine X1 j1 rfl ?_
  by_cases g1:a=Bf a ca∧ta≤sa
  rotate_left
  ·simp (disch:=omega) only [decide_eq_false g1,↓Xo,wD,↓X2,wA,seval,wE]
   rw [if_neg (fun h=>g1 h.1)] at hR
   subst hR
   exact QV rfl (Xq (L:=Ed) Nu rfl rfl rfl) (by unfold QA; rfl) (Xs (XK _) (XT Mq)) ((X8 _).sees _)
  simp (disch:=omega) only [decide_eq_true g1,↓Xo,wD,↓X2,wA,seval,wE]
  first | refine X1 i2 rfl ?_ | refine X1 j2 rfl ?_
  by_cases g2:b=Bf b cb∧tb≤sb
  rotate_left
  ·simp (disch:=omega) only [decide_eq_false g2,↓Xo,wD,↓X2,wA,seval,wE]
   rw [if_neg (fun h=>g2 h.2)] at hR
   subst hR
   exact QV rfl (Xq (L:=Ed) Nu rfl rfl rfl) (by unfold QA; rfl) (Xs (XK _) (XT Mq)) ((X8 _).sees _)
  rw [if_pos ⟨g1,g2⟩] at hR
  simp (disch:=omega) only [decide_eq_true g2,↓Xo,wD,↓X2,wA,seval,wE]
  first | refine X1 k1 rfl ?_ | refine X1 k2 rfl ?_
  by_cases g3:k=0
  rotate_left
  ·simp (disch:=omega) only [↓Xo,wD,↓X2,wA,seval,wE]
   rw [if_neg g3] at hR
   subst hR
   exact QV rfl (Xq (L:=Ed) Nu rfl rfl rfl) (by unfold QA; rfl) (Xs (XK _) (XT Mq)) ((X8 _).sees _)
  simp (disch:=omega) only [↓Xo,wD,↓X2,wA,seval,wE]
  rw [if_pos g3] at hR
  first | refine X1 s1 rfl ?_ | refine X1 s2 rfl ?_
  simp (disch:=omega) only [Ke,Q8,↓Xo,wD,↓X2,wA,seval,wE]
  subst hR
  exact QV rfl (Xq (L:=Q8 G) Nu rfl rfl rfl) (by unfold QA; rfl) (QH (XK _) rfl) ((X8 _).sees _)
end
end Go.Ab.N
