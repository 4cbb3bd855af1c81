/- Contracts of functions of these chapters, for every argument that fits, and what they need. -/
import Derived.Test.YtefjhgcndhepeaaGreatC14
import Derived.Test.YtefjhgcndhepeaaGreatC13
import Derived.Test.YtefjhgcndhepeaaGreatC12
set_option linter.unusedSimpArgs false
set_option linter.unusedVariables false
open Nat renaming reducePow → Y1, reduceLT → Y2, reduceLeDiff → Y3, reduceEqDiff → Y4, reduceAdd → Y5, reduceMul → Y6, reduceSub → Y7, reduceBEq → Y8, reduceDiv → Y9, reduceMod → YA
namespace Go.Ab.N
open Go Go.RowKit Go.Proofs
set_option maxRecDepth 10000
set_option maxHeartbeats 4000000
theorem cU {a b t:V2} (h:Q4 a a≠0∧Q4 a a=Q4 b b∧Q4 a b / Q4 a a=t.x∧Q8 a b / Q4 a a=t.y):JX a b=(t,0):=by
 obtain ⟨h1,h2,h3,h4⟩:=h
 unfold JX
 rw [if_neg (by rw [← h2]; simp [h1]),if_pos h2]
 rw [Prod.mk.injEq,V2.ext']
 exact ⟨⟨h3,h4⟩,rfl⟩
open Classical in
end Go.Ab.N
namespace Go.Ab.N
open Go Go.RowKit Go.Proofs
noncomputable section
set_option maxRecDepth 10000
set_option maxHeartbeats 4000000
open Classical
theorem mq (p:Int×Int):(Kv p).length=2:=rfl
theorem Sd (R:List (Int×Int)) (n m:Nat) (t:Bool) (l:List AV) (hl:l=R.flatMap Kv) (hn:n=R.length) (hm:m=R.length*2) (h0:0<R.length):Weak (.sl n m (Xk l) t) (Ld R):=by
 subst hn hm hl
 rw [Xu]
 exact Dm (by rfl) (Nat.le_refl _) fun j hj=>by rw [Mj Kv 2 (0,0) (by omega) mq R j hj]; exact Weak.rfl' _
theorem fm {f:FV} (h:f.fine):vb f.turn≤vm∧vb f.lo≤vm∧vb f.hi≤vm:=by
 obtain ⟨h1,h2,h3⟩:=h
 unfold vm
 exact ⟨by omega,by omega,by omega⟩
theorem PU {n m:Nat} {f:FV} (hn:n≤12) (hm:m≤12) (h:(0≤f.EA∧f.EA<n)∧(0≤f.EB∧f.EB<m)∧1≤f.M∧f.M<n∧f.M<m):f.near:=⟨by omega,by omega,by omega⟩
theorem go (g:Nat→Rat):∀ n,∃ k,k≤n∧oh g n=g k
 | 0=>⟨0,Nat.le_refl _,rfl⟩
 | n+1=>by
  obtain ⟨k,hk,e⟩:=go g n
  unfold oh MC
  split
  ·exact ⟨n+1,Nat.le_refl _,rfl⟩
  ·exact ⟨k,by omega,e⟩
theorem gi (g:Nat→Rat):∀ n,∃ k,k≤n∧oe g n=g k
 | 0=>⟨0,Nat.le_refl _,rfl⟩
 | n+1=>by
  obtain ⟨k,hk,e⟩:=gi g n
  unfold oe Mz
  split
  ·exact ⟨n+1,Nat.le_refl _,rfl⟩
  ·exact ⟨k,by omega,e⟩
def bk (t:V2):V2:=⟨t.x,-t.y⟩
def rv (t a:V2):V2:=D3 (ZB (bk t) a)
theorem cW (A B:List (List V2)) (e:Rat):Cu A B e=true↔∀ x∈A,∀ y∈B,(A2 x y e).2=true:=by
 rw [jH]
 unfold ph
 simp only [List.all_eq_true,Rh]
theorem YM (L:List V2):Zw Qm v0 L=L:=by
 unfold Zw
 have:∀ x,put Qm v0 x=x:=fun x=>by unfold put Qm ZB V2.add v0; rw [V2.ext']; exact ⟨by simp only; grind,by simp only; grind⟩
 rw [show put Qm v0=id from funext this,List.map_id]
theorem OY (p:PV):JD p Qm v0=Qf (Xp p.rim):=by
 unfold JD
 rw [show Zw Qm v0=id from funext YM,List.map_id]
theorem Sh (lo hi a:Rat) (h1:qb lo≤rm) (h2:qb hi≤rm) (h3:qb a≤rm):Fn Tryz.prog 160 [qA lo,qA hi,qA a] (.tup [qA (Mz lo a),qA (MC hi a)]):=by
 have c1:=Qw a lo h3 h1
 have c2:=Qw a hi h3 h2
 have l1:=ZV a lo
 have l2:=KN a hi
 generalize QZ a lo=x at *
 generalize QZ a hi=y at *
 unfold Mz MC
 refine Fr Tryz.call160 Tryz.func160 8 [] [5,60000003,60000004] [] ?_
 simp (disch:=omega) only [AS.start,↓XK,wG,seval]
 refine X0 c1 rfl ?_
 by_cases g1:x<0
 all_goals by_cases g2:0<y
 all_goals
  first
   | rw [if_pos (l1.1 g1)]
   | rw [if_neg (fun h=>g1 (l1.2 h))]
  first
   | rw [if_pos (l2.1 g2)]
   | rw [if_neg (fun h=>g2 (l2.2 h))]
  simp (disch:=omega) only [↓XK,wG,seval]
  refine X0 c2 rfl ?_
  simp (disch:=omega) only [↓XK,wG,seval]
  exact Kd rfl (Xl Qe rfl rfl rfl) (Xl Qe rfl rfl rfl) ((Xa _).sees _) ((Xa _).sees _)
def dp (g:Nat→Rat):Nat→Rat
 | 0=>g 0
 | k+1=>Mz (dp g k) (g k)
def dI (g:Nat→Rat):Nat→Rat
 | 0=>g 0
 | k+1=>MC (dI g k) (g k)
def CG (L:List V2) (k:Nat):V2:=⟨dp (fun j=>(L.getD j v0).x) k,dp (fun j=>(L.getD j v0).y) k⟩
def CF (L:List V2) (k:Nat):V2:=⟨dI (fun j=>(L.getD j v0).x) k,dI (fun j=>(L.getD j v0).y) k⟩
theorem TQ (g:Nat→Rat) (c:Nat) (h:∀ k,qb (g k)≤c):∀ n,qb (dp g n)≤c
 | 0=>h 0
 | n+1=>gO _ _ _ (TQ g c h n) (h _)
theorem TR (g:Nat→Rat) (c:Nat) (h:∀ k,qb (g k)≤c):∀ n,qb (dI g n)≤c
 | 0=>h 0
 | n+1=>gP _ _ _ (TR g c h n) (h _)
theorem pF (L:List V2) (c:Nat) (h0:0<L.length) (hl:L.length<1000000) (hs:Qk L c) (hc:c≤100000):Fn Tryz.prog 72 [Xw L] (.tup [vA (CG L L.length),vA (CF L L.length)]):=by
 have hx:∀ k,qb (L.getD k v0).x≤c:=fun k=>Nat.le_trans (QL _) (hs k)
 have hy:∀ k,qb (L.getD k v0).y≤c:=fun k=>Nat.le_trans (QG _) (hs k)
 have s1:=TQ (fun j=>(L.getD j v0).x) c hx
 have s2:=TQ (fun j=>(L.getD j v0).y) c hy
 have s3:=TR (fun j=>(L.getD j v0).x) c hx
 have s4:=TR (fun j=>(L.getD j v0).y) c hy
 have p1:=fun X j h=>Jy vC 8 v0 L X j h
 have p2:=fun X=>JQ vC 8 v0 L X (by omega)
 have bL:Kn 4 (Xw L)=True:=eq_true (X7 (Xh L))
 have p3:∀ j,j<8→Xt vC 8 v0 L j=(vC (L.getD 0 v0)).getD j .any:=fun j h=>by have:=p1 0 j h; rwa [Nat.zero_mul,Nat.zero_add] at this
 have bV:∀ a:V2,XW 4 (.row 0 8 (Xk (vC a)))=True:=fun a=>eq_true (XX (by simp [vC,X8,X2]))
 have bZ:XW 4 (.row 0 8 (Xk Q2))=True:=eq_true (XX (by simp [Q2,X2,GL]))
 refine Fq Tryz.call72 Tryz.func72 8 [19,20,21] [3,10,110000004,110000005] [] (by simp [Xh]) (Xi ?_)
 simp (disch:=omega) only [AS.start,p3,X5,↓XK,wG,seval]
 refine Xd (fun k:Nat=>⟨8,[19,20,21],[.any,.any,.ref 0 0 0,.ref 1 0 0,.ref 2 0 0,.ref 3 0 0,.any,.any],[(19,Xw L),(20,I L.length),(21,I k)],[.row 0 8 (Xk Q2),.row 0 8 (Xk Q2),.row 0 8 (Xk (vC (CG L k))),.row 0 8 (Xk (vC (CF L k)))]⟩) (fun k=>k≤L.length) (fun k=>L.length - k) 0 (by omega)
  (Xf rfl (by simp [Xg,I]) (by simp [Xn,Xr,X5,I]) (by rfl)) ?_
 intro k hk next
 by_cases hk2:k<L.length
 rotate_left
 ·obtain rfl:k=L.length:=by omega
  refine Xi ?_
  simp (disch:=omega) only [X5,vC,Q2,↓XK,wG,seval]
  exact Kd rfl (Xl K8 rfl rfl rfl) (Xl K8 rfl rfl rfl) ((Xm (CG L L.length)).sees _) ((Xm (CF L L.length)).sees _)
 have c1:=Sh (CG L k).x (CF L k).x (L.getD k v0).x (by have:=s1 k; show qb (dp _ k)≤rm; unfold rm; omega) (by have:=s3 k; show qb (dI _ k)≤rm; unfold rm; omega) (by have:=hx k; unfold rm; omega)
 have c2:=Sh (CG L k).y (CF L k).y (L.getD k v0).y (by have:=s2 k; show qb (dp _ k)≤rm; unfold rm; omega) (by have:=s4 k; show qb (dI _ k)≤rm; unfold rm; omega) (by have:=hy k; unfold rm; omega)
 have q1:=p1 k
 have q2:=p2 k
 have n1:CG L (k+1)=⟨Mz (CG L k).x (L.getD k v0).x,Mz (CG L k).y (L.getD k v0).y⟩:=rfl
 have n2:CF L (k+1)=⟨MC (CF L k).x (L.getD k v0).x,MC (CF L k).y (L.getD k v0).y⟩:=rfl
 generalize CG L k=lo at *
 generalize CF L k=hi at *
 generalize L.getD k v0=p at *
 generalize Mz lo.x p.x=a1 at *
 generalize MC hi.x p.x=a2 at *
 generalize Mz lo.y p.y=a3 at *
 generalize MC hi.y p.y=a4 at *
 refine Xi ?_
 simp (disch:=omega) only [q1,q2,X5,vC,↓XK,wG,seval]
 refine X0 c1 rfl ?_
 simp (disch:=omega) only [qA,qC,↓XK,wG,seval]
 refine X0 c2 rfl ?_
 simp (disch:=omega) only [qA,qC,↓XK,wG,seval]
 exact next (k+1) _ (by omega) (by omega) (XD (m:=4) (Nat.zero_le _) rfl (by simp [Xg,X5,I]) (by simp [Xn,Xr,X5,I]) (by rw [n1,n2]; rfl) (by simp [XA]) (by simp [XA,bL]) (by simp [bV,bZ]))
end
end Go.Ab.N
namespace Go.Ab.N
open Go Go.RowKit Go.Proofs
set_option maxRecDepth 10000
set_option maxHeartbeats 4000000
def GX (a b c:Int×Int):Int:=(b.1 - a.1)*(c.2 - a.2) - (b.2 - a.2)*(c.1 - a.1)
theorem O9 (a b c:Int×Int):Jg (Qc a) (Qc b) (Qc c)=(GX a b c).sign:=by
 have e:Q8 ((Qc b).sub (Qc a)) ((Qc c).sub (Qc a))=((GX a b c:Int):Rat):=by
  unfold Q8 V2.sub Qc GX
  simp only [Rat.intCast_sub,Rat.intCast_mul]
 unfold Jg
 rw [e,Rat.num_intCast]
def sJ (P:List (Int×Int)) (R:List Nat) (p:Nat):Int:=(GX (P.getD (nr R (p+R.length - 1)) (0,0)) (P.getD (R.getD p 0) (0,0)) (P.getD (nr R (p+R.length+1)) (0,0))).sign
theorem ii (P:List (Int×Int)) (R:List Nat) (p:Nat):LG (Xp P) R p=sJ P R p:=by
 unfold LG sJ
 rw [Z4,Z4,Z4,O9]
def qk (a b c p:Int×Int):Bool:=decide (0≤(GX a b p).sign) && decide (0≤(GX b c p).sign) && decide (0≤(GX c a p).sign)
def Pp (P:List (Int×Int)) (a b c k:Nat):Bool:=decide (k=a) || decide (k=c) || decide (k=b) || !qk (P.getD a (0,0)) (P.getD b (0,0)) (P.getD c (0,0)) (P.getD k (0,0))
theorem fA (P:List (Int×Int)) (a b c k:Nat):Po (Xp P) a b c k=Pp P a b c k:=by
 unfold Po Pp lS qk
 rw [Z4,Z4,Z4,Z4,O9,O9,O9]
def Tk (P:List (Int×Int)) (R:List Nat) (p:Nat):Bool:=decide (0<sJ P R p) && (List.range R.length).all fun j=>Pp P (nr R (p+R.length - 1)) (R.getD p 0) (nr R (p+R.length+1)) (R.getD j 0)
theorem kR (P:List (Int×Int)) (R:List Nat) (p:Nat):Tj (Xp P) R p=Tk P R p:=by
 unfold Tj Tk
 simp only [ii,fA]
def Ma (P:List (Int×Int)) (R:List Nat):Nat:=(List.range (R.length - 1)).findIdx (Tk P R)
def Mi (P:List (Int×Int)) (R:List Nat):Nat:=(List.range R.length).findIdx fun p=>decide (sJ P R p=0)
theorem eE (P:List (Int×Int)) (R:List Nat):M9 (Xp P) R=Ma P R:=by
 unfold M9 Ma
 rw [show Tj (Xp P) R=Tk P R from funext (kR P R)]
theorem fp (P:List (Int×Int)) (R:List Nat):Pm (Xp P) R=Mi P R:=by
 unfold Pm Mi
 simp only [ii]
def WQ (P:List (Int×Int)):Nat→List Nat→List Nat
 | 0,R=>R
 | f+1,R=>if 3<R.length∧Mi P R<R.length then WQ P f (R.eraseIdx (Mi P R)) else R
theorem UE (P:List (Int×Int)):∀ (f:Nat) (R:List Nat),WP (Xp P) f R=WQ P f R
 | 0,_=>rfl
 | f+1,R=>by
  unfold WP WQ
  rw [fp,UE P f]
def Yb (P:List (Int×Int)):Nat→List Nat→List (Nat×Nat×Nat)
 | 0,R=>[(R.getD 0 0,R.getD 1 0,R.getD 2 0)]
 | f+1,R=>if 3<R.length then H6 R (Ma P R) :: Yb P f (WQ P (R.length - 1) (R.eraseIdx (Ma P R))) else [(R.getD 0 0,R.getD 1 0,R.getD 2 0)]
theorem UL (P:List (Int×Int)):∀ (f:Nat) (R:List Nat),ef (Xp P) f R=Yb P f R
 | 0,_=>rfl
 | f+1,R=>by
  unfold ef Yb
  rw [eE,UE,UL P f]
def s9 (P:List (Int×Int)) (d:Nat×Nat×Nat):List (Int×Int):=[P.getD d.1 (0,0),P.getD d.2.1 (0,0),P.getD d.2.2 (0,0)]
def CI (P:List (Int×Int)):List (List (Int×Int)):=(Yb P P.length (List.range P.length)).map (s9 P)
theorem LY (P:List (Int×Int)):Qf (Xp P)=(CI P).map fun c=>c.map Qc:=by
 unfold Qf CI CJ
 rw [UK,show (Xp P).length=P.length by simp [Xp],UL,List.map_map]
 refine List.map_congr_left fun d _=>?_
 unfold aG s9
 simp only [Function.comp,List.map_cons,List.map_nil,Z4]
def nI (p q:Int×Int):Int×Int:=(q.2 - p.2,-(q.1 - p.1))
theorem oo (p q:Int×Int):ji (Qc p) (Qc q)=Qc (nI p q):=by
 unfold ji nI Qc V2.sub
 simp only [Rat.intCast_sub,Rat.intCast_neg]
def I8 (A B:List (Int×Int)):List (Int×Int) :=
 ((List.range A.length).map fun i=>nI (A.getD i (0,0)) (A.getD ((i+1) % A.length) (0,0))) ++ ((List.range B.length).map fun i=>nI (B.getD ((i+1) % B.length) (0,0)) (B.getD i (0,0))) ++ [(1,0),(0,1),(-1,0),(0,-1)]
theorem Yd {A B:List (Int×Int)} {n:Int×Int} (h:n∈I8 A B):Qc n∈AZ (A.map Qc) (B.map Qc):=by
 have e:∀ (R:List (Int×Int)) (i:Nat),(R.map Qc).getD i v0=Qc (R.getD i (0,0)):=fun R i=>Z4 R i
 unfold I8 at h
 unfold AZ
 rw [List.mem_append,List.mem_append] at *
 rcases h with (h | h) | h
 ·refine .inl (.inl ?_)
  obtain ⟨i,hi,rfl⟩:=List.mem_map.1 h
  unfold P2
  refine List.mem_map.2 ⟨i,by simpa using hi,?_⟩
  unfold dA
  rw [e,e,List.length_map,oo]
 ·refine .inl (.inr ?_)
  obtain ⟨i,hi,rfl⟩:=List.mem_map.1 h
  unfold Td
  refine List.mem_map.2 ⟨i,by simpa using hi,?_⟩
  unfold dB
  rw [e,e,List.length_map,oo]
 ·refine .inr ?_
  simp only [List.mem_cons,List.not_mem_nil,or_false] at h ⊢
  rcases h with rfl | rfl | rfl | rfl <;> simp
def LH (n:Int×Int) (A B:List (Int×Int)):Bool:=A.all fun a=>B.all fun b=>decide (0≤n.1*(b.1 - a.1)+n.2*(b.2 - a.2))
theorem Pe (sg:Int) (x:Rat) (l:List Rat):∀ k,k≤l.length→BZ sg x l k∈x :: l
 | 0,_=>by simp [BZ]
 | k+1,hk=>by
  unfold BZ
  split
  ·rw [List.getD_eq_getElem?_getD,List.getElem?_eq_getElem (by omega)]
   exact List.mem_cons_of_mem _ (List.getElem_mem _)
  ·exact Pe sg x l k (by omega)
theorem Pd (sg:Int) (l:List Rat) (h:0<l.length):EW sg l∈l:=by
 obtain ⟨x,l,rfl⟩:∃ x r,l=x :: r:=by cases l with | nil=>exact absurd h (by simp) | cons x r=>exact ⟨x,r,rfl⟩
 exact Pe sg x l l.length (Nat.le_refl _)
theorem mG {n:Int×Int} {A B:List (Int×Int)} (hA:0<A.length) (hB:0<B.length) (h:LH n A B=true):Ga (Qc n) (A.map Qc) (B.map Qc) 0:=by
 unfold Ga Lz
 have m1:=Pd (-1) (Q3 (Qc n) (B.map Qc)) (by simpa [Q3] using hB)
 have m2:=Pd 1 (Q3 (Qc n) (A.map Qc)) (by simpa [Q3] using hA)
 generalize EW (-1) (Q3 (Qc n) (B.map Qc))=x at *
 generalize EW 1 (Q3 (Qc n) (A.map Qc))=y at *
 unfold Q3 at m1 m2
 rw [List.map_map] at m1 m2
 obtain ⟨b,hb,rfl⟩:=List.mem_map.1 m1
 obtain ⟨a,ha,rfl⟩:=List.mem_map.1 m2
 have h1:=of_decide_eq_true (List.all_eq_true.1 (List.all_eq_true.1 h a ha) b hb)
 have e:Q4 (Qc n) (Qc b) - Q4 (Qc n) (Qc a)=((n.1*(b.1 - a.1)+n.2*(b.2 - a.2):Int):Rat):=by
  unfold Q4 Qc
  simp only [Rat.intCast_sub,Rat.intCast_mul,Rat.intCast_add]
  grind
 show 0*_≤Q4 (Qc n) (Qc b) - Q4 (Qc n) (Qc a)
 rw [e,Rat.zero_mul]
 exact Rat.intCast_nonneg.2 h1
def MK (A B:List (Int×Int)):Bool:=(I8 A B).any fun n=>LH n A B
open Classical in
theorem gD {A B:List (Int×Int)} (hA:0<A.length) (hB:0<B.length) (h:MK A B=true):(A2 (A.map Qc) (B.map Qc) 0).2=true:=by
 obtain ⟨n,hn,hs⟩:=List.any_eq_true.1 h
 unfold A2
 rw [C1]
 exact ⟨Qc n,Yd hn,decide_eq_true (mG hA hB hs)⟩
def dN (P Q:List (Int×Int)):Bool:=(CI P).all fun x=>(CI Q).all fun y=>MK x y
theorem LX {P x:List (Int×Int)} (h:x∈CI P):0<x.length:=by
 unfold CI at h
 obtain ⟨d,_,rfl⟩:=List.mem_map.1 h
 show 0<3
 omega
theorem WO {P Q:List (Int×Int)} (h:dN P Q=true):Cu (Qf (Xp P)) (Qf (Xp Q)) 0=true:=by
 rw [cW,LY,LY]
 intro x hx y hy
 obtain ⟨a,ha,rfl⟩:=List.mem_map.1 hx
 obtain ⟨b,hb,rfl⟩:=List.mem_map.1 hy
 exact gD (LX ha) (LX hb) (List.all_eq_true.1 (List.all_eq_true.1 h a ha) b hb)
def ci (p:Nat×Nat):Int×Int:=((p.1:Int),(p.2:Int))
def Cz (P:List (Nat×Nat)):List (Int×Int):=P.map ci
theorem NA (P:List (Nat×Nat)) (i:Nat):(Cz P).getD i (0,0)=ci (P.getD i (0,0)):=by
 unfold Cz
 rw [List.getD_eq_getElem?_getD,List.getElem?_map,List.getD_eq_getElem?_getD]
 cases P[i]? <;> rfl
def M3 (a b c:Nat×Nat):Nat:=b.1*c.2+a.2*c.1+a.1*b.2
def M2 (a b c:Nat×Nat):Nat:=b.2*c.1+a.1*c.2+a.2*b.1
theorem Px (a b c:Nat×Nat):GX (ci a) (ci b) (ci c)=(M3 a b c:Int) - (M2 a b c:Int):=by
 unfold GX ci M3 M2
 simp only [Int.natCast_add,Int.natCast_mul]
 grind
theorem U9 (a b c:Nat×Nat):decide (0<(GX (ci a) (ci b) (ci c)).sign)=Nat.blt (M2 a b c) (M3 a b c):=by
 rw [Px,Bool.eq_iff_iff,decide_eq_true_eq,Int.sign_pos_iff,Nat.blt_eq]
 omega
theorem aw (a b c:Nat×Nat):decide (0≤(GX (ci a) (ci b) (ci c)).sign)=Nat.ble (M2 a b c) (M3 a b c):=by
 rw [Px,Bool.eq_iff_iff,decide_eq_true_eq,Int.sign_nonneg_iff,Nat.ble_eq]
 omega
theorem ip (a b c:Nat×Nat):decide ((GX (ci a) (ci b) (ci c)).sign=0)=Nat.beq (M3 a b c) (M2 a b c):=by
 rw [Px,Bool.eq_iff_iff,decide_eq_true_eq,Int.sign_eq_zero_iff_zero,Nat.beq_eq]
 omega
def ql (a b c p:Nat×Nat):Bool:=Nat.ble (M2 a b p) (M3 a b p) && Nat.ble (M2 b c p) (M3 b c p) && Nat.ble (M2 c a p) (M3 c a p)
def Pq (P:List (Nat×Nat)) (a b c k:Nat):Bool:=Nat.beq k a || Nat.beq k c || Nat.beq k b || !ql (P.getD a (0,0)) (P.getD b (0,0)) (P.getD c (0,0)) (P.getD k (0,0))
theorem jS (a b:Nat):decide (a=b)=Nat.beq a b:=by rw [Bool.eq_iff_iff,decide_eq_true_eq,Nat.beq_eq]
theorem fD (P:List (Nat×Nat)) (a b c k:Nat):Pp (Cz P) a b c k=Pq P a b c k:=by
 unfold Pp Pq qk ql
 simp only [NA,aw,jS]
def Tl (P:List (Nat×Nat)) (R:List Nat) (n p:Nat):Bool :=
 Nat.blt (M2 (P.getD (R.getD ((p+n - 1) % n) 0) (0,0)) (P.getD (R.getD p 0) (0,0)) (P.getD (R.getD ((p+n+1) % n) 0) (0,0))) (M3 (P.getD (R.getD ((p+n - 1) % n) 0) (0,0)) (P.getD (R.getD p 0) (0,0)) (P.getD (R.getD ((p+n+1) % n) 0) (0,0))) &&
 R.all fun k=>Pq P (R.getD ((p+n - 1) % n) 0) (R.getD p 0) (R.getD ((p+n+1) % n) 0) k
theorem kS (P:List (Nat×Nat)) (R:List Nat) (p:Nat):Tk (Cz P) R p=Tl P R R.length p:=by
 unfold Tk Tl sJ nr
 simp only [NA,U9,fD]
 congr 1
 rw [Bool.eq_iff_iff,List.all_eq_true,← HJ R 0]
 exact ⟨fun h i hi=>h i (List.mem_range.2 hi),fun h i hi=>h i (List.mem_range.1 hi)⟩
def Mb (P:List (Nat×Nat)) (R:List Nat) (n:Nat):Nat:=(List.range (n - 1)).findIdx (Tl P R n)
def CP (P:List (Nat×Nat)) (R:List Nat) (n:Nat):Nat:=(List.range n).findIdx fun p=>Nat.beq (M3 (P.getD (R.getD ((p+n - 1) % n) 0) (0,0)) (P.getD (R.getD p 0) (0,0)) (P.getD (R.getD ((p+n+1) % n) 0) (0,0))) (M2 (P.getD (R.getD ((p+n - 1) % n) 0) (0,0)) (P.getD (R.getD p 0) (0,0)) (P.getD (R.getD ((p+n+1) % n) 0) (0,0)))
theorem eG (P:List (Nat×Nat)) (R:List Nat):Ma (Cz P) R=Mb P R R.length:=by
 unfold Ma Mb
 rw [show Tk (Cz P) R=Tl P R R.length from funext (kS P R)]
theorem fq (P:List (Nat×Nat)) (R:List Nat):Mi (Cz P) R=CP P R R.length:=by
 unfold Mi CP sJ nr
 simp only [NA,ip]
def WR (P:List (Nat×Nat)):Nat→List Nat→List Nat
 | 0,R=>R
 | f+1,R=>match Nat.blt 3 R.length && Nat.blt (CP P R R.length) R.length with
  | true=>WR P f (R.eraseIdx (CP P R R.length))
  | false=>R
theorem UF (P:List (Nat×Nat)):∀ (f:Nat) (R:List Nat),WQ (Cz P) f R=WR P f R
 | 0,_=>rfl
 | f+1,R=>by
  unfold WQ WR
  rw [fq,UF P f]
  by_cases h:3<R.length∧CP P R R.length<R.length
  ·rw [if_pos h,show (Nat.blt 3 R.length && Nat.blt (CP P R R.length) R.length)=true by rw [Bool.and_eq_true,Nat.blt_eq,Nat.blt_eq]; exact h]
  ·rw [if_neg h,show (Nat.blt 3 R.length && Nat.blt (CP P R R.length) R.length)=false by rw [Bool.eq_false_iff]; intro g; rw [Bool.and_eq_true,Nat.blt_eq,Nat.blt_eq] at g; exact h g]
def Tc (P:List (Nat×Nat)):Nat→List Nat→List (Nat×Nat×Nat)
 | 0,R=>[(R.getD 0 0,R.getD 1 0,R.getD 2 0)]
 | f+1,R=>match Nat.blt 3 R.length with
  | true=>H6 R (Mb P R R.length) :: Tc P f (WR P (R.length - 1) (R.eraseIdx (Mb P R R.length)))
  | false=>[(R.getD 0 0,R.getD 1 0,R.getD 2 0)]
theorem UM (P:List (Nat×Nat)):∀ (f:Nat) (R:List Nat),Yb (Cz P) f R=Tc P f R
 | 0,_=>rfl
 | f+1,R=>by
  unfold Yb Tc
  rw [eG,UF,UM P f]
  by_cases h:3<R.length
  ·rw [if_pos h,show Nat.blt 3 R.length=true by rw [Nat.blt_eq]; exact h]
  ·rw [if_neg h,show Nat.blt 3 R.length=false by rw [Bool.eq_false_iff]; intro g; rw [Nat.blt_eq] at g; exact h g]
def sa (P:List (Nat×Nat)) (d:Nat×Nat×Nat):List (Nat×Nat):=[P.getD d.1 (0,0),P.getD d.2.1 (0,0),P.getD d.2.2 (0,0)]
def HX (P:List (Nat×Nat)):List (List (Nat×Nat)):=(Tc P P.length (List.range P.length)).map (sa P)
theorem LZ (P:List (Nat×Nat)):CI (Cz P)=(HX P).map Cz:=by
 unfold CI HX
 rw [UM,show (Cz P).length=P.length by simp [Cz],List.map_map]
 refine List.map_congr_left fun d _=>?_
 unfold s9 sa
 simp only [Function.comp,NA]
 rfl
def Et (p q:Nat×Nat) (A B:List (Nat×Nat)):Bool:=A.all fun a=>B.all fun b=>Nat.ble (q.2*a.1+p.2*b.1+q.1*b.2+p.1*a.2) (q.2*b.1+p.2*a.1+q.1*a.2+p.1*b.2)
theorem ZX {p q:Nat×Nat} {A B:List (Nat×Nat)} (h:Et p q A B=true):LH (nI (ci p) (ci q)) (Cz A) (Cz B)=true:=by
 unfold LH Cz
 refine List.all_eq_true.2 fun x hx=>List.all_eq_true.2 fun y hy=>decide_eq_true ?_
 obtain ⟨a,ha,rfl⟩:=List.mem_map.1 hx
 obtain ⟨b,hb,rfl⟩:=List.mem_map.1 hy
 have h1:=Nat.le_of_ble_eq_true (List.all_eq_true.1 (List.all_eq_true.1 h a ha) b hb)
 have h2:((q.2*a.1+p.2*b.1+q.1*b.2+p.1*a.2:Nat):Int)≤((q.2*b.1+p.2*a.1+q.1*a.2+p.1*b.2:Nat):Int):=by exact_mod_cast h1
 simp only [Int.natCast_add,Int.natCast_mul] at h2
 unfold nI ci
 simp only
 grind
def gE (A B:List (Nat×Nat)):Bool :=
 match A,B with
 | [a,b,c],[d,e,f]=>Et a b A B || Et b c A B || Et c a A B || Et e d A B || Et f e A B || Et d f A B || Et (0,0) (0,1) A B || Et (1,0) (0,0) A B || Et (0,1) (0,0) A B || Et (0,0) (1,0) A B
 | _,_=>false
theorem UQ (a b c d e f:Int×Int):I8 [a,b,c] [d,e,f]=[nI a b,nI b c,nI c a,nI e d,nI f e,nI d f,(1,0),(0,1),(-1,0),(0,-1)]:=by
 unfold I8
 rw [show [a,b,c].length=3 from rfl,show [d,e,f].length=3 from rfl,show List.range 3=[0,1,2] from rfl]
 rfl
theorem gF {A B:List (Nat×Nat)} (h:gE A B=true):MK (Cz A) (Cz B)=true:=by
 unfold gE at h
 split at h
 rotate_left
 ·cases h
 rename_i a b c d e f
 simp only [Bool.or_eq_true] at h
 unfold MK
 rw [show I8 (Cz [a,b,c]) (Cz [d,e,f])=_ from UQ (ci a) (ci b) (ci c) (ci d) (ci e) (ci f)]
 simp only [List.any_cons,List.any_nil,Bool.or_false,Bool.or_eq_true]
 have x1:Et (0,0) (0,1) [a,b,c] [d,e,f]=true→LH (1,0) (Cz [a,b,c]) (Cz [d,e,f])=true:=fun h=>ZX h
 have x2:Et (1,0) (0,0) [a,b,c] [d,e,f]=true→LH (0,1) (Cz [a,b,c]) (Cz [d,e,f])=true:=fun h=>ZX h
 have x3:Et (0,1) (0,0) [a,b,c] [d,e,f]=true→LH (-1,0) (Cz [a,b,c]) (Cz [d,e,f])=true:=fun h=>ZX h
 have x4:Et (0,0) (1,0) [a,b,c] [d,e,f]=true→LH (0,-1) (Cz [a,b,c]) (Cz [d,e,f])=true:=fun h=>ZX h
 rcases h with ((((((((h | h) | h) | h) | h) | h) | h) | h) | h) | h
 ·exact .inl (ZX h)
 ·exact .inr (.inl (ZX h))
 ·exact .inr (.inr (.inl (ZX h)))
 ·exact .inr (.inr (.inr (.inl (ZX h))))
 ·exact .inr (.inr (.inr (.inr (.inl (ZX h)))))
 ·exact .inr (.inr (.inr (.inr (.inr (.inl (ZX h))))))
 ·exact .inr (.inr (.inr (.inr (.inr (.inr (.inl (x1 h)))))))
 ·exact .inr (.inr (.inr (.inr (.inr (.inr (.inr (.inl (x2 h))))))))
 ·exact .inr (.inr (.inr (.inr (.inr (.inr (.inr (.inr (.inl (x3 h)))))))))
 ·exact .inr (.inr (.inr (.inr (.inr (.inr (.inr (.inr (.inr (x4 h)))))))))
end Go.Ab.N
