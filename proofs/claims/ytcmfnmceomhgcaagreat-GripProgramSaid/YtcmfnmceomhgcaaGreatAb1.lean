/- A layer of abstract values and heaps over the model; what is proved here is that its steps and contracts are sound, for every program. -/
import Derived.Orders
import Derived.OrdersIn
import Derived.RangeFuncRecord
import Derived.Laws.StructEq
import Derived.Laws.Cover3
import Derived.Below
import Derived.Laws.OwnMore
import Derived.Laws.MakeOwn
import Derived.Laws.Tables
import Derived.WideLaws
set_option linter.unusedSimpArgs false
set_option linter.unusedVariables false
namespace Go.Ab
open Go Go.RowKit
theorem nrfl.{u} {α:Sort u}{a b:α}(h:a=b):a=b:=h
inductive AV where
 |any
 |bool (b:Bool)
 |int (k:IntKind) (n:Int)
 |str (s:ByteArray)
 |nil
 |ptr (m:Nat) (f:Nat→AV) (off:Nat)
 |sl (n m:Nat) (f:Nat→AV) (tight:Bool)
 |ref (id ver off:Nat)
 |osl (id ver esz off n:Nat)
 |mp (id:Nat)
 |nilmap
 |cmap (k:IntKind) (g:Int→Option Value)
 |agg (l:List AV)
 |tup (l:List AV)
 |fn (g:FuncId) (caps:List AV)
 |mfn (g:FuncId) (a:AV)
 |nilfn
 |nilif
 |iface (t:TypeId) (v:AV)
 |yld (l:Nat)
 |abool
instance:Inhabited AV:=⟨.any⟩
inductive AO where
 |unborn
 |dead
 |row (ver n:Nat) (f:Nat→AV)
 |con (ver n:Nat) (f:Nat→AV)
 |map (k:IntKind) (g:Int→Option AV)
def AO.info:AO→Option Nat
 | .row v _ _=>some v
 | .con v _ _=>some v
 |_=>none
def AO.owned:AO→Bool
 | .row ..=>true
 | .map ..=>true
 |_=>false
structure Ctx where
 w:World
 S:Nat→Prop
 γ:Nat→Option (Nat×Nat)
 H:List AO
def inf (H:List AO)(id:Nat):Option Nat:=(H[id]?).bind AO.info
def stale (H:List AO)(id ver:Nat):Prop:=(∃v,inf H id=some v∧ver<v)∨H[id]?=some .dead
structure MapIs (k:IntKind)(g:Int→Option Value)(es:Array MapEntry):Prop where
 keys:∀e∈es.toList,∃n,e.key=.int k n
 uniq:es.toList.Pairwise fun a b=>a.key≠b.key
 hit:∀n v,g n=some v→∃e∈es.toList,e.key=.int k n∧e.val=v
 miss:∀n,g n=none→∀e∈es.toList,e.key≠.int k n
inductive Rep (c:Ctx):Value→AV→Prop where
 |any (v:Value):Rep c v .any
 |bool (b:Bool):Rep c (.bool b) (.bool b)
 |int (k:IntKind) (n:Int):Rep c (.int k n) (.int k n)
 |str (s:ByteArray):Rep c (.string s) (.str s)
 |nil:Rep c (.pointer none) .nil
 |ptr (b base m off:Nat) (f:Nat→AV) (us:Nat→Value) (hS:c.S b) (hc:∀j,j<m→c.w.cell? ⟨b,base+j,none⟩=some (us j))
   (hr:∀j,j<m→Rep c (us j) (f j)):Rep c (.pointer (some ⟨b,base+off,none⟩)) (.ptr m f off)
 |sl (b base n m cap:Nat) (f:Nat→AV) (t:Bool) (us:Nat→Value) (hS:c.S b) (hc:∀j,j<m→c.w.cell? ⟨b,base+j,none⟩=some (us j))
   (hr:∀j,j<m→Rep c (us j) (f j)) (hn:n≤cap) (ht:t=true→cap=n):Rep c (.slice (some ⟨b,base,none⟩) n cap) (.sl n m f t)
 |slz (a:Option Addr) (cap:Nat) (f:Nat→AV) (t:Bool) (ht:t=true→cap=0):Rep c (.slice a 0 cap) (.sl 0 0 f t)
 |ref (id ver off b sz:Nat) (hi:inf c.H id=some ver) (hg:c.γ id=some (b,sz)):Rep c (.pointer (some ⟨b,off,none⟩)) (.ref id ver off)
 |refOld (id ver off:Nat) (a:Addr) (hs:stale c.H id ver):Rep c (.pointer (some a)) (.ref id ver off)
 |osl (id ver esz off n cap b sz:Nat) (hi:inf c.H id=some ver) (hg:c.γ id=some (b,sz)) (hn:n≤cap) (hcap:off+cap*esz≤sz) (hmx:cap≤9223372036854775807) :
   Rep c (.slice (some ⟨b,off,none⟩) n cap) (.osl id ver esz off n)
 |oslz (id ver esz off:Nat) (a:Option Addr) (hi:inf c.H id=some ver):Rep c (.slice a 0 0) (.osl id ver esz off 0)
 |oslOld (id ver esz off n:Nat) (a:Addr) (cap:Nat) (hn:n≤cap) (hs:stale c.H id ver):Rep c (.slice (some a) n cap) (.osl id ver esz off n)
 |oslzOld (id ver esz off:Nat) (a:Option Addr) (hs:stale c.H id ver):Rep c (.slice a 0 0) (.osl id ver esz off 0)
 |mp (id b sz:Nat) (k:IntKind) (g:Int→Option AV) (hi:c.H[id]?=some (.map k g)) (hg:c.γ id=some (b,sz)):Rep c (.map (some b)) (.mp id)
 |mpOld (id:Nat) (r:Option Nat) (hi:c.H[id]?=some .dead):Rep c (.map r) (.mp id)
 |nilmap:Rep c (.map none) .nilmap
 |cmap (b:Nat) (k:IntKind) (g:Int→Option Value) (es:Array MapEntry) (clock:Nat) (hS:c.S b) (hh:c.w.heap[b]?=some (.map es clock)) (hm:MapIs k g es):Rep c (.map (some b)) (.cmap k g)
 |agg (vs:Array Value) (l:List AV) (hl:vs.size=l.length) (hr:∀j,j<l.length→Rep c (vs.getD j undef) (l.getD j .any)):Rep c (.agg vs) (.agg l)
 |tup (vs:Array Value) (l:List AV) (hl:vs.size=l.length) (hr:∀j,j<l.length→Rep c (vs.getD j undef) (l.getD j .any)):Rep c (.tuple vs) (.tup l)
 |fn (g:FuncId) (vs:Array Value) (l:List AV) (hl:vs.size=l.length) (hr:∀j,j<l.length→Rep c (vs.getD j undef) (l.getD j .any)) :
   Rep c (.func (.func g) #[] vs) (.fn g l)
 |mfn (g:FuncId) (v:Value) (a:AV) (h:Rep c v a):Rep c (.func (.func g) #[v] #[]) (.mfn g a)
 |nilfn:Rep c .nilFunc .nilfn
 |nilif:Rep c .nilIface .nilif
 |iface (t:TypeId) (v:Value) (a:AV) (h:Rep c v a):Rep c (.iface t v) (.iface t a)
 |yld (l:Nat):Rep c (.func (.yield l) #[] #[]) (.yld l)
 |abool (b:Bool):Rep c (.bool b) .abool
def RepL (c:Ctx)(vs:Array Value)(l:List AV):Prop:=vs.size=l.length∧∀j,j<l.length→Rep c (vs.getD j undef) (l.getD j .any)
def HLe (c c':Ctx):Prop:=∀ (id:Nat) (o:AO),c.H[id]?=some o →
 match o with
 | .unborn=>True
 | .dead=>c'.H[id]?=some .dead
 | .row v _ _=>c'.H[id]?=some .dead∨∃v',inf c'.H id=some v'∧(v<v'∨(v'=v∧c'.γ id=c.γ id))
 | .con v _ _=>c'.H[id]?=some .dead∨∃v',inf c'.H id=some v'∧(v<v'∨(v'=v∧c'.γ id=c.γ id))
 | .map _ _=>c'.H[id]?=some .dead∨((∃k g,c'.H[id]?=some (.map k g))∧c'.γ id=c.γ id)
theorem HLe.inf {c c':Ctx}(h:HLe c c'){id v:Nat}(hi:inf c.H id=some v) :
  c'.H[id]?=some .dead∨∃v',Ab.inf c'.H id=some v'∧(v<v'∨(v'=v∧c'.γ id=c.γ id)):=by
 unfold Ab.inf at hi;cases ho:c.H[id]? with
 |none=>simp[ho]at hi
 |some o =>
  have:=h id o ho;cases o <;> simp[ho,AO.info]at hi
  ·subst hi;exact this
  ·subst hi;exact this
theorem HLe.refl (c:Ctx):HLe c c:=by
 intro id o ho;cases o <;> simp_all[Ab.inf,AO.info]
theorem HLe.stale {c c':Ctx}(h:HLe c c'){id ver:Nat}(hs:stale c.H id ver):stale c'.H id ver:=by
 rcases hs with⟨v,hi,hlt⟩ |hd
 ·rcases h.inf hi with hd | ⟨v',hi',hv⟩
  ·exact .inr hd
  ·exact .inl ⟨v',hi',by omega⟩
 ·exact .inr (h id _ hd)
theorem HLe.trans {a b c:Ctx}(h:HLe a b)(k:HLe b c):HLe a c:=by
 intro id o ho;have h1:=h id o ho;have key:∀v,(b.H[id]?=some .dead∨∃v',Ab.inf b.H id=some v'∧(v<v'∨(v'=v∧b.γ id=a.γ id))) →
   (c.H[id]?=some .dead∨∃v',Ab.inf c.H id=some v'∧(v<v'∨(v'=v∧c.γ id=a.γ id))):=by
  intro v hh;rcases hh with hd | ⟨v',hi,hv⟩
  ·exact .inl (k id _ hd)
  ·rcases k.inf hi with hd | ⟨v'',hi',hv'⟩
   ·exact .inl hd
   ·refine .inr ⟨v'',hi',?_⟩
    rcases hv with hv | ⟨rfl,hg⟩ <;> rcases hv' with hv' | ⟨rfl,hg'⟩
    ·exact .inl (by omega)
    ·exact .inl hv
    ·exact .inl hv'
    ·exact .inr ⟨rfl,hg'.trans hg⟩
 cases o with
 |unborn=>trivial
 |dead=>exact k id _ h1
 |row v _ _=>exact key v h1
 |con v _ _=>exact key v h1
 |map k0 g0 =>
  rcases h1 with hd | ⟨⟨k1,g1,hm⟩,hg⟩
  ·exact .inl (k id _ hd)
  ·rcases k id _ hm with hd | ⟨hm',hg'⟩
   ·exact .inl hd
   ·exact .inr ⟨hm',hg'.trans hg⟩
theorem G4 {w w':World}{b:Nat}(h:w'.heap[b]?=w.heap[b]?)(o:Nat):w'.cell? ⟨b,o,none⟩=w.cell? ⟨b,o,none⟩:=by
 simp[World.cell?,h]
theorem Rep.ext {c c':Ctx}{v:Value}{a:AV}(h:Rep c v a)(hS:∀ b,c.S b→c'.S b)(hw:∀ b,c.S b→c'.w.heap[b]?=c.w.heap[b]?)(hH:HLe c c') :
  Rep c' v a:=by
 induction h with
 |any v=>exact .any v
 |bool b=>exact .bool b
 |int k n=>exact .int k n
 |str s=>exact .str s
 |nil=>exact .nil
 |ptr b base m off f us hb hc _ ih=>exact .ptr b base m off f us (hS b hb) (fun j hj=>by rw[G4 (hw b hb)];exact hc j hj) ih
 |sl b base n m cap f t us hb hc _ hn ht ih=>exact .sl b base n m cap f t us (hS b hb) (fun j hj=>by rw[G4 (hw b hb)];exact hc j hj) ih hn ht
 |slz a cap f t ht=>exact .slz a cap f t ht
 |ref id ver off b sz hi hg =>
  rcases hH.inf hi with hd | ⟨v',hi',hv⟩
  ·exact .refOld _ _ _ _ (.inr hd)
  ·rcases hv with hv | ⟨rfl,hg'⟩
   ·exact .refOld _ _ _ _ (.inl ⟨v',hi',hv⟩)
   ·exact .ref id _ off b sz hi' (hg'.trans hg)
 |refOld id ver off a hs=>exact .refOld id ver off a (hH.stale hs)
 |osl id ver esz off n cap b sz hi hg hn hcap hmx =>
  rcases hH.inf hi with hd | ⟨v',hi',hv⟩
  ·exact .oslOld _ _ _ _ _ _ _ hn (.inr hd)
  ·rcases hv with hv | ⟨rfl,hg'⟩
   ·exact .oslOld _ _ _ _ _ _ _ hn (.inl ⟨v',hi',hv⟩)
   ·exact .osl id _ esz off n cap b sz hi' (hg'.trans hg) hn hcap hmx
 |oslz id ver esz off a hi =>
  rcases hH.inf hi with hd | ⟨v',hi',hv⟩
  ·exact .oslzOld _ _ _ _ _ (.inr hd)
  ·rcases hv with hv | ⟨rfl,_⟩
   ·exact .oslzOld _ _ _ _ _ (.inl ⟨v',hi',hv⟩)
   ·exact .oslz id _ esz off a hi'
 |oslOld id ver esz off n a cap hn hs=>exact .oslOld id ver esz off n a cap hn (hH.stale hs)
 |oslzOld id ver esz off a hs=>exact .oslzOld id ver esz off a (hH.stale hs)
 |mp id b sz k g hi hg =>
  rcases hH id _ hi with hd | ⟨⟨k',g',hm⟩,hg'⟩
  ·exact .mpOld id _ hd
  ·exact .mp id b sz k' g' hm (hg'.trans hg)
 |mpOld id r hi=>exact .mpOld id r (hH id _ hi)
 |nilmap=>exact .nilmap
 |cmap b k g es clock hb hh hm=>exact .cmap b k g es clock (hS b hb) (by rw[hw b hb];exact hh) hm
 |agg vs l hl _ ih=>exact .agg vs l hl ih
 |tup vs l hl _ ih=>exact .tup vs l hl ih
 |fn g vs l hl _ ih=>exact .fn g vs l hl ih
 |mfn g v a _ ih=>exact .mfn g v a ih
 |nilfn=>exact .nilfn
 |nilif=>exact .nilif
 |iface t v a _ ih=>exact .iface t v a ih
 |yld l=>exact .yld l
 |abool b=>exact .abool b
structure MapOk (c:Ctx)(k:IntKind)(g:Int→Option AV)(es:Array MapEntry):Prop where
 keys:∀e∈es.toList,∃n,e.key=.int k n
 uniq:es.toList.Pairwise fun a b=>a.key≠b.key
 hit:∀n a,g n=some a→∃e∈es.toList,e.key=.int k n∧Rep c e.val a
 miss:∀n,g n=none→∀e∈es.toList,e.key≠.int k n
def ZK (c:Ctx)(b:Nat):Prop:=∃id o sz,c.H[id]?=some o∧o.owned=true∧c.γ id=some (b,sz)
structure HRel (c:Ctx):Prop where
 row:∀id ver n f,c.H[id]?=some (.row ver n f)→(c.γ id=none∧n=0) ∨
  ∃b sz cs el,c.γ id=some (b,sz)∧c.w.heap[b]?=some (.cells cs el (0,0))∧cs.size=sz∧n≤sz∧¬c.S b∧∀j,j<n→Rep c (cs.getD j undef) (f j)
 con:∀id ver n f,c.H[id]?=some (.con ver n f)→(c.γ id=none∧n=0) ∨
  ∃b sz cs el fr,c.γ id=some (b,sz)∧c.w.heap[b]?=some (.cells cs el fr)∧cs.size=sz∧n≤sz∧c.S b∧∀j,j<n→Rep c (cs.getD j undef) (f j)
 map:∀id k g,c.H[id]?=some (.map k g)→∃b sz es clock,c.γ id=some (b,sz)∧c.w.heap[b]?=some (.map es clock)∧¬c.S b∧MapOk c k g es
 inj:∀id id' o o' b sz sz',c.H[id]?=some o→c.H[id']?=some o'→o.owned=true→o'.owned=true→c.γ id=some (b,sz)→c.γ id'=some (b,sz')→id=id'
 bound:∀b,c.S b→b<c.w.heap.size
structure Ext (c c':Ctx):Prop where
 hle:HLe c c'
 smono:∀b,c.S b→c'.S b
 snew:∀b,c'.S b→c.S b∨c.w.heap.size≤b∨ZK c b
 onew:∀b,ZK c' b→c.w.heap.size≤b∨ZK c b
 same:∀b,b<c.w.heap.size→¬ZK c b→c'.w.heap[b]?=c.w.heap[b]?
 size:c.w.heap.size≤c'.w.heap.size
 os:c'.w.os=c.w.os
 tape:c'.w.tape=c.w.tape
 output:c'.w.output=c.w.output
theorem Ext.refl (c:Ctx):Ext c c:=⟨HLe.refl c,fun _ h=>h,fun _ h=>.inl h,fun _ h=>.inr h,fun _ _ _=>rfl,Nat.le_refl _,rfl,rfl,rfl⟩
theorem Ext.trans {a b c:Ctx}(h:Ext a b)(k:Ext b c):Ext a c where
 hle:=h.hle.trans k.hle
 smono x hx:=k.smono x (h.smono x hx)
 snew x hx:=by
  rcases k.snew x hx with h1 |h1 |h1
  ·exact h.snew x h1
  ·exact .inr (.inl (Nat.le_trans h.size h1))
  ·rcases h.onew x h1 with h2 |h2
   ·exact .inr (.inl h2)
   ·exact .inr (.inr h2)
 onew x hx:=by
  rcases k.onew x hx with h1 |h1
  ·exact .inl (Nat.le_trans h.size h1)
  ·exact h.onew x h1
 same x hx hn:=by
  rw[k.same x (Nat.lt_of_lt_of_le hx h.size) (fun ho=>by
    rcases h.onew x ho with h1 |h1
    ·omega
    ·exact hn h1),h.same x hx hn]
 size:=Nat.le_trans h.size k.size
 os:=k.os.trans h.os
 tape:=k.tape.trans h.tape
 output:=k.output.trans h.output
def HLeB (m:Nat)(c c':Ctx):Prop:=∀ (id:Nat) (o:AO),id<m→c.H[id]?=some o →
 match o with
 | .unborn=>True
 | .dead=>c'.H[id]?=some .dead
 | .row v _ _=>c'.H[id]?=some .dead∨∃v',inf c'.H id=some v'∧(v<v'∨(v'=v∧c'.γ id=c.γ id))
 | .con v _ _=>c'.H[id]?=some .dead∨∃v',inf c'.H id=some v'∧(v<v'∨(v'=v∧c'.γ id=c.γ id))
 | .map _ _=>c'.H[id]?=some .dead∨((∃k g,c'.H[id]?=some (.map k g))∧c'.γ id=c.γ id)
structure ExtB (m:Nat)(c c':Ctx):Prop where
 hle:HLeB m c c'
 smono:∀b,c.S b→c'.S b
 snew:∀b,c'.S b→c.S b∨c.w.heap.size≤b∨ZK c b
 onew:∀b,ZK c' b→c.w.heap.size≤b∨ZK c b
 same:∀b,b<c.w.heap.size→¬ZK c b→c'.w.heap[b]?=c.w.heap[b]?
 size:c.w.heap.size≤c'.w.heap.size
 os:c'.w.os=c.w.os
 tape:c'.w.tape=c.w.tape
 output:c'.w.output=c.w.output
theorem Ext.toB {c c':Ctx}(h:Ext c c')(m:Nat):ExtB m c c':=⟨fun id o _ ho=>h.hle id o ho,h.smono,h.snew,h.onew,h.same,h.size,h.os,h.tape,h.output⟩
theorem ExtB.toExt {m:Nat}{c c':Ctx}(h:ExtB m c c')(hm:c.H.length≤m):Ext c c' :=
 ⟨fun id o ho=>h.hle id o (Nat.lt_of_lt_of_le (List.getElem?_eq_some_iff.1 ho).1 hm) ho,h.smono,h.snew,h.onew,h.same,h.size,h.os,h.tape,h.output⟩
theorem HLeB.trans {m:Nat}{a b c:Ctx}(h:HLeB m a b)(k:HLeB m b c):HLeB m a c:=by
 intro id o hm ho;have h1:=h id o hm ho;have kinf:∀v,Ab.inf b.H id=some v→(c.H[id]?=some .dead∨∃v',Ab.inf c.H id=some v'∧(v<v'∨(v'=v∧c.γ id=b.γ id))):=by
  intro v hi;unfold Ab.inf at hi;cases hb:b.H[id]? with
  |none=>simp[hb]at hi
  |some o' =>
   have:=k id o' hm hb;cases o' <;> simp[hb,AO.info]at hi
   ·subst hi;exact this
   ·subst hi;exact this
 have key:∀v,(b.H[id]?=some .dead∨∃v',Ab.inf b.H id=some v'∧(v<v'∨(v'=v∧b.γ id=a.γ id))) →
   (c.H[id]?=some .dead∨∃v',Ab.inf c.H id=some v'∧(v<v'∨(v'=v∧c.γ id=a.γ id))):=by
  intro v hh;rcases hh with hd | ⟨v',hi,hv⟩
  ·exact .inl (k id _ hm hd)
  ·rcases kinf v' hi with hd | ⟨v'',hi',hv'⟩
   ·exact .inl hd
   ·refine .inr ⟨v'',hi',?_⟩
    rcases hv with hv | ⟨rfl,hg⟩ <;> rcases hv' with hv' | ⟨rfl,hg'⟩
    ·exact .inl (by omega)
    ·exact .inl hv
    ·exact .inl hv'
    ·exact .inr ⟨rfl,hg'.trans hg⟩
 cases o with
 |unborn=>trivial
 |dead=>exact k id _ hm h1
 |row v _ _=>exact key v h1
 |con v _ _=>exact key v h1
 |map k0 g0 =>
  rcases h1 with hd | ⟨⟨k1,g1,hmm⟩,hg⟩
  ·exact .inl (k id _ hm hd)
  ·rcases k id _ hm hmm with hd | ⟨hm',hg'⟩
   ·exact .inl hd
   ·exact .inr ⟨hm',hg'.trans hg⟩
theorem ExtB.trans {m:Nat}{a b c:Ctx}(h:ExtB m a b)(k:ExtB m b c):ExtB m a c where
 hle:=h.hle.trans k.hle
 smono x hx:=k.smono x (h.smono x hx)
 snew x hx:=by
  rcases k.snew x hx with h1 |h1 |h1
  ·exact h.snew x h1
  ·exact .inr (.inl (Nat.le_trans h.size h1))
  ·rcases h.onew x h1 with h2 |h2
   ·exact .inr (.inl h2)
   ·exact .inr (.inr h2)
 onew x hx:=by
  rcases k.onew x hx with h1 |h1
  ·exact .inl (Nat.le_trans h.size h1)
  ·exact h.onew x h1
 same x hx hn:=by
  rw[k.same x (Nat.lt_of_lt_of_le hx h.size) (fun ho=>by
    rcases h.onew x ho with h1 |h1
    ·omega
    ·exact hn h1),h.same x hx hn]
 size:=Nat.le_trans h.size k.size
 os:=k.os.trans h.os
 tape:=k.tape.trans h.tape
 output:=k.output.trans h.output
theorem HRel.notOwn {c:Ctx}(h:HRel c){b:Nat}(hS:c.S b):¬ZK c b:=by
 rintro⟨id,o,sz,ho,hown,hg⟩;cases o with
 |row v n f =>
  rcases h.row id v n f ho with⟨hn,_⟩ | ⟨b',sz',cs,el,hg',_,_,_,hnS,_⟩
  ·rw[hn]at hg;cases hg
  ·rw[hg']at hg;cases hg;exact hnS hS
 |map k g =>
  obtain⟨b',sz',es,cl,hg',_,hnS,_⟩:=h.map id k g ho;rw[hg']at hg;cases hg;exact hnS hS
 |_=>simp[AO.owned]at hown
theorem HRel.ownLt {c:Ctx}(h:HRel c){b:Nat}(ho:ZK c b):b<c.w.heap.size:=by
 obtain⟨id,o,sz,ho,hown,hg⟩:=ho;cases o with
 |row v n f =>
  rcases h.row id v n f ho with⟨hn,_⟩ | ⟨b',sz',cs,el,hg',hh,_⟩
  ·rw[hn]at hg;cases hg
  ·rw[hg']at hg;cases hg;exact(Array.getElem?_eq_some_iff.1 hh).1
 |map k g =>
  obtain⟨b',sz',es,cl,hg',hh,_⟩:=h.map id k g ho;rw[hg']at hg;cases hg;exact(Array.getElem?_eq_some_iff.1 hh).1
 |_=>simp[AO.owned]at hown
theorem Ext.rep {c c':Ctx}(h:Ext c c')(hr:HRel c){v:Value}{a:AV}(hv:Rep c v a):Rep c' v a :=
 hv.ext h.smono (fun b hb=>h.same b (hr.bound b hb) (hr.notOwn hb)) h.hle
def Ctx.bare (w:World)(S:Nat→Prop):Ctx:=⟨w,S,fun _=>none,[]⟩
theorem YY {w:World}{S:Nat→Prop}(h:∀b,S b→b<w.heap.size):HRel (.bare w S) :=
  ⟨fun _ _ _ _ h=>by simp[Ctx.bare]at h,fun _ _ _ _ h=>by simp[Ctx.bare]at h,fun _ _ _ h=>by simp[Ctx.bare]at h,
   fun _ _ _ _ _ _ _ h=>by simp[Ctx.bare]at h,h⟩
theorem CR {w:World}{S:Nat→Prop}{b:Nat}:¬ZK (.bare w S) b:=by
 rintro⟨id,o,sz,h,_⟩;simp[Ctx.bare]at h
theorem MapOk.ext {c c':Ctx}{k:IntKind}{g:Int→Option AV}{es:Array MapEntry}(h:MapOk c k g es)(he:∀v a,Rep c v a→Rep c' v a):MapOk c' k g es :=
 ⟨h.keys,h.uniq,fun n a hn=>let ⟨e,hm,hk,hr⟩:=h.hit n a hn; ⟨e,hm,hk,he _ _ hr⟩,h.miss⟩
def tW (c c':Ctx)(id ver:Nat):Prop :=
 c.H[id]?=none∨c.H[id]?=some .unborn∨(∃v0,inf c.H id=some v0∧(v0<ver∨(v0=ver∧c'.γ id=c.γ id)))
theorem Zm {c c':Ctx}(hr:HRel c){id ver n b sz:Nat}{f:Nat→AV}{cs:Array Value}{el:TypeId}
  (hid:c'.H[id]?=some (.row ver n f)) (hH:∀i,i≠id→c'.H[i]?=c.H[i]?) (hS:c'.S=c.S)
  (hg:c'.γ id=some (b,sz)) (hγ:∀i,i≠id→c'.γ i=c.γ i)
  (hb:c'.w.heap[b]?=some (.cells cs el (0,0))) (hsz:cs.size=sz) (hn:n≤sz)
  (hw:∀b',b'≠b→b'<c.w.heap.size→c'.w.heap[b']?=c.w.heap[b']?) (hsize:c.w.heap.size≤c'.w.heap.size)
  (hos:c'.w.os=c.w.os) (htape:c'.w.tape=c.w.tape) (hout:c'.w.output=c.w.output)
  (hfresh:c.w.heap.size≤b∨∃o sz',c.H[id]?=some o∧o.owned=true∧c.γ id=some (b,sz'))
  (hfits:tW c c' id ver)
  (hcells:∀j,j<n→Rep c (cs.getD j undef) (f j)):HRel c'∧Ext c c':=by
 have hown:∀ {x},x<c.w.heap.size→¬ZK c x→x≠b:=by
  rintro x hx hno rfl;rcases hfresh with h | ⟨o,sz',h1,h2,h3⟩
  ·omega
  ·exact hno ⟨id,o,sz',h1,h2,h3⟩
 have hext:Ext c c':=by
  refine⟨?_,fun x hx=>by rw[hS];exact hx,fun x hx=>by rw[hS]at hx;exact .inl hx,?_,fun x hx hno=>hw x (hown hx hno) hx,hsize,hos,htape,hout⟩
  ·intro i o ho
   by_cases hi:i=id
   ·subst hi
    rcases hfits with h |h | ⟨v0,hi0,hv⟩
    ·rw[h]at ho;cases ho
    ·rw[h]at ho;cases ho;trivial
    ·have hinf:inf c'.H i=some ver:=by simp[inf,hid,AO.info]
     unfold inf at hi0;rw[ho]at hi0;cases o <;> simp[AO.info]at hi0
     ·subst hi0;exact .inr ⟨ver,hinf,hv.imp id fun⟨a,b⟩=>⟨a.symm,b⟩⟩
     ·subst hi0;exact .inr ⟨ver,hinf,hv.imp id fun⟨a,b⟩=>⟨a.symm,b⟩⟩
   ·have h1:=HLe.refl c i o ho
    have e1:=hH i hi;have e2:=hγ i hi;cases o with
    |unborn=>trivial
    |dead=>simpa [e1]using h1
    |row v _ _=>simpa [e1,e2,inf]using h1
    |con v _ _=>simpa [e1,e2,inf]using h1
    |map k g=>simpa [e1,e2]using h1
  ·rintro x ⟨i,o,s,ho,hown',hgi⟩
   by_cases hi:i=id
   ·subst hi
    rw[hg]at hgi;cases hgi;rcases hfresh with h | ⟨o',sz',h1,h2,h3⟩
    ·exact .inl h
    ·exact .inr ⟨i,o',sz',h1,h2,h3⟩
   ·rw[hH i hi]at ho;rw[hγ i hi]at hgi
    exact .inr ⟨i,o,s,ho,hown',hgi⟩
 refine⟨?_,hext⟩;have hne:∀ {i o x s},i≠id→c.H[i]?=some o→o.owned=true→c.γ i=some (x,s)→x<c.w.heap.size→x≠b:=by
  rintro i o x s hi ho hown' hgi hlt rfl;rcases hfresh with h | ⟨o',sz',h1,h2,h3⟩
  ·omega
  ·exact hi (hr.inj _ _ _ _ _ _ _ ho h1 hown' h2 hgi h3)
 refine⟨?_,?_,?_,?_,fun x hx=>by rw[hS]at hx;exact Nat.lt_of_lt_of_le (hr.bound x hx) hsize⟩
 ·intro i v m g ho
  by_cases hi:i=id
  ·subst hi
   rw[hid]at ho;cases ho;refine .inr ⟨b,sz,cs,el,hg,hb,hsz,hn,?_,fun j hj=>hext.rep hr (hcells j hj)⟩;rw[hS];intro hSb;rcases hfresh with h | ⟨o',sz',h1,h2,h3⟩
   ·have:=hr.bound b hSb;omega
   ·exact hr.notOwn hSb ⟨i,o',sz',h1,h2,h3⟩
  ·rw[hH i hi]at ho
   rw[hγ i hi,hS];rcases hr.row i v m g ho with h | ⟨b',sz',cs',el',h1,h2,h3,h4,h5,h6⟩
   ·exact .inl h
   ·have hlt:=(Array.getElem?_eq_some_iff.1 h2).1
    exact .inr ⟨b',sz',cs',el',h1,by rw[hw b' (hne hi ho rfl h1 hlt) hlt];exact h2,h3,h4,h5,fun j hj=>hext.rep hr (h6 j hj)⟩
 ·intro i v m g ho
  by_cases hi:i=id
  ·subst hi;rw[hid]at ho;cases ho
  ·rw[hH i hi]at ho
   rw[hγ i hi,hS];rcases hr.con i v m g ho with h | ⟨b',sz',cs',el',fr,h1,h2,h3,h4,h5,h6⟩
   ·exact .inl h
   ·have hlt:=(Array.getElem?_eq_some_iff.1 h2).1
    exact .inr ⟨b',sz',cs',el',fr,h1,by rw[hw b' (hown hlt (hr.notOwn h5)) hlt];exact h2,h3,h4,h5,fun j hj=>hext.rep hr (h6 j hj)⟩
 ·intro i k g ho
  by_cases hi:i=id
  ·subst hi;rw[hid]at ho;cases ho
  ·rw[hH i hi]at ho
   rw[hγ i hi,hS];obtain⟨b',sz',es,cl,h1,h2,h3,h4⟩:=hr.map i k g ho;have hlt:=(Array.getElem?_eq_some_iff.1 h2).1;exact⟨b',sz',es,cl,h1,by rw[hw b' (hne hi ho rfl h1 hlt) hlt];exact h2,h3,h4.ext fun v a hv=>hext.rep hr hv⟩
 ·intro i i' o o' x s s' ho ho' hown1 hown2 hgi hgi'
  by_cases hi:i=id <;> by_cases hi':i'=id
  ·rw[hi,hi']
  ·subst hi
   rw[hg]at hgi;cases hgi;rw[hH i' hi']at ho';rw[hγ i' hi']at hgi';exact absurd rfl (hne hi' ho' hown2 hgi' (hr.ownLt ⟨i',o',s',ho',hown2,hgi'⟩))
  ·subst hi'
   rw[hg]at hgi';cases hgi';rw[hH i hi]at ho;rw[hγ i hi]at hgi;exact absurd rfl (hne hi ho hown1 hgi (hr.ownLt ⟨i,o,s,ho,hown1,hgi⟩))
  ·rw[hH i hi]at ho;rw[hγ i hi]at hgi;rw[hH i' hi']at ho';rw[hγ i' hi']at hgi'
   exact hr.inj _ _ _ _ _ _ _ ho ho' hown1 hown2 hgi hgi'
theorem WI {c c':Ctx}(hr:HRel c){id b sz:Nat}{k:IntKind}{g:Int→Option AV}{es:Array MapEntry}{clock:Nat}
  (hid:c'.H[id]?=some (.map k g)) (hH:∀i,i≠id→c'.H[i]?=c.H[i]?) (hS:c'.S=c.S)
  (hg:c'.γ id=some (b,sz)) (hγ:∀i,i≠id→c'.γ i=c.γ i)
  (hb:c'.w.heap[b]?=some (.map es clock))
  (hw:∀b',b'≠b→b'<c.w.heap.size→c'.w.heap[b']?=c.w.heap[b']?) (hsize:c.w.heap.size≤c'.w.heap.size)
  (hos:c'.w.os=c.w.os) (htape:c'.w.tape=c.w.tape) (hout:c'.w.output=c.w.output)
  (hfresh:c.w.heap.size≤b∨∃o sz',c.H[id]?=some o∧o.owned=true∧c.γ id=some (b,sz'))
  (hfits:c.H[id]?=none∨c.H[id]?=some .unborn∨((∃k0 g0,c.H[id]?=some (.map k0 g0))∧c'.γ id=c.γ id))
  (hok:MapOk c k g es):HRel c'∧Ext c c':=by
 have hown:∀ {x},x<c.w.heap.size→¬ZK c x→x≠b:=by
  rintro x hx hno rfl;rcases hfresh with h | ⟨o,sz',h1,h2,h3⟩
  ·omega
  ·exact hno ⟨id,o,sz',h1,h2,h3⟩
 have hext:Ext c c':=by
  refine⟨?_,fun x hx=>by rw[hS];exact hx,fun x hx=>by rw[hS]at hx;exact .inl hx,?_,fun x hx hno=>hw x (hown hx hno) hx,hsize,hos,htape,hout⟩
  ·intro i o ho
   by_cases hi:i=id
   ·subst hi
    rcases hfits with h |h | ⟨⟨k0,g0,h⟩,hγ0⟩
    ·rw[h]at ho;cases ho
    ·rw[h]at ho;cases ho;trivial
    ·rw[h]at ho;cases ho
     exact .inr ⟨⟨k,g,hid⟩,hγ0⟩
   ·have h1:=HLe.refl c i o ho
    have e1:=hH i hi;have e2:=hγ i hi;cases o with
    |unborn=>trivial
    |dead=>simpa [e1]using h1
    |row v _ _=>simpa [e1,e2,inf]using h1
    |con v _ _=>simpa [e1,e2,inf]using h1
    |map k g=>simpa [e1,e2]using h1
  ·rintro x ⟨i,o,s,ho,hown',hgi⟩
   by_cases hi:i=id
   ·subst hi
    rw[hg]at hgi;cases hgi;rcases hfresh with h | ⟨o',sz',h1,h2,h3⟩
    ·exact .inl h
    ·exact .inr ⟨i,o',sz',h1,h2,h3⟩
   ·rw[hH i hi]at ho;rw[hγ i hi]at hgi
    exact .inr ⟨i,o,s,ho,hown',hgi⟩
 refine⟨?_,hext⟩;have hne:∀ {i o x s},i≠id→c.H[i]?=some o→o.owned=true→c.γ i=some (x,s)→x<c.w.heap.size→x≠b:=by
  rintro i o x s hi ho hown' hgi hlt rfl;rcases hfresh with h | ⟨o',sz',h1,h2,h3⟩
  ·omega
  ·exact hi (hr.inj _ _ _ _ _ _ _ ho h1 hown' h2 hgi h3)
 refine⟨?_,?_,?_,?_,fun x hx=>by rw[hS]at hx;exact Nat.lt_of_lt_of_le (hr.bound x hx) hsize⟩
 ·intro i v m g ho
  by_cases hi:i=id
  ·subst hi
   rw[hid]at ho;cases ho
  ·rw[hH i hi]at ho
   rw[hγ i hi,hS];rcases hr.row i v m g ho with h | ⟨b',sz',cs',el',h1,h2,h3,h4,h5,h6⟩
   ·exact .inl h
   ·have hlt:=(Array.getElem?_eq_some_iff.1 h2).1
    exact .inr ⟨b',sz',cs',el',h1,by rw[hw b' (hne hi ho rfl h1 hlt) hlt];exact h2,h3,h4,h5,fun j hj=>hext.rep hr (h6 j hj)⟩
 ·intro i v m g ho
  by_cases hi:i=id
  ·subst hi;rw[hid]at ho;cases ho
  ·rw[hH i hi]at ho
   rw[hγ i hi,hS];rcases hr.con i v m g ho with h | ⟨b',sz',cs',el',fr,h1,h2,h3,h4,h5,h6⟩
   ·exact .inl h
   ·have hlt:=(Array.getElem?_eq_some_iff.1 h2).1
    exact .inr ⟨b',sz',cs',el',fr,h1,by rw[hw b' (hown hlt (hr.notOwn h5)) hlt];exact h2,h3,h4,h5,fun j hj=>hext.rep hr (h6 j hj)⟩
 ·intro i k' g' ho
  by_cases hi:i=id
  ·subst hi;rw[hid]at ho;cases ho
   refine⟨b,sz,es,clock,hg,hb,?_,hok.ext fun v a hv=>hext.rep hr hv⟩;rw[hS];intro hSb;rcases hfresh with h | ⟨o',sz',h1,h2,h3⟩
   ·have:=hr.bound b hSb;omega
   ·exact hr.notOwn hSb ⟨i,o',sz',h1,h2,h3⟩
  ·rw[hH i hi]at ho
   rw[hγ i hi,hS];obtain⟨b',sz',es',cl,h1,h2,h3,h4⟩:=hr.map i k' g' ho;have hlt:=(Array.getElem?_eq_some_iff.1 h2).1;exact⟨b',sz',es',cl,h1,by rw[hw b' (hne hi ho rfl h1 hlt) hlt];exact h2,h3,h4.ext fun v a hv=>hext.rep hr hv⟩
 ·intro i i' o o' x s s' ho ho' hown1 hown2 hgi hgi'
  by_cases hi:i=id <;> by_cases hi':i'=id
  ·rw[hi,hi']
  ·subst hi
   rw[hg]at hgi;cases hgi;rw[hH i' hi']at ho';rw[hγ i' hi']at hgi';exact absurd rfl (hne hi' ho' hown2 hgi' (hr.ownLt ⟨i',o',s',ho',hown2,hgi'⟩))
  ·subst hi'
   rw[hg]at hgi';cases hgi';rw[hH i hi]at ho;rw[hγ i hi]at hgi;exact absurd rfl (hne hi ho hown1 hgi (hr.ownLt ⟨i,o,s,ho,hown1,hgi⟩))
  ·rw[hH i hi]at ho;rw[hγ i hi]at hgi;rw[hH i' hi']at ho';rw[hγ i' hi']at hgi'
   exact hr.inj _ _ _ _ _ _ _ ho ho' hown1 hown2 hgi hgi'
end Go.Ab
namespace Go.Ab
open Go Go.RowKit
noncomputable section
def KI (P:Program)(t:TypeId):Option Nat:=(P.info? t).map (·.size)
def dX:TypeDesc→Bool
 | .struct _=>true
 | .array _ _=>true
 |_=>false
def Cc (P:Program)(t:TypeId):Option (Option Nat) :=
 match P.underlying t,P.info? t with
 |some d,some i=>some (if dX d then some i.size else none)
 |_,_=>none
theorem HD {P:Program}{t:TypeId}{d:TypeDesc}(h:P.underlying t=some d)(w:World):(isAgg t).run P w=.ok (dX d) w:=by
 simp only[isAgg,Sem.run_bind,run_underlying h,Result.andThen_ok];cases d <;> rfl
def At (P:Program)(t:TypeId):Option (TypeId×Nat×Nat) :=
 match P.underlying t with
 |some (.slice e)=>match P.info? e with
  |some i=>match i.zero with
   |some z=>if z.cells.size=i.size∧0<i.size then some (e,i.size,i.bytes)else none
   |none=>none
  |none=>none
 |_=>none
def BR (P:Program)(t:TypeId)(i:Nat):Option (Nat×Nat×Option Nat) :=
 match P.underlying t with
 |some (.struct fs)=>match fs[i]? with
  |some f=>match P.info? f.type,Cc P f.type with
   |some inf,some k=>if inf.size=0 then none else some (f.offset,inf.size,k)
   |_,_=>none
  |none=>none
 |_=>none
def cG (P:Program)(t:TypeId):Option (Nat×Nat×Option Nat) :=
 match P.underlying t with
 |some (.array n e)=>match P.info? e,Cc P e with
  |some inf,some k=>some (n,inf.size,k)
  |_,_=>none
 |_=>none
def VU (P:Program)(t:TypeId):Option IntKind:=match P.underlying t with |some (.int k)=>some k |_=>none
def aK (P:Program)(t:TypeId):Bool:=match P.underlying t with |some (.pointer _)=>true |_=>false
def Lf (P:Program)(t:TypeId):Bool:=match P.underlying t with |some .bool=>true |_=>false
def iP (P:Program)(t:TypeId):Option (TypeId×TypeId):=match P.underlying t with |some (.map k e)=>some (k,e) |_=>none
def JF:Value→AV
 | .bool b=>.bool b
 | .int k n=>.int k n
 | .string s=>.str s
 | .pointer none=>.nil
 | .slice none 0 0=>.sl 0 0 (fun _=>.any) true
 | .map none=>.nilmap
 | .nilFunc=>.nilfn
 | .nilIface=>.nilif
 |_=>.any
def fK:Value→AV
 | .agg cs=>.agg (cs.toList.map JF)
 |v=>JF v
theorem ZM (c:Ctx)(v:Value):Rep c v (JF v):=by
 unfold JF
 split
 ·exact .bool _
 ·exact .int _ _
 ·exact .str _
 ·exact .nil
 ·exact .slz _ _ _ _ (fun _=>rfl)
 ·exact .nilmap
 ·exact .nilfn
 ·exact .nilif
 ·exact .any _
theorem HA (c:Ctx)(cs:Array Value)(f:Value→AV)(h:∀v,Rep c v (f v)):∀j,j<(cs.toList.map f).length→Rep c (cs.getD j undef) ((cs.toList.map f).getD j .any):=by
 intro j hj;have hj':j<cs.size:=by simpa using hj
 have e1:cs.getD j undef=cs[j]:=by simp[Array.getD,hj']
 have e2:(cs.toList.map f).getD j .any=f cs[j]:=by simp[List.getD,hj']
 rw[e1,e2];exact h _
theorem Wl (c:Ctx)(v:Value):Rep c v (fK v):=by
 unfold fK
 split
 ·exact .agg _ _ (by simp) (HA c _ JF (ZM c))
 ·exact ZM c _
def Q9 (P:Program)(t:TypeId):Option (List AV):=((P.info? t).bind (·.zero)).map fun z=>z.cells.toList.map JF
def li (P:Program)(t:TypeId):Option AV:=((P.info? t).bind (·.zero)).map fK
def Q4 {α:Type}(p:Prop)(x:Option α):Option α:=@ite _ p (Classical.propDecidable p) x none
def XY {α:Type}(o:Option α)(K:α→Prop):Prop:=∃x,o=some x∧K x
theorem Xg {α:Type}{p:Prop}{x:Option α}{y:α}(h:Q4 p x=some y):p∧x=some y:=by
 unfold Q4 at h;by_cases hp:p
 ·rw[if_pos hp]at h;exact⟨hp,h⟩
 ·rw[if_neg hp]at h;cases h
@[simp] theorem obind_some {α:Type}(x:α)(K:α→Prop):XY (some x) K=K x:=by simp[XY]
@[simp] theorem obind_none {α:Type}(K:α→Prop):XY (none:Option α) K=False:=by simp[XY]
@[simp] theorem obind_oif {α:Type}(p:Prop)(x:Option α)(K:α→Prop):XY (Q4 p x) K=(p∧XY x K):=by
 unfold Q4 XY;by_cases hp:p <;> simp[hp]
def Xf (l:List AV):Nat→AV:=fun j=>l.getD j .any
def DS (f:Nat→AV)(i:Nat)(v:AV):Nat→AV:=fun j=>if j=i then v else f j
def FQ (f:Nat→AV):Nat→List AV→Nat→AV
 |_,[]=>f
 |i,v :: l=>FQ (DS f i v) (i+1) l
def Qw (f:Nat→AV)(off:Nat):Nat→Nat→List AV
 |_,0=>[]
 |j,n+1=>f (off+j) :: Qw f off (j+1) n
def rd (k:Option Nat)(m:Nat)(f:Nat→AV)(off:Nat):Option AV :=
 match k with
 |none=>Q4 (off<m) (some (f off))
 |some n=>Q4 (off+n≤m) (some (.agg (Qw f off 0 n)))
def AV.one:AV→Bool
 | .any=>false
 | .agg _=>false
 | .tup _=>false
 |_=>true
def AV.cells:AV→List AV
 | .agg l=>l
 |a=>[a]
def AV.loose:AV→AV
 | .sl n m f _=>.sl n m f false
 |a=>a
theorem Rep.loose {c:Ctx}{v:Value}{a:AV}(h:Rep c v a):Rep c v a.loose:=by
 cases a with
 |sl n m f t =>
  cases h with
  |sl _ _ _ _ _ _ _ _ h1 h2 h3 h4 _=>exact .sl _ _ _ _ _ _ _ _ h1 h2 h3 h4 (by simp)
  |slz=>exact .slz _ _ _ _ (by simp)
 |_=>exact h
def AV.boxed:AV→AV
 | .sl n m f t=>.sl n m f (t && n == 0)
 |a=>a
theorem Rep.boxed {c:Ctx}{v:Value}{a:AV}(h:Rep c v a):Rep c v a.boxed:=by
 cases a with
 |sl n m f t =>
  cases h with
  |sl _ _ _ _ _ _ _ _ h1 h2 h3 h4 h5=>exact .sl _ _ _ _ _ _ _ _ h1 h2 h3 h4 (fun e=>h5 (by cases t <;> simp_all))
  |slz _ _ _ _ h5=>exact .slz _ _ _ _ (fun e=>h5 (by cases t <;> simp_all))
 |_=>exact h
theorem Rep.one {c:Ctx}{v:Value}{a:AV}(h:Rep c v a)(h1:a.one=true):v.oneCell'=true:=by
 cases h <;> first |rfl |simp[AV.one]at h1
theorem AA (f:Nat→AV)(off:Nat):∀n j,(Qw f off j n).length=n
 |0,_=>rfl
 |n+1,j=>by simp[Qw,AA f off n]
theorem E8 (f:Nat→AV)(off:Nat):∀n j i,i<n→(Qw f off j n).getD i .any=f (off+j+i)
 |n+1,j,0,_=>by simp[Qw]
 |n+1,j,i+1,h=>by
  simp only[Qw,List.getD_cons_succ];rw[E8 f off n (j+1) i (by omega)];congr 1;omega
theorem Ey (l:List AV):∀ (f:Nat→AV) (i j:Nat),FQ f i l j=if i≤j∧j<i+l.length then l.getD (j-i) .any else f j:=by
 induction l with
 |nil=>intro f i j;rw[FQ,if_neg (by simp)]
 |cons v l ih =>
  intro f i j;rw[FQ,ih];by_cases h1:i+1≤j∧j<i+1+l.length
  ·rw[if_pos h1,if_pos (by simp;omega)]
   obtain⟨d,rfl⟩:∃d,j=i+1+d:=⟨j-(i+1),by omega⟩
   rw[show i+1+d-(i+1)=d by omega,show i+1+d-i=d+1 by omega,List.getD_cons_succ]
  ·rw[if_neg h1,DS]
   by_cases h2:j=i
   ·subst h2;simp
   ·rw[if_neg h2,if_neg (by simp;omega)]
def OpOk (c:Ctx)(run:Result Next)(v:AV)(h':List AO):Prop :=
 ∃x w' S' γ',(run=.ok (.value x) w'∨(run=.ok .skip w'∧x=undef))∧Rep ⟨w',S',γ',h'⟩ x v∧HRel ⟨w',S',γ',h'⟩∧Ext c ⟨w',S',γ',h'⟩
theorem OpOk.same {c:Ctx}(hr:HRel c){run:Result Next}{x:Value}{v:AV}(h:run=.ok (.value x) c.w) (hv:Rep c x v):OpOk c run v c.H :=
 ⟨x,c.w,c.S,c.γ,.inl h,hv,hr,Ext.refl c⟩
def Qz (nid:Option Nat)(h:List AO):Nat:=nid.getD h.length
def Kb (nid:Option Nat)(h:List AO)(o:AO):List AO:=match nid with |none=>h ++ [o] |some id=>h.set id o
def Jy (γ:Nat→Option (Nat×Nat)) (id:Nat) (x:Option (Nat×Nat)):Nat→Option (Nat×Nat):=fun i=>if i=id then x else γ i
theorem Gq {nid:Option Nat}{h:List AO}{o:AO}(hn:∀id,nid=some id→h[id]?=some .unborn):(Kb nid h o)[Qz nid h]?=some o:=by
 cases nid with
 |none=>simp[Kb,Qz]
 |some id =>
  have:=hn id rfl;have hlt:id<h.length:=(List.getElem?_eq_some_iff.1 this).1;simp[Kb,Qz,hlt]
theorem ZZ {nid:Option Nat}{h:List AO}{o:AO}(i:Nat)(hi:i≠Qz nid h):(Kb nid h o)[i]?=h[i]?:=by
 cases nid with
 |none =>
  simp only[Kb,Qz,Option.getD_none]at *;rw[List.getElem?_append]
  split
  ·rfl
  ·rename_i hlt
   rw[List.getElem?_eq_none (by simp;omega),List.getElem?_eq_none (by omega)]
 |some id =>
  simp only[Kb,Qz,Option.getD_some]at *;rw[List.getElem?_set];rw[if_neg (fun e=>hi e.symm)]
theorem aC {nid:Option Nat}{c:Ctx}(hn:∀ id,nid=some id→c.H[id]?=some .unborn)(c':Ctx)(ver:Nat):tW c c' (Qz nid c.H) ver:=by
 cases nid with
 |none=>exact .inl (by simp[Qz])
 |some id=>exact .inr (.inl (by simpa [Qz]using hn id rfl))
theorem P5 {c:Ctx}(hr:HRel c){nid:Option Nat}(hnid:∀ id,nid=some id→c.H[id]?=some .unborn)(cs:Array Value)(el:TypeId)(n:Nat)(f:Nat→AV)
  (hn:n≤cs.size) (hc:∀j,j<n→Rep c (cs.getD j undef) (f j)) (w:World) (hw:w.heap=c.w.heap.push (.cells cs el)) (hos:w.os=c.w.os) (ht:w.tape=c.w.tape) (ho:w.output=c.w.output) :
  let c':Ctx:=⟨w,c.S,Jy c.γ (Qz nid c.H) (some (c.w.heap.size,cs.size)),Kb nid c.H (.row 0 n f)⟩
  HRel c'∧Ext c c':=by
 intro c';refine Zm (c:=c) (c':=c') hr (id:=Qz nid c.H) (ver:=0) (n:=n) (b:=c.w.heap.size) (sz:=cs.size) (f:=f) (cs:=cs) (el:=el)
  (Gq hnid) (fun i hi=>ZZ i hi) rfl (by simp[c',Jy]) (fun i hi=>by simp[c',Jy,hi]) (by simp[c',hw]) rfl hn ?_ (by simp[c',hw]) hos ht ho (.inl (Nat.le_refl _))
  (aC hnid c' 0) hc
 intro b' hb hlt;simp only[c',hw,Array.getElem?_push,if_neg (Nat.ne_of_lt hlt)]
theorem RI {c:Ctx}(hr:HRel c)(cs:Array Value)(el:TypeId)(w:World)(hw:w.heap=c.w.heap.push (.cells cs el)) (hos:w.os=c.w.os) (ht:w.tape=c.w.tape) (ho:w.output=c.w.output) :
  let c':Ctx:=⟨w,fun b=>c.S b∨b=c.w.heap.size,c.γ,c.H⟩
  HRel c'∧Ext c c':=by
 intro c';have hold:∀b,b<c.w.heap.size→c'.w.heap[b]?=c.w.heap[b]?:=fun b hb=>by
  simp only[c',hw,Array.getElem?_push,if_neg (Nat.ne_of_lt hb)]
 have hext:Ext c c':=⟨HLe.refl c,fun b h=>.inl h,fun b h=>h.elim .inl (fun e=>.inr (.inl (by omega))),fun b h=>.inr h,fun b hb _=>hold b hb,by simp[c',hw],hos,ht,ho⟩
 refine⟨⟨?_,?_,?_,hr.inj,?_⟩,hext⟩
 ·intro id v n f h
  rcases hr.row id v n f h with h | ⟨b,sz,cs,el,h1,h2,h3,h4,h5,h6⟩
  ·exact .inl h
  ·have hlt:=(Array.getElem?_eq_some_iff.1 h2).1
   exact .inr ⟨b,sz,cs,el,h1,by rw[hold b hlt];exact h2,h3,h4,fun hs=>hs.elim h5 (fun e=>by omega),fun j hj=>hext.rep hr (h6 j hj)⟩
 ·intro id v n f h
  rcases hr.con id v n f h with h | ⟨b,sz,cs,el,fr,h1,h2,h3,h4,h5,h6⟩
  ·exact .inl h
  ·have hlt:=(Array.getElem?_eq_some_iff.1 h2).1
   exact .inr ⟨b,sz,cs,el,fr,h1,by rw[hold b hlt];exact h2,h3,h4,.inl h5,fun j hj=>hext.rep hr (h6 j hj)⟩
 ·intro id k g h
  obtain⟨b,sz,es,cl,h1,h2,h3,h4⟩:=hr.map id k g h;have hlt:=(Array.getElem?_eq_some_iff.1 h2).1;exact⟨b,sz,es,cl,h1,by rw[hold b hlt];exact h2,fun hs=>hs.elim h3 (fun e=>by omega),h4.ext fun v a hv=>hext.rep hr hv⟩
 ·intro b hb
  have:c'.w.heap.size=c.w.heap.size+1:=by simp[c',hw]
  rcases hb with hb |hb
  ·have:=hr.bound b hb;omega
  ·omega
def vS (k:Option Nat)(us:Nat→Value)(off:Nat):Value :=
 match k with
 |none=>us off
 |some n=>.agg ((List.range n).map fun j=>us (off+j)).toArray
theorem Ib {P:Program}{t:TypeId}{k:Option Nat}(hk:Cc P t=some k){w:World}{b o m:Nat}{us:Nat→Value}(hc:∀j,j<m→w.cell? ⟨b,o+j,none⟩=some (us j))
  {off:Nat} (hoff:off+k.getD 1≤m):(loadVar t ⟨b,o+off,none⟩).run P w=.ok (vS k us off) w:=by
 unfold Cc at hk;have key:∀n,(off+n≤m)→(loadCells ⟨b,o+off,none⟩ n).run P w=.ok ((List.range n).map fun j=>us (off+j)).toArray w:=by
  intro n hn;refine run_loadCells w _ n _ fun j hj=>?_
  have:(⟨b,o+off,none⟩:Addr).add j=⟨b,o+(off+j),none⟩:=by rw[Addr.add_lit,Nat.add_assoc]
  rw[this];exact hc _ (by omega)
 split at hk
 ·rename_i d i hu hi
  cases hk;have hagg:=HD hu w;cases hd:dX d with
  |false =>
   rw[hd]at hagg hoff;have h0:=hc off (by simp at hoff;omega);simp[loadVar,hagg,h0,vS]
  |true =>
   rw[hd]at hagg hoff;have:=key i.size (by simpa using hoff);simp[loadVar,hagg,sizeOf,typeInfo,hi,this,vS]
 ·cases hk
theorem GC {c:Ctx}{k:Option Nat}{m off:Nat}{f:Nat→AV}{us:Nat→Value}(hr:∀j,j<m→Rep c (us j) (f j)) {v:AV} (h:rd k m f off=some v) :
  off+k.getD 1≤m∧Rep c (vS k us off) v:=by
 cases k with
 |none =>
  obtain⟨h1,h2⟩:=Xg h;cases h2;exact⟨h1,hr _ h1⟩
 |some n =>
  obtain⟨h1,h2⟩:=Xg h;cases h2;refine⟨by simpa using h1,.agg _ _ (by simp[AA]) fun j hj=>?_⟩;rw[AA]at hj;rw[E8 _ _ _ _ _ hj];simp only[Nat.add_zero];have:((List.range n).map fun j=>us (off+j)).toArray.getD j undef=us (off+j):=by simp[Array.getD,hj]
  rw[this];exact hr _ (by omega)
def Qm (P:Program)(strict:Bool)(t:TypeId)(a:AV)(h:List AO):Option AV :=
 match Cc P t with
 |none=>none
 |some k =>
  match a with
  | .ptr m f off=>rd k m f off
  | .ref id ver off =>
   match h[id]? with
   |some (.row v m f)=>Q4 (strict=false∧v=ver) (rd k m f off)
   |some (.con v m f)=>Q4 (v=ver) (rd k m f off)
   |_=>none
  |_=>none
theorem Ze {c:Ctx}{b m:Nat}{cs:Array Value}{el:TypeId}{fr:Nat×Nat}(hb:c.w.heap[b]?=some (.cells cs el fr)) (hn:m≤cs.size)
  : (∀j,j<m→c.w.cell? ⟨b,0+j,none⟩=some (cs.getD j undef)):=by
 intro j hj;have hlt:j<cs.size:=by omega
 rw[Nat.zero_add,cell_of_row c.w b j cs el fr hb];simp[Array.getD,hlt]
theorem HK {P:Program}{c:Ctx}(hr:HRel c){strict:Bool}{t:TypeId}{a:AV}{v:AV}{x:Value}(hx:Rep c x a)(h:Qm P strict t a c.H=some v) :
  ∃y,(Instr.loadAt t x).run P c.w=.ok y c.w∧Rep c y v:=by
 unfold Qm at h;cases hk:Cc P t with
 |none=>simp[hk]at h
 |some k =>
  simp only[hk]at h;cases a with
  |ptr m f off =>
   cases hx with
   |ptr b base _ _ _ us hS hc hr' =>
    obtain⟨h1,h2⟩:=GC hr' h;exact⟨_,by simpa [Instr.loadAt,Instr.sureAddr]using Ib hk hc h1,h2⟩
  |ref id ver off =>
   cases ho:c.H[id]? with
   |none=>simp[ho]at h
   |some o =>
    simp only[ho]at h;have main:∀b sz cs el fr m f,c.γ id=some (b,sz)→c.w.heap[b]?=some (.cells cs el fr)→m≤cs.size→(∀j,j<m→Rep c (cs.getD j undef) (f j)) →
      inf c.H id=some ver→rd k m f off=some v→∃y,(Instr.loadAt t x).run P c.w=.ok y c.w∧Rep c y v:=by
     intro b sz cs el fr m f hg hb hn hrr hinf hrd;obtain⟨h1,h2⟩:=GC hrr hrd;cases hx with
     |ref _ _ _ b' sz' hi' hg' =>
      rw[hg]at hg';cases hg';have:=Ib (P:=P) hk (Ze hb hn) h1;rw[Nat.zero_add]at this;exact⟨_,by simpa [Instr.loadAt,Instr.sureAddr]using this,h2⟩
     |refOld _ _ _ _ hs =>
      rcases hs with⟨v',hi,hlt⟩ |hd
      ·rw[hinf]at hi;cases hi;omega
      ·rw[ho]at hd;cases hd;simp[inf,ho,AO.info]at hinf
    cases o with
    |row v' m f =>
     obtain⟨⟨_,rfl⟩,h2⟩:=Xg h;rcases hr.row id _ m f ho with⟨hn,hm0⟩ | ⟨b,sz,cs,el,h1,h3,h4,h5,h6,h7⟩
     ·subst hm0;have:=(GC (c:=c) (us:=fun _=>undef) (fun j hj=>absurd hj (Nat.not_lt_zero j)) h2).1
      cases k <;> simp at this
      ·obtain⟨rfl,hkk⟩:=this
       subst hkk;cases hx with
       |ref _ _ _ b' sz' hi' hg'=>rw[hn]at hg';cases hg'
       |refOld _ _ _ _ hs =>
        rcases hs with⟨v'',hi,hlt⟩ |hd
        ·simp[inf,ho,AO.info]at hi;omega
        ·rw[ho]at hd;cases hd
     ·exact main b sz cs el (0,0) m f h1 h3 (by omega) h7 (by simp[inf,ho,AO.info]) h2
    |con v' m f =>
     obtain⟨rfl,h2⟩:=Xg h;rcases hr.con id _ m f ho with⟨hn,hm0⟩ | ⟨b,sz,cs,el,fr,h1,h3,h4,h5,h6,h7⟩
     ·subst hm0;have:=(GC (c:=c) (us:=fun _=>undef) (fun j hj=>absurd hj (Nat.not_lt_zero j)) h2).1
      cases k <;> simp at this
      ·obtain⟨rfl,hkk⟩:=this
       subst hkk;cases hx with
       |ref _ _ _ b' sz' hi' hg'=>rw[hn]at hg';cases hg'
       |refOld _ _ _ _ hs =>
        rcases hs with⟨v'',hi,hlt⟩ |hd
        ·simp[inf,ho,AO.info]at hi;omega
        ·rw[ho]at hd;cases hd
     ·exact main b sz cs el fr m f h1 h3 (by omega) h7 (by simp[inf,ho,AO.info]) h2
    |_=>simp at h
  |_=>simp at h
def Z8 (st:Bool)(v:AV):List AV:=match st with
 |true=>v.cells.map AV.boxed
 |false=>v.cells.map AV.loose
theorem Mw (st:Bool)(v:AV):(Z8 st v).length=v.cells.length:=by cases st <;> simp[Z8]
theorem bD {c:Ctx}{x:Value}{st:Bool}{v:AV}{d:Nat}(hd:d<v.cells.length)(h:Rep c x (v.cells.getD d .any)):Rep c x ((Z8 st v).getD d .any):=by
 cases st with
 |true =>
  have:(Z8 true v).getD d .any=(v.cells.getD d .any).boxed:=by simp[Z8,List.getD_eq_getElem?_getD,hd]
  rw[this];exact h.boxed
 |false =>
  have:(Z8 false v).getD d .any=(v.cells.getD d .any).loose:=by simp[Z8,List.getD_eq_getElem?_getD,hd]
  rw[this];exact h.loose
def KU (P:Program)(st:Bool)(t:TypeId)(a v:AV)(h:List AO):Option (List AO) :=
 match a with
 | .ref id ver off =>
  match h[id]? with
  |some (.row v' m f)=>Q4 (v'=ver∧KI P t=some v.cells.length∧v.cells≠[]∧off+v.cells.length≤m∧v.cells.all AV.one=true) (some (h.set id (.row v' m (FQ f off (Z8 st v)))))
  |_=>none
 |_=>none
theorem RepL.single {c:Ctx}{x:Value}{v:AV}(h:Rep c x v):RepL c #[x] [v] :=
 ⟨rfl,fun j hj=>by
   obtain rfl:j=0:=by simpa using hj
   simpa [Array.getD]using h⟩
theorem C3 {c:Ctx}{x:Value}{v:AV}(hx:Rep c x v)(hne:v.cells.all AV.one=true):RepL c x.cells v.cells:=by
 have h1:v.one=true→RepL c x.cells v.cells:=by
  intro hv;have e1:x.cells=#[x]:=by
   have:=hx.one hv;cases x <;> first |rfl |simp[Value.oneCell']at this
  have e2:v.cells=[v]:=by cases v <;> first |rfl |simp[AV.one]at hv
  rw[e1,e2];exact .single hx
 cases v with
 |agg l=>cases hx with |agg vs l hl hr=>exact⟨hl,hr⟩
 |any=>simp[AV.cells,AV.one]at hne
 |tup l=>simp[AV.cells,AV.one]at hne
 |_=>exact h1 rfl
theorem RepL.one {c:Ctx}{vs:Array Value}{l:List AV}(h:RepL c vs l)(h1:l.all AV.one=true):∀v∈vs.toList,v.oneCell'=true:=by
 intro v hv;obtain⟨j,hj,rfl⟩:=List.getElem_of_mem hv;have hj':j<vs.size:=by simpa using hj
 have:=h.2 j (by rw[←h.1];exact hj');have e:vs.getD j undef=vs.toList[j]:=by simp[Array.getD,hj']
 rw[e]at this;refine this.one ?_;have hm:l.getD j .any∈l:=by
  rw[List.getD_eq_getElem?_getD,List.getElem?_eq_getElem (by rw[←h.1];exact hj')];exact List.getElem_mem _
 exact List.all_eq_true.1 h1 _ hm
theorem OD {P:Program}{c:Ctx}{st:Bool}(hr:HRel c){t:TypeId}{a v:AV}{x y:Value}{h':List AO}(hx:Rep c x a)(hy:Rep c y v)(h:KU P st t a v c.H=some h') :
  ∃w' γ',(Instr.storeAt t x y).run P c.w=.ok () w'∧HRel ⟨w',c.S,γ',h'⟩∧Ext c ⟨w',c.S,γ',h'⟩:=by
 unfold KU at h;cases a with
 |ref id ver off =>
  cases ho:c.H[id]? with
  |none=>simp[ho]at h
  |some o =>
   simp only[ho]at h;cases o with
   |row v' m f =>
    obtain⟨⟨rfl,hsz,hne,hoff,hone⟩,h2⟩:=Xg h;cases h2;have hcl:=C3 hy hone;rcases hr.row id _ m f ho with⟨hn,hm0⟩ | ⟨b,sz,cs,el,h1,h3,h4,h5,h6,h7⟩
    ·have:=List.length_pos_iff.2 hne;omega
    ·have hxa:x=.pointer (some ⟨b,off,none⟩):=by
      cases hx with
      |ref _ _ _ b' sz' hi' hg'=>rw[h1]at hg';cases hg';rfl
      |refOld _ _ _ _ hs =>
       rcases hs with⟨v'',hi,hlt⟩ |hd
       ·simp[inf,ho,AO.info]at hi;omega
       ·rw[ho]at hd;cases hd
     subst hxa;have hlen:y.cells.size=v.cells.length:=hcl.1;have hst:=run_storeCells_at P b off el y.cells.toList 0 cs c.w h3 (by simp;omega) (hcl.one hone);simp only[Nat.add_zero]at hst;refine⟨c.w.setRow b (cs.toList.take off ++ y.cells.toList ++ cs.toList.drop (off+y.cells.toList.length)).toArray,c.γ,?_,?_⟩
     ·have hs:∀i,P.info? t=some i→i.size=y.cells.size:=fun i hi=>by simp[KI,hi]at hsz;omega
      cases hi:P.info? t with
      |none=>simp[KI,hi]at hsz
      |some i =>
       simp only[Instr.storeAt,Instr.sureAddr,storeVar,sizeOf,typeInfo,hi,Sem.run_bind,run_program,Result.andThen_ok,Sem.run_pure,hs i hi]
       simpa using hst
     ·have hsize:(cs.toList.take off ++ y.cells.toList ++ cs.toList.drop (off+y.cells.toList.length)).toArray.size=sz:=by
       simp;omega
      refine Zm (c:=c) (c':=⟨_,c.S,c.γ,_⟩) hr (id:=id) (ver:=v') (n:=m) (b:=b) (sz:=sz) (f:=FQ f off (Z8 st v))
       (by have:=(List.getElem?_eq_some_iff.1 ho).1;simp[this]) (fun i hi=>by simp[Ne.symm hi]) rfl h1 (fun _ _=>rfl) (setRow_heap c.w b cs _ el _ h3) hsize (by omega)
       (fun b' hb' _=>setRow_other c.w b b' _ hb') (by simp) rfl rfl rfl (.inr ⟨_,_,ho,rfl,h1⟩) (.inr (.inr ⟨v',by simp[inf,ho,AO.info],.inr ⟨rfl,rfl⟩⟩)) ?_
      intro j hj;rw[Ey];by_cases hin:off≤j∧j<off+(Z8 st v).length
      ·rw[if_pos hin]
       obtain⟨d,rfl⟩:∃d,j=off+d:=⟨j-off,by omega⟩
       have hd:d<v.cells.length:=by rw[Mw]at hin;omega
       have hr2:=bD (st:=st) hd (hcl.2 d hd);have e1:(cs.toList.take off ++ y.cells.toList ++ cs.toList.drop (off+y.cells.toList.length)).toArray.getD (off+d) undef=y.cells.getD d undef:=by
        have hl:(cs.toList.take off).length=off:=by simp;omega
        simp only[Array.getD_eq_getD_getElem?,List.getElem?_toArray];rw[List.getElem?_append_left (by simp;omega),List.getElem?_append_right (by omega),hl,Nat.add_sub_cancel_left];simp
       have e2:(Z8 st v).getD (off+d-off) .any=(Z8 st v).getD d .any:=by rw[Nat.add_sub_cancel_left]
       rw[e1,e2];exact hr2
      ·rw[if_neg hin]
       have e1:(cs.toList.take off ++ y.cells.toList ++ cs.toList.drop (off+y.cells.toList.length)).toArray.getD j undef=cs.getD j undef:=by
        have hl:(cs.toList.take off).length=off:=by simp;omega
        simp only[Array.getD_eq_getD_getElem?,List.getElem?_toArray];by_cases hj1:j<off
        ·rw[List.append_assoc,List.getElem?_append_left (by omega),List.getElem?_take,if_pos hj1];simp
        ·have hj2:off+v.cells.length≤j:=by rw[Mw]at hin;omega
         rw[List.getElem?_append_right (by simp;omega)];simp only[List.length_append,hl,Array.length_toList,List.getElem?_drop];rw[show off+y.cells.size+(j-(off+y.cells.size))=j by omega];simp
       rw[e1];exact h7 j hj
   |_=>simp at h
 |_=>simp at h
def D4 (P:Program)(t:TypeId)(x i:AV):Option AV :=
 match i with
 | .int _ i =>
  match At P t with
  |some (_,s,_) =>
   match x with
   | .sl n m f _=>Q4 (0≤i∧i<n) (some (.ptr m f (i.toNat*s)))
   | .osl id ver _ off n=>Q4 (0≤i∧i<n) (some (.ref id ver (off+i.toNat*s)))
   |_=>none
  |none =>
   match cG P t with
   |some (n,s,_) =>
    match x with
    | .ptr m f off=>Q4 (0≤i∧i<n) (some (.ptr m f (off+i.toNat*s)))
    | .ref id ver off=>Q4 (0≤i∧i<n) (some (.ref id ver (off+i.toNat*s)))
    |_=>none
   |none=>none
 |_=>none
theorem KX {P:Program}{t e s b:Nat}(h:At P t=some (e,s,b)):P.underlying t=some (.slice e)∧∃i z,P.info? e=some i∧i.size=s∧i.bytes=b∧i.zero=some z∧z.cells.size=s∧0<s:=by
 unfold At at h
 split at h
 ·rename_i e' he
  cases hi:P.info? e' with
  |none=>simp[hi]at h
  |some i =>
   cases hz:i.zero with
   |none=>simp[hi,hz]at h
   |some z =>
    simp only[hi,hz]at h
    split at h
    ·rename_i hc;cases h;exact⟨he,i,z,hi,rfl,rfl,hz,hc.1,hc.2⟩
    ·cases h
 ·cases h
theorem Rc {P:Program}{t e s b:Nat}(h:At P t=some (e,s,b)):P.underlying t=some (.slice e)∧∃i,P.info? e=some i∧i.size=s∧i.bytes=b:=by
 obtain⟨hu,i,z,h1,h2,h3,_⟩:=KX h;exact⟨hu,i,h1,h2,h3⟩
theorem L4 {P:Program}{t n s:Nat}{k:Option Nat}(h:cG P t=some (n,s,k)):∃e i,P.underlying t=some (.array n e)∧P.info? e=some i∧i.size=s∧Cc P e=some k:=by
 unfold cG at h
 split at h
 ·rename_i n' e' he
  cases hi:P.info? e' with
  |none=>simp[hi]at h
  |some i =>
   cases hl:Cc P e' with
   |none=>simp[hi,hl]at h
   |some k'=>simp[hi,hl]at h;obtain⟨rfl,rfl,rfl⟩:=h;exact⟨e',i,he,hi,rfl,hl⟩
 ·cases h
theorem Rn {P:Program}{t i o s:Nat}{k:Option Nat}(h:BR P t i=some (o,s,k)):∃fs f inf,P.underlying t=some (.struct fs)∧fs[i]?=some f∧P.info? f.type=some inf∧f.offset=o∧inf.size=s∧s≠0∧Cc P f.type=some k:=by
 unfold BR at h
 split at h
 ·rename_i fs hu
  split at h
  ·rename_i f hf
   cases hi:P.info? f.type with
   |none=>simp[hi]at h
   |some inf =>
    cases hl:Cc P f.type with
    |none=>simp[hi,hl]at h
    |some k' =>
     simp only[hi,hl]at h
     split at h
     ·cases h
     ·rename_i hne;cases h;exact⟨fs,f,inf,hu,hf,hi,rfl,rfl,hne,hl⟩
  ·cases h
 ·cases h
def eF (P:Program)(t:TypeId)(x:AV):Option AV :=
 match cG P t with
 |some (n,_,_) =>
  match x with
  | .sl m k f _=>Q4 (0<n∧n≤m) (some (.ptr k f 0))
  | .osl id ver _ off m=>Q4 (0<n∧n≤m) (some (.ref id ver off))
  |_=>none
 |none=>none
theorem PL {P:Program}{c:Ctx}{t:TypeId}{x v:AV}{y:Value}(hx:Rep c y x)(h:eF P t x=some v):∃r,(Instr.arrayAt t y).run P c.w=.ok r c.w∧Rep c r v:=by
 unfold eF at h;cases ha:cG P t with
 |none=>simp[ha]at h
 |some q =>
  obtain⟨n,s,k⟩:=q;obtain⟨e,i,hu,_⟩:=L4 ha;simp only[ha]at h;have run:∀ (a:Addr) (m cap:Nat),n≤m→(Instr.arrayAt t (.slice (some a) m cap)).run P c.w=.ok (.pointer (some a)) c.w:=by
   intro a m cap hb;simp[Instr.arrayAt,run_underlying hu,Nat.not_lt.2 hb]
  cases x with
  |sl m k f tt =>
   obtain⟨hb,h2⟩:=Xg h;cases h2;cases hx with
   |sl b' base _ _ cap _ _ us hS hc hr hn ht=>exact⟨_,run _ m cap hb.2,.ptr b' base k 0 f us hS hc hr⟩
   |slz a cap _ _ ht=>omega
  |osl id ver es off m =>
   obtain⟨hb,h2⟩:=Xg h;cases h2;cases hx with
   |osl _ _ _ _ _ cap b sz hi hg hn hcap=>exact⟨_,run _ m cap hb.2,.ref id ver off b sz hi hg⟩
   |oslz _ _ _ _ a hi=>omega
   |oslOld _ _ _ _ _ a cap hn hs=>exact⟨_,run _ m cap hb.2,.refOld id ver off a hs⟩
   |oslzOld _ _ _ _ a hs=>omega
  |_=>simp at h
theorem Oy {P:Program}{c:Ctx}{t:TypeId}{x i v:AV}{y z:Value}(hx:Rep c y x)(hi:Rep c z i)(h:D4 P t x i=some v) :
  ∃r,(Instr.indexAt t y z).run P c.w=.ok r c.w∧Rep c r v:=by
 unfold D4 at h;cases hi with
 |int k i =>
  simp only at h;cases he:At P t with
  |some q =>
   obtain⟨e,s,b⟩:=q;obtain⟨hu,inf',hin,hs,_⟩:=Rc he;simp only[he]at h;have run:∀ (a:Addr) (n cap:Nat),0≤i∧i<(n:Int)→(Instr.indexAt t (.slice (some a) n cap) (.int k i)).run P c.w=.ok (.pointer (some (a.add (i.toNat*s)))) c.w:=by
    intro a n cap hb;simp[Instr.indexAt,asIntOf,run_underlying hu,sizeOf,typeInfo,hin,hs,hb]
   cases x with
   |sl n m f tt =>
    obtain⟨hb,h2⟩:=Xg h;cases h2;cases hx with
    |sl b' base _ _ cap _ _ us hS hc hr hn ht =>
     refine⟨_,run _ n cap hb,?_⟩;rw[Addr.add_lit];exact .ptr b' base m (i.toNat*s) f us hS hc hr
    |slz a cap _ _ ht=>exfalso;simp at hb;omega
   |osl id ver es off n =>
    obtain⟨hb,h2⟩:=Xg h;cases h2;cases hx with
    |osl _ _ _ _ _ cap b' sz hi hg hn hcap =>
     refine⟨_,run _ n cap hb,?_⟩;rw[Addr.add_lit];exact .ref id ver _ b' sz hi hg
    |oslz _ _ _ _ a hi=>exfalso;simp at hb;omega
    |oslOld _ _ _ _ _ a cap hn hs=>exact⟨_,run a n cap hb,.refOld id ver _ _ hs⟩
    |oslzOld _ _ _ _ a hs=>exfalso;simp at hb;omega
   |_=>simp at h
  |none =>
   simp only[he]at h;cases ha:cG P t with
   |none=>simp[ha]at h
   |some q =>
    obtain⟨n,s,kk⟩:=q;obtain⟨e,inf',hu,hin,hs,_⟩:=L4 ha;simp only[ha]at h;have run:∀a,0≤i∧i<(n:Int)→(Instr.indexAt t (.pointer (some a)) (.int k i)).run P c.w=.ok (.pointer (some (a.add (i.toNat*s)))) c.w:=by
     intro a hb;simp[Instr.indexAt,asIntOf,Instr.sureAddr,run_underlying hu,sizeOf,typeInfo,hin,hs,hb]
    cases x with
    |ptr m f off =>
     obtain⟨hb,h2⟩:=Xg h;cases h2;cases hx with
     |ptr b' base _ _ _ us hS hc hr =>
      refine⟨_,run _ hb,?_⟩;rw[Addr.add_lit,Nat.add_assoc];exact .ptr b' base m _ f us hS hc hr
    |ref id ver off =>
     obtain⟨hb,h2⟩:=Xg h;cases h2;cases hx with
     |ref _ _ _ b' sz hi hg =>
      refine⟨_,run _ hb,?_⟩;rw[Addr.add_lit];exact .ref id ver _ b' sz hi hg
     |refOld _ _ _ a hs=>exact⟨_,run _ hb,.refOld id ver _ _ hs⟩
    |_=>simp at h
 |_=>simp at h
def Ce (P:Program)(t:TypeId)(x:AV)(i:Nat):Option AV :=
 match BR P t i with
 |some (o,_,_) =>
  match x with
  | .ptr m f off=>some (.ptr m f (off+o))
  | .ref id ver off=>some (.ref id ver (off+o))
  |_=>none
 |none=>none
theorem MN {P:Program}{c:Ctx}{t:TypeId}{x v:AV}{y:Value}{i:Nat}(hx:Rep c y x)(h:Ce P t x i=some v) :
  ∃r,(Instr.fieldAt t y i).run P c.w=.ok r c.w∧Rep c r v:=by
 unfold Ce at h;cases hf:BR P t i with
 |none=>simp[hf]at h
 |some q =>
  obtain⟨o,s,k⟩:=q;obtain⟨fs,f,inf',hu,hfi,hin,ho,hs,hne,_⟩:=Rn hf;simp only[hf]at h;have run:∀a,(Instr.fieldAt t (.pointer (some a)) i).run P c.w=.ok (.pointer (some (a.add o))) c.w:=by
   intro a;have hne':¬inf'.size=0:=by omega
   simp[Instr.fieldAt,run_underlying hu,hfi,Instr.sureAddr,fieldPlace,sizeOf,typeInfo,hin,hne',ho]
  cases x with
  |ptr m f off =>
   cases h;cases hx with
   |ptr b' base _ _ _ us hS hc hr =>
    refine⟨_,run _,?_⟩;rw[Addr.add_lit,Nat.add_assoc];exact .ptr b' base m (off+o) f us hS hc hr
  |ref id ver off =>
   cases h;cases hx with
   |ref _ _ _ b' sz hi hg =>
    refine⟨_,run _,?_⟩;rw[Addr.add_lit];exact .ref id ver _ b' sz hi hg
   |refOld _ _ _ a hs=>exact⟨_,run _,.refOld id ver _ _ hs⟩
  |_=>simp at h
def apart (k:Option Nat)(l:List AV)(off:Nat):Option AV :=
 match k with
 |none=>Q4 (off<l.length) (some (l.getD off .any))
 |some n=>Q4 (off+n≤l.length) (some (.agg ((l.drop off).take n)))
theorem HL {P:Program}{c:Ctx}{t:TypeId}{k:Option Nat}(hk:Cc P t=some k){vs:Array Value}{l:List AV}(hl:RepL c vs l){off:Nat}{v:AV}(h:apart k l off=some v) :
  ∃r,(part t vs off).run P c.w=.ok r c.w∧Rep c r v:=by
 unfold Cc at hk
 split at hk
 ·rename_i d i hu hi
  cases hk;have hagg:=HD hu c.w;cases hd:dX d with
  |false =>
   rw[hd]at h hagg;obtain⟨h1,h2⟩:=Xg h;cases h2;have hlt:off<vs.size:=by rw[hl.1];exact h1
   refine⟨vs.getD off undef,?_,hl.2 off h1⟩;simp[part,hagg,hlt]
  |true =>
   rw[hd]at h hagg;obtain⟨h1,h2⟩:=Xg h;cases h2;have hle:off+i.size≤vs.size:=by rw[hl.1];exact h1
   refine⟨.agg (vs.extract off (off+i.size)),?_,.agg _ _ (by simp;omega) fun j hj=>?_⟩
   ·simp[part,hagg,sizeOf,typeInfo,hi]
   ·have hj':j<i.size:=by simp at hj;omega
    have e1:(vs.extract off (off+i.size)).getD j undef=vs.getD (off+j) undef:=by
     simp only[Array.getD_eq_getD_getElem?,Array.getElem?_extract];congr 1;by_cases hq:j<min (off+i.size) vs.size-off <;> simp_all
    have e2:((l.drop off).take i.size).getD j .any=l.getD (off+j) .any:=by
     simp[List.getD_eq_getElem?_getD,hj',List.getElem?_drop]
    rw[e1,e2];exact hl.2 _ (by rw[←hl.1];omega)
 ·cases hk
def H7 (P:Program)(t:TypeId)(x:AV)(i:Nat):Option AV :=
 match BR P t i with
 |some (o,_,k)=>match x with | .agg l=>apart k l o |_=>none
 |none=>none
theorem Ov {P:Program}{c:Ctx}{t:TypeId}{x v:AV}{y:Value}{i:Nat}(hx:Rep c y x)(h:H7 P t x i=some v) :
  ∃r,(Instr.field t y i).run P c.w=.ok r c.w∧Rep c r v:=by
 unfold H7 at h;cases hf:BR P t i with
 |none=>simp[hf]at h
 |some q =>
  obtain⟨o,s,k⟩:=q;obtain⟨fs,f,inf',hu,hfi,hin,ho,hs,hne,hk⟩:=Rn hf;simp only[hf]at h;cases x with
  |agg l =>
   cases hx with
   |agg vs _ hl hr =>
    obtain⟨r,h1,h2⟩:=HL hk ⟨hl,hr⟩ h;exact⟨r,by simp[Instr.field,run_underlying hu,hfi,asAgg,ho,h1],h2⟩
  |_=>simp at h
def re (P:Program)(t:TypeId)(x i:AV):Option AV :=
 match cG P t,x,i with
 |some (n,s,k),.agg l,.int _ i=>Q4 (0≤i∧i<n) (apart k l (i.toNat*s))
 |_,_,_=>none
theorem Ty {P:Program}{c:Ctx}{t:TypeId}{x i v:AV}{y z:Value}(hx:Rep c y x)(hi:Rep c z i)(h:re P t x i=some v) :
  ∃r,(Instr.index t y z).run P c.w=.ok r c.w∧Rep c r v:=by
 unfold re at h
 split at h
 ·rename_i n s k l q i ha
  obtain⟨hb,h2⟩:=Xg h;obtain⟨e,inf',hu,hin,hs,hk⟩:=L4 ha;cases hx with
  |agg vs _ hl hr =>
   cases hi with
   |int =>
    obtain⟨r,h1,h3⟩:=HL hk ⟨hl,hr⟩ h2;exact⟨r,by simp[Instr.index,asIntOf,run_underlying hu,hb,sizeOf,typeInfo,hin,hs,h1],h3⟩
 ·cases h
def Jc (o:Option AV)(d:Int):Option Int :=
 match o with
 |none=>some d
 |some (.int _ n)=>some n
 |_=>none
def DZ (P:Program)(t:TypeId)(x:AV)(lo hi mx:Option AV):Option AV :=
 match At P t,mx with
 |some (_,s,_),none =>
  match x with
  | .sl n m f t =>
   match Jc lo 0,Jc hi n with
   |some l,some h=>Q4 (0≤l∧l≤h∧h≤n) (some (.sl (h-l).toNat (min ((h-l).toNat*s) (m-l.toNat*s)) (fun j=>f (l.toNat*s+j)) (t && decide (h=n))))
   |_,_=>none
  | .osl id ver es off n =>
   match Jc lo 0,Jc hi n with
   |some l,some h=>Q4 (0≤l∧l≤h∧h≤n∧es=s) (some (.osl id ver es (off+l.toNat*s) (h-l).toNat))
   |_,_=>none
  |_=>none
 |some (_,s,_),some mx =>
  match x with
  | .sl n m f _ =>
   match Jc lo 0,Jc hi n,mx with
   |some l,some h,.int _ q=>Q4 (0≤l∧l≤h∧h≤n∧q=h) (some (.sl (h-l).toNat (min ((h-l).toNat*s) (m-l.toNat*s)) (fun j=>f (l.toNat*s+j)) true))
   |_,_,_=>none
  |_=>none
 |_,_=>none
def Ol (c:Ctx):Option Value→Option AV→Prop
 |none,none=>True
 |some v,some a=>Rep c v a
 |_,_=>False
theorem Bp {c:Ctx}{v:Option Value}{o:Option AV}{d n:Int}(hv:Ol c v o)(h:Jc o d=some n) :
  (v=none∧o=none∧n=d)∨(∃k,v=some (.int k n)):=by
 cases o with
 |none=>cases v with
  |none=>simp[Jc]at h;exact .inl ⟨rfl,rfl,h.symm⟩
  |some v=>exact hv.elim
 |some a=>cases v with
  |none=>exact hv.elim
  |some v =>
   cases a <;> simp[Jc]at h;subst h;cases(show Rep c v _ from hv);exact .inr ⟨_,rfl⟩
theorem JI {P:Program}{w:World}(k:IntKind)(n:Int)(y:Nat)(code:BoundsCode)(h:0≤n∧n≤y) :
  (Instr.sliceBound (.int k n) y code).run P w=.ok n.toNat w:=by simp[Instr.sliceBound,asIntOf,h]
theorem JO {P:Program}{c:Ctx}{len cap:Nat}{vl vh:Option Value}{lo hi:Option AV}{l h:Int}(hl:Ol c vl lo)(hh:Ol c vh hi)
  (el:Jc lo 0=some l) (eh:Jc hi len=some h) (hb:0≤l∧l≤h∧h≤len) (hc:len≤cap) :
  (Instr.sliceBounds true len cap vl vh none).run P c.w=.ok (l.toNat,h.toNat,cap) c.w:=by
 have h1:=Bp hl el;have h2:=Bp hh eh;rcases h1 with⟨rfl,_,rfl⟩ | ⟨k,rfl⟩ <;> rcases h2 with⟨rfl,_,rfl⟩ | ⟨k',rfl⟩
 ·simp[Instr.sliceBounds]
 ·simp[Instr.sliceBounds,JI (P:=P) (w:=c.w) k' h cap _ ⟨by omega,by omega⟩]
 ·simp[Instr.sliceBounds,JI (P:=P) (w:=c.w) k l len _ ⟨by omega,by omega⟩]
 ·simp[Instr.sliceBounds,JI (P:=P) (w:=c.w) k' h cap _ ⟨by omega,by omega⟩,JI (P:=P) (w:=c.w) k l h.toNat _ ⟨by omega,by omega⟩]
theorem CW {P:Program}{c:Ctx}{len cap:Nat}{vl vh:Option Value}{lo hi:Option AV}{l h:Int}(hl:Ol c vl lo)(hh:Ol c vh hi)
  (el:Jc lo 0=some l) (eh:Jc hi len=some h) (hhs:hi≠none) (hb:0≤l∧l≤h∧h≤len) (hc:len≤cap) (km:IntKind) :
  (Instr.sliceBounds true len cap vl vh (some (.int km h))).run P c.w=.ok (l.toNat,h.toNat,h.toNat) c.w:=by
 have h1:=Bp hl el;have h2:=Bp hh eh;have hm:=JI (P:=P) (w:=c.w) km h cap .slice3Acap ⟨by omega,by omega⟩;rcases h2 with⟨_,rfl,_⟩ | ⟨k',rfl⟩
 ·exact absurd rfl hhs
 ·have hhb:=JI (P:=P) (w:=c.w) k' h h.toNat .slice3B ⟨by omega,by omega⟩
  rcases h1 with⟨rfl,_,rfl⟩ | ⟨k,rfl⟩
  ·simp[Instr.sliceBounds,hm,hhb]
  ·simp[Instr.sliceBounds,hm,hhb,JI (P:=P) (w:=c.w) k l h.toNat _ ⟨by omega,by omega⟩]
theorem OC {P:Program}{c:Ctx}{t:TypeId}{x v:AV}{y:Value}{lo hi mx:Option AV}{vl vh vm:Option Value}(hx:Rep c y x)(hl:Ol c vl lo)(hh:Ol c vh hi)
  (hm:Ol c vm mx) (hhm:mx≠none→hi≠none) (h:DZ P t x lo hi mx=some v):∃r,(Instr.sliceAt t y vl vh vm).run P c.w=.ok r c.w∧Rep c r v:=by
 unfold DZ at h;cases he:At P t with
 |none=>simp[he]at h
 |some q =>
  obtain⟨e,s,b⟩:=q;obtain⟨hu,inf',hin,hs,_⟩:=Rc he;have run:∀ (a:Option Addr) (n cap:Nat) (l h m:Nat),(Instr.sliceBounds true n cap vl vh vm).run P c.w=.ok (l,h,m) c.w →
    (Instr.sliceAt t (.slice a n cap) vl vh vm).run P c.w=.ok (.slice (if m=l then a else a.map (·.add (l*s))) (h-l) (m-l)) c.w:=by
   intro a n cap l h m hb;simp[Instr.sliceAt,Instr.slice,run_underlying hu,hb,sizeOf,typeInfo,hin,hs]
  cases mx with
  |none =>
   cases vm with
   |some vm=>exact hm.elim
   |none =>
    simp only[he]at h;cases x with
    |sl n m f tt =>
     simp only at h
     split at h
     ·rename_i l hi' el eh
      obtain⟨hb,h2⟩:=Xg h;cases h2;cases hx with
      |sl b' base _ _ cap _ _ us hS hc hr hn ht =>
       refine⟨_,run _ n cap _ _ _ (JO hl hh el eh hb hn),?_⟩;rw[show hi'.toNat-l.toNat=(hi'-l).toNat by omega];by_cases hz:cap=l.toNat
       ·have hz2:(hi'-l).toNat=0:=by omega
        rw[if_pos hz,hz2];simp only[Nat.zero_mul,Nat.zero_min];exact .slz _ _ _ _ (by simp;omega)
       ·rw[if_neg hz,Option.map_some,Addr.add_lit]
        refine .sl b' (base+l.toNat*s) _ _ _ _ _ (fun j=>us (l.toNat*s+j)) hS (fun j hj=>?_) (fun j hj=>?_) (by omega) (by intro hq;simp at hq;have:=ht hq.1;omega)
        ·rw[Nat.add_assoc];exact hc _ (by omega)
        ·exact hr _ (by omega)
      |slz a cap _ _ ht =>
       have hz2:(hi'-l).toNat=0:=by omega
       refine⟨_,run _ 0 cap _ _ _ (JO hl hh el eh hb (Nat.zero_le _)),?_⟩;rw[show hi'.toNat-l.toNat=0 by omega,hz2];simp only[Nat.zero_mul,Nat.zero_min];exact .slz _ _ _ _ (by intro hq;simp at hq;have:=ht hq.1;omega)
     ·cases h
    |osl id ver es off n =>
     simp only at h
     split at h
     ·rename_i l hi' el eh
      obtain⟨⟨hb1,hb2,hb3,rfl⟩,h2⟩:=Xg h;cases h2;have hb:0≤l∧l≤hi'∧hi'≤n:=⟨hb1,hb2,hb3⟩
      cases hx with
      |osl _ _ _ _ _ cap b' sz hi hg hn hcap =>
       refine⟨_,run _ n cap _ _ _ (JO hl hh el eh hb hn),?_⟩;rw[show hi'.toNat-l.toNat=(hi'-l).toNat by omega];by_cases hz:cap=l.toNat
       ·have hz2:(hi'-l).toNat=0:=by omega
        rw[if_pos hz,hz2,hz,Nat.sub_self];exact .oslz _ _ _ _ _ hi
       ·rw[if_neg hz,Option.map_some,Addr.add_lit]
        refine .osl _ _ _ _ _ _ _ _ hi hg (by omega) ?_ (by omega);have:l.toNat*es+(cap-l.toNat)*es=cap*es:=by rw[←Nat.add_mul];congr 1;omega
        omega
      |oslz _ _ _ _ a hi =>
       have hz2:(hi'-l).toNat=0:=by omega
       refine⟨_,run _ 0 0 _ _ _ (JO hl hh el eh hb (Nat.le_refl _)),?_⟩;rw[show hi'.toNat-l.toNat=0 by omega,hz2,Nat.zero_sub];exact .oslz _ _ _ _ _ hi
      |oslOld _ _ _ _ _ a cap hn hs =>
       refine⟨_,run _ n cap _ _ _ (JO hl hh el eh hb hn),?_⟩;rw[show hi'.toNat-l.toNat=(hi'-l).toNat by omega];by_cases hz:cap=l.toNat
       ·rw[if_pos hz]
        exact .oslOld _ _ _ _ _ _ _ (by omega) hs
       ·rw[if_neg hz,Option.map_some]
        exact .oslOld _ _ _ _ _ _ _ (by omega) hs
      |oslzOld _ _ _ _ a hs =>
       have hz2:(hi'-l).toNat=0:=by omega
       refine⟨_,run _ 0 0 _ _ _ (JO hl hh el eh hb (Nat.le_refl _)),?_⟩;rw[show hi'.toNat-l.toNat=0 by omega,hz2,Nat.zero_sub];exact .oslzOld _ _ _ _ _ hs
     ·cases h
    |_=>simp at h
  |some mx =>
   cases vm with
   |none=>exact hm.elim
   |some vm =>
    simp only[he]at h;cases x with
    |sl n m f tt =>
     simp only at h
     split at h
     ·rename_i l hi' km q el eh
      obtain⟨⟨hb1,hb2,hb3,rfl⟩,h2⟩:=Xg h;cases h2;cases(show Rep c vm _ from hm);cases hx with
      |sl b' base _ _ cap _ _ us hS hc hr hn ht =>
       refine⟨_,run _ n cap _ _ _ (CW hl hh el eh (hhm (by simp)) ⟨hb1,hb2,hb3⟩ hn km),?_⟩;rw[show q.toNat-l.toNat=(q-l).toNat by omega];by_cases hz:q.toNat=l.toNat
       ·have hz2:(q-l).toNat=0:=by omega
        rw[if_pos hz,hz2];simp only[Nat.zero_mul,Nat.zero_min];exact .slz _ _ _ _ (by simp)
       ·rw[if_neg hz,Option.map_some,Addr.add_lit]
        refine .sl b' (base+l.toNat*s) _ _ _ _ _ (fun j=>us (l.toNat*s+j)) hS (fun j hj=>?_) (fun j hj=>?_) (by omega) (by simp)
        ·rw[Nat.add_assoc];exact hc _ (by omega)
        ·exact hr _ (by omega)
      |slz a cap _ _ ht =>
       have hz2:(q-l).toNat=0:=by omega
       refine⟨_,run _ 0 cap _ _ _ (CW hl hh el eh (hhm (by simp)) ⟨hb1,hb2,hb3⟩ (Nat.zero_le _) km),?_⟩;rw[show q.toNat-l.toNat=0 by omega,hz2];simp only[Nat.zero_mul,Nat.zero_min];exact .slz _ _ _ _ (by simp)
     ·cases h
    |_=>simp at h
theorem EL (l:List AV)(i j:Nat)(a:AV):(l.set i a).getD j .any=if i=j∧j<l.length then a else l.getD j .any:=by
 simp only[List.getD_eq_getElem?_getD,List.getElem?_set];by_cases h:i=j
 ·subst h
  by_cases h2:i<l.length <;> simp[h2]
 ·simp[h]
theorem Ny (vs:Array Value)(i j:Nat)(v:Value):(vs.setIfInBounds i v).getD j undef=if i=j∧j<vs.size then v else vs.getD j undef:=by
 simp only[Array.getD_eq_getD_getElem?,Array.getElem?_setIfInBounds];by_cases h:i=j
 ·subst h
  by_cases h2:i<vs.size <;> simp[h2]
 ·simp[h]
theorem RepL.set {c:Ctx}{vs:Array Value}{l:List AV}(h:RepL c vs l){x:Value}{a:AV}(hx:Rep c x a)(i:Nat):RepL c (vs.setIfInBounds i x) (l.set i a):=by
 refine⟨by simp[h.1],fun j hj=>?_⟩;have hj':j<l.length:=by simpa using hj
 rw[EL,Ny];by_cases hij:i=j∧j<l.length
 ·rw[if_pos hij,if_pos ⟨hij.1,by rw[h.1];exact hij.2⟩];exact hx
 ·rw[if_neg hij,if_neg (by rw[h.1];exact hij)];exact h.2 j hj'
def GK (l:List AV):Nat→List AV→List AV
 |_,[]=>l
 |i,a :: r=>GK (l.set i a) (i+1) r
theorem RA (r:List AV):∀ (l:List AV) (i:Nat),(GK l i r).length=l.length:=by
 induction r with
 |nil=>intro l i;rfl
 |cons a r ih=>intro l i;simp[GK,ih]
theorem RepL.setMany {c:Ctx}(r:List Value):∀ (ra:List AV) (vs:Array Value) (l:List AV) (off k:Nat),RepL c vs l→r.length=ra.length→(∀j,j<ra.length→Rep c (r.getD j undef) (ra.getD j .any)) →
  RepL c ((r.zipIdx k).foldl (fun cs (p:Value×Nat)=>cs.setIfInBounds (off+p.2) p.1) vs) (GK l (off+k) ra):=by
 induction r with
 |nil=>intro ra vs l off k h hl hr;cases ra with
  |nil=>simpa [GK]using h
  |cons _ _=>simp at hl
 |cons x r ih =>
  intro ra vs l off k h hl hr;cases ra with
  |nil=>simp at hl
  |cons a ra =>
   simp only[List.zipIdx_cons,List.foldl_cons,GK];have h0:=hr 0 (by simp);simp at h0;have:=ih ra (vs.setIfInBounds (off+k) x) (l.set (off+k) a) off (k+1) (h.set h0 _) (by simpa using hl) (fun j hj=>by have:=hr (j+1) (by simpa using hj);simpa using this);rwa[show off+(k+1)=off+k+1 by omega]at this
def ZF (pl:Nat→Option (Nat×Nat)):List AV→List (Nat×AV)→Option (List AV)
 |cells,[]=>some cells
 |cells,(i,v) :: rest =>
  match pl i with
  |some (off,size)=>Q4 (v.cells.length=size∧off+size≤cells.length∧v.cells.all AV.one=true) (ZF pl (GK cells off (v.cells.map AV.loose)) rest)
  |none=>none
theorem Cd {c:Ctx}{pl pl':Nat→Option (Nat×Nat)} (hpl:∀i x,pl i=some x→pl' i=some x):∀ (ps:List (Nat×Value)) (as:List (Nat×AV)) (vs:Array Value) (l l':List AV),
  ps.length=as.length→(∀j (h:j<ps.length) (h':j<as.length),(ps[j]).1=(as[j]).1∧Rep c (ps[j]).2 (as[j]).2)→RepL c vs l→ZF pl l as=some l' →
  ∃vs',Instr.fill pl' vs ps=some vs'∧RepL c vs' l'
 | [],[],vs,l,l',_,_,h,hf=>by simp[ZF]at hf;subst hf;exact⟨vs,rfl,h⟩
 | (i,x) :: ps,(i',a) :: as,vs,l,l',hl,hr,h,hf=>by
  have h0:=hr 0 (by simp) (by simp);simp at h0;obtain⟨rfl,hx⟩:=h0;simp only[ZF]at hf;cases hp:pl i with
  |none=>simp[hp]at hf
  |some q =>
   obtain⟨off,size⟩:=q;simp only[hp]at hf;obtain⟨⟨hs,hle,hone⟩,hf'⟩:=Xg hf;have hcl:=C3 hx hone;have e1:x.cells.size=size:=by rw[hcl.1,hs]
   have e2:¬ (off+x.cells.size > vs.size):=by rw[e1,h.1];omega
   simp only[Instr.fill,hpl _ _ hp,e1];have hm:=RepL.setMany (c:=c) x.cells.toList (a.cells.map AV.loose) vs l off 0 h (by simp[hcl.1]) (fun j hj=>by
    have hj':j<a.cells.length:=by simpa using hj
    have:=(hcl.2 j hj').loose;have q1:x.cells.toList.getD j undef=x.cells.getD j undef:=by simp[List.getD_eq_getElem?_getD,Array.getD_eq_getD_getElem?]
    have q2:(a.cells.map AV.loose).getD j .any=(a.cells.getD j .any).loose:=by simp[List.getD_eq_getElem?_getD,hj']
    rw[q1,q2];exact this)
   rw[Nat.add_zero]at hm;have q3:(x.cells.zipIdx.foldl (fun cs (p:Value×Nat)=>cs.setIfInBounds (off+p.2) p.1) vs)=((x.cells.toList.zipIdx 0).foldl (fun cs (p:Value×Nat)=>cs.setIfInBounds (off+p.2) p.1) vs):=by
    rw[←Array.foldl_toList,Array.toList_zipIdx]
   rw[←q3]at hm;have:=Cd hpl ps as _ _ l' (by simpa using hl) (fun j h1 h2=>by have:=hr (j+1) (by simpa using h1) (by simpa using h2);simpa using this) hm hf';obtain⟨vs',h1,h2⟩:=this;refine⟨vs',?_,h2⟩;rw[if_neg (by simp;rw[h.1];omega)];exact h1
 | [],_ :: _,_,_,_,hl,_,_,_=>by simp at hl
 |_ :: _,[],_,_,_,hl,_,_,_=>by simp at hl
def Fd (z:List AV):Nat→List AV
 |0=>[]
 |n+1=>z ++ Fd z n
theorem HH (z:List AV):∀n,(Fd z n).length=n*z.length∧∀j,j<n*z.length→(Fd z n).getD j .any=z.getD (j%z.length) .any
 |0=>by simp[Fd]
 |n+1=>by
  obtain⟨h1,h2⟩:=HH z n;have e:(n+1)*z.length=z.length+n*z.length:=by rw[Nat.add_mul];omega
  refine⟨by simp[Fd,h1];omega,fun j hj=>?_⟩;simp only[Fd,List.getD_eq_getElem?_getD];by_cases hjl:j<z.length
  ·rw[List.getElem?_append_left hjl,Nat.mod_eq_of_lt hjl]
  ·rw[List.getElem?_append_right (by omega)]
   have:=h2 (j-z.length) (by omega);simp only[List.getD_eq_getElem?_getD]at this;rw[this];congr 2;exact(Nat.mod_eq_sub_mod (by omega)).symm
theorem jB {c:Ctx}(z:Value)(n:Nat)(hn:0<z.cells.size):RepL c ((Array.range (n*z.cells.size)).map (z.cells[· % z.cells.size]!)) (Fd (z.cells.toList.map JF) n):=by
  have hl:(z.cells.toList.map JF).length=z.cells.size:=by simp
  obtain⟨h1,h2⟩:=HH (z.cells.toList.map JF) n;rw[hl]at h1 h2;refine⟨by simp[h1],fun j hj=>?_⟩;rw[h1]at hj;rw[h2 j hj];have hm:j%z.cells.size<z.cells.size:=Nat.mod_lt _ hn;have e1:((Array.range (n*z.cells.size)).map (z.cells[· % z.cells.size]!)).getD j undef=z.cells[j%z.cells.size]:=by
    simp[Array.getD_eq_getD_getElem?,hj,hm]
  have e2:(z.cells.toList.map JF).getD (j%z.cells.size) .any=JF z.cells[j%z.cells.size]:=by
    simp[List.getD_eq_getElem?_getD,hm]
  rw[e1,e2];exact ZM c _
def JL (P:Program)(t:TypeId)(n:Nat)(parts:List (Nat×AV)):Option AV :=
 match At P t with
 |some (e,s,_) =>
  match Q9 P e with
  |some z=>Q4 (n*s≤2 ^ 24) ((ZF (fun i=>some (i*s,s)) (Fd z n) parts).map fun l=>.sl n (n*s) (Xf l) true)
  |none=>none
 |none=>none
def DW (c:Ctx)(ps:List (Nat×Value)) (as:List (Nat×AV)):Prop :=
 ps.length=as.length∧∀j (h:j<ps.length) (h':j<as.length),(ps[j]).1=(as[j]).1∧Rep c (ps[j]).2 (as[j]).2
theorem HI {P:Program}{c:Ctx}{t:TypeId}{n:Nat}{ps:Array (Nat×Value)} {as:List (Nat×AV)} (hp:DW c ps.toList as) {v:AV} (h:JL P t n as=some v) :
  ∃e s b l vs',At P t=some (e,s,b)∧v=.sl n (n*s) (Xf l) true∧l.length=n*s∧n*s≤16777216∧0<s∧vs'.size=n*s∧(Instr.buildSlice t n ps).run P c.w=.ok (.slice (some ⟨c.w.heap.size,0,none⟩) n n) (c.w.alloc (.cells vs' e))∧RepL c vs' l:=by
 unfold JL at h;cases he:At P t with
 |none=>simp[he]at h
 |some q =>
  obtain⟨e,s,b⟩:=q;obtain⟨hu,inf',z,hin,hs,_,hz,hzs,hpos⟩:=KX he;simp only[he]at h;cases hzl:Q9 P e with
  |none=>simp[hzl]at h
  |some zl =>
   simp only[hzl]at h;obtain⟨hle,h2⟩:=Xg h;have hzl':zl=z.cells.toList.map JF:=by simp[Q9,hin,hz]at hzl;exact hzl.symm
   subst hzl';cases hf:ZF (fun i=>some (i*s,s)) (Fd (z.cells.toList.map JF) n) as with
   |none=>simp[hf]at h2
   |some l =>
    simp[hf]at h2;subst h2;have hzr:=jB (c:=c) z n (by omega);rw[hzs]at hzr;obtain⟨vs',h3,h4⟩:=Cd (pl':=fun i=>some (i*s,s)) (fun _ _ h=>h) ps.toList as _ _ l hp.1 hp.2 hzr hf;have hlen:l.length=n*s:=by
     have:∀ (as:List (Nat×AV)) (l0 l1:List AV),ZF (fun i=>some (i*s,s)) l0 as=some l1→l1.length=l0.length:=by
      intro as
      induction as with
      |nil=>intro l0 l1 h;simp[ZF]at h;rw[h]
      |cons p as ih =>
       intro l0 l1 h;obtain⟨i,a⟩:=p;obtain⟨_,h'⟩:=Xg h;rw[ih _ _ h',RA]
     rw[this _ _ _ hf,(HH _ n).1];simp[hzs]
    have hvs:vs'.size=n*s:=by rw[h4.1,hlen]
    have hrun:(Instr.buildSlice t n ps).run P c.w=.ok (.slice (some ⟨c.w.heap.size,0,none⟩) n n) (c.w.alloc (.cells vs' e)):=by
     have hle':¬ (16777216<n*s):=by omega
     by_cases hn0:n*s=0
     ·have hn00:n=0:=(Nat.mul_eq_zero.1 hn0).resolve_right (by omega)
      subst hn00;simp[Array.range_zero']at h3;simp[Instr.buildSlice,run_underlying hu,sizeOf,typeInfo,hin,hs,newRow,Array.range_zero',h3]
     ·simp[Instr.buildSlice,run_underlying hu,sizeOf,typeInfo,zeroValue,hz,hin,hs,hle',hn0,hzs,h3,newRow]
    exact⟨e,s,b,l,vs',rfl,rfl,hlen,by omega,hpos,hvs,hrun,h4⟩
theorem MM {P:Program}{c:Ctx}(hr:HRel c){t:TypeId}{n:Nat}{ps:Array (Nat×Value)} {as:List (Nat×AV)} (hp:DW c ps.toList as) {v:AV} (h:JL P t n as=some v) :
  ∃x w' S',(Instr.buildSlice t n ps).run P c.w=.ok x w'∧Rep ⟨w',S',c.γ,c.H⟩ x v∧HRel ⟨w',S',c.γ,c.H⟩∧Ext c ⟨w',S',c.γ,c.H⟩:=by
 obtain⟨e,s,b,l,vs',he,rfl,hlen,hle,hpos,hvs,hrun,h4⟩:=HI hp h;obtain⟨g1,g2⟩:=RI hr vs' e (c.w.alloc (.cells vs' e)) rfl rfl rfl rfl;refine⟨_,_,_,hrun,?_,g1,g2⟩;refine .sl c.w.heap.size 0 n (n*s) n (Xf l) true (fun j=>vs'.getD j undef) (.inr rfl) (fun j hj=>?_) (fun j hj=>?_) (Nat.le_refl _) (fun _=>rfl)
 ·rw[Nat.zero_add]
  have:j<vs'.size:=by omega
  simp[this,Array.getD]
 ·exact g2.rep hr (h4.2 j (by omega))
def KP (P:Program)(t:TypeId)(n:Nat)(parts:List (Nat×AV)) (h:List AO):Option (AV×List AO) :=
 match At P t with
 |some (_,s,_) =>
  match JL P t n parts with
  |some (.sl k m f _)=>some (.osl h.length 0 s 0 k,h ++ [.row 0 m f])
  |_=>none
 |none=>none
theorem ML {P:Program}{c:Ctx}(hr:HRel c){t:TypeId}{n:Nat}{ps:Array (Nat×Value)} {as:List (Nat×AV)} (hp:DW c ps.toList as) {v:AV} {h':List AO} (h:KP P t n as c.H=some (v,h')) :
  ∃x w' γ',(Instr.buildSlice t n ps).run P c.w=.ok x w'∧Rep ⟨w',c.S,γ',h'⟩ x v∧HRel ⟨w',c.S,γ',h'⟩∧Ext c ⟨w',c.S,γ',h'⟩:=by
 unfold KP at h;cases hb:JL P t n as with
 |none=>rw[hb]at h;split at h <;> cases h
 |some q =>
  obtain⟨e,s,b,l,vs',he,rfl,hlen,hle,hpos,hvs,hrun,h4⟩:=HI hp hb;simp only[he,hb,Option.some.injEq,Prod.mk.injEq]at h;obtain⟨rfl,rfl⟩:=h;obtain⟨g1,g2⟩:=P5 hr (nid:=none) (fun _ e=>by cases e) vs' e (n*s) (Xf l) (by rw[hvs];exact Nat.le_refl _) (fun j hj=>h4.2 j (by omega)) (c.w.alloc (.cells vs' e)) rfl rfl rfl rfl;have hn:n≤16777216:=Nat.le_trans (Nat.le_mul_of_pos_right n hpos) hle;exact⟨_,_,_,hrun,.osl _ _ _ _ _ n c.w.heap.size vs'.size (by simp[inf,Kb,AO.info]) (by simp[Jy,Qz]) (Nat.le_refl _) (by rw[hvs,Nat.zero_add];exact Nat.le_refl _) (by omega),g1,g2⟩
def Qv (P:Program)(t:TypeId)(i:Nat):Option (Nat×Nat) :=
 match P.underlying t with
 |some (.struct fs)=>match fs[i]? with
  |some f=>(P.info? f.type).map fun q=>(f.offset,q.size)
  |none=>none
 |some (.array _ e)=>(P.info? e).map fun q=>(i*q.size,q.size)
 |_=>none
def Af (P:Program)(t:TypeId):Bool :=
 match P.underlying t with
 |some (.struct fs)=>fs.all fun f=>(P.info? f.type).isSome
 |some (.array _ e)=>(P.info? e).isSome
 |_=>false
def Fv (P:Program)(t:TypeId)(parts:List (Nat×AV)):Option AV :=
 match Q9 P t with
 |some z=>Q4 (Af P t=true) ((ZF (Qv P t) z parts).map .agg)
 |none=>none
theorem Fr {P:Program}(w:World):∀ (fs:List Field),(∀f∈fs,(P.info? f.type).isSome=true) →
  (fs.mapM (m:=Sem) fun f=>do pure (f.offset,←sizeOf f.type)).run P w=.ok (fs.map fun f=>(f.offset,((P.info? f.type).map (·.size)).getD 0)) w
 | [],_=>by simp
 |f :: fs,h=>by
  have h1:=h f (by simp);have ih:=Fr w fs (fun g hg=>h g (by simp[hg]));cases hi:P.info? f.type with
  |none=>simp[hi]at h1
  |some i =>
   simp only[List.mapM_cons,Sem.run_bind,sizeOf,typeInfo,run_program,Result.andThen_ok,hi,Sem.run_pure,List.map_cons,Option.map_some,Option.getD_some];simp only[sizeOf,typeInfo]at ih;rw[ih];simp
theorem Oo {P:Program}{c:Ctx}{t:TypeId}{ps:Array (Nat×Value)} {as:List (Nat×AV)} (hp:DW c ps.toList as) {v:AV} (h:Fv P t as=some v) :
  ∃x,(Instr.build t ps).run P c.w=.ok x c.w∧Rep c x v:=by
 unfold Fv at h;cases hz:Q9 P t with
 |none=>simp[hz]at h
 |some z =>
  simp only[hz]at h;obtain⟨hok,h2⟩:=Xg h;cases hf:ZF (Qv P t) z as with
  |none=>simp[hf]at h2
  |some l =>
   simp[hf]at h2;subst h2;unfold Q9 at hz;cases hi:P.info? t with
   |none=>simp[hi]at hz
   |some inf' =>
    cases hz2:inf'.zero with
    |none=>simp[hi,hz2]at hz
    |some zv =>
     simp[hi,hz2]at hz;subst hz;have h0:RepL c zv.cells (zv.cells.toList.map JF):=⟨by simp,HA c zv.cells JF (ZM c)⟩
     unfold Af at hok
     split at hok
     ·rename_i fs hu
      have hall:∀f∈fs.toList,(P.info? f.type).isSome=true:=fun f hf=>(Array.all_eq_true_iff_forall_mem.1 hok) f (by simpa using hf)
      have hpl:∀i x,Qv P t i=some x→(fun i=>((fs.toList.map fun f=>(f.offset,((P.info? f.type).map (·.size)).getD 0)).toArray)[i]?) i=some x:=by
       intro i x hx;unfold Qv at hx;rw[hu]at hx;simp only at hx;cases hfi:fs[i]? with
       |none=>simp[hfi]at hx
       |some f =>
        simp only[hfi]at hx;cases hq:P.info? f.type with
        |none=>simp[hq]at hx
        |some q=>simp[hq]at hx;subst hx;simp[hfi,hq]
      obtain⟨vs',h3,h4⟩:=Cd hpl ps.toList as _ _ l hp.1 hp.2 h0 hf;refine⟨.agg vs',?_,.agg _ _ h4.1 h4.2⟩;have hm:=Fr (P:=P) c.w fs.toList hall;have hm':(fs.mapM (m:=Sem) fun f=>do pure (f.offset,←sizeOf f.type)).run P c.w=.ok (fs.toList.map fun f=>(f.offset,((P.info? f.type).map (·.size)).getD 0)).toArray c.w:=by
       rw[←Array.toArray_toList (xs:=fs),List.mapM_toArray];simp only[Sem.run_map];rw[show(fs.toList.toArray).toList=fs.toList by simp,hm];rfl
      simp only[Instr.build,Sem.run_bind,zeroValue,typeInfo,run_program,Result.andThen_ok,hi,Sem.run_pure,hz2,run_underlying hu,hm',h3]
     ·rename_i n e hu
      cases hq:P.info? e with
      |none=>simp[hq]at hok
      |some q =>
       have hpl:∀i x,Qv P t i=some x→(fun i=>some (i*q.size,q.size)) i=some x:=by
        intro i x hx;unfold Qv at hx;rw[hu]at hx
        simpa [hq]using hx
       obtain⟨vs',h3,h4⟩:=Cd hpl ps.toList as _ _ l hp.1 hp.2 h0 hf;refine⟨.agg vs',?_,.agg _ _ h4.1 h4.2⟩;simp only[Instr.build,Sem.run_bind,zeroValue,typeInfo,run_program,Result.andThen_ok,hi,Sem.run_pure,hz2,run_underlying hu,sizeOf,hq,h3]
     ·cases hok
def Ax (P:Program)(nid:Option Nat)(t:TypeId)(h:List AO):Option (AV×List AO) :=
 match Q9 P t with
 |some z=>some (.ref (Qz nid h) 0 0,Kb nid h (.row 0 z.length (Xf z)))
 |none=>none
def MK (nid:Option Nat)(v:AV)(h:List AO):Option (AV×List AO) :=
 Q4 (v.cells.all AV.one=true) (some (.ref (Qz nid h) 0 0,Kb nid h (.row 0 v.cells.length (Xf (v.cells.map AV.boxed)))))
theorem Gr {c:Ctx}(hr:HRel c){nid:Option Nat}(hnid:∀ id,nid=some id→c.H[id]?=some .unborn)(cs:Array Value)(l:List AV)(hl:RepL c cs l)(el:TypeId) :
  ∃γ',Rep ⟨c.w.alloc (.cells cs el),c.S,γ',Kb nid c.H (.row 0 l.length (Xf l))⟩ (.pointer (some ⟨c.w.heap.size,0,none⟩)) (.ref (Qz nid c.H) 0 0) ∧
   HRel ⟨c.w.alloc (.cells cs el),c.S,γ',Kb nid c.H (.row 0 l.length (Xf l))⟩∧Ext c ⟨c.w.alloc (.cells cs el),c.S,γ',Kb nid c.H (.row 0 l.length (Xf l))⟩:=by
 obtain⟨g1,g2⟩:=P5 hr hnid cs el l.length (Xf l) (by rw[hl.1];exact Nat.le_refl _) hl.2 (c.w.alloc (.cells cs el)) rfl rfl rfl rfl;exact⟨_,.ref _ _ _ c.w.heap.size cs.size (by simp[inf,Gq hnid,AO.info]) (by simp[Jy]),g1,g2⟩
theorem Om {P:Program}{c:Ctx}(hr:HRel c){nid:Option Nat}(hnid:∀ id,nid=some id→c.H[id]?=some .unborn){t:TypeId}{v:AV}{h':List AO}(h:Ax P nid t c.H=some (v,h')) :
  ∃x w' γ',(Instr.alloc t true (.tuple #[])).run P c.w=.ok x w'∧Rep ⟨w',c.S,γ',h'⟩ x v∧HRel ⟨w',c.S,γ',h'⟩∧Ext c ⟨w',c.S,γ',h'⟩:=by
 unfold Ax at h;cases hz:Q9 P t with
 |none=>simp[hz]at h
 |some z =>
  simp[hz]at h;obtain⟨rfl,rfl⟩:=h;unfold Q9 at hz;cases hi:P.info? t with
  |none=>simp[hi]at hz
  |some inf' =>
   cases hz2:inf'.zero with
   |none=>simp[hi,hz2]at hz
   |some zv =>
    simp[hi,hz2]at hz;subst hz;obtain⟨γ',h1,h2,h3⟩:=Gr hr hnid zv.cells (zv.cells.toList.map JF) ⟨by simp,HA c zv.cells JF (ZM c)⟩ t;exact⟨_,_,γ',by simp[Instr.alloc,zeroValue,typeInfo,hi,hz2,newVar,newRow],h1,h2,h3⟩
theorem RepL.loose {c:Ctx}{vs:Array Value}{l:List AV}(h:RepL c vs l):RepL c vs (l.map AV.loose):=by
 refine⟨by simp[h.1],fun j hj=>?_⟩;have hj':j<l.length:=by simpa using hj
 have:=(h.2 j hj').loose;have e:(l.map AV.loose).getD j .any=(l.getD j .any).loose:=by simp[List.getD_eq_getElem?_getD,hj']
 rw[e];exact this
theorem RepL.boxed {c:Ctx}{vs:Array Value}{l:List AV}(h:RepL c vs l):RepL c vs (l.map AV.boxed):=by
 refine⟨by simp[h.1],fun j hj=>?_⟩;have hj':j<l.length:=by simpa using hj
 have:=(h.2 j hj').boxed;have e:(l.map AV.boxed).getD j .any=(l.getD j .any).boxed:=by simp[List.getD_eq_getElem?_getD,hj']
 rw[e];exact this
theorem Tv {P:Program}{c:Ctx}(hr:HRel c){nid:Option Nat}(hnid:∀ id,nid=some id→c.H[id]?=some .unborn){t:TypeId}{a v:AV}{y:Value}(hy:Rep c y a){h':List AO}(h:MK nid a c.H=some (v,h')) :
  ∃x w' γ',(Instr.box t y).run P c.w=.ok x w'∧Rep ⟨w',c.S,γ',h'⟩ x v∧HRel ⟨w',c.S,γ',h'⟩∧Ext c ⟨w',c.S,γ',h'⟩:=by
 obtain⟨hone,h2⟩:=Xg h;cases h2;obtain⟨γ',h1,h2,h3⟩:=Gr hr hnid y.cells (a.cells.map AV.boxed) (C3 hy hone).boxed t;rw[List.length_map]at h1 h2 h3;exact⟨_,_,γ',by simp[Instr.box,newVar,newRow],h1,h2,h3⟩
theorem GW {c:Ctx}(hr:HRel c){id ver:Nat}{f:Nat→AV}{H':List AO}{w:World}(hid:H'[id]?=some (.row ver 0 f)) (hH:∀i,i≠id→H'[i]?=c.H[i]?)
  (hw:w=c.w)
  (hfits:c.H[id]?=none∨c.H[id]?=some .unborn∨(c.γ id=none∧∃v0,inf c.H id=some v0∧v0<ver)) :
  HRel ⟨w,c.S,Jy c.γ id none,H'⟩∧Ext c ⟨w,c.S,Jy c.γ id none,H'⟩:=by
 subst hw;have hext:Ext c ⟨c.w,c.S,Jy c.γ id none,H'⟩:=by
  refine⟨?_,fun _ h=>h,fun _ h=>.inl h,?_,fun _ _ _=>rfl,Nat.le_refl _,rfl,rfl,rfl⟩
  ·intro i o ho
   by_cases hi:i=id
   ·subst hi
    rcases hfits with h |h | ⟨hg,v0,hi0,hv⟩
    ·rw[h]at ho;cases ho
    ·rw[h]at ho;cases ho;trivial
    ·have hinf:inf H' i=some ver:=by simp[inf,hid,AO.info]
     unfold inf at hi0;rw[ho]at hi0;cases o <;> simp[AO.info]at hi0
     ·subst hi0;exact .inr ⟨ver,hinf,.inl hv⟩
     ·subst hi0;exact .inr ⟨ver,hinf,.inl hv⟩
   ·have h1:=HLe.refl c i o ho
    have e1:=hH i hi;cases o with
    |unborn=>trivial
    |dead=>simpa [e1]using h1
    |row v _ _=>simpa [e1,inf,Jy,hi]using h1
    |con v _ _=>simpa [e1,inf,Jy,hi]using h1
    |map k g=>simpa [e1,Jy,hi]using h1
  ·rintro b ⟨i,o,sz,ho,hown,hg⟩
   by_cases hi:i=id
   ·subst hi;simp[Jy]at hg
   ·refine .inr ⟨i,o,sz,?_,hown,?_⟩
    ·rw[←hH i hi];exact ho
    ·simpa [Jy,hi]using hg
 refine⟨⟨?_,?_,?_,?_,hr.bound⟩,hext⟩
 ·intro i v n f ho
  by_cases hi:i=id
  ·subst hi
   simp only at ho;rw[hid]at ho;cases ho;exact .inl ⟨by simp[Jy],rfl⟩
  ·simp only at ho
   rw[hH i hi]at ho;rcases hr.row i v n f ho with⟨h1,h2⟩ | ⟨b,sz,cs,el,h1,h2,h3,h4,h5,h6⟩
   ·exact .inl ⟨by simpa [Jy,hi]using h1,h2⟩
   ·exact .inr ⟨b,sz,cs,el,by simpa [Jy,hi]using h1,h2,h3,h4,h5,fun j hj=>hext.rep hr (h6 j hj)⟩
 ·intro i v n f ho
  by_cases hi:i=id
  ·subst hi;simp only at ho;rw[hid]at ho;cases ho
  ·simp only at ho
   rw[hH i hi]at ho;rcases hr.con i v n f ho with⟨h1,h2⟩ | ⟨b,sz,cs,el,fr,h1,h2,h3,h4,h5,h6⟩
   ·exact .inl ⟨by simpa [Jy,hi]using h1,h2⟩
   ·exact .inr ⟨b,sz,cs,el,fr,by simpa [Jy,hi]using h1,h2,h3,h4,h5,fun j hj=>hext.rep hr (h6 j hj)⟩
 ·intro i k g ho
  by_cases hi:i=id
  ·subst hi;simp only at ho;rw[hid]at ho;cases ho
  ·simp only at ho
   rw[hH i hi]at ho;obtain⟨b,sz,es,cl,h1,h2,h3,h4⟩:=hr.map i k g ho;exact⟨b,sz,es,cl,by simpa [Jy,hi]using h1,h2,h3,h4.ext fun v a hv=>hext.rep hr hv⟩
 ·intro i i' o o' b sz sz' ho ho' h1 h2 hg hg'
  simp only at ho ho' hg hg';by_cases hi:i=id
  ·subst hi;simp[Jy]at hg
  ·by_cases hi':i'=id
   ·subst hi';simp[Jy]at hg'
   ·rw[hH i hi]at ho;rw[hH i' hi']at ho'
    simp only[Jy,hi,hi',if_false]at hg hg';exact hr.inj _ _ _ _ _ _ _ ho ho' h1 h2 hg hg'
def Qf (N:Nat)(f:Nat→AV)(M:Nat)(g:Nat→AV):Nat→AV:=fun j=>if j<N then f j else if j<N+M then g (j-N)else f j
def D6 (s:Nat)(y:AV)(h:List AO):Option (Nat×(Nat→AV)) :=
 match y with
 | .sl n m g _=>Q4 (n*s≤m) (some (n,g))
 | .osl id ver es off n =>
  match h[id]? with
  |some (.row v m g)=>Q4 (v=ver∧es=s∧off+n*s≤m) (some (n,fun j=>g (off+j)))
  |some (.con v m g)=>Q4 (v=ver∧es=s∧off+n*s≤m) (some (n,fun j=>g (off+j)))
  |_=>none
 |_=>none
def SrcOk (c:Ctx)(z:Value)(n s:Nat)(g:Nat→AV):Prop :=
 ∃ (b o cap:Nat) (us:Nat→Value),z=.slice (some ⟨b,o,none⟩) n cap∧n≤cap∧(∀j,j<n*s→c.w.cell? ⟨b,o+j,none⟩=some (us j))∧∀j,j<n*s→Rep c (us j) (g j)
theorem La {c:Ctx}(hr:HRel c){s:Nat}{y:AV}{z:Value}(hz:Rep c z y){n:Nat}{g:Nat→AV}(h:D6 s y c.H=some (n,g)) :
  (∃a cap,n=0∧z=.slice a 0 cap)∨SrcOk c z n s g:=by
 unfold D6 at h;have obj:∀ (id ver es off m:Nat) (g':Nat→AV) (_:inf c.H id=some ver) (_:(c.γ id=none∧m=0)∨∃b sz cs el fr,c.γ id=some (b,sz)∧c.w.heap[b]?=some (.cells cs el fr)∧m≤cs.size∧∀j,j<m→Rep c (cs.getD j undef) (g' j)),
   Rep c z (.osl id ver es off n)→off+n*s≤m→(∃a cap,n=0∧z=.slice a 0 cap)∨SrcOk c z n s (fun j=>g' (off+j)):=by
  intro id ver es off m g' hinf hobj hz hle;cases hz with
  |osl _ _ _ _ _ cap b sz hi hg hn hcap hmx =>
   rcases hobj with⟨h1,_⟩ | ⟨b',sz',cs,el,fr,h1,h2,h3,h4⟩
   ·rw[h1]at hg;cases hg
   ·rw[h1]at hg;cases hg
    refine .inr ⟨b,off,cap,fun j=>cs.getD (off+j) undef,rfl,hn,fun j hj=>?_,fun j hj=>h4 _ (by omega)⟩;have hlt:off+j<cs.size:=by omega
    rw[cell_of_row c.w b _ cs el fr h2];simp[hlt,Array.getD]
  |oslz _ _ _ _ a hi=>exact .inl ⟨a,0,rfl,rfl⟩
  |oslOld _ _ _ _ _ a cap hn hs' =>
   exfalso;rcases hs' with⟨v,hi,hlt⟩ |hd
   ·rw[hinf]at hi;cases hi;omega
   ·simp[inf,hd,AO.info]at hinf
  |oslzOld _ _ _ _ a hs'=>exact .inl ⟨a,0,rfl,rfl⟩
 cases y with
 |sl n' m f t =>
  obtain⟨hle,h2⟩:=Xg h;cases h2;cases hz with
  |sl b base _ _ cap _ _ us hS hc hrr hn ht=>exact .inr ⟨b,base,cap,us,rfl,hn,fun j hj=>hc j (by omega),fun j hj=>hrr j (by omega)⟩
  |slz a cap _ _ ht=>exact .inl ⟨a,cap,rfl,rfl⟩
 |osl id ver es off n' =>
  cases ho:c.H[id]? with
  |none=>simp[ho]at h
  |some o =>
   simp only[ho]at h;cases o with
   |row v m g' =>
    obtain⟨⟨rfl,rfl,hle⟩,h2⟩:=Xg h;cases h2;refine obj id v es off m g' (by simp[inf,ho,AO.info]) ?_ hz hle;rcases hr.row id v m g' ho with h1 | ⟨b,sz,cs,el,h1,h2,h3,h4,h5,h6⟩
    ·exact .inl h1
    ·exact .inr ⟨b,sz,cs,el,_,h1,h2,by omega,h6⟩
   |con v m g' =>
    obtain⟨⟨rfl,rfl,hle⟩,h2⟩:=Xg h;cases h2;refine obj id v es off m g' (by simp[inf,ho,AO.info]) ?_ hz hle;rcases hr.con id v m g' ho with h1 | ⟨b,sz,cs,el,fr,h1,h2,h3,h4,h5,h6⟩
    ·exact .inl h1
    ·exact .inr ⟨b,sz,cs,el,fr,h1,h2,by omega,h6⟩
   |_=>simp at h
 |_=>simp at h
def QG (P:Program)(t:TypeId)(x y:AV)(h:List AO):Option (AV×List AO) :=
 match At P t with
 |none=>none
 |some (_,s,by_) =>
  match D6 s y h with
  |none=>none
  |some (m,g) =>
   match x with
   | .osl id ver es off n =>
    match h[id]? with
    |some (.row v k f)=>Q4 (v=ver∧es=s∧off=0∧n*s≤k∧(∀j,j<m*s→(g j).one=true)∧(n+m)*by_≤140737488355328∧n+m≤9223372036854775807)
      (some (.osl id (v+1) s 0 (n+m),h.set id (.row (v+1) ((n+m)*s) (Qf (n*s) f (m*s) g))))
    |_=>none
   | .sl n k f true=>if m=0∧0<n then some (.sl n k f true,h)else Q4 (n*s≤k∧(n=0∨0<m)∧(∀j,j<m*s→(g j).one=true)∧(n+m)*by_≤140737488355328∧n+m≤9223372036854775807)
      (some (.osl h.length 0 s 0 (n+m),h ++ [.row 0 ((n+m)*s) (Qf (n*s) f (m*s) g)]))
   |_=>none
theorem ZX {P:Program}{w:World}{t e:TypeId}{i:TypeInfo}(ty:TypeId)(hu:P.underlying t=some (.slice e)) (hi:P.info? e=some i)
  (a a':Option Addr) (n cap cap':Nat) (hn:n≤cap) :
  (Builtin.append_ #[t,t] ty #[.slice a n cap,.slice a' 0 cap']).run P w=.ok (.slice a n cap) w:=by
 cases a <;> cases a' <;> simp[Builtin.append_,run_underlying hu,sizeOf,typeInfo,hi,Builtin.lenOf,Builtin.firstCells,hn,storeCells,loadCells,loadCellsFrom]
theorem N7 {P:Program}{w:World}{t e:TypeId}{i:TypeInfo}(ty:TypeId)(hu:P.underlying t=some (.slice e)) (hi:P.info? e=some i)
  (g sLen sCap:Nat) (cur:Array Value) (el:TypeId) (hg:w.heap[g]?=some (.cells cur el (0,0)))
  (a:Addr) (m c:Nat) (news:List Value) (hl:news.length=m*i.size) (hnews:∀j u,news[j]?=some u→w.cell? (a.add j)=some u) (h1:∀u∈news,u.oneCell'=true)
  (hroom:sLen+m≤sCap) (hfit:sLen*i.size+news.length≤cur.size) :
  (Builtin.append_ #[t,t] ty #[.slice (some ⟨g,0,none⟩) sLen sCap,.slice (some a) m c]).run P w =
   .ok (.slice (some ⟨g,0,none⟩) (sLen+m) sCap) (w.setRow g (cur.toList.take (sLen*i.size) ++ news ++ cur.toList.drop (sLen*i.size+news.length)).toArray):=by
 have hf:=run_firstCells_some (P:=P) w i.size m a m c news hl hnews;have hst:=run_storeCells_at P g (sLen*i.size) el news 0 cur w hg (by simpa using hfit) h1;simp only[Nat.add_zero]at hst;simp[Builtin.append_,run_underlying hu,sizeOf,typeInfo,hi,Builtin.lenOf,hroom,hf,Addr.add_lit,hst]
theorem DQ (us:Nat→Value)(k j:Nat)(hj:j<k):((List.range k).map us).getD j undef=us j:=by
 simp[List.getD_eq_getElem?_getD,hj]
theorem SrcOk.news {c:Ctx}{z:Value}{n s:Nat}{g:Nat→AV}(h:SrcOk c z n s g)(h1:∀j,j<n*s→(g j).one=true) :
  ∃ (a:Addr) (cap:Nat) (news:List Value),z=.slice (some a) n cap∧news.length=n*s∧(∀j u,news[j]?=some u→c.w.cell? (a.add j)=some u)∧(∀u∈news,u.oneCell'=true) ∧
   ∀j,j<n*s→Rep c (news.getD j undef) (g j):=by
 obtain⟨b,o,cap,us,rfl,_,hc,hr⟩:=h;refine⟨⟨b,o,none⟩,cap,(List.range (n*s)).map us,rfl,by simp,fun j u hu=>?_,fun u hu=>?_,fun j hj=>?_⟩
 ·have hj:j<n*s:=by
   have:=(List.getElem?_eq_some_iff.1 hu).1
   simpa using this
  rw[Addr.add_lit,hc j hj];simp[hj]at hu;rw[hu]
 ·obtain⟨j,hj,rfl⟩:=List.mem_map.1 hu
  have hj':j<n*s:=by simpa using hj
  exact(hr j hj').one (h1 j hj')
 ·rw[DQ us _ _ hj];exact hr j hj
theorem SrcOk.anyOld {c:Ctx}{z:Value}{n s:Nat}{g:Nat→AV}(h:SrcOk c z n s g) :
  ∃ (b o cap:Nat) (olds:List Value),z=.slice (some ⟨b,o,none⟩) n cap∧n≤cap∧olds.length=n*s∧(∀j u,olds[j]?=some u→c.w.cell? ((⟨b,o,none⟩:Addr).add j)=some u) ∧
   ∀j,j<n*s→Rep c (olds.getD j undef) (g j):=by
 obtain⟨b,o,cap,us,rfl,hn,hc,hr⟩:=h;refine⟨b,o,cap,(List.range (n*s)).map us,rfl,hn,by simp,fun j u hu=>?_,fun j hj=>?_⟩
 ·have hj:j<n*s:=by
   have:=(List.getElem?_eq_some_iff.1 hu).1
   simpa using this
  rw[Addr.add_lit,hc j hj];simp[hj]at hu;rw[hu]
 ·rw[DQ us _ _ hj];exact hr j hj
theorem BE {c:Ctx}{N M:Nat}{f g:Nat→AV}{olds news rest:List Value}(h1:olds.length=N)(h2:news.length=M)(ho:∀j,j<N→Rep c (olds.getD j undef) (f j)) (hn:∀j,j<M→Rep c (news.getD j undef) (g j)) :
  ∀j,j<N+M→Rep c ((olds ++ news ++ rest).toArray.getD j undef) (Qf N f M g j):=by
 intro j hj;have e:(olds ++ news ++ rest).toArray.getD j undef=((olds ++ news ++ rest)[j]?).getD undef:=by simp[Array.getD_eq_getD_getElem?]
 rw[e,List.append_assoc];unfold Qf;by_cases hj1:j<N
 ·rw[if_pos hj1,List.getElem?_append_left (by omega),←List.getD_eq_getElem?_getD];exact ho j hj1
 ·rw[if_neg hj1,if_pos hj,List.getElem?_append_right (by omega),List.getElem?_append_left (by omega),h1,←List.getD_eq_getElem?_getD];exact hn _ (by omega)
theorem MJ {P:Program}{c:Ctx}(hr:HRel c){t:TypeId}(ty:TypeId){x y v:AV}{vx vy:Value}(hx:Rep c vx x)(hy:Rep c vy y){h':List AO}(h:QG P t x y c.H=some (v,h')) :
  ∃r w' γ',(Builtin.append_ #[t,t] ty #[vx,vy]).run P c.w=.ok r w'∧Rep ⟨w',c.S,γ',h'⟩ r v∧HRel ⟨w',c.S,γ',h'⟩∧Ext c ⟨w',c.S,γ',h'⟩:=by
 unfold QG at h;cases he:At P t with
 |none=>simp[he]at h
 |some q =>
  obtain⟨e,s,by_⟩:=q;obtain⟨hu,inf',z,hin,hs,hby,hz,hzs,hpos⟩:=KX he;simp only[he]at h;cases hsrc:D6 s y c.H with
  |none=>simp[hsrc]at h
  |some q =>
   obtain⟨m,g⟩:=q;simp only[hsrc]at h;have hsrc':=La hr hy hsrc;have hvy:∃a capy,vy=.slice a m capy:=by
    rcases hsrc' with⟨a,capy,rfl,rfl⟩ | ⟨b,o,cap,us,rfl,_⟩
    ·exact⟨_,_,rfl⟩
    ·exact⟨_,_,rfl⟩
   have hsy:0<m→SrcOk c vy m s g:=fun hm=>hsrc'.resolve_left (by rintro⟨a,capy,rfl,_⟩;omega)
   have newBlock:∀ (n:Nat) (f:Nat→AV) (b:Addr) (cap:Nat) (olds:List Value),vx=.slice (some b) n cap→cap<n+m→olds.length=n*s →
     (∀j u,olds[j]?=some u→c.w.cell? (b.add j)=some u)→(∀j,j<n*s→Rep c (olds.getD j undef) (f j))→SrcOk c vy m s g→(∀j,j<m*s→(g j).one=true) →
     (n+m)*by_≤140737488355328→n+m≤9223372036854775807 →
     ∃cap' cs,(Builtin.append_ #[t,t] ty #[vx,vy]).run P c.w=.ok (.slice (some ⟨c.w.heap.size,0,none⟩) (n+m) cap') (c.w.drew.alloc (.cells cs e))∧n+m≤cap'∧cap'≤9223372036854775807∧cs.size=cap'*s ∧
      ∀j,j<(n+m)*s→Rep c (cs.getD j undef) (Qf (n*s) f (m*s) g j):=by
    intro n f b cap olds hvx hcap hol hoc hor hsy h1 hb h63;obtain⟨a,capy,news,e2,hnl,hnc2,hn1,hnr⟩:=hsy.news h1;subst hs hby;have hrun:=run_append_grow (P:=P) c.w t ty e inf' z hu hin hz b n cap olds hol hoc a m capy news hnl hnc2 hcap (by omega) (growslice_fits hcap hb);rw[hvx,e2];have hge:=grownCap_ge c.w (n+m) cap e;refine⟨_,_,hrun,hge,grownCap_le_maxLen _ _ _ _ h63,?_,?_⟩
    ·simp only[Array.size_append,List.size_toArray,size_zeroCells,hzs,hol,hnl,←Nat.add_mul]
     congr 1;omega
    ·intro j hj
     rw[Nat.add_mul]at hj;have:=BE (c:=c) (rest:=(Builtin.zeroCells z.cells (grownCap c.w (n+m) cap e-(n+m))).toList) hol hnl hor hnr j hj;have e3:(olds ++ news ++ (Builtin.zeroCells z.cells (grownCap c.w (n+m) cap e-(n+m))).toList).toArray=olds.toArray ++ news.toArray ++ Builtin.zeroCells z.cells (grownCap c.w (n+m) cap e-(n+m)):=by
      apply Array.ext';simp
     rwa[e3]at this
   have emptyBlock:∀ (f:Nat→AV) (a0:Option Addr),vx=.slice a0 0 0→0<m→(∀j,j<m*s→(g j).one=true)→(0+m)*by_≤140737488355328→0+m≤9223372036854775807 →
     ∃cap' cs,(Builtin.append_ #[t,t] ty #[vx,vy]).run P c.w=.ok (.slice (some ⟨c.w.heap.size,0,none⟩) (0+m) cap') (c.w.drew.alloc (.cells cs e))∧0+m≤cap'∧cap'≤9223372036854775807∧cs.size=cap'*s ∧
      ∀j,j<(0+m)*s→Rep c (cs.getD j undef) (Qf (0*s) f (m*s) g j):=by
    intro f a0 hvx hm h1 hb h63;cases a0 with
    |some a0=>exact newBlock 0 f a0 0 [] hvx (by omega) (by simp) (by simp) (fun j hj=>by simp at hj) (hsy hm) h1 hb h63
    |none =>
     obtain⟨a,capy,news,e2,hnl,hnc2,hn1,hnr⟩:=(hsy hm).news h1;subst hs hby;simp only[Nat.zero_add]at hb h63 ⊢;have hrun:=run_append_nil (P:=P) c.w t ty e inf' z hu hin hz a m capy news hnl hnc2 hm (by omega) (by omega);rw[hvx,e2];have hge:=grownCap_ge c.w m 0 e;refine⟨_,_,hrun,hge,grownCap_le_maxLen _ _ _ _ h63,?_,?_⟩
     ·simp only[Array.size_append,List.size_toArray,size_zeroCells,hzs,hnl,←Nat.add_mul]
      congr 1;omega
     ·intro j hj
      have:=BE (c:=c) (f:=f) (olds:=[]) (rest:=(Builtin.zeroCells z.cells (grownCap c.w m 0 e-m)).toList) rfl hnl (fun j hj=>absurd hj (Nat.not_lt_zero j)) hnr j (by simpa using hj);have e3:([] ++ news ++ (Builtin.zeroCells z.cells (grownCap c.w m 0 e-m)).toList).toArray=news.toArray ++ Builtin.zeroCells z.cells (grownCap c.w m 0 e-m):=by
       apply Array.ext';simp
      rw[e3]at this
      simpa using this
   cases x with
   |osl id ver es off n =>
    cases ho:c.H[id]? with
    |none=>simp[ho]at h
    |some o =>
     simp only[ho]at h;cases o with
     |row v' k f =>
      obtain⟨⟨rfl,rfl,rfl,hk,h1,hb,h63⟩,h2⟩:=Xg h;cases h2;have hlt:=(List.getElem?_eq_some_iff.1 ho).1;have hinf:inf c.H id=some v':=by simp[inf,ho,AO.info]
      have hset:(c.H.set id (.row (v'+1) ((n+m)*es) (Qf (n*es) f (m*es) g)))[id]?=some (.row (v'+1) ((n+m)*es) (Qf (n*es) f (m*es) g)):=by simp[hlt]
      have hoth:∀i,i≠id→(c.H.set id (.row (v'+1) ((n+m)*es) (Qf (n*es) f (m*es) g)))[i]?=c.H[i]?:=fun i hi=>by simp[Ne.symm hi]
      have hinf':inf (c.H.set id (.row (v'+1) ((n+m)*es) (Qf (n*es) f (m*es) g))) id=some (v'+1):=by simp[inf,hset,AO.info]
      have fin:∀cap' cs,(Builtin.append_ #[t,t] ty #[vx,vy]).run P c.w=.ok (.slice (some ⟨c.w.heap.size,0,none⟩) (n+m) cap') (c.w.drew.alloc (.cells cs e))→n+m≤cap'→cap'≤9223372036854775807→cs.size=cap'*es →
        (∀j,j<(n+m)*es→Rep c (cs.getD j undef) (Qf (n*es) f (m*es) g j)) →
        ∃r w' γ',(Builtin.append_ #[t,t] ty #[vx,vy]).run P c.w=.ok r w'∧Rep ⟨w',c.S,γ',c.H.set id (.row (v'+1) ((n+m)*es) (Qf (n*es) f (m*es) g))⟩ r (.osl id (v'+1) es 0 (n+m)) ∧
         HRel ⟨w',c.S,γ',c.H.set id (.row (v'+1) ((n+m)*es) (Qf (n*es) f (m*es) g))⟩∧Ext c ⟨w',c.S,γ',c.H.set id (.row (v'+1) ((n+m)*es) (Qf (n*es) f (m*es) g))⟩:=by
       intro cap' cs hrun hcap hmx' hcs hcells;obtain⟨g1,g2⟩:=Zm (c:=c) (c':=⟨c.w.drew.alloc (.cells cs e),c.S,Jy c.γ id (some (c.w.heap.size,cs.size)),c.H.set id (.row (v'+1) ((n+m)*es) (Qf (n*es) f (m*es) g))⟩) hr
        (id:=id) (ver:=v'+1) (n:=(n+m)*es) (b:=c.w.heap.size) (sz:=cs.size) hset hoth rfl (by simp[Jy]) (fun i hi=>by simp[Jy,hi]) (heap_alloc_new c.w.drew _) rfl
        (by rw[hcs];exact Nat.mul_le_mul_right _ hcap) (fun b' _ hb'=>heap_alloc_old c.w.drew _ b' hb') (by simp) rfl rfl rfl (.inl (Nat.le_refl _)) (.inr (.inr ⟨v',hinf,.inl (by omega)⟩)) hcells
       exact⟨_,_,_,hrun,.osl id _ es 0 _ _ c.w.heap.size cs.size hinf' (by simp[Jy]) hcap (by omega) hmx',g1,g2⟩
      have live:¬stale c.H id v':=by
       rintro(⟨v'',hi,hlt⟩ |hd)
       ·rw[hinf]at hi;cases hi;omega
       ·simp[inf,hd,AO.info]at hinf
      cases hx with
      |osl _ _ _ _ _ cap b sz hi hg hn hcap hmx =>
       rcases hr.row id _ k f ho with⟨hg',_⟩ | ⟨b',sz',cs,el,hg',hh,hcs,hks,hnS,hcr⟩
       ·rw[hg']at hg;cases hg
       ·rw[hg']at hg;cases hg
        have hsx:SrcOk c (.slice (some ⟨b,0,none⟩) n cap) n es f:=by
         refine⟨b,0,cap,fun j=>cs.getD j undef,rfl,hn,fun j hj=>Ze hh (m:=k) (by omega) j (by omega),fun j hj=>hcr j (by omega)⟩
        rcases Nat.eq_zero_or_pos m with rfl |hm
        ·
         obtain⟨a,capy,rfl⟩:=hvy;have hrun:=ZX (P:=P) (w:=c.w) ty hu hin (some ⟨b,0,none⟩) a n cap capy hn;obtain⟨g1,g2⟩:=Zm (c:=c) (c':=⟨c.w,c.S,c.γ,c.H.set id (.row (v'+1) ((n+0)*es) (Qf (n*es) f (0*es) g))⟩) hr
          (id:=id) (ver:=v'+1) (n:=(n+0)*es) (b:=b) (sz:=sz) hset hoth rfl hg' (fun _ _=>rfl) hh hcs (by simp;omega) (fun _ _ _=>rfl) (Nat.le_refl _) rfl rfl rfl
          (.inr ⟨_,_,ho,rfl,hg'⟩) (.inr (.inr ⟨v',hinf,.inl (by omega)⟩)) (fun j hj=>by
           have hj':j<n*es:=by simpa using hj
           simp only[Qf,if_pos hj'];exact hcr j (by omega))
         exact⟨_,_,c.γ,hrun,.osl id _ es 0 _ _ b sz hinf' hg' (by simpa using hn) hcap hmx,g1,g2⟩
        ·by_cases hroom:n+m≤cap
         ·obtain⟨a,capy,news,rfl,hnl,hnc,hn1,hnr⟩:=(hsy hm).news h1
          subst hs hby;have hmul:n*inf'.size+m*inf'.size≤cap*inf'.size:=by rw[←Nat.add_mul];exact Nat.mul_le_mul_right _ hroom
          have hrun:=N7 (P:=P) (w:=c.w) ty hu hin b n cap cs el hh a m capy news hnl hnc hn1 hroom (by omega);have hsz2:(cs.toList.take (n*inf'.size) ++ news ++ cs.toList.drop (n*inf'.size+news.length)).toArray.size=sz:=by
           simp;omega
          obtain⟨g1,g2⟩:=Zm (c:=c) (c':=⟨c.w.setRow b (cs.toList.take (n*inf'.size) ++ news ++ cs.toList.drop (n*inf'.size+news.length)).toArray,c.S,c.γ,c.H.set id (.row (v'+1) ((n+m)*inf'.size) (Qf (n*inf'.size) f (m*inf'.size) g))⟩) hr
           (id:=id) (ver:=v'+1) (n:=(n+m)*inf'.size) (b:=b) (sz:=sz) hset hoth rfl hg' (fun _ _=>rfl) (setRow_heap c.w b cs _ el _ hh) hsz2 (by rw[Nat.add_mul];omega)
           (fun b' hb' _=>setRow_other c.w b b' _ hb') (by simp) rfl rfl rfl (.inr ⟨_,_,ho,rfl,hg'⟩) (.inr (.inr ⟨v',hinf,.inl (by omega)⟩)) (fun j hj=>by
            rw[Nat.add_mul]at hj;refine BE (c:=c) (by simp;omega) hnl (fun j hj=>?_) hnr j hj;have e1:(cs.toList.take (n*inf'.size)).getD j undef=cs.getD j undef:=by
             simp[List.getD_eq_getElem?_getD,hj,Array.getD_eq_getD_getElem?]
            rw[e1];exact hcr j (by omega))
          exact⟨_,_,c.γ,hrun,.osl id _ _ 0 _ _ b sz hinf' hg' hroom hcap hmx,g1,g2⟩
         ·obtain⟨b',o',cap0,olds,e1,hnc,hol,hoc,hor⟩:=hsx.anyOld
          cases e1;obtain⟨cap',cs',hrun,h3,h3',h4,h5⟩:=newBlock n f ⟨b,0,none⟩ cap olds rfl (by omega) hol hoc hor (hsy hm) h1 hb h63;exact fin cap' cs' hrun h3 h3' h4 h5
      |oslz _ _ _ _ a hi =>
       rcases Nat.eq_zero_or_pos m with rfl |hm
       ·obtain⟨a',capy,rfl⟩:=hvy
        have hrun:=ZX (P:=P) (w:=c.w) ty hu hin a a' 0 0 capy (Nat.le_refl _);simp only[Nat.add_zero,Nat.zero_mul]at hset hoth hinf' ⊢;rcases hr.row id _ k f ho with⟨hg',hk0⟩ | ⟨b',sz',cs,el,hg',hh,hcs,hks,hnS,hcr⟩
        ·obtain⟨g1,g2⟩:=GW hr (id:=id) (ver:=v'+1) (w:=c.w) hset hoth rfl (.inr (.inr ⟨hg',v',hinf,by omega⟩))
         exact⟨_,_,_,hrun,.oslz id _ _ 0 a hinf',g1,g2⟩
        ·obtain⟨g1,g2⟩:=Zm (c:=c) (c':=⟨c.w,c.S,c.γ,c.H.set id (.row (v'+1) 0 (Qf 0 f 0 g))⟩) hr
          (id:=id) (ver:=v'+1) (n:=0) (b:=b') (sz:=sz') hset hoth rfl hg' (fun _ _=>rfl) hh hcs (Nat.zero_le _) (fun _ _ _=>rfl) (Nat.le_refl _) rfl rfl rfl
          (.inr ⟨_,_,ho,rfl,hg'⟩) (.inr (.inr ⟨v',hinf,.inl (by omega)⟩)) (fun j hj=>absurd hj (Nat.not_lt_zero j))
         exact⟨_,_,c.γ,hrun,.oslz id _ _ 0 a hinf',g1,g2⟩
       ·obtain⟨cap',cs',hrun,h3,h3',h4,h5⟩:=emptyBlock f a rfl hm h1 hb h63
        exact fin cap' cs' hrun h3 h3' h4 h5
      |oslOld _ _ _ _ _ a cap hn hs'=>exact absurd hs' live
      |oslzOld _ _ _ _ a hs'=>exact absurd hs' live
     |_=>simp at h
   |sl n k f tt =>
    cases tt with
    |false=>simp at h
    |true =>
     simp only at h
     split at h
     ·rename_i hz0
      obtain⟨rfl,hn0⟩:=hz0;cases h;obtain⟨a',capy,rfl⟩:=hvy;cases hx with
      |sl b base _ _ cap _ _ us hS hc hrr hn ht =>
       exact⟨_,c.w,c.γ,ZX (P:=P) (w:=c.w) ty hu hin _ a' _ _ capy hn,.sl b base n k cap f true us hS hc hrr hn ht,hr,Ext.refl c⟩
      |slz a cap _ _ ht=>exact absurd hn0 (Nat.lt_irrefl 0)
     obtain⟨⟨hk,hnm,h1,hb,h63⟩,h2⟩:=Xg h;cases h2;have hset:(c.H ++ [.row 0 ((n+m)*s) (Qf (n*s) f (m*s) g)])[c.H.length]?=some (.row 0 ((n+m)*s) (Qf (n*s) f (m*s) g)):=by simp
     have hoth:∀i,i≠c.H.length→(c.H ++ [.row 0 ((n+m)*s) (Qf (n*s) f (m*s) g)])[i]?=c.H[i]?:=fun i hi=>by
      have:=ZZ (nid:=none) (h:=c.H) (o:=.row 0 ((n+m)*s) (Qf (n*s) f (m*s) g)) i (by simpa [Qz]using hi)
      simpa [Kb]using this
     have hnone:c.H[c.H.length]?=none:=by simp
     have hinf':inf (c.H ++ [.row 0 ((n+m)*s) (Qf (n*s) f (m*s) g)]) c.H.length=some 0:=by simp[inf,AO.info]
     have fin:∀cap' cs,(Builtin.append_ #[t,t] ty #[vx,vy]).run P c.w=.ok (.slice (some ⟨c.w.heap.size,0,none⟩) (n+m) cap') (c.w.drew.alloc (.cells cs e))→n+m≤cap'→cap'≤9223372036854775807→cs.size=cap'*s →
       (∀j,j<(n+m)*s→Rep c (cs.getD j undef) (Qf (n*s) f (m*s) g j)) →
       ∃r w' γ',(Builtin.append_ #[t,t] ty #[vx,vy]).run P c.w=.ok r w'∧Rep ⟨w',c.S,γ',c.H ++ [.row 0 ((n+m)*s) (Qf (n*s) f (m*s) g)]⟩ r (.osl c.H.length 0 s 0 (n+m)) ∧
        HRel ⟨w',c.S,γ',c.H ++ [.row 0 ((n+m)*s) (Qf (n*s) f (m*s) g)]⟩∧Ext c ⟨w',c.S,γ',c.H ++ [.row 0 ((n+m)*s) (Qf (n*s) f (m*s) g)]⟩:=by
      intro cap' cs hrun hcap hmx' hcs hcells;obtain⟨g1,g2⟩:=Zm (c:=c) (c':=⟨c.w.drew.alloc (.cells cs e),c.S,Jy c.γ c.H.length (some (c.w.heap.size,cs.size)),c.H ++ [.row 0 ((n+m)*s) (Qf (n*s) f (m*s) g)]⟩) hr
       (id:=c.H.length) (ver:=0) (n:=(n+m)*s) (b:=c.w.heap.size) (sz:=cs.size) hset hoth rfl (by simp[Jy]) (fun i hi=>by simp[Jy,hi]) (heap_alloc_new c.w.drew _) rfl
       (by rw[hcs];exact Nat.mul_le_mul_right _ hcap) (fun b' _ hb'=>heap_alloc_old c.w.drew _ b' hb') (by simp) rfl rfl rfl (.inl (Nat.le_refl _)) (.inl hnone) hcells
      exact⟨_,_,_,hrun,.osl _ 0 s 0 _ _ c.w.heap.size cs.size hinf' (by simp[Jy]) hcap (by omega) hmx',g1,g2⟩
     rcases Nat.eq_zero_or_pos m with rfl |hm
     ·obtain rfl:n=0:=by omega
      obtain⟨a',capy,rfl⟩:=hvy;have hvx:∃a,vx=.slice a 0 0:=by
       cases hx with
       |sl b base _ _ cap _ _ us hS hc hrr hn ht=>have:=ht rfl;subst this;exact⟨_,rfl⟩
       |slz a cap _ _ ht=>have:=ht rfl;subst this;exact⟨_,rfl⟩
      obtain⟨a,rfl⟩:=hvx;have hrun:=ZX (P:=P) (w:=c.w) ty hu hin a a' 0 0 capy (Nat.le_refl _);simp only[Nat.add_zero,Nat.zero_mul]at hset hoth hinf' ⊢;obtain⟨g1,g2⟩:=GW hr (id:=c.H.length) (ver:=0) (w:=c.w) hset hoth rfl (.inl hnone);exact⟨_,_,_,hrun,.oslz _ 0 s 0 a hinf',g1,g2⟩
     ·cases hx with
      |sl b base _ _ cap _ _ us hS hc hrr hn ht =>
       have:=ht rfl;subst this;have hsx:SrcOk c (.slice (some ⟨b,base,none⟩) cap cap) cap s f:=⟨b,base,cap,us,rfl,Nat.le_refl _,fun j hj=>hc j (by omega),fun j hj=>hrr j (by omega)⟩
       obtain⟨b',o',cap0,olds,e1,hnc,hol,hoc,hor⟩:=hsx.anyOld;cases e1;obtain⟨cap',cs',hrun,h3,h3',h4,h5⟩:=newBlock cap f ⟨b,base,none⟩ cap olds rfl (by omega) hol hoc hor (hsy hm) h1 hb h63;exact fin cap' cs' hrun h3 h3' h4 h5
      |slz a cap _ _ ht =>
       have:=ht rfl;subst this;obtain⟨cap',cs',hrun,h3,h3',h4,h5⟩:=emptyBlock f a rfl hm h1 hb h63;exact fin cap' cs' hrun h3 h3' h4 h5
   |_=>simp at h
def uR (k:IntKind)(x y:Int):Int:=k.wrap ((BitVec.ofInt k.bits x &&& BitVec.ofInt k.bits y).toNat)
def wH (k:IntKind)(x y:Int):Int:=k.wrap ((BitVec.ofInt k.bits x ||| BitVec.ofInt k.bits y).toNat)
def sa (k:IntKind)(x y:Int):Int:=k.wrap ((BitVec.ofInt k.bits x ^^^ BitVec.ofInt k.bits y).toNat)
def qe (k:IntKind)(x y:Int):Int:=k.wrap ((BitVec.ofInt k.bits x &&& ~~~(BitVec.ofInt k.bits y)).toNat)
def uS (k:IntKind)(x y:Int):Int:=k.wrap (x*2 ^ (min y.toNat k.bits))
def uT (k:IntKind)(x y:Int):Int:=x.fdiv (2 ^ (min y.toNat k.bits))
def AV.isPtr:AV→Bool
 | .ptr ..=>true
 | .ref ..=>true
 |_=>false
def VL (P:Program):Nat→List Field→Bool
 |_,[]=>true
 | i,f :: l=>decide (f.name≠"_") && f.offset == i && (match P.underlying f.type with | some (.int _)=>true | _=>false) && VL P (i+1) l
def oR (P:Program)(t:TypeId)(n:Nat):Bool :=
 match P.underlying t with
 |some (.struct fs)=>!P.stoodInHeld t && !P.eqGuardType P.depth t && fs.size == n && VL P 0 fs.toList
 |_=>false
def Ik:Bool→List AV→List AV→Option Bool
 |acc,[],[]=>some acc
 |acc,.int k x :: l,.int k' y :: m=>Q4 (k=k') (Ik (acc && decide (x=y)) l m)
 |_,_,_=>none
def HE (P:Program)(t:TypeId):Bool:=match P.underlying t with |some (.slice _)=>true |_=>false
def ej (P:Program)(op:BinOp)(t:TypeId)(a:AV):Option AV :=
 match op,a with
 | .eql,.sl n _ _ _=>Q4 (HE P t=true) (some (if n=0 then .abool else .bool false))
 | .neq,.sl n _ _ _=>Q4 (HE P t=true) (some (if n=0 then .abool else .bool true))
 |_,_=>none
def Cb (P:Program)(op:BinOp)(t:TypeId)(a b:AV):Option AV :=
 match op,a,b with
 | .shl,.int k x,.int _ y=>Q4 (0≤y) (some (.int k (uS k x y)))
 | .shr,.int k x,.int _ y=>Q4 (0≤y) (some (.int k (uT k x y)))
 | .add,.int k x,.int k' y=>Q4 (k=k') (some (.int k (k.wrap (x+y))))
 | .sub,.int k x,.int k' y=>Q4 (k=k') (some (.int k (k.wrap (x-y))))
 | .mul,.int k x,.int k' y=>Q4 (k=k') (some (.int k (k.wrap (x*y))))
 | .quo,.int k x,.int k' y=>Q4 (k=k'∧y≠0) (some (.int k (k.wrap (x.tdiv y))))
 | .rem,.int k x,.int k' y=>Q4 (k=k'∧y≠0) (some (.int k (x.tmod y)))
 | .and,.int k x,.int k' y=>Q4 (k=k') (some (.int k (uR k x y)))
 | .or,.int k x,.int k' y=>Q4 (k=k') (some (.int k (wH k x y)))
 | .xor,.int k x,.int k' y=>Q4 (k=k') (some (.int k (sa k x y)))
 | .andNot,.int k x,.int k' y=>Q4 (k=k') (some (.int k (qe k x y)))
 | .eql,.int k x,.int k' y=>Q4 (k=k') (some (.bool (decide (x=y))))
 | .neq,.int k x,.int k' y=>Q4 (k=k') (some (.bool (!decide (x=y))))
 | .lss,.int k x,.int k' y=>Q4 (k=k') (some (.bool (decide (x<y))))
 | .leq,.int k x,.int k' y=>Q4 (k=k') (some (.bool (decide (x≤y))))
 | .gtr,.int k x,.int k' y=>Q4 (k=k') (some (.bool (decide (y<x))))
 | .geq,.int k x,.int k' y=>Q4 (k=k') (some (.bool (decide (y≤x))))
 | .eql,.bool x,.bool y=>Q4 (Lf P t=true) (some (.bool (x == y)))
 | .neq,.bool x,.bool y=>Q4 (Lf P t=true) (some (.bool (!(x == y))))
 | .eql,.nil,.nil=>Q4 (aK P t=true) (some (.bool true))
 | .neq,.nil,.nil=>Q4 (aK P t=true) (some (.bool false))
 | .eql,a,.nil=>Q4 (aK P t=true∧a.isPtr=true) (some (.bool false))
 | .neq,a,.nil=>Q4 (aK P t=true∧a.isPtr=true) (some (.bool true))
 | .eql,.str x,.str y=>some (.bool (x.toList == y.toList))
 | .neq,.str x,.str y=>some (.bool (!(x.toList == y.toList)))
 | .eql,.agg l,.agg m=>Q4 (oR P t l.length=true) ((Ik true l m).map .bool)
 | .neq,.agg l,.agg m=>Q4 (oR P t l.length=true) ((Ik true l m).map fun b=>.bool (!b))
 |_,_,_=>none
theorem EU {P:Program}{t:TypeId}(h:aK P t=true):∃e,P.underlying t=some (.pointer e):=by
 unfold aK at h
 split at h
 ·exact⟨_,‹_›⟩
 ·cases h
theorem Lg {P:Program}{t:TypeId}(h:Lf P t=true):P.underlying t=some .bool:=by
 unfold Lf at h
 split at h
 ·assumption
 ·cases h
theorem Rep.isPtr {c:Ctx}{v:Value}{a:AV}(h:Rep c v a)(hp:a.isPtr=true):∃b,v=.pointer (some b):=by
 cases h <;> first |exact⟨_,rfl⟩ |simp[AV.isPtr]at hp
theorem VE {P:Program}{t:TypeId}(hu:P.underlying t=some .bool)(a b:Bool)(w:World):(Op.equal t (.bool a) (.bool b)).run P w=.ok (a == b) w:=by
 have:∀d,(Op.equalIn (d+1) t (.bool a) (.bool b)).run P w=.ok (a == b) w:=fun d=>by simp[Op.equalIn,run_underlying hu]
 exact this 9999
theorem OW {P:Program}{t e:TypeId}(hu:P.underlying t=some (.pointer e)) (a:Option Addr) (w:World):(Op.equal t (.pointer a) (.pointer none)).run P w=.ok a.isNone w:=by
 have:∀d,(Op.equalIn (d+1) t (.pointer a) (.pointer none)).run P w=.ok a.isNone w:=fun d=>by cases a <;> simp[Op.equalIn,run_underlying hu]
 exact this 9999
theorem Si {c:Ctx}{v:Value}{k:IntKind}{x:Int}(h:Rep c v (.int k x)):v=.int k x:=by cases h;rfl
theorem Fi {P:Program}(w:World)(d:Nat)(xs ys:Array Value)(c:Ctx):∀ (fs:List Field) (i:Nat) (l m:List AV) (acc r:Bool),VL P i fs=true→fs.length=l.length→Ik acc l m=some r →
  (∀j,j<l.length→i+j<xs.size∧Rep c (xs.getD (i+j) undef) (l.getD j .any))→(∀j,j<m.length→i+j<ys.size∧Rep c (ys.getD (i+j) undef) (m.getD j .any)) →
  ∃b,(Op.eqFields (d+1) xs ys fs).run P w=.ok b w∧r=(acc && b)
 | [],i,l,m,acc,r,_,hl,ha,_,_=>by
  cases l with
  |nil=>cases m with
   |nil=>cases ha;exact⟨true,by simp[Op.eqFields],by simp⟩
   |cons _ _=>simp[Ik]at ha
  |cons _ _=>simp at hl
 |f :: fs,i,l,m,acc,r,hf,hl,ha,hx,hy=>by
  cases l with
  |nil=>simp at hl
  |cons a l =>
   cases m with
   |nil=>cases a <;> simp[Ik]at ha
   |cons b m =>
    cases a <;> cases b <;> simp only[Ik,reduceCtorEq]at ha;rename_i k x k' y;obtain⟨hk,ha'⟩:=Xg ha;clear ha;subst hk;have ha:=ha';clear ha';simp only[VL,Bool.and_eq_true,decide_eq_true_eq,beq_iff_eq]at hf;obtain⟨⟨⟨h1,h2⟩,h3⟩,h4⟩:=hf;have hu:∃kk,P.underlying f.type=some (.int kk):=by
     revert h3;cases P.underlying f.type with
     |none=>simp
     |some t=>cases t <;> simp
    obtain⟨kk,hu⟩:=hu;have px:∀ (zs:Array Value) (z:Int),i<zs.size→Rep c (zs.getD i undef) (.int k z)→(part f.type zs f.offset).run P w=.ok (.int k z) w:=fun zs z hz hr=>by
     have e:=Si hr;have hz':zs[i]?=some (.int k z):=by
      rw[←e];simp[Array.getD,hz]
     simp[part,HD hu,dX,h2,hz']
    have hx0:=hx 0 (by simp);have hy0:=hy 0 (by simp);have e1:=px xs x hx0.1 hx0.2;have e2:=px ys y hy0.1 hy0.2;obtain⟨b,hb,hr⟩:=Fi w d xs ys c fs (i+1) l m _ r h4 (by simpa using hl) ha
     (fun j hj=>by have:=hx (j+1) (by simpa using hj);rw[show i+1+j=i+(j+1)by omega];simpa using this)
     (fun j hj=>by have:=hy (j+1) (by simpa using hj);rw[show i+1+j=i+(j+1)by omega];simpa using this)
    refine⟨decide (x=y) && b,?_,by rw[hr,Bool.and_assoc]⟩;rw[Op.eqFields,if_pos h1];simp only[Sem.run_bind,e1,e2,Result.andThen_ok,run_equalIn_int w d f.type k kk x y hu];by_cases hxy:x=y
    ·subst hxy;simp[hb]
    ·have:(x == y)=false:=by simpa using hxy
     simp[this,hxy]
theorem PE:∀ (l m:List AV) (acc r:Bool),Ik acc l m=some r→l.length=m.length
 | [],[],_,_,_=>rfl
 | [],_ :: _,_,_,h=>by simp[Ik]at h
 |a :: l,[],_,_,h=>by cases a <;> simp[Ik]at h
 |a :: l,b :: m,acc,r,h=>by
  cases a <;> cases b <;> simp only[Ik,reduceCtorEq]at h;obtain⟨_,h⟩:=Xg h;have:=PE l m _ r h;simp[this]
theorem dW {P:Program}{c:Ctx}{t:TypeId}{xs ys:Array Value}{l m:List AV}{r:Bool}(hx:Rep c (.agg xs) (.agg l)) (hy:Rep c (.agg ys) (.agg m)) (ht:oR P t l.length=true) (hr:Ik true l m=some r) (w:World) :
  (Op.equalIn 10000 t (.agg xs) (.agg ys)).run P w=.ok r w∧P.eqGuardType P.depth t=false:=by
 cases hx with
 |agg _ _ hl1 hr1 =>
  cases hy with
  |agg _ _ hl2 hr2 =>
   unfold oR at ht
   split at ht
   ·rename_i fs hu
    simp only[Bool.and_eq_true,Bool.not_eq_true',beq_iff_eq]at ht;obtain⟨⟨⟨h1,h2⟩,h3⟩,h4⟩:=ht;have hfs:P.fieldsOf t=fs:=by simp[Program.fieldsOf,hu]
    have hlm:=PE l m _ _ hr;refine⟨?_,h2⟩;obtain⟨b,hb,e⟩:=Fi (P:=P) w 9998 xs ys c fs.toList 0 l m true r h4 (by simpa using h3) hr (fun j hj=>⟨by omega,by rw[Nat.zero_add];exact hr1 j hj⟩) (fun j hj=>⟨by omega,by rw[Nat.zero_add];exact hr2 j hj⟩);rw[show(10000:Nat)=9999+1 from rfl,run_equalIn_struct w 9999 t xs ys (by rw[hfs];exact hu) h1,hfs,show(9999:Nat)=9998+1 from rfl,hb,e];simp
   ·cases ht
theorem TJ {P:Program}{c:Ctx}{op:BinOp}{t:TypeId}{a v:AV}{x:Value}(hx:Rep c x a)(h:ej P op t a=some v)(o1 o2:Operand) :
  ∃r,(do eqGuard op t o1 o2 x (.slice none 0 0);binOp op t x (.slice none 0 0):Sem Value).run P c.w=.ok r c.w∧Rep c r v:=by
 have key:∀ (op:BinOp),op=.eql∨op=.neq→∀ (q:Option Addr) (n cap:Nat),HE P t=true→(do eqGuard op t o1 o2 (.slice q n cap) (.slice none 0 0);binOp op t (.slice q n cap) (.slice none 0 0):Sem Value).run P c.w=.ok (.bool (if op=.eql then q.isNone else !q.isNone)) c.w:=by
  intro op hop q n cap hs;have hu:∃e,P.underlying t=some (.slice e):=by
   unfold HE at hs
   split at hs
   ·exact⟨_,‹_›⟩
   ·cases hs
  obtain⟨e,hu⟩:=hu;rcases hop with rfl |rfl <;> simp[eqGuard,binOp,run_equal_slice_nil c.w t e q n cap hu]
 unfold ej at h
 split at h
 ·obtain⟨hs,h⟩:=Xg h
  cases h;cases hx with
  |sl b base n m cap f t' us hS hc hr hn ht =>
   refine⟨_,key .eql (.inl rfl) _ _ _ hs,?_⟩;rw[if_pos rfl]
   split
   ·exact .abool _
   ·exact .bool _
  |slz q cap f t' ht=>exact⟨_,key .eql (.inl rfl) _ _ _ hs,.abool _⟩
 ·obtain⟨hs,h⟩:=Xg h
  cases h;cases hx with
  |sl b base n m cap f t' us hS hc hr hn ht =>
   refine⟨_,key .neq (.inr rfl) _ _ _ hs,?_⟩;rw[if_neg (by simp)]
   split
   ·exact .abool _
   ·exact .bool _
  |slz q cap f t' ht=>exact⟨_,key .neq (.inr rfl) _ _ _ hs,.abool _⟩
 ·cases h
theorem Tu {P:Program}{c:Ctx}{op:BinOp}{t:TypeId}{a b v:AV}{x y:Value}(hx:Rep c x a)(hy:Rep c y b)(h:Cb P op t a b=some v)(o1 o2:Operand) :
  ∃r,(do eqGuard op t o1 o2 x y;binOp op t x y:Sem Value).run P c.w=.ok r c.w∧Rep c r v:=by
 unfold Cb at h
 split at h
 ·obtain⟨h1,h2⟩:=Xg h;cases h2;cases hx;cases hy
  exact⟨_,by simp[eqGuard,binOp,Op.shift,Int.not_lt.2 h1,uS],.int _ _⟩
 ·obtain⟨h1,h2⟩:=Xg h;cases h2;cases hx;cases hy
  exact⟨_,by simp[eqGuard,binOp,Op.shift,Int.not_lt.2 h1,uT],.int _ _⟩
 ·obtain⟨h1,h2⟩:=Xg h;cases h2;cases hx;cases hy;subst h1
  exact⟨_,by simp[eqGuard,binOp,Op.intArith],.int _ _⟩
 ·obtain⟨h1,h2⟩:=Xg h;cases h2;cases hx;cases hy;subst h1
  exact⟨_,by simp[eqGuard,binOp,Op.intArith],.int _ _⟩
 ·obtain⟨h1,h2⟩:=Xg h;cases h2;cases hx;cases hy;subst h1
  exact⟨_,by simp[eqGuard,binOp,Op.intArith],.int _ _⟩
 ·obtain⟨⟨h1,h0⟩,h2⟩:=Xg h;cases h2;cases hx;cases hy;subst h1
  exact⟨_,by simp[eqGuard,binOp,Op.intDiv,h0],.int _ _⟩
 ·obtain⟨⟨h1,h0⟩,h2⟩:=Xg h;cases h2;cases hx;cases hy;subst h1
  exact⟨_,by simp[eqGuard,binOp,Op.intDiv,h0],.int _ _⟩
 ·obtain⟨h1,h2⟩:=Xg h;cases h2;cases hx;cases hy;subst h1
  exact⟨_,by simp[eqGuard,binOp,Op.intBits,uR],.int _ _⟩
 ·obtain⟨h1,h2⟩:=Xg h;cases h2;cases hx;cases hy;subst h1
  exact⟨_,by simp[eqGuard,binOp,Op.intBits,wH],.int _ _⟩
 ·obtain⟨h1,h2⟩:=Xg h;cases h2;cases hx;cases hy;subst h1
  exact⟨_,by simp[eqGuard,binOp,Op.intBits,sa],.int _ _⟩
 ·obtain⟨h1,h2⟩:=Xg h;cases h2;cases hx;cases hy;subst h1
  exact⟨_,by simp[eqGuard,binOp,Op.intBits,qe],.int _ _⟩
 ·obtain⟨h1,h2⟩:=Xg h;cases h2;cases hx;cases hy;subst h1
  exact⟨.bool (decide (_=_)),by simp[eqGuard,binOp,Op.intCmp];rfl,.bool _⟩
 ·obtain⟨h1,h2⟩:=Xg h;cases h2;cases hx;cases hy;subst h1
  exact⟨.bool (!decide (_=_)),by simp[eqGuard,binOp,Op.intCmp];rfl,.bool _⟩
 ·obtain⟨h1,h2⟩:=Xg h;cases h2;cases hx;cases hy;subst h1
  exact⟨_,by simp[eqGuard,binOp,Op.intCmp],.bool _⟩
 ·obtain⟨h1,h2⟩:=Xg h;cases h2;cases hx;cases hy;subst h1
  exact⟨_,by simp[eqGuard,binOp,Op.intCmp],.bool _⟩
 ·obtain⟨h1,h2⟩:=Xg h;cases h2;cases hx;cases hy;subst h1
  exact⟨_,by simp[eqGuard,binOp,Op.intCmp],.bool _⟩
 ·obtain⟨h1,h2⟩:=Xg h;cases h2;cases hx;cases hy;subst h1
  exact⟨_,by simp[eqGuard,binOp,Op.intCmp],.bool _⟩
 ·obtain⟨h1,h2⟩:=Xg h;cases h2;cases hx;cases hy
  exact⟨_,by simp[eqGuard,binOp,VE (Lg h1)],.bool _⟩
 ·obtain⟨h1,h2⟩:=Xg h;cases h2;cases hx;cases hy
  exact⟨_,by simp[eqGuard,binOp,VE (Lg h1)],.bool _⟩
 ·obtain⟨h1,h2⟩:=Xg h;cases h2;cases hx;cases hy
  obtain⟨e,hu⟩:=EU h1;exact⟨_,by simp[eqGuard,binOp,OW hu],.bool _⟩
 ·obtain⟨h1,h2⟩:=Xg h;cases h2;cases hx;cases hy
  obtain⟨e,hu⟩:=EU h1;exact⟨_,by simp[eqGuard,binOp,OW hu],.bool _⟩
 ·obtain⟨⟨h1,hp⟩,h2⟩:=Xg h;cases h2;cases hy
  obtain⟨e,hu⟩:=EU h1;obtain⟨b',rfl⟩:=hx.isPtr hp;exact⟨_,by simp[eqGuard,binOp,OW hu],.bool _⟩
 ·obtain⟨⟨h1,hp⟩,h2⟩:=Xg h;cases h2;cases hy
  obtain⟨e,hu⟩:=EU h1;obtain⟨b',rfl⟩:=hx.isPtr hp;exact⟨_,by simp[eqGuard,binOp,OW hu],.bool _⟩
 ·cases h;cases hx;cases hy
  exact⟨_,by simp[eqGuard,binOp,Op.stringOp],.bool _⟩
 ·cases h;cases hx;cases hy
  exact⟨_,by simp[eqGuard,binOp,Op.stringOp],.bool _⟩
 ·obtain⟨ht,h⟩:=Xg h
  simp only[Option.map_eq_some_iff]at h;obtain⟨r,hr,rfl⟩:=h;have hx':=hx;have hy':=hy;cases hx';cases hy';obtain⟨h1,h2⟩:=dW hx hy ht hr c.w;exact⟨.bool r,by simp only[Sem.run_bind,run_eqGuard_agg c.w .eql t _ _ _ _ h2,Result.andThen_ok,run_eql_struct,h1],.bool _⟩
 ·obtain⟨ht,h⟩:=Xg h
  simp only[Option.map_eq_some_iff]at h;obtain⟨r,hr,rfl⟩:=h;have hx':=hx;have hy':=hy;cases hx';cases hy';obtain⟨h1,h2⟩:=dW hx hy ht hr c.w;exact⟨.bool (!r),by simp only[Sem.run_bind,run_eqGuard_agg c.w .neq t _ _ _ _ h2,Result.andThen_ok,run_neq_struct,h1],.bool _⟩
 ·cases h
def IV (P:Program)(op:BinOp)(t:TypeId)(y:Operand)(a b:AV):Option AV :=
 match y with
 | .const (.slice none 0 0)=>ej P op t a
 |_=>Cb P op t a b
def ri (op:UnOp)(a:AV):Option AV :=
 match op,a with
 | .neg,.int k n=>some (.int k (k.wrap (0-n)))
 | .xor,.int k n=>some (.int k (sa k (if k.signed then -1 else k.max) n))
 | .not,.bool b=>some (.bool !b)
 | .not,.abool=>some .abool
 |_,_=>none
theorem Yj {P:Program}{c:Ctx}{op:UnOp}{a v:AV}{x:Value}(hx:Rep c x a)(h:ri op a=some v):∃r,(Op.unary op x).run P c.w=.ok r c.w∧Rep c r v:=by
 unfold ri at h
 split at h
 ·cases h;cases hx;exact⟨_,by simp only[Op.unary,Op.intArith];rfl,.int _ _⟩
 ·cases h;cases hx;exact⟨_,by simp only[Op.unary,Op.intBits];rfl,.int _ _⟩
 ·cases h;cases hx;exact⟨_,by simp only[Op.unary];rfl,.bool _⟩
 ·cases h;cases hx;exact⟨_,by simp only[Op.unary];rfl,.abool _⟩
 ·cases h
def Nf (P:Program)(src dst:TypeId)(a:AV):Option AV :=
 match VU P src,VU P dst,a with
 |some _,some k,.int _ n=>some (.int k (k.wrap n))
 |_,_,_=>none
theorem ZJ {P:Program}{t:TypeId}{k:IntKind}(h:VU P t=some k):P.underlying t=some (.int k):=by
 unfold VU at h
 split at h
 ·cases h;assumption
 ·cases h
theorem PB {P:Program}{c:Ctx}{s d:TypeId}{a v:AV}{x:Value}(hx:Rep c x a)(h:Nf P s d a=some v):∃r,(convert s d x).run P c.w=.ok r c.w∧Rep c r v:=by
 unfold Nf at h
 split at h
 ·rename_i k1 k n h1 h2
  cases h;cases hx;obtain⟨e1,e2⟩:P.underlying s=some (.int _)∧P.underlying d=some (.int _):=⟨ZJ h1,ZJ h2⟩
  exact⟨_,by simp[convert,run_underlying e1,run_underlying e2,Conv.intToInt],.int _ _⟩
 ·cases h
def ZE:List AV→Nat→AV
 | [a]=>fun _=>a
 |z=>fun j=>z.getD (j%z.length) .any
def DM (P:Program)(nid:Option Nat)(t:TypeId)(l cp:AV)(h:List AO):Option (AV×List AO) :=
 match At P t,l,cp with
 |some (e,s,by_),.int _ n,.int _ m =>
  match Q9 P e with
  |some z=>Q4 (m=n∧0≤n∧by_*n≤140737488355328∧n≤9223372036854775807) (some (.osl (Qz nid h) 0 s 0 n.toNat,Kb nid h (.row 0 (n.toNat*s) (ZE z))))
  |none=>none
 |_,_,_=>none
theorem Fb (z:List AV)(j:Nat)(hz:z≠[]):ZE z j=z.getD (j%z.length) .any:=by
 match z,hz with
 | [a],_=>simp[ZE,Nat.mod_one]
 |a :: b :: r,_=>rfl
theorem PJ {P:Program}{c:Ctx}(hr:HRel c){nid:Option Nat}(hnid:∀ id,nid=some id→c.H[id]?=some .unborn){t:TypeId}{l m v:AV}{x y:Value}(hx:Rep c x l)(hy:Rep c y m){h':List AO}
  (h:DM P nid t l m c.H=some (v,h')) :
  ∃r w' γ',(Instr.makeSlice t x y).run P c.w=.ok r w'∧Rep ⟨w',c.S,γ',h'⟩ r v∧HRel ⟨w',c.S,γ',h'⟩∧Ext c ⟨w',c.S,γ',h'⟩:=by
 unfold DM at h
 split at h
 ·rename_i e s by_ k1 n k2 m he
  obtain⟨hu,inf',z,hin,hs,hby,hz,hzs,hpos⟩:=KX he;cases hzl:Q9 P e with
  |none=>simp[hzl]at h
  |some zl =>
   simp only[hzl]at h;obtain⟨⟨rfl,h0,hb,h63⟩,h2⟩:=Xg h;cases h2;cases hx;cases hy;have hzl':zl=z.cells.toList.map JF:=by simp[Q9,hin,hz]at hzl;exact hzl.symm
   subst hzl';obtain⟨n,rfl⟩:=Int.eq_ofNat_of_zero_le h0;simp only[Int.toNat_natCast];subst hs hby;have hrun:=run_make (P:=P) c.w t e inf' z hu hin hz k1 k2 n n (by omega) (Int.le_refl _) (by omega) (by omega);simp only[Int.toNat_natCast]at hrun;have hsz:(madeCells z.cells (n*inf'.size)).size=n*inf'.size:=size_madeCells _ _;obtain⟨g1,g2⟩:=P5 hr hnid (madeCells z.cells (n*inf'.size)) e (n*inf'.size) (ZE (z.cells.toList.map JF)) (by omega) (fun j hj=>by
    have hlen:(z.cells.toList.map JF).length=z.cells.size:=by simp
    rw[Fb _ _ (by intro hnil;rw[hnil]at hlen;simp at hlen;omega),hlen];have hm:j%z.cells.size<z.cells.size:=Nat.mod_lt _ (by omega);have e1:(madeCells z.cells (n*inf'.size)).getD j undef=z.cells[j%z.cells.size]:=by
     simp[madeCells,Array.getD_eq_getD_getElem?,hj,hm]
    have e2:(z.cells.toList.map JF).getD (j%z.cells.size) .any=JF z.cells[j%z.cells.size]:=by
     simp[List.getD_eq_getElem?_getD,hm]
    rw[e1,e2];exact ZM c _) (c.w.alloc (.cells (madeCells z.cells (n*inf'.size)) e)) rfl rfl rfl rfl
   exact⟨_,_,_,hrun,.osl _ 0 _ 0 n n c.w.heap.size (n*inf'.size) (by simp[inf,Gq hnid,AO.info]) (by simp[Jy,hsz]) (Nat.le_refl _) (by omega) (by omega),g1,g2⟩
 ·cases h
def MP (P:Program)(t:TypeId)(a:AV):Option AV :=
 match a with
 | .sl n _ _ _=>Q4 ((At P t).isSome=true) (some (.int .i64 n))
 | .osl _ _ _ _ n=>Q4 ((At P t).isSome=true) (some (.int .i64 n))
 | .str s=>match P.underlying t with |some .string=>some (.int .i64 s.size) |_=>none
 |_=>none
theorem TA {P:Program}{c:Ctx}{t:TypeId}(ty:TypeId){a v:AV}{x:Value}(hx:Rep c x a)(h:MP P t a=some v):∃r,(Builtin.len_ #[t] ty #[x]).run P c.w=.ok r c.w∧Rep c r v:=by
 unfold MP at h;have hsl:(At P t).isSome=true→∀a n cap,(Builtin.len_ #[t] ty #[.slice a n cap]).run P c.w=.ok (.int .i64 n) c.w:=by
  intro hi a n cap;cases he:At P t with
  |none=>simp[he]at hi
  |some q =>
   obtain⟨e,s,b⟩:=q;simp[Builtin.len_,run_underlying (KX he).1,goInt]
 split at h
 ·obtain⟨h1,h2⟩:=Xg h;cases h2
  cases hx with
  |sl _ _ _ _ _ _ _ _ _ _ _ _ _=>exact⟨_,hsl h1 _ _ _,.int _ _⟩
  |slz _ _ _ _ _=>exact⟨_,hsl h1 _ _ _,.int _ _⟩
 ·obtain⟨h1,h2⟩:=Xg h;cases h2
  cases hx with
  |osl=>exact⟨_,hsl h1 _ _ _,.int _ _⟩
  |oslz=>exact⟨_,hsl h1 _ _ _,.int _ _⟩
  |oslOld=>exact⟨_,hsl h1 _ _ _,.int _ _⟩
  |oslzOld=>exact⟨_,hsl h1 _ _ _,.int _ _⟩
 ·split at h
  ·rename_i hu
   cases h;cases hx;exact⟨_,by simp[Builtin.len_,run_underlying hu,goInt],.int _ _⟩
  ·cases h
 ·cases h
def rc (P:Program)(t:TypeId)(a:AV):Option AV :=
 match a with
 | .sl n _ _ true=>Q4 ((At P t).isSome=true) (some (.int .i64 n))
 |_=>none
theorem Tw {P:Program}{c:Ctx}{t:TypeId}(ty:TypeId){a v:AV}{x:Value}(hx:Rep c x a)(h:rc P t a=some v):∃r,(Builtin.cap_ #[t] ty #[x]).run P c.w=.ok r c.w∧Rep c r v:=by
 unfold rc at h;have hsl:(At P t).isSome=true→∀a n cap,(Builtin.cap_ #[t] ty #[.slice a n cap]).run P c.w=.ok (.int .i64 cap) c.w:=by
  intro hi a n cap;cases he:At P t with
  |none=>simp[he]at hi
  |some q =>
   obtain⟨e,s,b⟩:=q;simp[Builtin.cap_,run_underlying (KX he).1,goInt]
 split at h
 ·obtain⟨h1,h2⟩:=Xg h;cases h2
  cases hx with
  |sl _ _ _ _ _ _ _ _ _ _ _ _ ht=>have:=ht rfl;subst this;exact⟨_,hsl h1 _ _ _,.int _ _⟩
  |slz _ _ _ _ ht=>have:=ht rfl;subst this;exact⟨_,hsl h1 _ _ _,.int _ _⟩
 ·cases h
def JQ (P:Program)(t t':TypeId)(x y:AV)(h:List AO):Option (AV×List AO) :=
 match At P t,VU P t',x,y with
 |some (e,s,by_),some .i64,.sl 0 _ _ true,.int .i64 n =>
  match Q9 P e with
  |some z=>Q4 (0<n∧by_*n≤140737488355328∧n≤9223372036854775807) (some (.osl h.length 0 s 0 n.toNat,h ++ [.row 0 (n.toNat*s) (ZE z)]))
  |none=>none
 |some (e,s,by_),some .i64,.sl (N+1) k f true,.int .i64 n =>
  match Q9 P e with
  |some z=>if n=0 then some (.sl (N+1) k f true,h)else Q4 (0<n∧(N+1)*s≤k∧by_*(N+1+n)≤140737488355328∧(N:Int)+1+n≤9223372036854775807) (some (.osl h.length 0 s 0 (N+1+n.toNat),h ++ [.row 0 ((N+1+n.toNat)*s) (Qf ((N+1)*s) f (n.toNat*s) (ZE z))]))
  |none=>none
 |some (e,s,by_),some .i64,.osl id ver es off N,.int .i64 n =>
  match Q9 P e with
  |some z=>match h[id]? with
   |some (.row v k f)=>if n=0 then some (.osl id ver es off N,h)else Q4 (0<n∧0<N∧v=ver∧es=s∧off=0∧N*s≤k∧z.all AV.one=true∧by_*(N+n)≤140737488355328∧(N:Int)+n≤9223372036854775807) (some (.osl id (v+1) s 0 (N+n.toNat),h.set id (.row (v+1) ((N+n.toNat)*s) (Qf (N*s) f (n.toNat*s) (ZE z)))))
   |_=>none
  |none=>none
 |_,_,_,_=>none
theorem Cp {P:Program}(w:World)(t tn ty e:TypeId)(i:TypeInfo)(z:Value)(k kn:IntKind)(ht:P.underlying t=some (.slice e)) (htn:P.underlying tn=some (.int kn)) (hi:P.info? e=some i) (hz:i.zero=some z)
  (b:Addr) (N C n:Nat) (olds:List Value) (hold:(Builtin.firstCells i.size N (.slice (some b) N C)).run P w.drew=.ok olds.toArray w.drew) (h0:0<n) (hC:C<N+n) (hs:0<i.size) (h63:((N+n:Nat):Int)≤9223372036854775807)
  (hfit:Builtin.nextslicecap (N+n) C*i.bytes≤281474976710656) (h48:n*i.bytes≤281474976710656) :
  (Builtin.append_ #[t,tn] ty #[.slice (some b) N C,.int k n]).run P w =
   .ok (.slice (some ⟨w.heap.size,0,none⟩) (N+n) (grownCap w (N+n) C e)) (w.drew.alloc (.cells (olds.toArray ++ Builtin.zeroCells z.cells n ++ Builtin.zeroCells z.cells (grownCap w (N+n) C e-(N+n))) e)):=by
 have hn:¬ (N+n≤C):=by omega
 have hn':n≠0:=by omega
 have hw:IntKind.i64.wrap (n:Int)=n:=by rw[IntKind.wrap_i64];omega
 have h63':¬ (9223372036854775807<((N:Int)+(n:Int))):=by omega
 have h48':¬ (281474976710656<Builtin.nextslicecap (N+n) C*i.bytes):=by omega
 have h48i:¬ (281474976710656<(n:Int)*(i.bytes:Int)):=by
  rw[←Int.natCast_mul];omega
 have hneg:¬ ((n:Int)<0):=by omega
 have hns:¬ (n*i.size=0):=Nat.mul_ne_zero hn' (by omega);simp[Builtin.append_,run_underlying ht,run_underlying htn,sizeOf,typeInfo,zeroValue,hi,hz,asInt,asIntOf,hw,hn,hn',hneg,hns,h63',h48',h48i,Question.forced,hold,newRow,grownCap]
theorem Co {P:Program}(w:World)(t tn ty e:TypeId)(i:TypeInfo)(k kn:IntKind)(ht:P.underlying t=some (.slice e)) (htn:P.underlying tn=some (.int kn)) (hi:P.info? e=some i)
  (b:Option Addr) (N C:Nat) (hc:N≤C):(Builtin.append_ #[t,tn] ty #[.slice b N C,.int k 0]).run P w=.ok (.slice b N C) w:=by
 have hw:IntKind.i64.wrap (0:Int)=0:=by rw[IntKind.wrap_i64];omega
 cases b <;> simp[Builtin.append_,run_underlying ht,run_underlying htn,sizeOf,typeInfo,hi,asInt,asIntOf,hw,storeCells,hc]
theorem GI {P:Program}(w:World)(t tn ty e:TypeId)(i:TypeInfo)(z:Value)(k kn:IntKind)(ht:P.underlying t=some (.slice e)) (htn:P.underlying tn=some (.int kn)) (hi:P.info? e=some i) (hz:i.zero=some z)
  (g N C n:Nat) (cur:Array Value) (el:TypeId) (hg:w.heap[g]?=some (.cells cur el (0,0))) (h0:0<n) (hs:0<i.size) (hroom:N+n≤C) (h48:n*i.bytes≤281474976710656) (h63:(n:Int)≤9223372036854775807)
  (hl:(Builtin.zeroCells z.cells n).toList.length=n*i.size) (h1:∀u∈(Builtin.zeroCells z.cells n).toList,u.oneCell'=true) (hfit:N*i.size+n*i.size≤cur.size) :
  (Builtin.append_ #[t,tn] ty #[.slice (some ⟨g,0,none⟩) N C,.int k n]).run P w =
   .ok (.slice (some ⟨g,0,none⟩) (N+n) C) (w.setRow g (cur.toList.take (N*i.size) ++ (Builtin.zeroCells z.cells n).toList ++ cur.toList.drop (N*i.size+(Builtin.zeroCells z.cells n).toList.length)).toArray):=by
 have hn':n≠0:=by omega
 have hw:IntKind.i64.wrap (n:Int)=n:=by rw[IntKind.wrap_i64];omega
 have h48i:¬ (281474976710656<(n:Int)*(i.bytes:Int)):=by
  rw[←Int.natCast_mul];omega
 have hneg:¬ ((n:Int)<0):=by omega
 have hns:¬ (n*i.size=0):=Nat.mul_ne_zero hn' (by omega);have hst:=run_storeCells_at P g (N*i.size) el (Builtin.zeroCells z.cells n).toList 0 cur w hg (by rw[hl];simpa using hfit) h1;simp only[Nat.add_zero]at hst;simp[Builtin.append_,run_underlying ht,run_underlying htn,sizeOf,typeInfo,zeroValue,hi,hz,asInt,asIntOf,hw,hn',hneg,hns,h48i,hroom,Addr.add_lit,hst]
theorem HC {P:Program}(w:World)(t tn ty e:TypeId)(i:TypeInfo)(z:Value)(k kn:IntKind)(ht:P.underlying t=some (.slice e)) (htn:P.underlying tn=some (.int kn)) (hi:P.info? e=some i) (hz:i.zero=some z)
  (a:Option Addr) (n:Nat) (h0:0<n) (hs:0<i.size) (h63:(n:Int)≤9223372036854775807) (h48:n*i.bytes≤281474976710656) :
  (Builtin.append_ #[t,tn] ty #[.slice a 0 0,.int k n]).run P w =
   .ok (.slice (some ⟨w.heap.size,0,none⟩) n (grownCap w n 0 e)) (w.drew.alloc (.cells (Builtin.zeroCells z.cells n ++ Builtin.zeroCells z.cells (grownCap w n 0 e-n)) e)):=by
 have hn:n≠0:=by omega
 have hw:IntKind.i64.wrap (n:Int)=n:=by rw[IntKind.wrap_i64];omega
 have h63':¬ (9223372036854775807<(n:Int)):=by omega
 have h48':¬ (281474976710656<Builtin.nextslicecap n 0*i.bytes):=by rw[nextslicecap_zero h0];omega
 have h48i:¬ (281474976710656<(n:Int)*(i.bytes:Int)):=by
  rw[←Int.natCast_mul];omega
 have hneg:¬ ((n:Int)<0):=by omega
 have hns:¬ (n*i.size=0):=Nat.mul_ne_zero hn (by omega);cases a with
 |none=>simp[Builtin.append_,run_underlying ht,run_underlying htn,sizeOf,typeInfo,zeroValue,hi,hz,asInt,asIntOf,hw,hn,hneg,hns,h63',h48',h48i,Question.forced,run_firstCells_none,newRow,grownCap]
 |some a=>simp[Builtin.append_,run_underlying ht,run_underlying htn,sizeOf,typeInfo,zeroValue,hi,hz,asInt,asIntOf,hw,hn,hneg,hns,h63',h48',h48i,Question.forced,Builtin.firstCells,loadCells,loadCellsFrom,newRow,grownCap]
theorem PQ {P:Program}{c:Ctx}(hr:HRel c){t t':TypeId}(ty:TypeId){x y v:AV}{vx vy:Value}(hx:Rep c vx x)(hy:Rep c vy y){h':List AO}(h:JQ P t t' x y c.H=some (v,h')) :
  ∃r w' γ',(Builtin.append_ #[t,t'] ty #[vx,vy]).run P c.w=.ok r w'∧Rep ⟨w',c.S,γ',h'⟩ r v∧HRel ⟨w',c.S,γ',h'⟩∧Ext c ⟨w',c.S,γ',h'⟩:=by
 unfold JQ at h
 split at h
 ·rename_i e s by_ k f n he hk
  obtain⟨hu,inf',z,hin,hs,hby,hz,hzs,hpos⟩:=KX he;cases hzl:Q9 P e with
  |none=>simp[hzl]at h
  |some zl =>
   simp only[hzl]at h;obtain⟨⟨h0,hb,h63⟩,h2⟩:=Xg h;cases h2;cases hy;have hzl':zl=z.cells.toList.map JF:=by simp[Q9,hin,hz]at hzl;exact hzl.symm
   subst hzl';obtain⟨n,rfl⟩:=Int.eq_ofNat_of_zero_le (Int.le_of_lt h0);simp only[Int.toNat_natCast];subst hs hby;have hvx:∃a,vx=.slice a 0 0:=by
    cases hx with
    |sl b base _ _ cap _ _ us hS hc hrr hn ht=>have:=ht rfl;subst this;exact⟨_,rfl⟩
    |slz a cap _ _ ht=>have:=ht rfl;subst this;exact⟨_,rfl⟩
   obtain⟨a,rfl⟩:=hvx;have hb':n*inf'.bytes≤140737488355328:=by
    rw[Nat.mul_comm];exact Int.ofNat_le.1 (by simpa using hb)
   have hrun:=HC (P:=P) c.w t t' ty e inf' z .i64 _ hu (ZJ hk) hin hz a n (by omega) hpos h63 (by omega);have hge:=grownCap_ge c.w n 0 e;have hsz:(Builtin.zeroCells z.cells n ++ Builtin.zeroCells z.cells (grownCap c.w n 0 e-n)).size=grownCap c.w n 0 e*inf'.size:=by
    simp only[Array.size_append,size_zeroCells,hzs,←Nat.add_mul];congr 1;omega
   have hrow:(c.H ++ [AO.row 0 (n*inf'.size) (ZE (z.cells.toList.map JF))])[c.H.length]?=some (.row 0 (n*inf'.size) (ZE (z.cells.toList.map JF))):=by simp
   have hoth:∀i,i≠c.H.length→(c.H ++ [AO.row 0 (n*inf'.size) (ZE (z.cells.toList.map JF))])[i]?=c.H[i]?:=fun i hi=>by
    have:=ZZ (nid:=none) (h:=c.H) (o:=.row 0 (n*inf'.size) (ZE (z.cells.toList.map JF))) i (by simpa [Qz]using hi)
    simpa [Kb]using this
   have hnone:c.H[c.H.length]?=none:=by simp
   obtain⟨g1,g2⟩:=Zm (c:=c) (c':=⟨c.w.drew.alloc (.cells (Builtin.zeroCells z.cells n ++ Builtin.zeroCells z.cells (grownCap c.w n 0 e-n)) e),c.S,Jy c.γ c.H.length (some (c.w.heap.size,grownCap c.w n 0 e*inf'.size)),c.H ++ [.row 0 (n*inf'.size) (ZE (z.cells.toList.map JF))]⟩) hr
    (id:=c.H.length) (ver:=0) (n:=n*inf'.size) (b:=c.w.heap.size) (sz:=grownCap c.w n 0 e*inf'.size) hrow hoth rfl (by simp[Jy]) (fun i hi=>by simp[Jy,hi]) (heap_alloc_new c.w.drew _) hsz
    (Nat.mul_le_mul_right _ hge) (fun b' _ hb'=>heap_alloc_old c.w.drew _ b' hb') (by simp) rfl rfl rfl (.inl (Nat.le_refl _)) (.inl hnone) (fun j hj=>by
     have hlen:(z.cells.toList.map JF).length=z.cells.size:=by simp
     rw[Fb _ _ (by intro hnil;rw[hnil]at hlen;simp at hlen;omega),hlen];have hm:j%z.cells.size<z.cells.size:=Nat.mod_lt _ (by omega);have hj':j<(Builtin.zeroCells z.cells n).size:=by rw[size_zeroCells,hzs];exact hj
     have e1:(Builtin.zeroCells z.cells n ++ Builtin.zeroCells z.cells (grownCap c.w n 0 e-n)).getD j undef=z.cells[j%z.cells.size]:=by
      rw[Array.getD_eq_getD_getElem?,Array.getElem?_append_left hj'];have hjn:j<n*z.cells.size:=by rw[hzs];exact hj
      simp[Builtin.zeroCells,hjn,hm]
     have e2:(z.cells.toList.map JF).getD (j%z.cells.size) .any=JF z.cells[j%z.cells.size]:=by
      simp[List.getD_eq_getElem?_getD,hm]
     rw[e1,e2];exact ZM c _)
   exact⟨_,_,_,hrun,.osl _ 0 _ 0 n (grownCap c.w n 0 e) c.w.heap.size (grownCap c.w n 0 e*inf'.size) (by simp[inf,AO.info]) (by simp[Jy]) hge (by omega) (grownCap_le_maxLen _ _ _ _ (by show n≤9223372036854775807;omega)),g1,g2⟩
 ·rename_i e s by_ N k f n he hk
  obtain⟨hu,inf',z,hin,hs,hby,hz,hzs,hpos⟩:=KX he;cases hzl:Q9 P e with
  |none=>simp[hzl]at h
  |some zl =>
   simp only[hzl]at h;cases hy;cases hx with
   |sl b base _ _ cap _ _ us hS hc hrr hn ht =>
    have hcap:=ht rfl;subst hcap;by_cases hn0:n=0
    ·subst hn0
     rw[if_pos rfl]at h;cases h;exact⟨_,c.w,c.γ,Co (P:=P) c.w t t' ty e inf' .i64 _ hu (ZJ hk) hin _ _ _ (Nat.le_refl _),.sl b base (N+1) k (N+1) f true us hS hc hrr hn ht,hr,Ext.refl c⟩
    rw[if_neg hn0]at h;obtain⟨⟨h0,hle,hb,h63⟩,h2⟩:=Xg h;cases h2;have hzl':zl=z.cells.toList.map JF:=by simp[Q9,hin,hz]at hzl;exact hzl.symm
    subst hzl';obtain⟨n,rfl⟩:=Int.eq_ofNat_of_zero_le (Int.le_of_lt h0);simp only[Int.toNat_natCast];subst hs hby;have hsx:SrcOk c (.slice (some ⟨b,base,none⟩) (N+1) (N+1)) (N+1) inf'.size f:=⟨b,base,N+1,us,rfl,Nat.le_refl _,fun j hj=>hc j (by omega),fun j hj=>hrr j (by omega)⟩
    obtain⟨b',o',cap0,olds,e1,hnc,hol,hoc,hor⟩:=hsx.anyOld;cases e1;have hold:=run_firstCells_some (P:=P) c.w.drew inf'.size (N+1) ⟨b,base,none⟩ (N+1) (N+1) olds hol (by simpa using hoc);have hbN:(N+1+n)*inf'.bytes≤140737488355328:=by
     rw[Nat.mul_comm];have:(inf'.bytes:Int)*((N+1+n:Nat):Int)≤140737488355328:=by simpa using hb
     exact Int.ofNat_le.1 (by rw[Int.natCast_mul];exact this)
    have hbn:n*inf'.bytes≤281474976710656:=Nat.le_trans (Nat.mul_le_mul_right _ (show n≤N+1+n by omega)) (by omega);have hrun:=Cp (P:=P) c.w t t' ty e inf' z .i64 _ hu (ZJ hk) hin hz ⟨b,base,none⟩ (N+1) (N+1) n olds hold (by omega) (by omega) hpos (by omega) (growslice_fits (by omega) hbN) hbn;have hge:=grownCap_ge c.w (N+1+n) (N+1) e;obtain⟨F,hF⟩:∃F,F=Qf ((N+1)*inf'.size) f (n*inf'.size) (ZE (z.cells.toList.map JF)):=⟨_,rfl⟩
    rw[←hF];obtain⟨cs,hcs⟩:∃cs,cs=olds.toArray ++ Builtin.zeroCells z.cells n ++ Builtin.zeroCells z.cells (grownCap c.w (N+1+n) (N+1) e-(N+1+n)):=⟨_,rfl⟩
    rw[←hcs]at hrun;have hsz:cs.size=grownCap c.w (N+1+n) (N+1) e*inf'.size:=by
     rw[hcs];simp only[Array.size_append,List.size_toArray,size_zeroCells,hzs,hol,←Nat.add_mul];congr 1;omega
    have hset:(c.H ++ [AO.row 0 ((N+1+n)*inf'.size) F])[c.H.length]?=some (.row 0 ((N+1+n)*inf'.size) F):=by simp
    have hoth:∀i,i≠c.H.length→(c.H ++ [AO.row 0 ((N+1+n)*inf'.size) F])[i]?=c.H[i]?:=fun i hi=>by
     have:=ZZ (nid:=none) (h:=c.H) (o:=.row 0 ((N+1+n)*inf'.size) F) i (by simpa [Qz]using hi)
     simpa [Kb]using this
    have hnone:c.H[c.H.length]?=none:=by simp
    have hcells:∀j,j<(N+1+n)*inf'.size→Rep c (cs.getD j undef) (F j):=fun j hj=>by
     rw[Nat.add_mul]at hj;have hnl:(Builtin.zeroCells z.cells n).toList.length=n*inf'.size:=by rw[Array.length_toList,size_zeroCells,hzs]
     have hnr:∀j,j<n*inf'.size→Rep c ((Builtin.zeroCells z.cells n).toList.getD j undef) (ZE (z.cells.toList.map JF) j):=fun j hj=>by
      have hlen:(z.cells.toList.map JF).length=z.cells.size:=by simp
      rw[Fb _ _ (by intro hnil;rw[hnil]at hlen;simp at hlen;omega),hlen];have hm:j%z.cells.size<z.cells.size:=Nat.mod_lt _ (by omega);have hjn:j<n*z.cells.size:=by rw[hzs];exact hj
      have e1:(Builtin.zeroCells z.cells n).toList.getD j undef=z.cells[j%z.cells.size]:=by
       simp[Builtin.zeroCells,hjn,hm]
      have e2:(z.cells.toList.map JF).getD (j%z.cells.size) .any=JF z.cells[j%z.cells.size]:=by
       simp[List.getD_eq_getElem?_getD,hm]
      rw[e1,e2];exact ZM c _
     have:=BE (c:=c) (rest:=(Builtin.zeroCells z.cells (grownCap c.w (N+1+n) (N+1) e-(N+1+n))).toList) hol hnl hor hnr j hj;have e3:(olds ++ (Builtin.zeroCells z.cells n).toList ++ (Builtin.zeroCells z.cells (grownCap c.w (N+1+n) (N+1) e-(N+1+n))).toList).toArray=cs:=by
      rw[hcs];apply Array.ext';simp
     rw[e3]at this;rw[hF];exact this
    obtain⟨g1,g2⟩:=Zm (c:=c) (c':=⟨c.w.drew.alloc (.cells cs e),c.S,Jy c.γ c.H.length (some (c.w.heap.size,cs.size)),c.H ++ [.row 0 ((N+1+n)*inf'.size) F]⟩) hr
     (id:=c.H.length) (ver:=0) (n:=(N+1+n)*inf'.size) (b:=c.w.heap.size) (sz:=cs.size) hset hoth rfl (by simp[Jy]) (fun i hi=>by simp[Jy,hi]) (heap_alloc_new c.w.drew _) rfl
     (by rw[hsz];exact Nat.mul_le_mul_right _ hge) (fun b' _ hb'=>heap_alloc_old c.w.drew _ b' hb') (by simp) rfl rfl rfl (.inl (Nat.le_refl _)) (.inl hnone) hcells
    exact⟨_,_,_,hrun,.osl _ 0 _ 0 _ _ c.w.heap.size cs.size (by simp[inf,AO.info]) (by simp[Jy]) hge (by omega) (grownCap_le_maxLen _ _ _ _ (by show N+1+n≤9223372036854775807;omega)),g1,g2⟩
 ·rename_i e s by_ id ver es off N n he hk
  obtain⟨hu,inf',z,hin,hs,hby,hz,hzs,hpos⟩:=KX he;cases hzl:Q9 P e with
  |none=>simp[hzl]at h
  |some zl =>
   simp only[hzl]at h;cases hy;cases ho:c.H[id]? with
   |none=>simp[ho]at h
   |some o =>
    simp only[ho]at h;cases o with
    |row v' k f =>
     simp only at h;by_cases hn0:n=0
     ·subst hn0
      rw[if_pos rfl]at h;cases h;have run0:=fun b N C hc=>Co (P:=P) c.w t t' ty e inf' .i64 _ hu (ZJ hk) hin b N C hc
      have hx':=hx;cases hx with
      |osl _ _ _ _ _ cap b sz hi hg hn hcap hmx=>exact⟨_,c.w,c.γ,run0 _ _ _ hn,hx',hr,Ext.refl c⟩
      |oslz _ _ _ _ a hi=>exact⟨_,c.w,c.γ,run0 _ _ _ (Nat.le_refl _),hx',hr,Ext.refl c⟩
      |oslOld _ _ _ _ _ a cap hn hs'=>exact⟨_,c.w,c.γ,run0 _ _ _ hn,hx',hr,Ext.refl c⟩
      |oslzOld _ _ _ _ a hs'=>exact⟨_,c.w,c.γ,run0 _ _ _ (Nat.le_refl _),hx',hr,Ext.refl c⟩
     rw[if_neg hn0]at h;obtain⟨⟨h0,hN0,rfl,rfl,rfl,hle,hone,hb,h63⟩,h2⟩:=Xg h;cases h2;have hzl':zl=z.cells.toList.map JF:=by simp[Q9,hin,hz]at hzl;exact hzl.symm
     subst hzl';obtain⟨n,rfl⟩:=Int.eq_ofNat_of_zero_le (Int.le_of_lt h0);simp only[Int.toNat_natCast];subst hs hby;have live:¬stale c.H id v':=by
      have hinf:inf c.H id=some v':=by simp[inf,ho,AO.info]
      rintro(⟨v'',hi,hlt⟩ |hd)
      ·rw[hinf]at hi;cases hi;omega
      ·simp[inf,hd,AO.info]at hinf
     obtain⟨F,hF⟩:∃F,F=Qf (N*inf'.size) f (n*inf'.size) (ZE (z.cells.toList.map JF)):=⟨_,rfl⟩
     rw[←hF];have hlt:=(List.getElem?_eq_some_iff.1 ho).1;have hinf:inf c.H id=some v':=by simp[inf,ho,AO.info]
     have hset:(c.H.set id (.row (v'+1) ((N+n)*inf'.size) F))[id]?=some (.row (v'+1) ((N+n)*inf'.size) F):=by simp[hlt]
     have hoth:∀i,i≠id→(c.H.set id (.row (v'+1) ((N+n)*inf'.size) F))[i]?=c.H[i]?:=fun i hi=>by simp[Ne.symm hi]
     have hinf':inf (c.H.set id (.row (v'+1) ((N+n)*inf'.size) F)) id=some (v'+1):=by simp[inf,hset,AO.info]
     have hnl:(Builtin.zeroCells z.cells n).toList.length=n*inf'.size:=by rw[Array.length_toList,size_zeroCells,hzs]
     have hnr:∀j,j<n*inf'.size→Rep c ((Builtin.zeroCells z.cells n).toList.getD j undef) (ZE (z.cells.toList.map JF) j):=fun j hj=>by
      have hlen:(z.cells.toList.map JF).length=z.cells.size:=by simp
      rw[Fb _ _ (by intro hnil;rw[hnil]at hlen;simp at hlen;omega),hlen];have hm:j%z.cells.size<z.cells.size:=Nat.mod_lt _ (by omega);have hjn:j<n*z.cells.size:=by rw[hzs];exact hj
      have e1:(Builtin.zeroCells z.cells n).toList.getD j undef=z.cells[j%z.cells.size]:=by
       simp[Builtin.zeroCells,hjn,hm]
      have e2:(z.cells.toList.map JF).getD (j%z.cells.size) .any=JF z.cells[j%z.cells.size]:=by
       simp[List.getD_eq_getElem?_getD,hm]
      rw[e1,e2];exact ZM c _
     have hn1:∀u∈(Builtin.zeroCells z.cells n).toList,u.oneCell'=true:=fun u hu=>by
      obtain⟨j,hj,rfl⟩:=List.getElem_of_mem hu;have h1:=hnr j (by omega);rw[List.getD_eq_getElem?_getD,List.getElem?_eq_getElem hj]at h1;refine Rep.one h1 ?_;have hlen:(z.cells.toList.map JF).length=z.cells.size:=by simp
      rw[Fb _ _ (by intro hnil;rw[hnil]at hlen;simp at hlen;omega),hlen];have hm:j%z.cells.size<(z.cells.toList.map JF).length:=by rw[hlen];exact Nat.mod_lt _ (by omega)
      rw[List.getD_eq_getElem?_getD,List.getElem?_eq_getElem hm];exact List.all_eq_true.1 hone _ (List.getElem_mem hm)
     have hbN:(N+n)*inf'.bytes≤140737488355328:=by
      rw[Nat.mul_comm];have:(inf'.bytes:Int)*((N+n:Nat):Int)≤140737488355328:=by simpa using hb
      exact Int.ofNat_le.1 (by rw[Int.natCast_mul];exact this)
     have hbn:n*inf'.bytes≤281474976710656:=Nat.le_trans (Nat.mul_le_mul_right _ (show n≤N+n by omega)) (by omega);cases hx with
     |osl _ _ _ _ _ cap b sz hi hg hn hcap hmx =>
      rcases hr.row id _ k f ho with⟨hg',_⟩ | ⟨b',sz',cs,el,hg',hh,hcs,hks,hnS,hcr⟩
      ·rw[hg']at hg;cases hg
      ·rw[hg']at hg;cases hg
       by_cases hroom:N+n≤cap
       ·have hmul:N*inf'.size+n*inf'.size≤cap*inf'.size:=by rw[←Nat.add_mul];exact Nat.mul_le_mul_right _ hroom
        have hrun:=GI (P:=P) c.w t t' ty e inf' z .i64 _ hu (ZJ hk) hin hz b N cap n cs el hh (by omega) hpos hroom hbn (by omega) hnl hn1 (by omega);have hsz2:(cs.toList.take (N*inf'.size) ++ (Builtin.zeroCells z.cells n).toList ++ cs.toList.drop (N*inf'.size+(Builtin.zeroCells z.cells n).toList.length)).toArray.size=sz:=by
         rw[List.size_toArray,List.length_append,List.length_append,hnl,List.length_take,List.length_drop,Array.length_toList];omega
        obtain⟨g1,g2⟩:=Zm (c:=c) (c':=⟨c.w.setRow b (cs.toList.take (N*inf'.size) ++ (Builtin.zeroCells z.cells n).toList ++ cs.toList.drop (N*inf'.size+(Builtin.zeroCells z.cells n).toList.length)).toArray,c.S,c.γ,c.H.set id (.row (v'+1) ((N+n)*inf'.size) F)⟩) hr
         (id:=id) (ver:=v'+1) (n:=(N+n)*inf'.size) (b:=b) (sz:=sz) hset hoth rfl hg' (fun _ _=>rfl) (setRow_heap c.w b cs _ el _ hh) hsz2 (by rw[Nat.add_mul];omega)
         (fun b' hb' _=>setRow_other c.w b b' _ hb') (by simp) rfl rfl rfl (.inr ⟨_,_,ho,rfl,hg'⟩) (.inr (.inr ⟨v',hinf,.inl (by omega)⟩)) (fun j hj=>by
          rw[Nat.add_mul]at hj;rw[hF];refine BE (c:=c) (by simp;omega) hnl (fun j hj=>?_) hnr j hj;have e1:(cs.toList.take (N*inf'.size)).getD j undef=cs.getD j undef:=by
           simp[List.getD_eq_getElem?_getD,hj,Array.getD_eq_getD_getElem?]
          rw[e1];exact hcr j (by omega))
        exact⟨_,_,c.γ,hrun,.osl id _ _ 0 _ _ b sz hinf' hg' hroom hcap hmx,g1,g2⟩
       ·have hsx:SrcOk c (.slice (some ⟨b,0,none⟩) N cap) N inf'.size f:=⟨b,0,cap,fun j=>cs.getD j undef,rfl,hn,fun j hj=>Ze hh (m:=k) (by omega) j (by omega),fun j hj=>hcr j (by omega)⟩
        obtain⟨b',o',cap0,olds,e1,hnc,hol,hoc,hor⟩:=hsx.anyOld;cases e1;have hold:=run_firstCells_some (P:=P) c.w.drew inf'.size N ⟨b,0,none⟩ N cap olds hol (by simpa using hoc);have hrun:=Cp (P:=P) c.w t t' ty e inf' z .i64 _ hu (ZJ hk) hin hz ⟨b,0,none⟩ N cap n olds hold (by omega) (by omega) hpos (by omega) (growslice_fits (by omega) hbN) hbn;have hge:=grownCap_ge c.w (N+n) cap e;obtain⟨cs',hcs'⟩:∃cs',cs'=olds.toArray ++ Builtin.zeroCells z.cells n ++ Builtin.zeroCells z.cells (grownCap c.w (N+n) cap e-(N+n)):=⟨_,rfl⟩
        rw[←hcs']at hrun;have hsz:cs'.size=grownCap c.w (N+n) cap e*inf'.size:=by
         rw[hcs'];simp only[Array.size_append,List.size_toArray,size_zeroCells,hzs,hol,←Nat.add_mul];congr 1;omega
        have hcells:∀j,j<(N+n)*inf'.size→Rep c (cs'.getD j undef) (F j):=fun j hj=>by
         rw[Nat.add_mul]at hj;have:=BE (c:=c) (rest:=(Builtin.zeroCells z.cells (grownCap c.w (N+n) cap e-(N+n))).toList) hol hnl hor hnr j hj;have e3:(olds ++ (Builtin.zeroCells z.cells n).toList ++ (Builtin.zeroCells z.cells (grownCap c.w (N+n) cap e-(N+n))).toList).toArray=cs':=by
          rw[hcs'];apply Array.ext';simp
         rw[e3]at this;rw[hF];exact this
        obtain⟨g1,g2⟩:=Zm (c:=c) (c':=⟨c.w.drew.alloc (.cells cs' e),c.S,Jy c.γ id (some (c.w.heap.size,cs'.size)),c.H.set id (.row (v'+1) ((N+n)*inf'.size) F)⟩) hr
         (id:=id) (ver:=v'+1) (n:=(N+n)*inf'.size) (b:=c.w.heap.size) (sz:=cs'.size) hset hoth rfl (by simp[Jy]) (fun i hi=>by simp[Jy,hi]) (heap_alloc_new c.w.drew _) rfl
         (by rw[hsz];exact Nat.mul_le_mul_right _ hge) (fun b' _ hb'=>heap_alloc_old c.w.drew _ b' hb') (by simp) rfl rfl rfl (.inl (Nat.le_refl _)) (.inr (.inr ⟨v',hinf,.inl (by omega)⟩)) hcells
        exact⟨_,_,_,hrun,.osl id _ _ 0 _ _ c.w.heap.size cs'.size hinf' (by simp[Jy]) hge (by omega) (grownCap_le_maxLen _ _ _ _ (by show N+n≤9223372036854775807;omega)),g1,g2⟩
     |oslz _ _ _ _ a hi=>exact absurd hN0 (Nat.lt_irrefl 0)
     |oslOld _ _ _ _ _ a cap hn hs'=>exact absurd hs' live
     |oslzOld _ _ _ _ a hs'=>exact absurd hN0 (Nat.lt_irrefl 0)
    |_=>simp at h
 ·cases h
def Yd (a b:AV):Option AV:=match a,b with | .int k x,.int k' y=>Q4 (k=k') (some (.int k (if y<x then y else x))) |_,_=>none
def Yc (a b:AV):Option AV:=match a,b with | .int k x,.int k' y=>Q4 (k=k') (some (.int k (if x<y then y else x))) |_,_=>none
theorem TI {P:Program}{c:Ctx}(ts:Array TypeId)(ty:TypeId){a b v:AV}{x y:Value}(hx:Rep c x a)(hy:Rep c y b)(h:Yd a b=some v) :
  ∃r,(Builtin.min_ ts ty #[x,y]).run P c.w=.ok r c.w∧Rep c r v:=by
 unfold Yd at h
 split at h
 ·obtain⟨rfl,h2⟩:=Xg h;cases h2;cases hx;cases hy
  exact⟨_,by simp[Builtin.min_,Builtin.min2],.int _ _⟩
 ·cases h
theorem TH {P:Program}{c:Ctx}(ts:Array TypeId)(ty:TypeId){a b v:AV}{x y:Value}(hx:Rep c x a)(hy:Rep c y b)(h:Yc a b=some v) :
  ∃r,(Builtin.max_ ts ty #[x,y]).run P c.w=.ok r c.w∧Rep c r v:=by
 unfold Yc at h
 split at h
 ·obtain⟨rfl,h2⟩:=Xg h;cases h2;cases hx;cases hy
  exact⟨_,by simp[Builtin.max_,Builtin.max2],.int _ _⟩
 ·cases h
def T3 (g:Int→Option AV)(n:Int)(a:AV):Int→Option AV:=fun m=>if m=n then some a else g m
theorem HQ {kd k:IntKind}{n:Int}:∀ (es:List MapEntry) (i:Nat),(∀e∈es,∃m,e.key=.int k m) →
  (∃j e,es[j]?=some e∧e.key=.int k n∧Instr.findNow (.int kd) (.int k n) es i=some (some (i+j,e.val))) ∨
  ((∀e∈es,e.key≠.int k n)∧Instr.findNow (.int kd) (.int k n) es i=some none)
 | [],i,_=>.inr ⟨by simp,rfl⟩
 |e :: es,i,h=>by
  obtain⟨m,hm⟩:=h e (by simp);by_cases hmn:m=n
  ·subst hmn
   exact .inl ⟨0,e,rfl,hm,by simp[Instr.findNow,Instr.sameNow,hm]⟩
  ·have hne:(n == m)=false:=by simp;omega
   have hstep:Instr.findNow (.int kd) (.int k n) (e :: es) i=Instr.findNow (.int kd) (.int k n) es (i+1):=by
    simp[Instr.findNow,Instr.sameNow,hm,hne]
   rcases HQ es (i+1) (fun e' he'=>h e' (by simp[he']))with⟨j,e',h1,h2,h3⟩ | ⟨h1,h2⟩
   ·refine .inl ⟨j+1,e',by simpa using h1,h2,?_⟩
    rw[hstep,h3];congr 3;omega
   ·refine .inr ⟨?_,by rw[hstep,h2]⟩
    intro e' he';rcases List.mem_cons.1 he' with rfl |he'
    ·rw[hm];intro he;cases he;exact hmn rfl
    ·exact h1 e' he'
theorem MapOk.find {c:Ctx}{k:IntKind}{g:Int→Option AV}{es:Array MapEntry}(h:MapOk c k g es)(kd:IntKind)(n:Int) :
  (∃a j e,g n=some a∧es.toList[j]?=some e∧e.key=.int k n∧Rep c e.val a∧Instr.findNow (.int kd) (.int k n) es.toList 0=some (some (j,e.val))) ∨
  (g n=none∧Instr.findNow (.int kd) (.int k n) es.toList 0=some none):=by
 rcases HQ (kd:=kd) (k:=k) (n:=n) es.toList 0 h.keys with⟨j,e,h1,h2,h3⟩ | ⟨h1,h2⟩
 ·rw[Nat.zero_add]at h3
  cases hg:g n with
  |none=>exact absurd h2 (h.miss n hg e (List.mem_of_getElem? h1))
  |some a =>
   obtain⟨e',he',hk',hr'⟩:=h.hit n a hg;obtain⟨j',hj',rfl⟩:=List.getElem_of_mem he';have hje:j=j':=by
    have hjl:=(List.getElem?_eq_some_iff.1 h1).1;have hj2:=(List.getElem?_eq_some_iff.1 h1).2;rcases Nat.lt_trichotomy j j' with hlt |rfl |hlt
    ·exact absurd (by rw[hj2,h2,hk']) (List.pairwise_iff_getElem.1 h.uniq j j' hjl hj' hlt)
    ·rfl
    ·exact absurd (by rw[hj2,h2,hk']) (List.pairwise_iff_getElem.1 h.uniq j' j hj' hjl hlt)
   subst hje;have:es.toList[j]=e:=(List.getElem?_eq_some_iff.1 h1).2;rw[this]at hr';exact .inl ⟨a,j,e,rfl,h1,h2,hr',h3⟩
 ·cases hg:g n with
  |none=>exact .inr ⟨rfl,h2⟩
  |some a =>
   obtain⟨e,he,hk,_⟩:=h.hit n a hg;exact absurd hk (h1 e he)
def DY (P:Program)(nid:Option Nat)(t:TypeId)(h:List AO):Option (AV×List AO) :=
 match iP P t with
 |some (kt,_)=>match VU P kt with
  |some k=>some (.mp (Qz nid h),Kb nid h (.map k fun _=>none))
  |none=>none
 |none=>none
theorem NE {P:Program}{t k e:TypeId}(h:iP P t=some (k,e)):P.underlying t=some (.map k e):=by
 unfold iP at h
 split at h
 ·cases h;assumption
 ·cases h
theorem Oz {P:Program}{c:Ctx}(hr:HRel c){nid:Option Nat}(hnid:∀ id,nid=some id→c.H[id]?=some .unborn){t:TypeId}{v:AV}{h':List AO}(h:DY P nid t c.H=some (v,h')) :
  ∃r w' γ',(Instr.makeMap t none).run P c.w=.ok r w'∧Rep ⟨w',c.S,γ',h'⟩ r v∧HRel ⟨w',c.S,γ',h'⟩∧Ext c ⟨w',c.S,γ',h'⟩:=by
 unfold DY at h
 split at h
 ·split at h
  ·rename_i k hk
   cases h;have hfits:c.H[Qz nid c.H]?=none∨c.H[Qz nid c.H]?=some .unborn∨((∃k0 g0,c.H[Qz nid c.H]?=some (.map k0 g0))∧Jy c.γ (Qz nid c.H) (some (c.w.heap.size,0)) (Qz nid c.H)=c.γ (Qz nid c.H)):=by
    cases nid with
    |none=>exact .inl (by simp[Qz])
    |some id=>exact .inr (.inl (by simpa [Qz]using hnid id rfl))
   obtain⟨g1,g2⟩:=WI (c:=c) (c':=⟨c.w.alloc (.map #[] 0),c.S,Jy c.γ (Qz nid c.H) (some (c.w.heap.size,0)),Kb nid c.H (.map k fun _=>none)⟩) hr
    (id:=Qz nid c.H) (b:=c.w.heap.size) (sz:=0) (es:=#[]) (clock:=0) (Gq hnid) (fun i hi=>ZZ i hi) rfl (by simp[Jy]) (fun i hi=>by simp[Jy,hi]) (heap_alloc_new c.w _)
    (fun b' _ hb'=>heap_alloc_old c.w _ b' hb') (by simp) rfl rfl rfl (.inl (Nat.le_refl _)) hfits
    ⟨by simp,by simp,by simp,by simp⟩
   exact⟨_,_,_,by simp[Instr.makeMap],.mp _ c.w.heap.size 0 k _ (Gq hnid) (by simp[Jy]),g1,g2⟩
  ·cases h
 ·cases h
theorem MapIs.ok {c:Ctx}{k:IntKind}{g:Int→Option Value}{es:Array MapEntry}(h:MapIs k g es):MapOk c k (fun n=>(g n).map JF) es:=by
 refine⟨h.keys,h.uniq,fun n a hn=>?_,fun n hn=>?_⟩
 ·simp only[Option.map_eq_some_iff]at hn
  obtain⟨v,h1,rfl⟩:=hn;obtain⟨e,he,hk,rfl⟩:=h.hit n v h1;exact⟨e,he,hk,ZM c _⟩
 ·simp only[Option.map_eq_none_iff]at hn
  exact h.miss n hn
def D5 (P:Program)(t:TypeId)(x i:AV)(ok:Bool)(h:List AO):Option AV :=
 match iP P t,i with
 |some (kt,et),.int ik n =>
  match VU P kt,li P et with
  |some _,some z =>
   match x with
   | .nilmap=>some (if ok then .tup [z,.bool false]else z)
   | .cmap k g=>Q4 (k=ik) (match (g n).map JF with
     |some a=>some (if ok then .tup [a,.bool true]else a)
     |none=>some (if ok then .tup [z,.bool false]else z))
   | .mp id =>
    match h[id]? with
    |some (.map k g)=>Q4 (k=ik) (match g n with
     |some a=>some (if ok then .tup [a,.bool true]else a)
     |none=>some (if ok then .tup [z,.bool false]else z))
    |_=>none
   |_=>none
  |_,_=>none
 |_,_=>none
theorem Vb {P:Program}{t:TypeId}{z:AV}(h:li P t=some z):∃i v,P.info? t=some i∧i.zero=some v∧z=fK v:=by
 unfold li at h;cases hi:P.info? t with
 |none=>simp[hi]at h
 |some i =>
  cases hz:i.zero with
  |none=>simp[hi,hz]at h
  |some v=>simp[hi,hz]at h;exact⟨i,v,rfl,hz,h.symm⟩
theorem Jf {P:Program}{w:World}{kt:TypeId}{k:IntKind}(hk:P.underlying kt=some (.int k)) (empty:Bool) (v:Value) (ik:IntKind) (n:Int) (hv:v=.int ik n) :
  (Instr.checkKey empty 10000 kt v).run P w=.ok () w:=by
 have:∀d,(Instr.checkKey empty (d+1) kt v).run P w=.ok () w:=fun d=>by subst hv;simp[Instr.checkKey,run_underlying hk]
 exact this 9999
theorem Em {c:Ctx}{x y:Value}{a b:AV}(h1:Rep c x a)(h2:Rep c y b):Rep c (.tuple #[x,y]) (.tup [a,b]):=by
 refine .tup _ _ rfl fun j hj=>?_
 have:j=0∨j=1:=by simp at hj;omega
 rcases this with rfl |rfl
 ·simpa [Array.getD]using h1
 ·simpa [Array.getD]using h2
theorem MR {P:Program}{c:Ctx}(hr:HRel c){t:TypeId}{x i v:AV}{ok:Bool}{y z:Value}(hx:Rep c y x)(hi:Rep c z i)(h:D5 P t x i ok c.H=some v) :
  ∃r,(Instr.lookup t y z ok).run P c.w=.ok r c.w∧Rep c r v:=by
 unfold D5 at h
 split at h
 ·rename_i kt et ik n hm
  have hu:=NE hm;cases hi
  split at h
  ·rename_i kk zv hk hz
   obtain⟨iz,vz,hinf,hzero,rfl⟩:=Vb hz;have hku:=ZJ hk;have hzrep:=Wl c vz
   split at h
   ·cases hx
    have hfk:(Instr.findKey kt (.int ik n) []).run P c.w=.ok none c.w:=by simp[Instr.findKey,run_underlying hku,Instr.findNow]
    have hrun:(Instr.lookup t (.map none) (.int ik n) ok).run P c.w=.ok (if ok then .tuple #[vz,.bool false]else vz) c.w:=by
     simp[Instr.lookup,run_underlying hu,Jf hku _ _ ik n rfl,hfk,zeroValue,typeInfo,hinf,hzero]
    refine⟨_,hrun,?_⟩;cases h;cases ok
    ·exact hzrep
    ·exact Em hzrep (.bool _)
   ·rename_i k g
    obtain⟨rfl,h2⟩:=Xg h;cases hx with
    |cmap b _ _ es cl hS h3 hm' =>
     have h5:=hm'.ok (c:=c);have hget:(getObj b).run P c.w=.ok (.map es cl) c.w:=by simp[getObj,Sem.run,h3]
     rcases h5.find kk n with⟨a,j,e,ha,hj,hek,her,hf⟩ | ⟨ha,hf⟩
     ·have hfk:(Instr.findKey kt (.int k n) es.toList).run P c.w=.ok (some (j,e.val)) c.w:=by simp[Instr.findKey,run_underlying hku,hf]
      have hrun:(Instr.lookup t (.map (some b)) (.int k n) ok).run P c.w=.ok (if ok then .tuple #[e.val,.bool true]else e.val) c.w:=by
       simp[Instr.lookup,run_underlying hu,hget,Jf hku _ _ k n rfl,hfk]
      refine⟨_,hrun,?_⟩;rw[ha]at h2;cases h2;cases ok
      ·exact her
      ·exact Em her (.bool _)
     ·have hfk:(Instr.findKey kt (.int k n) es.toList).run P c.w=.ok none c.w:=by simp[Instr.findKey,run_underlying hku,hf]
      have hrun:(Instr.lookup t (.map (some b)) (.int k n) ok).run P c.w=.ok (if ok then .tuple #[vz,.bool false]else vz) c.w:=by
       simp[Instr.lookup,run_underlying hu,hget,Jf hku _ _ k n rfl,hfk,zeroValue,typeInfo,hinf,hzero]
      refine⟨_,hrun,?_⟩;rw[ha]at h2;cases h2;cases ok
      ·exact hzrep
      ·exact Em hzrep (.bool _)
   ·rename_i id
    split at h
    ·rename_i k g ho
     obtain⟨rfl,h2⟩:=Xg h;obtain⟨b,sz,es,cl,h1,h3,h4,h5⟩:=hr.map id k g ho;cases hx with
     |mp _ b' sz' k' g' hi' hg' =>
      rw[h1]at hg';cases hg';have hget:(getObj b).run P c.w=.ok (.map es cl) c.w:=by simp[getObj,Sem.run,h3]
      rcases h5.find kk n with⟨a,j,e,ha,hj,hek,her,hf⟩ | ⟨ha,hf⟩
      ·have hfk:(Instr.findKey kt (.int k n) es.toList).run P c.w=.ok (some (j,e.val)) c.w:=by simp[Instr.findKey,run_underlying hku,hf]
       have hrun:(Instr.lookup t (.map (some b)) (.int k n) ok).run P c.w=.ok (if ok then .tuple #[e.val,.bool true]else e.val) c.w:=by
        simp[Instr.lookup,run_underlying hu,hget,Jf hku _ _ k n rfl,hfk]
       refine⟨_,hrun,?_⟩;rw[ha]at h2;cases h2;cases ok
       ·exact her
       ·exact Em her (.bool _)
      ·have hfk:(Instr.findKey kt (.int k n) es.toList).run P c.w=.ok none c.w:=by simp[Instr.findKey,run_underlying hku,hf]
       have hrun:(Instr.lookup t (.map (some b)) (.int k n) ok).run P c.w=.ok (if ok then .tuple #[vz,.bool false]else vz) c.w:=by
        simp[Instr.lookup,run_underlying hu,hget,Jf hku _ _ k n rfl,hfk,zeroValue,typeInfo,hinf,hzero]
       refine⟨_,hrun,?_⟩;rw[ha]at h2;cases h2;cases ok
       ·exact hzrep
       ·exact Em hzrep (.bool _)
     |mpOld _ _ hi'=>rw[ho]at hi';cases hi'
    ·cases h
   ·cases h
  ·cases h
 ·cases h
def KR (P:Program)(t:TypeId)(x i a:AV)(h:List AO):Option (List AO) :=
 match iP P t,x,i with
 |some (kt,_),.mp id,.int ik n =>
  match VU P kt,h[id]? with
  |some _,some (.map k g)=>Q4 (k=ik) (some (h.set id (.map k (T3 g n a))))
  |_,_=>none
 |_,_,_=>none
theorem Ff {P:Program}{c:Ctx}(hr:HRel c){t:TypeId}{x i a:AV}{vx vi va:Value}(hx:Rep c vx x)(hi:Rep c vi i)(ha:Rep c va a){h':List AO}(h:KR P t x i a c.H=some h') :
  ∃w',(Instr.mapUpdate t vx vi va).run P c.w=.ok () w'∧HRel ⟨w',c.S,c.γ,h'⟩∧Ext c ⟨w',c.S,c.γ,h'⟩:=by
 unfold KR at h
 split at h
 ·rename_i kt et id ik n hm
  have hu:=NE hm;cases hi
  split at h
  ·rename_i kk k g hk ho
   obtain⟨rfl,h2⟩:=Xg h;cases h2;have hku:=ZJ hk;obtain⟨b,sz,es,cl,h1,h3,h4,h5⟩:=hr.map id k g ho;cases hx with
   |mp _ b' sz' k' g' hi' hg' =>
    rw[h1]at hg';cases hg';have hlt:=(List.getElem?_eq_some_iff.1 ho).1;have hget:(getObj b).run P c.w=.ok (.map es cl) c.w:=by simp[getObj,Sem.run,h3]
    have hset:∀o,(setObj b o).run P c.w=.ok () { c.w with heap:=c.w.heap.setIfInBounds b o }:=fun o=>by simp[setObj,Sem.run,h3]
    have hb:b<c.w.heap.size:=(Array.getElem?_eq_some_iff.1 h3).1;have fin:∀es' cl',MapOk c k (T3 g n a) es'→(Instr.mapUpdate t (.map (some b)) (.int k n) va).run P c.w=.ok () { c.w with heap:=c.w.heap.setIfInBounds b (.map es' cl') } →
      ∃w',(Instr.mapUpdate t (.map (some b)) (.int k n) va).run P c.w=.ok () w'∧HRel ⟨w',c.S,c.γ,c.H.set id (.map k (T3 g n a))⟩∧Ext c ⟨w',c.S,c.γ,c.H.set id (.map k (T3 g n a))⟩:=by
     intro es' cl' hok hrun;refine⟨_,hrun,WI (c:=c) (c':=⟨{ c.w with heap:=c.w.heap.setIfInBounds b (.map es' cl') },c.S,c.γ,_⟩) hr (id:=id) (b:=b) (sz:=sz) (es:=es') (clock:=cl') (by simp[hlt]) (fun i hi=>by simp[Ne.symm hi]) rfl h1 (fun _ _=>rfl)
      (by simp[hb]) (fun b' hb' _=>by simp[Ne.symm hb']) (by simp) rfl rfl rfl (.inr ⟨_,_,ho,rfl,h1⟩) (.inr (.inr ⟨⟨k,g,ho⟩,rfl⟩)) hok⟩
    rcases h5.find kk n with⟨a0,j,e,ha0,hj,hek,her,hf⟩ | ⟨ha0,hf⟩
    ·have hfk:(Instr.findKey kt (.int k n) es.toList).run P c.w=.ok (some (j,e.val)) c.w:=by simp[Instr.findKey,run_underlying hku,hf]
     have hje:es[j]?=some e:=by simpa using hj
     have hkeep:(Instr.keyThatStays (((es[j]?).map (·.key)).getD (.int k n)) (.int k n)).run P c.w=.ok (.int k n) c.w:=by
      have hsb:∀d,Instr.sameBits (d+1) (.int k n) (.int k n)=true:=fun d=>by simp[Instr.sameBits]
      have hsb':Instr.sameBits 10000 (.int k n) (.int k n)=true:=hsb 9999;simp[hje,hek,Instr.keyThatStays,hsb']
     refine fin (es.modify j fun e=>{ e with key:=.int k n,val:=va }) cl ?_ ?_
     ·have hjl:=(List.getElem?_eq_some_iff.1 hj).1
      have hmem:∀e'∈(es.modify j fun e=>{ e with key:=.int k n,val:=va }).toList,(∃i',i'≠j∧es.toList[i']?=some e')∨(e'.key=.int k n∧e'.val=va):=by
       intro e' he';obtain⟨i',hi',rfl⟩:=List.getElem_of_mem he';have hi2:i'<es.size:=by simpa using hi'
       by_cases hij:j=i'
       ·subst hij;right;simp
       ·left;refine⟨i',fun h=>hij h.symm,?_⟩
        simp[hij,hi2]
      refine⟨?_,?_,?_,?_⟩
      ·intro e' he'
       rcases hmem e' he' with⟨i',_,h⟩ | ⟨h,_⟩
       ·exact h5.keys _ (List.mem_of_getElem? h)
       ·exact⟨n,h⟩
      ·rw[List.pairwise_iff_getElem]
       intro p q hp hq hpq;have hp2:p<es.size:=by simpa using hp
       have hq2:q<es.size:=by simpa using hq
       have key:∀r (hr:r<(es.modify j fun e=>{ e with key:=.int k n,val:=va }).toList.length),((es.modify j fun e=>{ e with key:=.int k n,val:=va }).toList[r]).key=(es.toList[r]'(by simpa using hr)).key:=by
        intro r hr;simp only[Array.getElem_toList,Array.getElem_modify]
        split
        ·rename_i hjr
         subst hjr;have:es[j]'(by simpa using hjl)=e:=by simpa using (List.getElem?_eq_some_iff.1 hj).2
         simp[this,hek]
        ·rfl
       rw[key p hp,key q hq];exact List.pairwise_iff_getElem.1 h5.uniq p q (by simpa using hp2) (by simpa using hq2) hpq
      ·intro m a' hm'
       unfold T3 at hm';by_cases hmn:m=n
       ·subst hmn
        rw[if_pos rfl]at hm';cases hm';refine⟨{ e with key:=.int k m,val:=va },?_,rfl,ha⟩;refine List.mem_iff_getElem.2 ⟨j,by simpa using hjl,?_⟩;have:es[j]'(by simpa using hjl)=e:=by simpa using (List.getElem?_eq_some_iff.1 hj).2
        simp[this]
       ·rw[if_neg hmn]at hm'
        obtain⟨e',he',hk',hr'⟩:=h5.hit m a' hm';obtain⟨i',hi',rfl⟩:=List.getElem_of_mem he';have hne:j≠i':=by
         rintro rfl;have:=(List.getElem?_eq_some_iff.1 hj).2;rw[this,hek]at hk';cases hk';exact hmn rfl
        refine⟨es.toList[i'],?_,hk',hr'⟩;refine List.mem_iff_getElem.2 ⟨i',by simpa using hi',?_⟩;simp[hne]
      ·intro m hm' e' he' hkm
       unfold T3 at hm';by_cases hmn:m=n
       ·rw[if_pos hmn]at hm';cases hm'
       ·rw[if_neg hmn]at hm'
        rcases hmem e' he' with⟨i',_,h⟩ | ⟨h,_⟩
        ·exact h5.miss m hm' _ (List.mem_of_getElem? h) hkm
        ·rw[h]at hkm;cases hkm;exact hmn rfl
     ·simp only[Instr.mapUpdate,run_underlying hu,Sem.run_bind,Result.andThen_ok,hget,Jf hku _ _ k n rfl,hfk,hkeep,hset]
    ·have hfk:(Instr.findKey kt (.int k n) es.toList).run P c.w=.ok none c.w:=by simp[Instr.findKey,run_underlying hku,hf]
     refine fin (es.push { key:=.int k n,val:=va,born:=cl }) (cl+1) ?_ ?_
     ·refine⟨?_,?_,?_,?_⟩
      ·intro e' he'
       rcases(show e'∈es.toList∨e'=_ by simpa using he')with h |h
       ·exact h5.keys _ h
       ·exact⟨n,by rw[h]⟩
      ·have:(es.push { key:=.int k n,val:=va,born:=cl }).toList=es.toList ++ [{ key:=.int k n,val:=va,born:=cl }]:=by simp
       rw[this,List.pairwise_append];refine⟨h5.uniq,by simp,?_⟩;intro x hx' y hy';simp at hy';subst hy';exact h5.miss n ha0 x hx'
      ·intro m a' hm'
       unfold T3 at hm';by_cases hmn:m=n
       ·subst hmn;rw[if_pos rfl]at hm';cases hm'
        exact⟨{ key:=.int k m,val:=va,born:=cl },by simp,rfl,ha⟩
       ·rw[if_neg hmn]at hm'
        obtain⟨e',he',h⟩:=h5.hit m a' hm';exact⟨e',by simp[Array.mem_toList_iff.1 he'],h⟩
      ·intro m hm' e' he' hkm
       unfold T3 at hm';by_cases hmn:m=n
       ·rw[if_pos hmn]at hm';cases hm'
       ·rw[if_neg hmn]at hm'
        rcases(show e'∈es.toList∨e'=_ by simpa using he')with h |h
        ·exact h5.miss m hm' _ h hkm
        ·rw[h]at hkm;cases hkm;exact hmn rfl
     ·simp only[Instr.mapUpdate,run_underlying hu,Sem.run_bind,Result.andThen_ok,hget,Jf hku _ _ k n rfl,hfk,hset]
   |mpOld _ _ hi'=>rw[ho]at hi';cases hi'
  ·cases h
 ·cases h
def Lm (off N:Nat)(f g:Nat→AV):Nat→AV:=fun j=>if off≤j∧j<off+N then(g (j-off)).loose else f j
def Fe (P:Program)(t:TypeId)(x y:AV)(h:List AO):Option (AV×List AO) :=
 match At P t with
 |none=>none
 |some (_,s,_) =>
  match D6 s y h with
  |none=>none
  |some (m,g) =>
   match x with
   | .osl id ver es off n =>
    match h[id]? with
    |some (.row v k f)=>Q4 (v=ver∧es=s∧off+min m n*s≤k∧(∀j,j<min m n*s→(g j).one=true))
      (some (.int .i64 ((min m n:Nat):Int),h.set id (.row v k (Lm off (min m n*s) f g))))
    |_=>none
   |_=>none
theorem SrcOk.le {c:Ctx}{z:Value}{n s:Nat}{g:Nat→AV}(h:SrcOk c z n s g){k:Nat}(hk:k≤n)(h1:∀j,j<k*s→(g j).one=true) :
  ∃ (a:Addr) (cap:Nat) (news:List Value),z=.slice (some a) n cap∧news.length=k*s∧(∀j u,news[j]?=some u→c.w.cell? (a.add j)=some u)∧(∀u∈news,u.oneCell'=true) ∧
   ∀j,j<k*s→Rep c (news.getD j undef) (g j):=by
 obtain⟨b,o,cap,us,rfl,hc,h2,h3⟩:=h;have hks:k*s≤n*s:=Nat.mul_le_mul_right _ hk;have h':SrcOk c (.slice (some ⟨b,o,none⟩) k cap) k s g:=⟨b,o,cap,us,rfl,by omega,fun j hj=>h2 j (by omega),fun j hj=>h3 j (by omega)⟩
 obtain⟨a,cap',news,e,g1,g2,g3,g4⟩:=h'.news h1;cases e;exact⟨_,_,news,rfl,g1,g2,g3,g4⟩
theorem PC {P:Program}{c:Ctx}(hr:HRel c){t t':TypeId}(ty:TypeId){x y v:AV}{vx vy:Value}(hx:Rep c vx x)(hy:Rep c vy y){h':List AO}(h:Fe P t x y c.H=some (v,h')) :
  ∃r w' γ',(Builtin.copy_ #[t,t'] ty #[vx,vy]).run P c.w=.ok r w'∧Rep ⟨w',c.S,γ',h'⟩ r v∧HRel ⟨w',c.S,γ',h'⟩∧Ext c ⟨w',c.S,γ',h'⟩:=by
 unfold Fe at h;cases he:At P t with
 |none=>simp[he]at h
 |some q =>
  obtain⟨e,s,by_⟩:=q;obtain⟨hu,inf',z,hin,hs,hby,hz,hzs,hpos⟩:=KX he;simp only[he]at h;cases hsrc:D6 s y c.H with
  |none=>simp[hsrc]at h
  |some q =>
   obtain⟨m,g⟩:=q;simp only[hsrc]at h;have hsrc':=La hr hy hsrc;have hvy:∃a capy,vy=.slice a m capy:=by
    rcases hsrc' with⟨a,capy,rfl,rfl⟩ | ⟨b,o,cap,us,rfl,_⟩
    ·exact⟨_,_,rfl⟩
    ·exact⟨_,_,rfl⟩
   have hsy:0<m→SrcOk c vy m s g:=fun hm=>hsrc'.resolve_left (by rintro⟨a,capy,rfl,_⟩;omega)
   cases x with
   |osl id ver es off n =>
    cases ho:c.H[id]? with
    |none=>simp[ho]at h
    |some o =>
     simp only[ho]at h;cases o with
     |row v' k f =>
      obtain⟨⟨rfl,rfl,hk,h1⟩,h2⟩:=Xg h;cases h2;have hlt:=(List.getElem?_eq_some_iff.1 ho).1;have hinf:inf c.H id=some v':=by simp[inf,ho,AO.info]
      have live:¬stale c.H id v':=by
       rintro(⟨v'',hi,hlt⟩ |hd)
       ·rw[hinf]at hi;cases hi;omega
       ·simp[inf,hd,AO.info]at hinf
      have hvx:∃a cap,vx=.slice a n cap:=by
       cases hx with
       |osl _ _ _ _ _ cap b sz hi hg hn hcap hmx=>exact⟨_,_,rfl⟩
       |oslz _ _ _ _ a hi=>exact⟨_,_,rfl⟩
       |oslOld _ _ _ _ _ a cap hn hs'=>exact absurd hs' live
       |oslzOld _ _ _ _ a hs'=>exact absurd hs' live
      by_cases hk0:min m n=0
      ·
       have e0:(c.H.set id (.row v' k (Lm off (min m n*es) f g)))=c.H:=by
        have:Lm off (min m n*es) f g=f:=by
         funext j;unfold Lm;rw[if_neg];rw[hk0,Nat.zero_mul];omega
        rw[this];refine List.ext_getElem? fun i=>?_
        rw[List.getElem?_set];by_cases hi:id=i
        ·subst hi;rw[if_pos rfl,if_pos hlt,ho]
        ·rw[if_neg hi]
       rw[e0];obtain⟨ax,capx,rfl⟩:=hvx;obtain⟨ay,capy,rfl⟩:=hvy;refine⟨goInt ((min m n:Nat):Int),c.w,c.γ,?_,.int _ _,hr,Ext.refl c⟩;have hm0:Nat.min m n=0:=hk0;cases ax <;> cases ay <;> simp[Builtin.copy_,run_underlying hu,sizeOf,typeInfo,hin,Builtin.lenOf,Builtin.firstCells,hm0,storeCells,loadCells,loadCellsFrom]
      ·have hm:0<m:=by omega
       cases hx with
       |osl _ _ _ _ _ cap b sz hi hg hn hcap hmx =>
        rcases hr.row id _ k f ho with⟨hg',_⟩ | ⟨b',sz',cs,el,hg',hh,hcs,hks,hnS,hcr⟩
        ·rw[hg']at hg;cases hg
        ·rw[hg']at hg;cases hg
         obtain⟨a,capy,news,rfl,hnl,hnc,hn1,hnr⟩:=(hsy hm).le (Nat.min_le_left m n) h1;subst hs;have hf:=run_firstCells_some (P:=P) c.w inf'.size (min m n) a m capy news hnl hnc;have hst:=run_storeCells_at P b off el news 0 cs c.w hh (by omega) hn1;simp only[Nat.add_zero]at hst;have hsz2:(cs.toList.take off ++ news ++ cs.toList.drop (off+news.length)).toArray.size=sz:=by
          simp;omega
         refine⟨goInt ((min m n:Nat):Int),c.w.setRow b (cs.toList.take off ++ news ++ cs.toList.drop (off+news.length)).toArray,c.γ,?_,.int _ _,?_⟩
         ·have hmm:Nat.min m n=min m n:=rfl
          simp[Builtin.copy_,run_underlying hu,sizeOf,typeInfo,hin,Builtin.lenOf,hmm,hf,hst]
         ·refine Zm (c:=c) (c':=⟨_,c.S,c.γ,_⟩) hr (id:=id) (ver:=v') (n:=k) (b:=b) (sz:=sz) (f:=Lm off (min m n*inf'.size) f g)
           (by simp[hlt]) (fun i hi=>by simp[Ne.symm hi]) rfl hg' (fun _ _=>rfl) (setRow_heap c.w b cs _ el _ hh) hsz2 (by omega)
           (fun b' hb' _=>setRow_other c.w b b' _ hb') (by simp) rfl rfl rfl (.inr ⟨_,_,ho,rfl,hg'⟩) (.inr (.inr ⟨v',hinf,.inr ⟨rfl,rfl⟩⟩)) ?_
          intro j hj;unfold Lm;have hl:(cs.toList.take off).length=off:=by simp;omega
          by_cases hin2:off≤j∧j<off+min m n*inf'.size
          ·simp only[if_pos hin2]
           obtain⟨d,rfl⟩:∃d,j=off+d:=⟨j-off,by omega⟩
           have hd:d<min m n*inf'.size:=by omega
           have hr2:=(hnr d hd).loose;have e1:(cs.toList.take off ++ news ++ cs.toList.drop (off+news.length)).toArray.getD (off+d) undef=news.getD d undef:=by
            simp only[Array.getD_eq_getD_getElem?,List.getElem?_toArray];rw[List.getElem?_append_left (by simp;omega),List.getElem?_append_right (by omega),hl,Nat.add_sub_cancel_left,List.getD_eq_getElem?_getD]
           rw[e1,Nat.add_sub_cancel_left];exact hr2
          ·simp only[if_neg hin2]
           have e1:(cs.toList.take off ++ news ++ cs.toList.drop (off+news.length)).toArray.getD j undef=cs.getD j undef:=by
            simp only[Array.getD_eq_getD_getElem?,List.getElem?_toArray];by_cases hj1:j<off
            ·rw[List.append_assoc,List.getElem?_append_left (by omega),List.getElem?_take,if_pos hj1];simp
            ·have hj2:off+min m n*inf'.size≤j:=by omega
             rw[List.getElem?_append_right (by simp;omega)];simp only[List.length_append,hl,List.getElem?_drop];rw[show off+news.length+(j-(off+news.length))=j by omega];simp
           rw[e1];exact hcr j (by omega)
       |oslz _ _ _ _ a hi=>exact absurd (Nat.min_zero m) hk0
       |oslOld _ _ _ _ _ a cap hn hs'=>exact absurd hs' live
       |oslzOld _ _ _ _ a hs'=>exact absurd hs' live
     |_=>simp at h
   |_=>simp at h
def cF (off N:Nat)(f:Nat→AV):Nat→AV:=fun j=>if off≤j∧j<off+N then .any else f j
def qH (P:Program)(t:TypeId):Bool:=match P.underlying t with
 |some (.slice e)=>match P.info? e with
  |some i=>match i.zero with
   |some z=>z.cells.toList.all fun u=>u.oneCell'
   |none=>false
  |none=>false
 |_=>false
def Fw (P:Program)(t:TypeId)(x:AV)(h:List AO):Option (AV×List AO) :=
 match At P t with
 |none=>none
 |some (_,s,_) =>
  match x with
  | .osl id ver es off n =>
   match h[id]? with
   |some (.row v k f)=>Q4 (qH P t=true∧v=ver∧es=s∧off+n*s≤k) (some (.any,h.set id (.row v k (cF off (n*s) f))))
   |_=>none
  |_=>none
theorem Oq {P:Program}{c:Ctx}(hr:HRel c){t:TypeId}(ty:TypeId){x v:AV}{vx:Value}(hx:Rep c vx x){h':List AO}(h:Fw P t x c.H=some (v,h')) :
  ∃r w' γ',(Builtin.clear_ #[t] ty #[vx]).run P c.w=.ok r w'∧Rep ⟨w',c.S,γ',h'⟩ r v∧HRel ⟨w',c.S,γ',h'⟩∧Ext c ⟨w',c.S,γ',h'⟩:=by
 unfold Fw at h;cases he:At P t with
 |none=>simp[he]at h
 |some q =>
  obtain⟨e,s,by_⟩:=q;obtain⟨hu,inf',z,hin,hs,hby,hz,hzs,hpos⟩:=KX he;simp only[he]at h;cases x with
  |osl id ver es off n =>
   cases ho:c.H[id]? with
   |none=>simp[ho]at h
   |some o =>
    simp only[ho]at h;cases o with
    |row v' k f =>
     obtain⟨⟨hzo,rfl,rfl,hk⟩,h2⟩:=Xg h;cases h2;have hone:∀u∈z.cells.toList,u.oneCell'=true:=by
      unfold qH at hzo;rw[hu]at hzo;simp only[hin,hz]at hzo;exact List.all_eq_true.1 hzo
     have hlt:=(List.getElem?_eq_some_iff.1 ho).1;have hinf:inf c.H id=some v':=by simp[inf,ho,AO.info]
     have live:¬stale c.H id v':=by
      rintro(⟨v'',hi,hlt⟩ |hd)
      ·rw[hinf]at hi;cases hi;omega
      ·simp[inf,hd,AO.info]at hinf
     have hvx:∃a cap,vx=.slice a n cap∧(n≠0→a≠none):=by
      cases hx with
      |osl _ _ _ _ _ cap b sz hi hg hn hcap hmx=>exact⟨_,_,rfl,by simp⟩
      |oslz _ _ _ _ a hi=>exact⟨_,_,rfl,by simp⟩
      |oslOld _ _ _ _ _ a cap hn hs'=>exact absurd hs' live
      |oslzOld _ _ _ _ a hs'=>exact absurd hs' live
     by_cases hk0:n=0
     ·subst hk0
      have e0:(c.H.set id (.row v' k (cF off (0*es) f)))=c.H:=by
       have:cF off (0*es) f=f:=by
        funext j;unfold cF;rw[if_neg];rw[Nat.zero_mul];omega
       rw[this];refine List.ext_getElem? fun i=>?_
       rw[List.getElem?_set];by_cases hi:id=i
       ·subst hi;rw[if_pos rfl,if_pos hlt,ho]
       ·rw[if_neg hi]
      rw[e0];obtain⟨ax,capx,rfl,_⟩:=hvx;refine⟨.tuple #[],c.w,c.γ,?_,.any _,hr,Ext.refl c⟩;cases ax <;> simp[Builtin.clear_,run_underlying hu]
     ·cases hx with
      |osl _ _ _ _ _ cap b sz hi hg hn hcap hmx =>
       rcases hr.row id _ k f ho with⟨hg',_⟩ | ⟨b',sz',cs,el,hg',hh,hcs,hks,hnS,hcr⟩
       ·rw[hg']at hg;cases hg
       ·rw[hg']at hg;cases hg
        have hnl:(Builtin.zeroCells z.cells n).toList.length=n*es:=by rw[Array.length_toList,size_zeroCells,hzs]
        have hn1:∀u∈(Builtin.zeroCells z.cells n).toList,u.oneCell'=true:=by
         intro u hu';refine hone u ?_;simp only[Builtin.zeroCells,Array.toList_map,List.mem_map]at hu';obtain⟨j,hj,rfl⟩:=hu';have hj2:j<n*z.cells.size:=by simpa using hj
         have hlt2:j%z.cells.size<z.cells.size:=Nat.mod_lt _ (by omega);rw[getElem!_pos z.cells (j%z.cells.size) hlt2];exact Array.mem_toList_iff.2 (Array.getElem_mem _)
        have hst:=run_storeCells_at P b off el (Builtin.zeroCells z.cells n).toList 0 cs c.w hh (by omega) hn1;simp only[Nat.add_zero]at hst;generalize hnews:(Builtin.zeroCells z.cells n).toList=news at *;have hsz2:(cs.toList.take off ++ news ++ cs.toList.drop (off+news.length)).toArray.size=sz:=by
         simp;omega
        refine⟨.tuple #[],c.w.setRow b (cs.toList.take off ++ news ++ cs.toList.drop (off+news.length)).toArray,c.γ,?_,.any _,?_⟩
        ·obtain⟨m,rfl⟩:∃m,n=m+1:=⟨n-1,by omega⟩
         simp[Builtin.clear_,run_underlying hu,zeroValue,typeInfo,hin,hz,hnews,hst]
        ·refine Zm (c:=c) (c':=⟨_,c.S,c.γ,_⟩) hr (id:=id) (ver:=v') (n:=k) (b:=b) (sz:=sz) (f:=cF off (n*es) f)
          (by simp[hlt]) (fun i hi=>by simp[Ne.symm hi]) rfl hg' (fun _ _=>rfl) (setRow_heap c.w b cs _ el _ hh) hsz2 (by omega)
          (fun b' hb' _=>setRow_other c.w b b' _ hb') (by simp) rfl rfl rfl (.inr ⟨_,_,ho,rfl,hg'⟩) (.inr (.inr ⟨v',hinf,.inr ⟨rfl,rfl⟩⟩)) ?_
         intro j hj;unfold cF;have hl:(cs.toList.take off).length=off:=by simp;omega
         by_cases hin2:off≤j∧j<off+n*es
         ·simp only[if_pos hin2]
          exact .any _
         ·simp only[if_neg hin2]
          have e1:(cs.toList.take off ++ news ++ cs.toList.drop (off+news.length)).toArray.getD j undef=cs.getD j undef:=by
           simp only[Array.getD_eq_getD_getElem?,List.getElem?_toArray];by_cases hj1:j<off
           ·rw[List.append_assoc,List.getElem?_append_left (by omega),List.getElem?_take,if_pos hj1];simp
           ·have hj2:off+n*es≤j:=by omega
            rw[List.getElem?_append_right (by simp;omega)];simp only[List.length_append,hl,List.getElem?_drop];rw[show off+news.length+(j-(off+news.length))=j by omega];simp
          rw[e1];exact hcr j (by omega)
      |oslz _ _ _ _ a hi=>exact absurd rfl hk0
      |oslOld _ _ _ _ _ a cap hn hs'=>exact absurd hs' live
      |oslzOld _ _ _ _ a hs'=>exact absurd hs' live
    |_=>simp at h
  |_=>simp at h
def XO:AV:=.tup []
theorem O1 (c:Ctx):Rep c undef XO:=.tup _ _ rfl (by simp)
def iU (f:FuncId):List AV→List AV→Option AV
 | [],l=>some (.fn f l)
 | [r],[]=>some (.mfn f r)
 |_,_=>none
theorem iV {c:Ctx}{f:FuncId}{fs cs:Array Value}{l m:List AV}(hf:RepL c fs l)(hc:RepL c cs m){a:AV}(h:iU f l m=some a):Rep c (.func (.func f) fs cs) a:=by
 unfold iU at h
 split at h
 ·cases h
  obtain rfl:fs=#[]:=Array.size_eq_zero_iff.1 hf.1;exact .fn _ _ _ hc.1 hc.2
 ·cases h
  obtain rfl:cs=#[]:=Array.size_eq_zero_iff.1 hc.1;rename_i r;obtain⟨v,rfl⟩:∃v,fs=#[v]:=Array.size_eq_one_iff.1 hf.1;exact .mfn _ _ _ (hf.2 0 (Nat.zero_lt_succ _))
 ·cases h
def QU (P:Program)(strict:Bool)(nid:Option Nat)(o:Op)(ρ:Operand→AV)(h:List AO):Option (AV×List AO) :=
 match o with
 | .move x=>some (ρ x,h)
 | .assign x=>some (ρ x,h)
 | .pick c a b=>match ρ c with
  | .bool true=>some (ρ a,h)
  | .bool false=>some (ρ b,h)
  |_=>none
 | .alloc t=>Ax P nid t h
 | .box _ v=>MK nid (ρ v) h
 | .build t ps=>(Fv P t (ps.toList.map fun p=>(p.1,ρ p.2))).map fun v=>(v,h)
 | .buildSlice t n ps=>if strict then KP P t n (ps.toList.map fun p=>(p.1,ρ p.2)) h else(JL P t n (ps.toList.map fun p=>(p.1,ρ p.2))).map fun v=>(v,h)
 | .load t a=>(Qm P strict t (ρ a) h).map fun v=>(v,h)
 | .store t a v=>(KU P strict t (ρ a) (ρ v) h).map fun h'=>(XO,h')
 | .nilCheck x=>Q4 ((ρ x).isPtr=true) (some (ρ x,h))
 | .binOp op t x y _=>(IV P op t y (ρ x) (ρ y)).map fun v=>(v,h)
 | .unOp op _ x=>(ri op (ρ x)).map fun v=>(v,h)
 | .convert s d x=>(Nf P s d (ρ x)).map fun v=>(v,h)
 | .makeFunc (.func f) first caps=>(iU f (first.toList.map ρ) (caps.toList.map ρ)).map fun v=>(v,h)
 | .makeMap t none=>DY P nid t h
 | .makeSlice t l c=>DM P nid t (ρ l) (ρ c) h
 | .slice t x lo hi mx=>Q4 (mx=none∨hi≠none) ((DZ P t (ρ x) (lo.map ρ) (hi.map ρ) (mx.map ρ)).map fun v=>(v,h))
 | .fieldAddr t x i=>(Ce P t (ρ x) i).map fun v=>(v,h)
 | .field t x i=>(H7 P t (ρ x) i).map fun v=>(v,h)
 | .indexAddr t x i=>(D4 P t (ρ x) (ρ i)).map fun v=>(v,h)
 | .index t x i=>(re P t (ρ x) (ρ i)).map fun v=>(v,h)
 | .sliceToArrayPointer t x=>(eF P t (ρ x)).map fun v=>(v,h)
 | .lookup t x i ok=>(D5 P t (ρ x) (ρ i) ok h).map fun v=>(v,h)
 | .mapUpdate t m k v=>(KR P t (ρ m) (ρ k) (ρ v) h).map fun h'=>(XO,h')
 | .insert t m k v=>(KR P t (ρ m) (ρ k) (ρ v) h).map fun h'=>(XO,h')
 | .extract x i=>match ρ x with
  | .tup l=>Q4 (i<l.length) (some (l.getD i .any,h))
  |_=>none
 | .call { callee:=.builtin .len,args,argTypes }=>match args.toList,argTypes.toList with
  | [x],[t]=>(MP P t (ρ x)).map fun v=>(v,h)
  |_,_=>none
 | .call { callee:=.builtin .min,args,.. }=>match args.toList with
  | [x,y]=>(Yd (ρ x) (ρ y)).map fun v=>(v,h)
  |_=>none
 | .call { callee:=.builtin .max,args,.. }=>match args.toList with
  | [x,y]=>(Yc (ρ x) (ρ y)).map fun v=>(v,h)
  |_=>none
 | .call { callee:=.builtin .append,args,argTypes }=>match args.toList,argTypes.toList with
  | [x,y],[t,t']=>if t=t' then QG P t (ρ x) (ρ y) h else JQ P t t' (ρ x) (ρ y) h
  |_,_=>none
 | .call { callee:=.builtin .cap,args,argTypes }=>match args.toList,argTypes.toList with
  | [x],[t]=>(rc P t (ρ x)).map fun v=>(v,h)
  |_,_=>none
 | .call { callee:=.builtin .copy,args,argTypes }=>match args.toList,argTypes.toList with
  | [x,y],[t,_]=>Fe P t (ρ x) (ρ y) h
  |_,_=>none
 | .call { callee:=.builtin .clear,args,argTypes }=>match args.toList,argTypes.toList with
  | [x],[t]=>Fw P t (ρ x) h
  |_,_=>none
 |_=>none
theorem Hv {c:Ctx}{ρv:Operand→Value}{ρ:Operand→AV}(hρ:∀x,Rep c (ρv x) (ρ x)) (ps:Array (Nat×Operand)) :
  DW c (ps.map fun(i,x)=>(i,ρv x)).toList (ps.toList.map fun p=>(p.1,ρ p.2)):=by
 refine⟨by simp,fun j h h'=>?_⟩;simp only[Array.getElem_toList,Array.getElem_map,List.getElem_map];exact⟨trivial,hρ _⟩
theorem Gm {c:Ctx}{ρv:Operand→Value}{ρ:Operand→AV}(hρ:∀x,Rep c (ρv x) (ρ x)) (xs:Array Operand):RepL c (xs.map ρv) (xs.toList.map ρ):=by
 refine⟨by simp,fun j hj=>?_⟩;have hj':j<xs.size:=by simpa using hj
 have e1:(xs.map ρv).getD j undef=ρv xs[j]:=by simp[Array.getD,hj']
 have e2:(xs.toList.map ρ).getD j .any=ρ xs[j]:=by simp[List.getD_eq_getElem?_getD,hj']
 rw[e1,e2];exact hρ _
theorem Mm {c:Ctx}{ρv:Operand→Value}{ρ:Operand→AV}(hρ:∀x,Rep c (ρv x) (ρ x)) (x:Option Operand):Ol c (x.map ρv) (x.map ρ):=by
 cases x with
 |none=>trivial
 |some x=>exact hρ x
theorem AQ {α:Type}{a:Array α}{x y:α}(h:a.toList=[x,y]):a=#[x,y]:=by
 apply Array.ext';simpa using h
theorem AP {α:Type}{a:Array α}{x:α}(h:a.toList=[x]):a=#[x]:=by
 apply Array.ext';simpa using h
theorem Yf {P:Program}{c:Ctx}(hr:HRel c){strict:Bool}{nid:Option Nat}(hnid:∀ id,nid=some id→c.H[id]?=some .unborn){o:Oper}{ρv:Operand→Value}{ρ:Operand→AV}
  (hρ:∀x,Rep c (ρv x) (ρ x)) (hcv:∀v,ρv (.const v)=v) {v:AV} {h':List AO} (h:QU P strict nid o.op ρ c.H=some (v,h')):OpOk c ((execOp ρv o).run P c.w) v h':=by
 obtain⟨dst,op,type,pos,after,guard⟩:=o;replace h:QU P strict nid op ρ c.H=some (v,h'):=h;unfold QU at h;unfold execOp
 dsimp only
 have pureCase:∀ {o:Option AV} {s:Sem Value},(o.map fun v=>(v,c.H))=some (v,h')→(∀v,o=some v→∃r,s.run P c.w=.ok r c.w∧Rep c r v) →
   OpOk c ((do pure (.value (←s)):Sem Next).run P c.w) v h':=by
  intro o s ho hs;cases o with
  |none=>simp at ho
  |some v' =>
   simp at ho;obtain⟨rfl,rfl⟩:=ho;obtain⟨r,h1,h2⟩:=hs _ rfl;exact OpOk.same hr (by simp[h1]) h2
 have memCase:∀ {s:Sem Value},(∃r w' γ',s.run P c.w=.ok r w'∧Rep ⟨w',c.S,γ',h'⟩ r v∧HRel ⟨w',c.S,γ',h'⟩∧Ext c ⟨w',c.S,γ',h'⟩) →
   OpOk c ((do pure (.value (←s)):Sem Next).run P c.w) v h':=by
  rintro s ⟨r,w',γ',h1,h2,h3,h4⟩;exact⟨r,w',_,γ',.inl (by simp[h1]),h2,h3,h4⟩
 have unitCase:∀ {o:Option (List AO)} {s:Sem Unit},(o.map fun h'=>(XO,h'))=some (v,h')→(∀h1,o=some h1→∃w' γ',s.run P c.w=.ok () w'∧HRel ⟨w',c.S,γ',h1⟩∧Ext c ⟨w',c.S,γ',h1⟩) →
   OpOk c ((do s;pure .skip:Sem Next).run P c.w) v h':=by
  intro o s ho hs;cases o with
  |none=>simp at ho
  |some h1 =>
   simp at ho;obtain⟨rfl,rfl⟩:=ho;obtain⟨w',γ',g1,g2,g3⟩:=hs _ rfl;exact⟨undef,w',_,γ',.inr ⟨by simp[g1],rfl⟩,O1 _,g2,g3⟩
 split at h
 ·cases h;exact OpOk.same hr rfl (hρ _)
 ·cases h;exact OpOk.same hr rfl (hρ _)
 ·rename_i cc a b
  have hc:=hρ cc
  split at h
  ·rename_i e;rw[e]at hc;cases h
   generalize hq:ρv cc=q at hc;cases hc;exact OpOk.same hr (x:=ρv a) (by simp[asBool,hq]) (hρ _)
  ·rename_i e;rw[e]at hc;cases h
   generalize hq:ρv cc=q at hc;cases hc;exact OpOk.same hr (x:=ρv b) (by simp[asBool,hq]) (hρ _)
  ·cases h
 ·exact memCase (Om hr hnid h)
 ·exact memCase (Tv hr hnid (hρ _) h)
 ·exact pureCase h fun v hv=>Oo (Hv hρ _) hv
 ·rename_i t n ps
  by_cases hst:strict=true
  ·rw[if_pos hst]at h
   exact memCase (ML hr (Hv hρ ps) h)
  rw[if_neg hst]at h;cases ho:JL P t n (ps.toList.map fun p=>(p.1,ρ p.2))with
  |none=>simp[ho]at h
  |some v' =>
   simp[ho]at h;obtain⟨rfl,rfl⟩:=h;obtain⟨x,w',S',h1,h2,h3,h4⟩:=MM hr (Hv hρ ps) ho;exact⟨x,w',S',_,.inl (by simp[h1]),h2,h3,h4⟩
 ·exact pureCase h fun v hv=>HK hr (hρ _) hv
 ·exact unitCase h fun h1 hh=>OD hr (hρ _) (hρ _) hh
 ·rename_i x
  obtain⟨h1,h2⟩:=Xg h;cases h2;have hx:=hρ x;obtain⟨b,hb⟩:=hx.isPtr h1;refine OpOk.same hr (x:=ρv x) ?_ hx;simp[hb]
 ·refine pureCase h fun v hv=>?_
  unfold IV at hv
  split at hv
  ·rw[hcv];exact TJ (hρ _) hv _ _
  ·exact Tu (hρ _) (hρ _) hv _ _
 ·exact pureCase h fun v hv=>Yj (hρ _) hv
 ·exact pureCase h fun v hv=>PB (hρ _) hv
 ·rename_i f first caps
  refine pureCase h fun v hv=>⟨.func (.func f) (first.map ρv) (caps.map ρv),by simp[Instr.makeFunc],iV (Gm hρ first) (Gm hρ caps) hv⟩
 ·exact memCase (Oz hr hnid h)
 ·exact memCase (PJ hr hnid (hρ _) (hρ _) h)
 ·rename_i t x lo hi mx
  obtain⟨h1,h2⟩:=Xg h;refine pureCase h2 fun v hv=>OC (hρ _) (Mm hρ lo) (Mm hρ hi) (Mm hρ mx) (fun hm=>?_) hv
  rcases h1 with rfl |h1
  ·simp at hm
  ·simpa using h1
 ·exact pureCase h fun v hv=>MN (hρ _) hv
 ·exact pureCase h fun v hv=>Ov (hρ _) hv
 ·exact pureCase h fun v hv=>Oy (hρ _) (hρ _) hv
 ·exact pureCase h fun v hv=>Ty (hρ _) (hρ _) hv
 ·exact pureCase h fun v hv=>PL (hρ _) hv
 ·exact pureCase h fun v hv=>MR hr (hρ _) (hρ _) hv
 ·exact unitCase h fun h1 hh=>let ⟨w',g1,g2,g3⟩:=Ff hr (hρ _) (hρ _) (hρ _) hh; ⟨w',c.γ,g1,g2,g3⟩
 ·exact unitCase h fun h1 hh=>let ⟨w',g1,g2,g3⟩:=Ff hr (hρ _) (hρ _) (hρ _) hh; ⟨w',c.γ,g1,g2,g3⟩
 ·rename_i x i
  have hx:=hρ x
  split at h
  ·rename_i l e
   obtain⟨h1,h2⟩:=Xg h;cases h2;rw[e]at hx;generalize hq:ρv x=q at hx;cases hx with
   |tup vs _ hl hrr =>
    have hlt:i<vs.size:=by omega
    refine OpOk.same hr (x:=vs.getD i undef) ?_ (hrr i h1);simp[Instr.extract,hq,hlt,Array.getD]
  ·cases h
 ·rename_i args argTypes
  split at h
  ·rename_i x t h1 h2
   rw[AP h1,AP h2];have:=pureCase (s:=Builtin.len_ #[t] type #[ρv x]) h fun v hv=>TA type (hρ _) hv
   simpa [resolve,invoke,builtin]using this
  ·cases h
 ·rename_i args argTypes
  split at h
  ·rename_i x y h1
   rw[AQ h1];have:=pureCase (s:=Builtin.min_ argTypes type #[ρv x,ρv y]) h fun v hv=>TI argTypes type (hρ _) (hρ _) hv
   simpa [resolve,invoke,builtin]using this
  ·cases h
 ·rename_i args argTypes
  split at h
  ·rename_i x y h1
   rw[AQ h1];have:=pureCase (s:=Builtin.max_ argTypes type #[ρv x,ρv y]) h fun v hv=>TH argTypes type (hρ _) (hρ _) hv
   simpa [resolve,invoke,builtin]using this
  ·cases h
 ·rename_i args argTypes
  split at h
  ·rename_i x y t t' h1 h2
   rw[AQ h1,AQ h2]
   split at h
   ·rename_i ht
    subst ht;have:=memCase (MJ hr type (hρ _) (hρ _) h)
    simpa [resolve,invoke,builtin]using this
   ·have:=memCase (PQ hr type (hρ _) (hρ _) h)
    simpa [resolve,invoke,builtin]using this
  ·cases h
 ·rename_i args argTypes
  split at h
  ·rename_i x t h1 h2
   rw[AP h1,AP h2];have:=pureCase (s:=Builtin.cap_ #[t] type #[ρv x]) h fun v hv=>Tw type (hρ _) hv
   simpa [resolve,invoke,builtin]using this
  ·cases h
 ·rename_i args argTypes
  split at h
  ·rename_i x y t t' h1 h2
   rw[AQ h1,AQ h2];have:=memCase (PC (t':=t') hr type (hρ _) (hρ _) h)
   simpa [resolve,invoke,builtin]using this
  ·cases h
 ·rename_i args argTypes
  split at h
  ·rename_i x t h1 h2
   rw[AP h1,AP h2];have:=memCase (Oq hr type (hρ _) h)
   simpa [resolve,invoke,builtin]using this
  ·cases h
 ·cases h
end
end Go.Ab
