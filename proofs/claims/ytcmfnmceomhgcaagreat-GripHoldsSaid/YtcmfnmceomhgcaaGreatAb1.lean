/- A layer of abstract values and heaps over the model; what is proved here is that its steps and contracts are sound, for every program. -/
import Derived.Orders
import Derived.OrdersIn
import Derived.RangeFuncRecord
import Derived.Laws.StructEq
import Derived.Laws.Cover3
import Derived.Below
import Derived.Laws.OwnMore
import Derived.Laws.MakeOwn
import Derived.Laws.Tables
import Derived.WideLaws
set_option linter.unusedSimpArgs false
set_option linter.unusedVariables false
open Array renaming getD→ZAV,length_toList→ZBS,size_append→ZBb,ext'→ZCQ,size_eq_zero_iff→ZDX,getElem_toList→ZDi,mem_toList_iff→ZDj,getElem?_push→ZDs
open BitVec renaming ofInt→ZBM
open Go.Addr renaming add_lit→ZAg
open Go.Array renaming range_zero'→ZD8
open Go.Builtin renaming zeroCells→a_,append_→ZAD,firstCells→ZBv,len_→ZCM,nextslicecap→ZCU,lenOf→ZCZ,cap_→ZCg,clear_→ZC1,copy_→ZDC,min_→ZDN,max_→ZDO
open Go.Instr renaming findKey→ZAb,sliceBounds→ZAk,lookup→ZAy,findNow→ZA4,buildSlice→ZBR,mapUpdate→ZBs,sureAddr→ZBz,indexAt→ZCC,loadAt→ZCk,checkKey→ZDA,sameBits→ZDB,arrayAt→ZDK,fieldAt→ZDL,sliceAt→ZDM,build→ZDf,keyThatStays→ZD1,sliceBound→ZED,storeAt→ZES,sameNow→ZET,makeMap→ZEU
open Go.IntKind renaming i64→Q_
open Go.Op renaming intCmp→ZCf,equalIn→ZCq,intBits→ZCr,intArith→ZC7,unary→ZDQ,eqFields→ZD9
open Go.Question renaming forced→ZCs
open Go.Result renaming andThen_ok→ZAa
open Go.Sem renaming run_bind→ZAv,run_pure→ZCv,run→ZEM
open Int renaming natCast_mul→ZBL,eq_ofNat_of_zero_le→ZBY,le_of_lt→ZC9,ofNat_le→ZDh
open List renaming range→ZAO,getElem?_toArray→ZBG,pairwise_iff_getElem→ZBT,size_toArray→ZBd,getElem?_set→ZCB,getD_cons_succ→ZCj,mem_iff_getElem→ZDt
open Nat renaming mul_le_mul_right→ZAU,add_mul→ZAc,add_sub_cancel_left→ZA0,lt_of_lt_of_le→ZBX,add_assoc→ZCL,eq_zero_or_pos→ZCm,zero_min→ZCw,mul_ne_zero→ZC8
open Option renaming map_some→ZBp,map_eq_some_iff→ZCP
open Option.some renaming injEq→t_
namespace Go.Ab
open Go Go.RowKit
theorem K':type_of%@List.getD_eq_getElem?_getD:=@List.getD_eq_getElem?_getD
theorem M':type_of%@Go.IntKind.wrap_i64:=@Go.IntKind.wrap_i64
theorem M_:type_of%@if_neg:=@if_neg
theorem N':type_of%@Nat.le_refl:=@Nat.le_refl
theorem N_:type_of%@if_pos:=@if_pos
theorem P_:type_of%@List.append_assoc:=@List.append_assoc
theorem S_:type_of%@List.getElem?_eq_some_iff:=@List.getElem?_eq_some_iff
theorem T_:type_of%@List.getElem?_append_left:=@List.getElem?_append_left
theorem U':type_of%@Int.toNat_natCast:=@Int.toNat_natCast
theorem V':type_of%@List.getElem?_eq_getElem:=@List.getElem?_eq_getElem
theorem b_:type_of%@List.mem_cons:=@List.mem_cons
theorem f_:type_of%@Array.getElem?_eq_some_iff:=@Array.getElem?_eq_some_iff
theorem g_:type_of%@List.getElem?_append_right:=@List.getElem?_append_right
theorem j_:type_of%@List.length_append:=@List.length_append
theorem k_:type_of%@List.getElem?_eq_none:=@List.getElem?_eq_none
theorem m_:type_of%@Nat.le_trans:=@Nat.le_trans
theorem p_:type_of%@Nat.zero_le:=@Nat.zero_le
theorem s_:type_of%@Array.getD_eq_getD_getElem?:=@Array.getD_eq_getD_getElem?
theorem v_:type_of%@List.length_take:=@List.length_take
theorem w_:type_of%@Ne.symm:=@Ne.symm
theorem x_:type_of%@Bool.and_eq_true:=@Bool.and_eq_true
theorem z_:type_of%@Nat.zero_add:=@Nat.zero_add
theorem ZAG:type_of%@Nat.lt_irrefl:=@Nat.lt_irrefl
theorem ZAI:type_of%@Nat.mod_lt:=@Nat.mod_lt
theorem ZAJ:type_of%@Nat.mod_eq_of_lt:=@Nat.mod_eq_of_lt
theorem ZAK:type_of%@List.mem_of_getElem?:=@List.mem_of_getElem?
theorem ZAL:type_of%@Nat.not_lt_zero:=@Nat.not_lt_zero
theorem ZAR:type_of%@List.getElem_mem:=@List.getElem_mem
theorem ZAT:type_of%@List.getElem_of_mem:=@List.getElem_of_mem
theorem ZAe:type_of%@List.getElem?_take:=@List.getElem?_take
theorem ZAm:type_of%@Nat.add_zero:=@Nat.add_zero
theorem ZAp:type_of%@List.ext_getElem?:=@List.ext_getElem?
theorem ZA5:type_of%@List.all_eq_true:=@List.all_eq_true
theorem ZA8:type_of%@Nat.zero_mul:=@Nat.zero_mul
theorem ZBH:type_of%@Nat.mul_comm:=@Nat.mul_comm
theorem ZBK:type_of%@Option.getD_some:=@Option.getD_some
theorem ZBW:type_of%@List.map_cons:=@List.map_cons
theorem ZBi:type_of%@List.getElem?_drop:=@List.getElem?_drop
theorem ZBj:type_of%@List.mem_map:=@List.mem_map
theorem ZB2:type_of%@Int.le_refl:=@Int.le_refl
theorem ZB7:type_of%@Nat.sub_self:=@Nat.sub_self
theorem ZCz:type_of%@List.length_map:=@List.length_map
theorem ZDW:type_of%@Bool.not_eq_true':=@Bool.not_eq_true'
theorem C_.{u} {α:Sort u}{a b:α}(h:a=b):a=b:=h
inductive AV where
 |any
 |bool (b:Bool)
 |int (k:IntKind) (n:Int)
 |str (s:ByteArray)
 |nil
 |ptr (m:Nat) (f:Nat→AV) (off:Nat)
 |sl (n m:Nat) (f:Nat→AV) (tight:Bool)
 |ref (id ver off:Nat)
 |osl (id ver esz off n:Nat)
 |mp (id:Nat)
 |TBN
 |TCr (k:IntKind) (g:Int→Option Value)
 |agg (l:List AV)
 |tup (l:List AV)
 |fn (g:FuncId) (G_:List AV)
 |mfn (g:FuncId) (a:AV)
 |TBe
 |TB0
 |iface (t:TypeId) (v:AV)
 |yld (l:Nat)
 |TAg
instance:Inhabited AV:=⟨.any⟩
inductive AO where
 |D_
 |dead
 |row (ver n:Nat) (f:Nat→AV)
 |con (ver n:Nat) (f:Nat→AV)
 |map (k:IntKind) (g:Int→Option AV)
def AO.info:AO→Option Nat
 | .row v _ _=>some v
 | .con v _ _=>some v
 |_=>none
def AO.owned:AO→Bool
 | .row ..=>true
 | .map ..=>true
 |_=>false
structure Ctx where
 w:World
 S:Nat→Prop
 γ:Nat→Option (Nat×Nat)
 H:List AO
def inf (H:List AO)(id:Nat):Option Nat:=(H[id]?).bind AO.info
def TAe (H:List AO)(id ver:Nat):Prop:=(∃v,inf H id=some v∧ver<v)∨H[id]?=some .dead
structure TCv (k:IntKind)(g:Int→Option Value)(es:Array MapEntry):Prop where
 keys:∀e∈es.toList,∃n,e.key=.int k n
 uniq:es.toList.Pairwise fun a b=>a.key≠b.key
 hit:∀n v,g n=some v→∃e∈es.toList,e.key=.int k n∧e.val=v
 TB7:∀n,g n=none→∀e∈es.toList,e.key≠.int k n
inductive Rep (c:Ctx):Value→AV→Prop where
 |any (v:Value):Rep c v .any
 |bool (b:Bool):Rep c (.bool b) (.bool b)
 |int (k:IntKind) (n:Int):Rep c (.int k n) (.int k n)
 |str (s:ByteArray):Rep c (.string s) (.str s)
 |nil:Rep c (.pointer none) .nil
 |ptr (b base m off:Nat) (f:Nat→AV) (us:Nat→Value) (hS:c.S b) (hc:∀j,j<m→c.w.cell? ⟨b,base+j,none⟩=some (us j))
   (hr:∀j,j<m→Rep c (us j) (f j)):Rep c (.pointer (some ⟨b,base+off,none⟩)) (.ptr m f off)
 |sl (b base n m cap:Nat) (f:Nat→AV) (t:Bool) (us:Nat→Value) (hS:c.S b) (hc:∀j,j<m→c.w.cell? ⟨b,base+j,none⟩=some (us j))
   (hr:∀j,j<m→Rep c (us j) (f j)) (hn:n≤cap) (ht:t=true→cap=n):Rep c (.slice (some ⟨b,base,none⟩) n cap) (.sl n m f t)
 |slz (a:Option Addr) (cap:Nat) (f:Nat→AV) (t:Bool) (ht:t=true→cap=0):Rep c (.slice a 0 cap) (.sl 0 0 f t)
 |ref (id ver off b sz:Nat) (hi:inf c.H id=some ver) (hg:c.γ id=some (b,sz)):Rep c (.pointer (some ⟨b,off,none⟩)) (.ref id ver off)
 |TAR (id ver off:Nat) (a:Addr) (hs:TAe c.H id ver):Rep c (.pointer (some a)) (.ref id ver off)
 |osl (id ver esz off n cap b sz:Nat) (hi:inf c.H id=some ver) (hg:c.γ id=some (b,sz)) (hn:n≤cap) (TAY:off+cap*esz≤sz) (hmx:cap≤9223372036854775807) :
   Rep c (.slice (some ⟨b,off,none⟩) n cap) (.osl id ver esz off n)
 |TAh (id ver esz off:Nat) (a:Option Addr) (hi:inf c.H id=some ver):Rep c (.slice a 0 0) (.osl id ver esz off 0)
 |TAL (id ver esz off n:Nat) (a:Addr) (cap:Nat) (hn:n≤cap) (hs:TAe c.H id ver):Rep c (.slice (some a) n cap) (.osl id ver esz off n)
 |TAG (id ver esz off:Nat) (a:Option Addr) (hs:TAe c.H id ver):Rep c (.slice a 0 0) (.osl id ver esz off 0)
 |mp (id b sz:Nat) (k:IntKind) (g:Int→Option AV) (hi:c.H[id]?=some (.map k g)) (hg:c.γ id=some (b,sz)):Rep c (.map (some b)) (.mp id)
 |TCH (id:Nat) (r:Option Nat) (hi:c.H[id]?=some .dead):Rep c (.map r) (.mp id)
 |TBN:Rep c (.map none) .TBN
 |TCr (b:Nat) (k:IntKind) (g:Int→Option Value) (es:Array MapEntry) (clock:Nat) (hS:c.S b) (hh:c.w.heap[b]?=some (.map es clock)) (hm:TCv k g es):Rep c (.map (some b)) (.TCr k g)
 |agg (vs:Array Value) (l:List AV) (hl:vs.size=l.length) (hr:∀j,j<l.length→Rep c (vs.getD j undef) (l.getD j .any)):Rep c (.agg vs) (.agg l)
 |tup (vs:Array Value) (l:List AV) (hl:vs.size=l.length) (hr:∀j,j<l.length→Rep c (vs.getD j undef) (l.getD j .any)):Rep c (.tuple vs) (.tup l)
 |fn (g:FuncId) (vs:Array Value) (l:List AV) (hl:vs.size=l.length) (hr:∀j,j<l.length→Rep c (vs.getD j undef) (l.getD j .any)) :
   Rep c (.func (.func g) #[] vs) (.fn g l)
 |mfn (g:FuncId) (v:Value) (a:AV) (h:Rep c v a):Rep c (.func (.func g) #[v] #[]) (.mfn g a)
 |TBe:Rep c .nilFunc .TBe
 |TB0:Rep c .nilIface .TB0
 |iface (t:TypeId) (v:Value) (a:AV) (h:Rep c v a):Rep c (.iface t v) (.iface t a)
 |yld (l:Nat):Rep c (.func (.yield l) #[] #[]) (.yld l)
 |TAg (b:Bool):Rep c (.bool b) .TAg
def TAH (c:Ctx)(vs:Array Value)(l:List AV):Prop:=vs.size=l.length∧∀j,j<l.length→Rep c (vs.getD j undef) (l.getD j .any)
def HLe (c c':Ctx):Prop:=∀ (id:Nat) (o:AO),c.H[id]?=some o →
 match o with
 | .D_=>True
 | .dead=>c'.H[id]?=some .dead
 | .row v _ _=>c'.H[id]?=some .dead∨∃v',inf c'.H id=some v'∧(v<v'∨(v'=v∧c'.γ id=c.γ id))
 | .con v _ _=>c'.H[id]?=some .dead∨∃v',inf c'.H id=some v'∧(v<v'∨(v'=v∧c'.γ id=c.γ id))
 | .map _ _=>c'.H[id]?=some .dead∨((∃k g,c'.H[id]?=some (.map k g))∧c'.γ id=c.γ id)
theorem HLe.inf {c c':Ctx}(h:HLe c c'){id v:Nat}(hi:inf c.H id=some v) :
  c'.H[id]?=some .dead∨∃v',Ab.inf c'.H id=some v'∧(v<v'∨(v'=v∧c'.γ id=c.γ id)):=by
 unfold Ab.inf at hi;cases ho:c.H[id]? with
 |none=>simp[ho]at hi
 |some o =>
  have:=h id o ho;cases o <;> simp[ho,AO.info]at hi
  ·subst hi;exact this
  ·subst hi;exact this
theorem HLe.refl (c:Ctx):HLe c c:=by
 intro id o ho;cases o <;> simp_all[Ab.inf,AO.info]
theorem HLe.TAe {c c':Ctx}(h:HLe c c'){id ver:Nat}(hs:TAe c.H id ver):TAe c'.H id ver:=by
 rcases hs with⟨v,hi,hlt⟩ |hd
 ·rcases h.inf hi with hd | ⟨v',hi',hv⟩
  ·exact .inr hd
  ·exact .inl ⟨v',hi',by omega⟩
 ·exact .inr (h id _ hd)
theorem HLe.trans {a b c:Ctx}(h:HLe a b)(k:HLe b c):HLe a c:=by
 intro id o ho;have h1:=h id o ho;have key:∀v,(b.H[id]?=some .dead∨∃v',Ab.inf b.H id=some v'∧(v<v'∨(v'=v∧b.γ id=a.γ id))) →
   (c.H[id]?=some .dead∨∃v',Ab.inf c.H id=some v'∧(v<v'∨(v'=v∧c.γ id=a.γ id))):=by
  intro v hh;rcases hh with hd | ⟨v',hi,hv⟩
  ·exact .inl (k id _ hd)
  ·rcases k.inf hi with hd | ⟨v'',hi',hv'⟩
   ·exact .inl hd
   ·refine .inr ⟨v'',hi',?_⟩
    rcases hv with hv | ⟨rfl,hg⟩ <;> rcases hv' with hv' | ⟨rfl,hg'⟩
    ·exact .inl (by omega)
    ·exact .inl hv
    ·exact .inl hv'
    ·exact .inr ⟨rfl,hg'.trans hg⟩
 cases o with
 |D_=>trivial
 |dead=>exact k id _ h1
 |row v _ _=>exact key v h1
 |con v _ _=>exact key v h1
 |map k0 g0 =>
  rcases h1 with hd | ⟨⟨k1,g1,hm⟩,hg⟩
  ·exact .inl (k id _ hd)
  ·rcases k id _ hm with hd | ⟨hm',hg'⟩
   ·exact .inl hd
   ·exact .inr ⟨hm',hg'.trans hg⟩
theorem GO {w w':World}{b:Nat}(h:w'.heap[b]?=w.heap[b]?)(o:Nat):w'.cell? ⟨b,o,none⟩=w.cell? ⟨b,o,none⟩:=by
 simp[World.cell?,h]
theorem Rep.ext {c c':Ctx}{v:Value}{a:AV}(h:Rep c v a)(hS:∀ b,c.S b→c'.S b)(hw:∀ b,c.S b→c'.w.heap[b]?=c.w.heap[b]?)(hH:HLe c c') :
  Rep c' v a:=by
 induction h with
 |any v=>exact .any v
 |bool b=>exact .bool b
 |int k n=>exact .int k n
 |str s=>exact .str s
 |nil=>exact .nil
 |ptr b base m off f us hb hc _ ih=>exact .ptr b base m off f us (hS b hb) (fun j hj=>by rw[GO (hw b hb)];exact hc j hj) ih
 |sl b base n m cap f t us hb hc _ hn ht ih=>exact .sl b base n m cap f t us (hS b hb) (fun j hj=>by rw[GO (hw b hb)];exact hc j hj) ih hn ht
 |slz a cap f t ht=>exact .slz a cap f t ht
 |ref id ver off b sz hi hg =>
  rcases hH.inf hi with hd | ⟨v',hi',hv⟩
  ·exact .TAR _ _ _ _ (.inr hd)
  ·rcases hv with hv | ⟨rfl,hg'⟩
   ·exact .TAR _ _ _ _ (.inl ⟨v',hi',hv⟩)
   ·exact .ref id _ off b sz hi' (hg'.trans hg)
 |TAR id ver off a hs=>exact .TAR id ver off a (hH.TAe hs)
 |osl id ver esz off n cap b sz hi hg hn TAY hmx =>
  rcases hH.inf hi with hd | ⟨v',hi',hv⟩
  ·exact .TAL _ _ _ _ _ _ _ hn (.inr hd)
  ·rcases hv with hv | ⟨rfl,hg'⟩
   ·exact .TAL _ _ _ _ _ _ _ hn (.inl ⟨v',hi',hv⟩)
   ·exact .osl id _ esz off n cap b sz hi' (hg'.trans hg) hn TAY hmx
 |TAh id ver esz off a hi =>
  rcases hH.inf hi with hd | ⟨v',hi',hv⟩
  ·exact .TAG _ _ _ _ _ (.inr hd)
  ·rcases hv with hv | ⟨rfl,_⟩
   ·exact .TAG _ _ _ _ _ (.inl ⟨v',hi',hv⟩)
   ·exact .TAh id _ esz off a hi'
 |TAL id ver esz off n a cap hn hs=>exact .TAL id ver esz off n a cap hn (hH.TAe hs)
 |TAG id ver esz off a hs=>exact .TAG id ver esz off a (hH.TAe hs)
 |mp id b sz k g hi hg =>
  rcases hH id _ hi with hd | ⟨⟨k',g',hm⟩,hg'⟩
  ·exact .TCH id _ hd
  ·exact .mp id b sz k' g' hm (hg'.trans hg)
 |TCH id r hi=>exact .TCH id r (hH id _ hi)
 |TBN=>exact .TBN
 |TCr b k g es clock hb hh hm=>exact .TCr b k g es clock (hS b hb) (by rw[hw b hb];exact hh) hm
 |agg vs l hl _ ih=>exact .agg vs l hl ih
 |tup vs l hl _ ih=>exact .tup vs l hl ih
 |fn g vs l hl _ ih=>exact .fn g vs l hl ih
 |mfn g v a _ ih=>exact .mfn g v a ih
 |TBe=>exact .TBe
 |TB0=>exact .TB0
 |iface t v a _ ih=>exact .iface t v a ih
 |yld l=>exact .yld l
 |TAg b=>exact .TAg b
structure TBQ (c:Ctx)(k:IntKind)(g:Int→Option AV)(es:Array MapEntry):Prop where
 keys:∀e∈es.toList,∃n,e.key=.int k n
 uniq:es.toList.Pairwise fun a b=>a.key≠b.key
 hit:∀n a,g n=some a→∃e∈es.toList,e.key=.int k n∧Rep c e.val a
 TB7:∀n,g n=none→∀e∈es.toList,e.key≠.int k n
def Ar (c:Ctx)(b:Nat):Prop:=∃id o sz,c.H[id]?=some o∧o.owned=true∧c.γ id=some (b,sz)
structure I' (c:Ctx):Prop where
 row:∀id ver n f,c.H[id]?=some (.row ver n f)→(c.γ id=none∧n=0) ∨
  ∃b sz cs el,c.γ id=some (b,sz)∧c.w.heap[b]?=some (.cells cs el (0,0))∧cs.size=sz∧n≤sz∧¬c.S b∧∀j,j<n→Rep c (cs.getD j undef) (f j)
 con:∀id ver n f,c.H[id]?=some (.con ver n f)→(c.γ id=none∧n=0) ∨
  ∃b sz cs el fr,c.γ id=some (b,sz)∧c.w.heap[b]?=some (.cells cs el fr)∧cs.size=sz∧n≤sz∧c.S b∧∀j,j<n→Rep c (cs.getD j undef) (f j)
 map:∀id k g,c.H[id]?=some (.map k g)→∃b sz es clock,c.γ id=some (b,sz)∧c.w.heap[b]?=some (.map es clock)∧¬c.S b∧TBQ c k g es
 inj:∀id id' o o' b sz sz',c.H[id]?=some o→c.H[id']?=some o'→o.owned=true→o'.owned=true→c.γ id=some (b,sz)→c.γ id'=some (b,sz')→id=id'
 bound:∀b,c.S b→b<c.w.heap.size
structure Ext (c c':Ctx):Prop where
 hle:HLe c c'
 TAf:∀b,c.S b→c'.S b
 TA6:∀b,c'.S b→c.S b∨c.w.heap.size≤b∨Ar c b
 TAy:∀b,Ar c' b→c.w.heap.size≤b∨Ar c b
 same:∀b,b<c.w.heap.size→¬Ar c b→c'.w.heap[b]?=c.w.heap[b]?
 size:c.w.heap.size≤c'.w.heap.size
 os:c'.w.os=c.w.os
 tape:c'.w.tape=c.w.tape
 output:c'.w.output=c.w.output
theorem Ext.refl (c:Ctx):Ext c c:=⟨HLe.refl c,fun _ h=>h,fun _ h=>.inl h,fun _ h=>.inr h,fun _ _ _=>rfl,N' _,rfl,rfl,rfl⟩
theorem Ext.trans {a b c:Ctx}(h:Ext a b)(k:Ext b c):Ext a c where
 hle:=h.hle.trans k.hle
 TAf x hx:=k.TAf x (h.TAf x hx)
 TA6 x hx:=by
  rcases k.TA6 x hx with h1 |h1 |h1
  ·exact h.TA6 x h1
  ·exact .inr (.inl (m_ h.size h1))
  ·rcases h.TAy x h1 with h2 |h2
   ·exact .inr (.inl h2)
   ·exact .inr (.inr h2)
 TAy x hx:=by
  rcases k.TAy x hx with h1 |h1
  ·exact .inl (m_ h.size h1)
  ·exact h.TAy x h1
 same x hx hn:=by
  rw[k.same x (ZBX hx h.size) (fun ho=>by
    rcases h.TAy x ho with h1 |h1
    ·omega
    ·exact hn h1),h.same x hx hn]
 size:=m_ h.size k.size
 os:=k.os.trans h.os
 tape:=k.tape.trans h.tape
 output:=k.output.trans h.output
def TCw (m:Nat)(c c':Ctx):Prop:=∀ (id:Nat) (o:AO),id<m→c.H[id]?=some o →
 match o with
 | .D_=>True
 | .dead=>c'.H[id]?=some .dead
 | .row v _ _=>c'.H[id]?=some .dead∨∃v',inf c'.H id=some v'∧(v<v'∨(v'=v∧c'.γ id=c.γ id))
 | .con v _ _=>c'.H[id]?=some .dead∨∃v',inf c'.H id=some v'∧(v<v'∨(v'=v∧c'.γ id=c.γ id))
 | .map _ _=>c'.H[id]?=some .dead∨((∃k g,c'.H[id]?=some (.map k g))∧c'.γ id=c.γ id)
structure TAd (m:Nat)(c c':Ctx):Prop where
 hle:TCw m c c'
 TAf:∀b,c.S b→c'.S b
 TA6:∀b,c'.S b→c.S b∨c.w.heap.size≤b∨Ar c b
 TAy:∀b,Ar c' b→c.w.heap.size≤b∨Ar c b
 same:∀b,b<c.w.heap.size→¬Ar c b→c'.w.heap[b]?=c.w.heap[b]?
 size:c.w.heap.size≤c'.w.heap.size
 os:c'.w.os=c.w.os
 tape:c'.w.tape=c.w.tape
 output:c'.w.output=c.w.output
theorem Ext.toB {c c':Ctx}(h:Ext c c')(m:Nat):TAd m c c':=⟨fun id o _ ho=>h.hle id o ho,h.TAf,h.TA6,h.TAy,h.same,h.size,h.os,h.tape,h.output⟩
theorem TAd.TCI {m:Nat}{c c':Ctx}(h:TAd m c c')(hm:c.H.length≤m):Ext c c' :=
 ⟨fun id o ho=>h.hle id o (ZBX (S_.1 ho).1 hm) ho,h.TAf,h.TA6,h.TAy,h.same,h.size,h.os,h.tape,h.output⟩
theorem TCw.trans {m:Nat}{a b c:Ctx}(h:TCw m a b)(k:TCw m b c):TCw m a c:=by
 intro id o hm ho;have h1:=h id o hm ho;have TE9:∀v,Ab.inf b.H id=some v→(c.H[id]?=some .dead∨∃v',Ab.inf c.H id=some v'∧(v<v'∨(v'=v∧c.γ id=b.γ id))):=by
  intro v hi;unfold Ab.inf at hi;cases hb:b.H[id]? with
  |none=>simp[hb]at hi
  |some o' =>
   have:=k id o' hm hb;cases o' <;> simp[hb,AO.info]at hi
   ·subst hi;exact this
   ·subst hi;exact this
 have key:∀v,(b.H[id]?=some .dead∨∃v',Ab.inf b.H id=some v'∧(v<v'∨(v'=v∧b.γ id=a.γ id))) →
   (c.H[id]?=some .dead∨∃v',Ab.inf c.H id=some v'∧(v<v'∨(v'=v∧c.γ id=a.γ id))):=by
  intro v hh;rcases hh with hd | ⟨v',hi,hv⟩
  ·exact .inl (k id _ hm hd)
  ·rcases TE9 v' hi with hd | ⟨v'',hi',hv'⟩
   ·exact .inl hd
   ·refine .inr ⟨v'',hi',?_⟩
    rcases hv with hv | ⟨rfl,hg⟩ <;> rcases hv' with hv' | ⟨rfl,hg'⟩
    ·exact .inl (by omega)
    ·exact .inl hv
    ·exact .inl hv'
    ·exact .inr ⟨rfl,hg'.trans hg⟩
 cases o with
 |D_=>trivial
 |dead=>exact k id _ hm h1
 |row v _ _=>exact key v h1
 |con v _ _=>exact key v h1
 |map k0 g0 =>
  rcases h1 with hd | ⟨⟨k1,g1,hmm⟩,hg⟩
  ·exact .inl (k id _ hm hd)
  ·rcases k id _ hm hmm with hd | ⟨hm',hg'⟩
   ·exact .inl hd
   ·exact .inr ⟨hm',hg'.trans hg⟩
theorem TAd.trans {m:Nat}{a b c:Ctx}(h:TAd m a b)(k:TAd m b c):TAd m a c where
 hle:=h.hle.trans k.hle
 TAf x hx:=k.TAf x (h.TAf x hx)
 TA6 x hx:=by
  rcases k.TA6 x hx with h1 |h1 |h1
  ·exact h.TA6 x h1
  ·exact .inr (.inl (m_ h.size h1))
  ·rcases h.TAy x h1 with h2 |h2
   ·exact .inr (.inl h2)
   ·exact .inr (.inr h2)
 TAy x hx:=by
  rcases k.TAy x hx with h1 |h1
  ·exact .inl (m_ h.size h1)
  ·exact h.TAy x h1
 same x hx hn:=by
  rw[k.same x (ZBX hx h.size) (fun ho=>by
    rcases h.TAy x ho with h1 |h1
    ·omega
    ·exact hn h1),h.same x hx hn]
 size:=m_ h.size k.size
 os:=k.os.trans h.os
 tape:=k.tape.trans h.tape
 output:=k.output.trans h.output
theorem I'.TBX {c:Ctx}(h:I' c){b:Nat}(hS:c.S b):¬Ar c b:=by
 rintro⟨id,o,sz,ho,TAP,hg⟩;cases o with
 |row v n f =>
  rcases h.row id v n f ho with⟨hn,_⟩ | ⟨b',sz',cs,el,hg',_,_,_,hnS,_⟩
  ·rw[hn]at hg;cases hg
  ·rw[hg']at hg;cases hg;exact hnS hS
 |map k g =>
  obtain⟨b',sz',es,cl,hg',_,hnS,_⟩:=h.map id k g ho;rw[hg']at hg;cases hg;exact hnS hS
 |_=>simp[AO.owned]at TAP
theorem I'.TBH {c:Ctx}(h:I' c){b:Nat}(ho:Ar c b):b<c.w.heap.size:=by
 obtain⟨id,o,sz,ho,TAP,hg⟩:=ho;cases o with
 |row v n f =>
  rcases h.row id v n f ho with⟨hn,_⟩ | ⟨b',sz',cs,el,hg',hh,_⟩
  ·rw[hn]at hg;cases hg
  ·rw[hg']at hg;cases hg;exact(f_.1 hh).1
 |map k g =>
  obtain⟨b',sz',es,cl,hg',hh,_⟩:=h.map id k g ho;rw[hg']at hg;cases hg;exact(f_.1 hh).1
 |_=>simp[AO.owned]at TAP
theorem Ext.rep {c c':Ctx}(h:Ext c c')(hr:I' c){v:Value}{a:AV}(hv:Rep c v a):Rep c' v a :=
 hv.ext h.TAf (fun b hb=>h.same b (hr.bound b hb) (hr.TBX hb)) h.hle
def Ctx.bare (w:World)(S:Nat→Prop):Ctx:=⟨w,S,fun _=>none,[]⟩
theorem dT {w:World}{S:Nat→Prop}(h:∀b,S b→b<w.heap.size):I' (.bare w S) :=
  ⟨fun _ _ _ _ h=>by simp[Ctx.bare]at h,fun _ _ _ _ h=>by simp[Ctx.bare]at h,fun _ _ _ h=>by simp[Ctx.bare]at h,
   fun _ _ _ _ _ _ _ h=>by simp[Ctx.bare]at h,h⟩
theorem Dt {w:World}{S:Nat→Prop}{b:Nat}:¬Ar (.bare w S) b:=by
 rintro⟨id,o,sz,h,_⟩;simp[Ctx.bare]at h
theorem TBQ.ext {c c':Ctx}{k:IntKind}{g:Int→Option AV}{es:Array MapEntry}(h:TBQ c k g es)(he:∀v a,Rep c v a→Rep c' v a):TBQ c' k g es :=
 ⟨h.keys,h.uniq,fun n a hn=>let ⟨e,hm,hk,hr⟩:=h.hit n a hn; ⟨e,hm,hk,he _ _ hr⟩,h.TB7⟩
def xM (c c':Ctx)(id ver:Nat):Prop :=
 c.H[id]?=none∨c.H[id]?=some .D_∨(∃v0,inf c.H id=some v0∧(v0<ver∨(v0=ver∧c'.γ id=c.γ id)))
theorem A0 {c c':Ctx}(hr:I' c){id ver n b sz:Nat}{f:Nat→AV}{cs:Array Value}{el:TypeId}
  (hid:c'.H[id]?=some (.row ver n f)) (hH:∀i,i≠id→c'.H[i]?=c.H[i]?) (hS:c'.S=c.S)
  (hg:c'.γ id=some (b,sz)) (hγ:∀i,i≠id→c'.γ i=c.γ i)
  (hb:c'.w.heap[b]?=some (.cells cs el (0,0))) (hsz:cs.size=sz) (hn:n≤sz)
  (hw:∀b',b'≠b→b'<c.w.heap.size→c'.w.heap[b']?=c.w.heap[b']?) (TBi:c.w.heap.size≤c'.w.heap.size)
  (hos:c'.w.os=c.w.os) (TCJ:c'.w.tape=c.w.tape) (TBj:c'.w.output=c.w.output)
  (TA7:c.w.heap.size≤b∨∃o sz',c.H[id]?=some o∧o.owned=true∧c.γ id=some (b,sz'))
  (TBk:xM c c' id ver)
  (TA8:∀j,j<n→Rep c (cs.getD j undef) (f j)):I' c'∧Ext c c':=by
 have TAP:∀ {x},x<c.w.heap.size→¬Ar c x→x≠b:=by
  rintro x hx hno rfl;rcases TA7 with h | ⟨o,sz',h1,h2,h3⟩
  ·omega
  ·exact hno ⟨id,o,sz',h1,h2,h3⟩
 have J':Ext c c':=by
  refine⟨?_,fun x hx=>by rw[hS];exact hx,fun x hx=>by rw[hS]at hx;exact .inl hx,?_,fun x hx hno=>hw x (TAP hx hno) hx,TBi,hos,TCJ,TBj⟩
  ·intro i o ho
   by_cases hi:i=id
   ·subst hi
    rcases TBk with h |h | ⟨v0,hi0,hv⟩
    ·rw[h]at ho;cases ho
    ·rw[h]at ho;cases ho;trivial
    ·have J_:inf c'.H i=some ver:=by simp[inf,hid,AO.info]
     unfold inf at hi0;rw[ho]at hi0;cases o <;> simp[AO.info]at hi0
     ·subst hi0;exact .inr ⟨ver,J_,hv.imp id fun⟨a,b⟩=>⟨a.symm,b⟩⟩
     ·subst hi0;exact .inr ⟨ver,J_,hv.imp id fun⟨a,b⟩=>⟨a.symm,b⟩⟩
   ·have h1:=HLe.refl c i o ho
    have e1:=hH i hi;have e2:=hγ i hi;cases o with
    |D_=>trivial
    |dead=>simpa [e1]using h1
    |row v _ _=>simpa [e1,e2,inf]using h1
    |con v _ _=>simpa [e1,e2,inf]using h1
    |map k g=>simpa [e1,e2]using h1
  ·rintro x ⟨i,o,s,ho,TBB,hgi⟩
   by_cases hi:i=id
   ·subst hi
    rw[hg]at hgi;cases hgi;rcases TA7 with h | ⟨o',sz',h1,h2,h3⟩
    ·exact .inl h
    ·exact .inr ⟨i,o',sz',h1,h2,h3⟩
   ·rw[hH i hi]at ho;rw[hγ i hi]at hgi
    exact .inr ⟨i,o,s,ho,TBB,hgi⟩
 refine⟨?_,J'⟩;have hne:∀ {i o x s},i≠id→c.H[i]?=some o→o.owned=true→c.γ i=some (x,s)→x<c.w.heap.size→x≠b:=by
  rintro i o x s hi ho TBB hgi hlt rfl;rcases TA7 with h | ⟨o',sz',h1,h2,h3⟩
  ·omega
  ·exact hi (hr.inj _ _ _ _ _ _ _ ho h1 TBB h2 hgi h3)
 refine⟨?_,?_,?_,?_,fun x hx=>by rw[hS]at hx;exact ZBX (hr.bound x hx) TBi⟩
 ·intro i v m g ho
  by_cases hi:i=id
  ·subst hi
   rw[hid]at ho;cases ho;refine .inr ⟨b,sz,cs,el,hg,hb,hsz,hn,?_,fun j hj=>J'.rep hr (TA8 j hj)⟩;rw[hS];intro hSb;rcases TA7 with h | ⟨o',sz',h1,h2,h3⟩
   ·have:=hr.bound b hSb;omega
   ·exact hr.TBX hSb ⟨i,o',sz',h1,h2,h3⟩
  ·rw[hH i hi]at ho
   rw[hγ i hi,hS];rcases hr.row i v m g ho with h | ⟨b',sz',cs',el',h1,h2,h3,h4,h5,h6⟩
   ·exact .inl h
   ·have hlt:=(f_.1 h2).1
    exact .inr ⟨b',sz',cs',el',h1,by rw[hw b' (hne hi ho rfl h1 hlt) hlt];exact h2,h3,h4,h5,fun j hj=>J'.rep hr (h6 j hj)⟩
 ·intro i v m g ho
  by_cases hi:i=id
  ·subst hi;rw[hid]at ho;cases ho
  ·rw[hH i hi]at ho
   rw[hγ i hi,hS];rcases hr.con i v m g ho with h | ⟨b',sz',cs',el',fr,h1,h2,h3,h4,h5,h6⟩
   ·exact .inl h
   ·have hlt:=(f_.1 h2).1
    exact .inr ⟨b',sz',cs',el',fr,h1,by rw[hw b' (TAP hlt (hr.TBX h5)) hlt];exact h2,h3,h4,h5,fun j hj=>J'.rep hr (h6 j hj)⟩
 ·intro i k g ho
  by_cases hi:i=id
  ·subst hi;rw[hid]at ho;cases ho
  ·rw[hH i hi]at ho
   rw[hγ i hi,hS];obtain⟨b',sz',es,cl,h1,h2,h3,h4⟩:=hr.map i k g ho;have hlt:=(f_.1 h2).1;exact⟨b',sz',es,cl,h1,by rw[hw b' (hne hi ho rfl h1 hlt) hlt];exact h2,h3,h4.ext fun v a hv=>J'.rep hr hv⟩
 ·intro i i' o o' x s s' ho ho' TBl TBm hgi TBO
  by_cases hi:i=id <;> by_cases hi':i'=id
  ·rw[hi,hi']
  ·subst hi
   rw[hg]at hgi;cases hgi;rw[hH i' hi']at ho';rw[hγ i' hi']at TBO;exact absurd rfl (hne hi' ho' TBm TBO (hr.TBH ⟨i',o',s',ho',TBm,TBO⟩))
  ·subst hi'
   rw[hg]at TBO;cases TBO;rw[hH i hi]at ho;rw[hγ i hi]at hgi;exact absurd rfl (hne hi ho TBl hgi (hr.TBH ⟨i,o,s,ho,TBl,hgi⟩))
  ·rw[hH i hi]at ho;rw[hγ i hi]at hgi;rw[hH i' hi']at ho';rw[hγ i' hi']at TBO
   exact hr.inj _ _ _ _ _ _ _ ho ho' TBl TBm hgi TBO
theorem aU {c c':Ctx}(hr:I' c){id b sz:Nat}{k:IntKind}{g:Int→Option AV}{es:Array MapEntry}{clock:Nat}
  (hid:c'.H[id]?=some (.map k g)) (hH:∀i,i≠id→c'.H[i]?=c.H[i]?) (hS:c'.S=c.S)
  (hg:c'.γ id=some (b,sz)) (hγ:∀i,i≠id→c'.γ i=c.γ i)
  (hb:c'.w.heap[b]?=some (.map es clock))
  (hw:∀b',b'≠b→b'<c.w.heap.size→c'.w.heap[b']?=c.w.heap[b']?) (TBi:c.w.heap.size≤c'.w.heap.size)
  (hos:c'.w.os=c.w.os) (TCJ:c'.w.tape=c.w.tape) (TBj:c'.w.output=c.w.output)
  (TA7:c.w.heap.size≤b∨∃o sz',c.H[id]?=some o∧o.owned=true∧c.γ id=some (b,sz'))
  (TBk:c.H[id]?=none∨c.H[id]?=some .D_∨((∃k0 g0,c.H[id]?=some (.map k0 g0))∧c'.γ id=c.γ id))
  (hok:TBQ c k g es):I' c'∧Ext c c':=by
 have TAP:∀ {x},x<c.w.heap.size→¬Ar c x→x≠b:=by
  rintro x hx hno rfl;rcases TA7 with h | ⟨o,sz',h1,h2,h3⟩
  ·omega
  ·exact hno ⟨id,o,sz',h1,h2,h3⟩
 have J':Ext c c':=by
  refine⟨?_,fun x hx=>by rw[hS];exact hx,fun x hx=>by rw[hS]at hx;exact .inl hx,?_,fun x hx hno=>hw x (TAP hx hno) hx,TBi,hos,TCJ,TBj⟩
  ·intro i o ho
   by_cases hi:i=id
   ·subst hi
    rcases TBk with h |h | ⟨⟨k0,g0,h⟩,hγ0⟩
    ·rw[h]at ho;cases ho
    ·rw[h]at ho;cases ho;trivial
    ·rw[h]at ho;cases ho
     exact .inr ⟨⟨k,g,hid⟩,hγ0⟩
   ·have h1:=HLe.refl c i o ho
    have e1:=hH i hi;have e2:=hγ i hi;cases o with
    |D_=>trivial
    |dead=>simpa [e1]using h1
    |row v _ _=>simpa [e1,e2,inf]using h1
    |con v _ _=>simpa [e1,e2,inf]using h1
    |map k g=>simpa [e1,e2]using h1
  ·rintro x ⟨i,o,s,ho,TBB,hgi⟩
   by_cases hi:i=id
   ·subst hi
    rw[hg]at hgi;cases hgi;rcases TA7 with h | ⟨o',sz',h1,h2,h3⟩
    ·exact .inl h
    ·exact .inr ⟨i,o',sz',h1,h2,h3⟩
   ·rw[hH i hi]at ho;rw[hγ i hi]at hgi
    exact .inr ⟨i,o,s,ho,TBB,hgi⟩
 refine⟨?_,J'⟩;have hne:∀ {i o x s},i≠id→c.H[i]?=some o→o.owned=true→c.γ i=some (x,s)→x<c.w.heap.size→x≠b:=by
  rintro i o x s hi ho TBB hgi hlt rfl;rcases TA7 with h | ⟨o',sz',h1,h2,h3⟩
  ·omega
  ·exact hi (hr.inj _ _ _ _ _ _ _ ho h1 TBB h2 hgi h3)
 refine⟨?_,?_,?_,?_,fun x hx=>by rw[hS]at hx;exact ZBX (hr.bound x hx) TBi⟩
 ·intro i v m g ho
  by_cases hi:i=id
  ·subst hi
   rw[hid]at ho;cases ho
  ·rw[hH i hi]at ho
   rw[hγ i hi,hS];rcases hr.row i v m g ho with h | ⟨b',sz',cs',el',h1,h2,h3,h4,h5,h6⟩
   ·exact .inl h
   ·have hlt:=(f_.1 h2).1
    exact .inr ⟨b',sz',cs',el',h1,by rw[hw b' (hne hi ho rfl h1 hlt) hlt];exact h2,h3,h4,h5,fun j hj=>J'.rep hr (h6 j hj)⟩
 ·intro i v m g ho
  by_cases hi:i=id
  ·subst hi;rw[hid]at ho;cases ho
  ·rw[hH i hi]at ho
   rw[hγ i hi,hS];rcases hr.con i v m g ho with h | ⟨b',sz',cs',el',fr,h1,h2,h3,h4,h5,h6⟩
   ·exact .inl h
   ·have hlt:=(f_.1 h2).1
    exact .inr ⟨b',sz',cs',el',fr,h1,by rw[hw b' (TAP hlt (hr.TBX h5)) hlt];exact h2,h3,h4,h5,fun j hj=>J'.rep hr (h6 j hj)⟩
 ·intro i k' g' ho
  by_cases hi:i=id
  ·subst hi;rw[hid]at ho;cases ho
   refine⟨b,sz,es,clock,hg,hb,?_,hok.ext fun v a hv=>J'.rep hr hv⟩;rw[hS];intro hSb;rcases TA7 with h | ⟨o',sz',h1,h2,h3⟩
   ·have:=hr.bound b hSb;omega
   ·exact hr.TBX hSb ⟨i,o',sz',h1,h2,h3⟩
  ·rw[hH i hi]at ho
   rw[hγ i hi,hS];obtain⟨b',sz',es',cl,h1,h2,h3,h4⟩:=hr.map i k' g' ho;have hlt:=(f_.1 h2).1;exact⟨b',sz',es',cl,h1,by rw[hw b' (hne hi ho rfl h1 hlt) hlt];exact h2,h3,h4.ext fun v a hv=>J'.rep hr hv⟩
 ·intro i i' o o' x s s' ho ho' TBl TBm hgi TBO
  by_cases hi:i=id <;> by_cases hi':i'=id
  ·rw[hi,hi']
  ·subst hi
   rw[hg]at hgi;cases hgi;rw[hH i' hi']at ho';rw[hγ i' hi']at TBO;exact absurd rfl (hne hi' ho' TBm TBO (hr.TBH ⟨i',o',s',ho',TBm,TBO⟩))
  ·subst hi'
   rw[hg]at TBO;cases TBO;rw[hH i hi]at ho;rw[hγ i hi]at hgi;exact absurd rfl (hne hi ho TBl hgi (hr.TBH ⟨i,o,s,ho,TBl,hgi⟩))
  ·rw[hH i hi]at ho;rw[hγ i hi]at hgi;rw[hH i' hi']at ho';rw[hγ i' hi']at TBO
   exact hr.inj _ _ _ _ _ _ _ ho ho' TBl TBm hgi TBO
end Go.Ab
namespace Go.Ab
open Go Go.RowKit
noncomputable section
def Zn (P:Program)(t:TypeId):Option Nat:=(P.info? t).map (·.size)
def iJ:TypeDesc→Bool
 | .struct _=>true
 | .array _ _=>true
 |_=>false
def Cy (P:Program)(t:TypeId):Option (Option Nat) :=
 match P.underlying t,P.info? t with
 |some d,some i=>some (if iJ d then some i.size else none)
 |_,_=>none
theorem Iz {P:Program}{t:TypeId}{d:TypeDesc}(h:P.underlying t=some d)(w:World):(isAgg t).run P w=.ok (iJ d) w:=by
 simp only[isAgg,ZAv,run_underlying h,ZAa];cases d <;> rfl
def AL (P:Program)(t:TypeId):Option (TypeId×Nat×Nat) :=
 match P.underlying t with
 |some (.slice e)=>match P.info? e with
  |some i=>match i.zero with
   |some z=>if z.cells.size=i.size∧0<i.size then some (e,i.size,i.bytes)else none
   |none=>none
  |none=>none
 |_=>none
def C9 (P:Program)(t:TypeId)(i:Nat):Option (Nat×Nat×Option Nat) :=
 match P.underlying t with
 |some (.struct fs)=>match fs[i]? with
  |some f=>match P.info? f.type,Cy P f.type with
   |some inf,some k=>if inf.size=0 then none else some (f.offset,inf.size,k)
   |_,_=>none
  |none=>none
 |_=>none
def gD (P:Program)(t:TypeId):Option (Nat×Nat×Option Nat) :=
 match P.underlying t with
 |some (.array n e)=>match P.info? e,Cy P e with
  |some inf,some k=>some (n,inf.size,k)
  |_,_=>none
 |_=>none
def VS (P:Program)(t:TypeId):Option IntKind:=match P.underlying t with |some (.int k)=>some k |_=>none
def fx (P:Program)(t:TypeId):Bool:=match P.underlying t with |some (.pointer _)=>true |_=>false
def Mk (P:Program)(t:TypeId):Bool:=match P.underlying t with |some .bool=>true |_=>false
def lK (P:Program)(t:TypeId):Option (TypeId×TypeId):=match P.underlying t with |some (.map k e)=>some (k,e) |_=>none
def K3:Value→AV
 | .bool b=>.bool b
 | .int k n=>.int k n
 | .string s=>.str s
 | .pointer none=>.nil
 | .slice none 0 0=>.sl 0 0 (fun _=>.any) true
 | .map none=>.TBN
 | .nilFunc=>.TBe
 | .nilIface=>.TB0
 |_=>.any
def Ou:Value→AV
 | .agg cs=>.agg (cs.toList.map K3)
 |v=>K3 v
theorem At (c:Ctx)(v:Value):Rep c v (K3 v):=by
 unfold K3
 split
 ·exact .bool _
 ·exact .int _ _
 ·exact .str _
 ·exact .nil
 ·exact .slz _ _ _ _ (fun _=>rfl)
 ·exact .TBN
 ·exact .TBe
 ·exact .TB0
 ·exact .any _
theorem Iw (c:Ctx)(cs:Array Value)(f:Value→AV)(h:∀v,Rep c v (f v)):∀j,j<(cs.toList.map f).length→Rep c (cs.getD j undef) ((cs.toList.map f).getD j .any):=by
 intro j hj;have hj':j<cs.size:=by simpa using hj
 have e1:cs.getD j undef=cs[j]:=by simp[ZAV,hj']
 have e2:(cs.toList.map f).getD j .any=f cs[j]:=by simp[List.getD,hj']
 rw[e1,e2];exact h _
theorem au (c:Ctx)(v:Value):Rep c v (Ou v):=by
 unfold Ou
 split
 ·exact .agg _ _ (by simp) (Iw c _ K3 (At c))
 ·exact At c _
def Qh (P:Program)(t:TypeId):Option (List AV):=((P.info? t).bind (·.zero)).map fun z=>z.cells.toList.map K3
def oq (P:Program)(t:TypeId):Option AV:=((P.info? t).bind (·.zero)).map Ou
def Qf {α:Type}(p:Prop)(x:Option α):Option α:=@ite _ p (Classical.propDecidable p) x none
def Q2 {α:Type}(o:Option α)(K:α→Prop):Prop:=∃x,o=some x∧K x
theorem Xg {α:Type}{p:Prop}{x:Option α}{y:α}(h:Qf p x=some y):p∧x=some y:=by
 unfold Qf at h;by_cases hp:p
 ·rw[N_ hp]at h;exact⟨hp,h⟩
 ·rw[M_ hp]at h;cases h
@[simp] theorem TAv {α:Type}(x:α)(K:α→Prop):Q2 (some x) K=K x:=by simp[Q2]
@[simp] theorem TCT {α:Type}(K:α→Prop):Q2 (none:Option α) K=False:=by simp[Q2]
@[simp] theorem TA1 {α:Type}(p:Prop)(x:Option α)(K:α→Prop):Q2 (Qf p x) K=(p∧Q2 x K):=by
 unfold Qf Q2;by_cases hp:p <;> simp[hp]
def Xf (l:List AV):Nat→AV:=fun j=>l.getD j .any
def De (f:Nat→AV)(i:Nat)(v:AV):Nat→AV:=fun j=>if j=i then v else f j
def DE (f:Nat→AV):Nat→List AV→Nat→AV
 |_,[]=>f
 |i,v :: l=>DE (De f i v) (i+1) l
def QL (f:Nat→AV)(off:Nat):Nat→Nat→List AV
 |_,0=>[]
 |j,n+1=>f (off+j) :: QL f off (j+1) n
def rd (k:Option Nat)(m:Nat)(f:Nat→AV)(off:Nat):Option AV :=
 match k with
 |none=>Qf (off<m) (some (f off))
 |some n=>Qf (off+n≤m) (some (.agg (QL f off 0 n)))
def AV.one:AV→Bool
 | .any=>false
 | .agg _=>false
 | .tup _=>false
 |_=>true
def AV.cells:AV→List AV
 | .agg l=>l
 |a=>[a]
def AV.loose:AV→AV
 | .sl n m f _=>.sl n m f false
 |a=>a
theorem Rep.loose {c:Ctx}{v:Value}{a:AV}(h:Rep c v a):Rep c v a.loose:=by
 cases a with
 |sl n m f t =>
  cases h with
  |sl _ _ _ _ _ _ _ _ h1 h2 h3 h4 _=>exact .sl _ _ _ _ _ _ _ _ h1 h2 h3 h4 (by simp)
  |slz=>exact .slz _ _ _ _ (by simp)
 |_=>exact h
def AV.boxed:AV→AV
 | .sl n m f t=>.sl n m f (t && n == 0)
 |a=>a
theorem Rep.boxed {c:Ctx}{v:Value}{a:AV}(h:Rep c v a):Rep c v a.boxed:=by
 cases a with
 |sl n m f t =>
  cases h with
  |sl _ _ _ _ _ _ _ _ h1 h2 h3 h4 h5=>exact .sl _ _ _ _ _ _ _ _ h1 h2 h3 h4 (fun e=>h5 (by cases t <;> simp_all))
  |slz _ _ _ _ h5=>exact .slz _ _ _ _ (fun e=>h5 (by cases t <;> simp_all))
 |_=>exact h
theorem Rep.one {c:Ctx}{v:Value}{a:AV}(h:Rep c v a)(h1:a.one=true):v.oneCell'=true:=by
 cases h <;> first |rfl |simp[AV.one]at h1
theorem Bf (f:Nat→AV)(off:Nat):∀n j,(QL f off j n).length=n
 |0,_=>rfl
 |n+1,j=>by simp[QL,Bf f off n]
theorem EN (f:Nat→AV)(off:Nat):∀n j i,i<n→(QL f off j n).getD i .any=f (off+j+i)
 |n+1,j,0,_=>by simp[QL]
 |n+1,j,i+1,h=>by
  simp only[QL,ZCj];rw[EN f off n (j+1) i (by omega)];congr 1;omega
theorem BW (l:List AV):∀ (f:Nat→AV) (i j:Nat),DE f i l j=if i≤j∧j<i+l.length then l.getD (j-i) .any else f j:=by
 induction l with
 |nil=>intro f i j;rw[DE,M_ (by simp)]
 |cons v l ih =>
  intro f i j;rw[DE,ih];by_cases h1:i+1≤j∧j<i+1+l.length
  ·rw[N_ h1,N_ (by simp;omega)]
   obtain⟨d,rfl⟩:∃d,j=i+1+d:=⟨j-(i+1),by omega⟩
   rw[show i+1+d-(i+1)=d by omega,show i+1+d-i=d+1 by omega,ZCj]
  ·rw[M_ h1,De]
   by_cases h2:j=i
   ·subst h2;simp
   ·rw[M_ h2,M_ (by simp;omega)]
def TBY (c:Ctx)(run:Result Next)(v:AV)(h':List AO):Prop :=
 ∃x w' S' γ',(run=.ok (.value x) w'∨(run=.ok .skip w'∧x=undef))∧Rep ⟨w',S',γ',h'⟩ x v∧I' ⟨w',S',γ',h'⟩∧Ext c ⟨w',S',γ',h'⟩
theorem TBY.same {c:Ctx}(hr:I' c){run:Result Next}{x:Value}{v:AV}(h:run=.ok (.value x) c.w) (hv:Rep c x v):TBY c run v c.H :=
 ⟨x,c.w,c.S,c.γ,.inl h,hv,hr,Ext.refl c⟩
def QN (nid:Option Nat)(h:List AO):Nat:=nid.getD h.length
def KL (nid:Option Nat)(h:List AO)(o:AO):List AO:=match nid with |none=>h ++ [o] |some id=>h.set id o
def K2 (γ:Nat→Option (Nat×Nat)) (id:Nat) (x:Option (Nat×Nat)):Nat→Option (Nat×Nat):=fun i=>if i=id then x else γ i
theorem Hg {nid:Option Nat}{h:List AO}{o:AO}(hn:∀id,nid=some id→h[id]?=some .D_):(KL nid h o)[QN nid h]?=some o:=by
 cases nid with
 |none=>simp[KL,QN]
 |some id =>
  have:=hn id rfl;have hlt:id<h.length:=(S_.1 this).1;simp[KL,QN,hlt]
theorem AA {nid:Option Nat}{h:List AO}{o:AO}(i:Nat)(hi:i≠QN nid h):(KL nid h o)[i]?=h[i]?:=by
 cases nid with
 |none =>
  simp only[KL,QN,Option.getD_none]at *;rw[List.getElem?_append]
  split
  ·rfl
  ·rename_i hlt
   rw[k_ (by simp;omega),k_ (by omega)]
 |some id =>
  simp only[KL,QN,ZBK]at *;rw[ZCB];rw[M_ (fun e=>hi e.symm)]
theorem eX {nid:Option Nat}{c:Ctx}(hn:∀ id,nid=some id→c.H[id]?=some .D_)(c':Ctx)(ver:Nat):xM c c' (QN nid c.H) ver:=by
 cases nid with
 |none=>exact .inl (by simp[QN])
 |some id=>exact .inr (.inl (by simpa [QN]using hn id rfl))
theorem Rq {c:Ctx}(hr:I' c){nid:Option Nat}(TAj:∀ id,nid=some id→c.H[id]?=some .D_)(cs:Array Value)(el:TypeId)(n:Nat)(f:Nat→AV)
  (hn:n≤cs.size) (hc:∀j,j<n→Rep c (cs.getD j undef) (f j)) (w:World) (hw:w.heap=c.w.heap.push (.cells cs el)) (hos:w.os=c.w.os) (ht:w.tape=c.w.tape) (ho:w.output=c.w.output) :
  let c':Ctx:=⟨w,c.S,K2 c.γ (QN nid c.H) (some (c.w.heap.size,cs.size)),KL nid c.H (.row 0 n f)⟩
  I' c'∧Ext c c':=by
 intro c';refine A0 (c:=c) (c':=c') hr (id:=QN nid c.H) (ver:=0) (n:=n) (b:=c.w.heap.size) (sz:=cs.size) (f:=f) (cs:=cs) (el:=el)
  (Hg TAj) (fun i hi=>AA i hi) rfl (by simp[c',K2]) (fun i hi=>by simp[c',K2,hi]) (by simp[c',hw]) rfl hn ?_ (by simp[c',hw]) hos ht ho (.inl (N' _))
  (eX TAj c' 0) hc
 intro b' hb hlt;simp only[c',hw,ZDs,M_ (Nat.ne_of_lt hlt)]
theorem To {c:Ctx}(hr:I' c)(cs:Array Value)(el:TypeId)(w:World)(hw:w.heap=c.w.heap.push (.cells cs el)) (hos:w.os=c.w.os) (ht:w.tape=c.w.tape) (ho:w.output=c.w.output) :
  let c':Ctx:=⟨w,fun b=>c.S b∨b=c.w.heap.size,c.γ,c.H⟩
  I' c'∧Ext c c':=by
 intro c';have hold:∀b,b<c.w.heap.size→c'.w.heap[b]?=c.w.heap[b]?:=fun b hb=>by
  simp only[c',hw,ZDs,M_ (Nat.ne_of_lt hb)]
 have J':Ext c c':=⟨HLe.refl c,fun b h=>.inl h,fun b h=>h.elim .inl (fun e=>.inr (.inl (by omega))),fun b h=>.inr h,fun b hb _=>hold b hb,by simp[c',hw],hos,ht,ho⟩
 refine⟨⟨?_,?_,?_,hr.inj,?_⟩,J'⟩
 ·intro id v n f h
  rcases hr.row id v n f h with h | ⟨b,sz,cs,el,h1,h2,h3,h4,h5,h6⟩
  ·exact .inl h
  ·have hlt:=(f_.1 h2).1
   exact .inr ⟨b,sz,cs,el,h1,by rw[hold b hlt];exact h2,h3,h4,fun hs=>hs.elim h5 (fun e=>by omega),fun j hj=>J'.rep hr (h6 j hj)⟩
 ·intro id v n f h
  rcases hr.con id v n f h with h | ⟨b,sz,cs,el,fr,h1,h2,h3,h4,h5,h6⟩
  ·exact .inl h
  ·have hlt:=(f_.1 h2).1
   exact .inr ⟨b,sz,cs,el,fr,h1,by rw[hold b hlt];exact h2,h3,h4,.inl h5,fun j hj=>J'.rep hr (h6 j hj)⟩
 ·intro id k g h
  obtain⟨b,sz,es,cl,h1,h2,h3,h4⟩:=hr.map id k g h;have hlt:=(f_.1 h2).1;exact⟨b,sz,es,cl,h1,by rw[hold b hlt];exact h2,fun hs=>hs.elim h3 (fun e=>by omega),h4.ext fun v a hv=>J'.rep hr hv⟩
 ·intro b hb
  have:c'.w.heap.size=c.w.heap.size+1:=by simp[c',hw]
  rcases hb with hb |hb
  ·have:=hr.bound b hb;omega
  ·omega
def zy (k:Option Nat)(us:Nat→Value)(off:Nat):Value :=
 match k with
 |none=>us off
 |some n=>.agg ((ZAO n).map fun j=>us (off+j)).toArray
theorem Lb {P:Program}{t:TypeId}{k:Option Nat}(hk:Cy P t=some k){w:World}{b o m:Nat}{us:Nat→Value}(hc:∀j,j<m→w.cell? ⟨b,o+j,none⟩=some (us j))
  {off:Nat} (TCU:off+k.getD 1≤m):(loadVar t ⟨b,o+off,none⟩).run P w=.ok (zy k us off) w:=by
 unfold Cy at hk;have key:∀n,(off+n≤m)→(loadCells ⟨b,o+off,none⟩ n).run P w=.ok ((ZAO n).map fun j=>us (off+j)).toArray w:=by
  intro n hn;refine run_loadCells w _ n _ fun j hj=>?_
  have:(⟨b,o+off,none⟩:Addr).add j=⟨b,o+(off+j),none⟩:=by rw[ZAg,ZCL]
  rw[this];exact hc _ (by omega)
 split at hk
 ·rename_i d i hu hi
  cases hk;have TB8:=Iz hu w;cases hd:iJ d with
  |false =>
   rw[hd]at TB8 TCU;have h0:=hc off (by simp at TCU;omega);simp[loadVar,TB8,h0,zy]
  |true =>
   rw[hd]at TB8 TCU;have:=key i.size (by simpa using TCU);simp[loadVar,TB8,sizeOf,typeInfo,hi,this,zy]
 ·cases hk
theorem Hw {c:Ctx}{k:Option Nat}{m off:Nat}{f:Nat→AV}{us:Nat→Value}(hr:∀j,j<m→Rep c (us j) (f j)) {v:AV} (h:rd k m f off=some v) :
  off+k.getD 1≤m∧Rep c (zy k us off) v:=by
 cases k with
 |none =>
  obtain⟨h1,h2⟩:=Xg h;cases h2;exact⟨h1,hr _ h1⟩
 |some n =>
  obtain⟨h1,h2⟩:=Xg h;cases h2;refine⟨by simpa using h1,.agg _ _ (by simp[Bf]) fun j hj=>?_⟩;rw[Bf]at hj;rw[EN _ _ _ _ _ hj];simp only[ZAm];have:((ZAO n).map fun j=>us (off+j)).toArray.getD j undef=us (off+j):=by simp[ZAV,hj]
  rw[this];exact hr _ (by omega)
def Qy (P:Program)(strict:Bool)(t:TypeId)(a:AV)(h:List AO):Option AV :=
 match Cy P t with
 |none=>none
 |some k =>
  match a with
  | .ptr m f off=>rd k m f off
  | .ref id ver off =>
   match h[id]? with
   |some (.row v m f)=>Qf (strict=false∧v=ver) (rd k m f off)
   |some (.con v m f)=>Qf (v=ver) (rd k m f off)
   |_=>none
  |_=>none
theorem ZU {c:Ctx}{b m:Nat}{cs:Array Value}{el:TypeId}{fr:Nat×Nat}(hb:c.w.heap[b]?=some (.cells cs el fr)) (hn:m≤cs.size)
  : (∀j,j<m→c.w.cell? ⟨b,0+j,none⟩=some (cs.getD j undef)):=by
 intro j hj;have hlt:j<cs.size:=by omega
 rw[z_,cell_of_row c.w b j cs el fr hb];simp[ZAV,hlt]
theorem IG {P:Program}{c:Ctx}(hr:I' c){strict:Bool}{t:TypeId}{a:AV}{v:AV}{x:Value}(hx:Rep c x a)(h:Qy P strict t a c.H=some v) :
  ∃y,(ZCk t x).run P c.w=.ok y c.w∧Rep c y v:=by
 unfold Qy at h;cases hk:Cy P t with
 |none=>simp[hk]at h
 |some k =>
  simp only[hk]at h;cases a with
  |ptr m f off =>
   cases hx with
   |ptr b base _ _ _ us hS hc hr' =>
    obtain⟨h1,h2⟩:=Hw hr' h;exact⟨_,by simpa [ZCk,ZBz]using Lb hk hc h1,h2⟩
  |ref id ver off =>
   cases ho:c.H[id]? with
   |none=>simp[ho]at h
   |some o =>
    simp only[ho]at h;have main:∀b sz cs el fr m f,c.γ id=some (b,sz)→c.w.heap[b]?=some (.cells cs el fr)→m≤cs.size→(∀j,j<m→Rep c (cs.getD j undef) (f j)) →
      inf c.H id=some ver→rd k m f off=some v→∃y,(ZCk t x).run P c.w=.ok y c.w∧Rep c y v:=by
     intro b sz cs el fr m f hg hb hn hrr J_ hrd;obtain⟨h1,h2⟩:=Hw hrr hrd;cases hx with
     |ref _ _ _ b' sz' hi' hg' =>
      rw[hg]at hg';cases hg';have:=Lb (P:=P) hk (ZU hb hn) h1;rw[z_]at this;exact⟨_,by simpa [ZCk,ZBz]using this,h2⟩
     |TAR _ _ _ _ hs =>
      rcases hs with⟨v',hi,hlt⟩ |hd
      ·rw[J_]at hi;cases hi;omega
      ·rw[ho]at hd;cases hd;simp[inf,ho,AO.info]at J_
    cases o with
    |row v' m f =>
     obtain⟨⟨_,rfl⟩,h2⟩:=Xg h;rcases hr.row id _ m f ho with⟨hn,hm0⟩ | ⟨b,sz,cs,el,h1,h3,h4,h5,h6,h7⟩
     ·subst hm0;have:=(Hw (c:=c) (us:=fun _=>undef) (fun j hj=>absurd hj (ZAL j)) h2).1
      cases k <;> simp at this
      ·obtain⟨rfl,hkk⟩:=this
       subst hkk;cases hx with
       |ref _ _ _ b' sz' hi' hg'=>rw[hn]at hg';cases hg'
       |TAR _ _ _ _ hs =>
        rcases hs with⟨v'',hi,hlt⟩ |hd
        ·simp[inf,ho,AO.info]at hi;omega
        ·rw[ho]at hd;cases hd
     ·exact main b sz cs el (0,0) m f h1 h3 (by omega) h7 (by simp[inf,ho,AO.info]) h2
    |con v' m f =>
     obtain⟨rfl,h2⟩:=Xg h;rcases hr.con id _ m f ho with⟨hn,hm0⟩ | ⟨b,sz,cs,el,fr,h1,h3,h4,h5,h6,h7⟩
     ·subst hm0;have:=(Hw (c:=c) (us:=fun _=>undef) (fun j hj=>absurd hj (ZAL j)) h2).1
      cases k <;> simp at this
      ·obtain⟨rfl,hkk⟩:=this
       subst hkk;cases hx with
       |ref _ _ _ b' sz' hi' hg'=>rw[hn]at hg';cases hg'
       |TAR _ _ _ _ hs =>
        rcases hs with⟨v'',hi,hlt⟩ |hd
        ·simp[inf,ho,AO.info]at hi;omega
        ·rw[ho]at hd;cases hd
     ·exact main b sz cs el fr m f h1 h3 (by omega) h7 (by simp[inf,ho,AO.info]) h2
    |_=>simp at h
  |_=>simp at h
def ZP (st:Bool)(v:AV):List AV:=match st with
 |true=>v.cells.map AV.boxed
 |false=>v.cells.map AV.loose
theorem Ny (st:Bool)(v:AV):(ZP st v).length=v.cells.length:=by cases st <;> simp[ZP]
theorem gc {c:Ctx}{x:Value}{st:Bool}{v:AV}{d:Nat}(hd:d<v.cells.length)(h:Rep c x (v.cells.getD d .any)):Rep c x ((ZP st v).getD d .any):=by
 cases st with
 |true =>
  have:(ZP true v).getD d .any=(v.cells.getD d .any).boxed:=by simp[ZP,K',hd]
  rw[this];exact h.boxed
 |false =>
  have:(ZP false v).getD d .any=(v.cells.getD d .any).loose:=by simp[ZP,K',hd]
  rw[this];exact h.loose
def ZC (P:Program)(st:Bool)(t:TypeId)(a v:AV)(h:List AO):Option (List AO) :=
 match a with
 | .ref id ver off =>
  match h[id]? with
  |some (.row v' m f)=>Qf (v'=ver∧Zn P t=some v.cells.length∧v.cells≠[]∧off+v.cells.length≤m∧v.cells.all AV.one=true) (some (h.set id (.row v' m (DE f off (ZP st v)))))
  |_=>none
 |_=>none
theorem TAH.single {c:Ctx}{x:Value}{v:AV}(h:Rep c x v):TAH c #[x] [v] :=
 ⟨rfl,fun j hj=>by
   obtain rfl:j=0:=by simpa using hj
   simpa [ZAV]using h⟩
theorem CG {c:Ctx}{x:Value}{v:AV}(hx:Rep c x v)(hne:v.cells.all AV.one=true):TAH c x.cells v.cells:=by
 have h1:v.one=true→TAH c x.cells v.cells:=by
  intro hv;have e1:x.cells=#[x]:=by
   have:=hx.one hv;cases x <;> first |rfl |simp[Value.oneCell']at this
  have e2:v.cells=[v]:=by cases v <;> first |rfl |simp[AV.one]at hv
  rw[e1,e2];exact .single hx
 cases v with
 |agg l=>cases hx with |agg vs l hl hr=>exact⟨hl,hr⟩
 |any=>simp[AV.cells,AV.one]at hne
 |tup l=>simp[AV.cells,AV.one]at hne
 |_=>exact h1 rfl
theorem TAH.one {c:Ctx}{vs:Array Value}{l:List AV}(h:TAH c vs l)(h1:l.all AV.one=true):∀v∈vs.toList,v.oneCell'=true:=by
 intro v hv;obtain⟨j,hj,rfl⟩:=ZAT hv;have hj':j<vs.size:=by simpa using hj
 have:=h.2 j (by rw[←h.1];exact hj');have e:vs.getD j undef=vs.toList[j]:=by simp[ZAV,hj']
 rw[e]at this;refine this.one ?_;have hm:l.getD j .any∈l:=by
  rw[K',V' (by rw[←h.1];exact hj')];exact ZAR _
 exact ZA5.1 h1 _ hm
theorem PT {P:Program}{c:Ctx}{st:Bool}(hr:I' c){t:TypeId}{a v:AV}{x y:Value}{h':List AO}(hx:Rep c x a)(hy:Rep c y v)(h:ZC P st t a v c.H=some h') :
  ∃w' γ',(ZES t x y).run P c.w=.ok () w'∧I' ⟨w',c.S,γ',h'⟩∧Ext c ⟨w',c.S,γ',h'⟩:=by
 unfold ZC at h;cases a with
 |ref id ver off =>
  cases ho:c.H[id]? with
  |none=>simp[ho]at h
  |some o =>
   simp only[ho]at h;cases o with
   |row v' m f =>
    obtain⟨⟨rfl,hsz,hne,TCU,TA9⟩,h2⟩:=Xg h;cases h2;have hcl:=CG hy TA9;rcases hr.row id _ m f ho with⟨hn,hm0⟩ | ⟨b,sz,cs,el,h1,h3,h4,h5,h6,h7⟩
    ·have:=List.length_pos_iff.2 hne;omega
    ·have hxa:x=.pointer (some ⟨b,off,none⟩):=by
      cases hx with
      |ref _ _ _ b' sz' hi' hg'=>rw[h1]at hg';cases hg';rfl
      |TAR _ _ _ _ hs =>
       rcases hs with⟨v'',hi,hlt⟩ |hd
       ·simp[inf,ho,AO.info]at hi;omega
       ·rw[ho]at hd;cases hd
     subst hxa;have hlen:y.cells.size=v.cells.length:=hcl.1;have hst:=run_storeCells_at P b off el y.cells.toList 0 cs c.w h3 (by simp;omega) (hcl.one TA9);simp only[ZAm]at hst;refine⟨c.w.setRow b (cs.toList.take off ++ y.cells.toList ++ cs.toList.drop (off+y.cells.toList.length)).toArray,c.γ,?_,?_⟩
     ·have hs:∀i,P.info? t=some i→i.size=y.cells.size:=fun i hi=>by simp[Zn,hi]at hsz;omega
      cases hi:P.info? t with
      |none=>simp[Zn,hi]at hsz
      |some i =>
       simp only[ZES,ZBz,storeVar,sizeOf,typeInfo,hi,ZAv,run_program,ZAa,ZCv,hs i hi]
       simpa using hst
     ·have TBi:(cs.toList.take off ++ y.cells.toList ++ cs.toList.drop (off+y.cells.toList.length)).toArray.size=sz:=by
       simp;omega
      refine A0 (c:=c) (c':=⟨_,c.S,c.γ,_⟩) hr (id:=id) (ver:=v') (n:=m) (b:=b) (sz:=sz) (f:=DE f off (ZP st v))
       (by have:=(S_.1 ho).1;simp[this]) (fun i hi=>by simp[w_ hi]) rfl h1 (fun _ _=>rfl) (setRow_heap c.w b cs _ el _ h3) TBi (by omega)
       (fun b' hb' _=>setRow_other c.w b b' _ hb') (by simp) rfl rfl rfl (.inr ⟨_,_,ho,rfl,h1⟩) (.inr (.inr ⟨v',by simp[inf,ho,AO.info],.inr ⟨rfl,rfl⟩⟩)) ?_
      intro j hj;rw[BW];by_cases hin:off≤j∧j<off+(ZP st v).length
      ·rw[N_ hin]
       obtain⟨d,rfl⟩:∃d,j=off+d:=⟨j-off,by omega⟩
       have hd:d<v.cells.length:=by rw[Ny]at hin;omega
       have hr2:=gc (st:=st) hd (hcl.2 d hd);have e1:(cs.toList.take off ++ y.cells.toList ++ cs.toList.drop (off+y.cells.toList.length)).toArray.getD (off+d) undef=y.cells.getD d undef:=by
        have hl:(cs.toList.take off).length=off:=by simp;omega
        simp only[s_,ZBG];rw[T_ (by simp;omega),g_ (by omega),hl,ZA0];simp
       have e2:(ZP st v).getD (off+d-off) .any=(ZP st v).getD d .any:=by rw[ZA0]
       rw[e1,e2];exact hr2
      ·rw[M_ hin]
       have e1:(cs.toList.take off ++ y.cells.toList ++ cs.toList.drop (off+y.cells.toList.length)).toArray.getD j undef=cs.getD j undef:=by
        have hl:(cs.toList.take off).length=off:=by simp;omega
        simp only[s_,ZBG];by_cases hj1:j<off
        ·rw[P_,T_ (by omega),ZAe,N_ hj1];simp
        ·have hj2:off+v.cells.length≤j:=by rw[Ny]at hin;omega
         rw[g_ (by simp;omega)];simp only[j_,hl,ZBS,ZBi];rw[show off+y.cells.size+(j-(off+y.cells.size))=j by omega];simp
       rw[e1];exact h7 j hj
   |_=>simp at h
 |_=>simp at h
def DL (P:Program)(t:TypeId)(x i:AV):Option AV :=
 match i with
 | .int _ i =>
  match AL P t with
  |some (_,s,_) =>
   match x with
   | .sl n m f _=>Qf (0≤i∧i<n) (some (.ptr m f (i.toNat*s)))
   | .osl id ver _ off n=>Qf (0≤i∧i<n) (some (.ref id ver (off+i.toNat*s)))
   |_=>none
  |none =>
   match gD P t with
   |some (n,s,_) =>
    match x with
    | .ptr m f off=>Qf (0≤i∧i<n) (some (.ptr m f (off+i.toNat*s)))
    | .ref id ver off=>Qf (0≤i∧i<n) (some (.ref id ver (off+i.toNat*s)))
    |_=>none
   |none=>none
 |_=>none
theorem ZE {P:Program}{t e s b:Nat}(h:AL P t=some (e,s,b)):P.underlying t=some (.slice e)∧∃i z,P.info? e=some i∧i.size=s∧i.bytes=b∧i.zero=some z∧z.cells.size=s∧0<s:=by
 unfold AL at h
 split at h
 ·rename_i e' he
  cases hi:P.info? e' with
  |none=>simp[hi]at h
  |some i =>
   cases hz:i.zero with
   |none=>simp[hi,hz]at h
   |some z =>
    simp only[hi,hz]at h
    split at h
    ·rename_i hc;cases h;exact⟨he,i,z,hi,rfl,rfl,hz,hc.1,hc.2⟩
    ·cases h
 ·cases h
theorem SO {P:Program}{t e s b:Nat}(h:AL P t=some (e,s,b)):P.underlying t=some (.slice e)∧∃i,P.info? e=some i∧i.size=s∧i.bytes=b:=by
 obtain⟨hu,i,z,h1,h2,h3,_⟩:=ZE h;exact⟨hu,i,h1,h2,h3⟩
theorem M9 {P:Program}{t n s:Nat}{k:Option Nat}(h:gD P t=some (n,s,k)):∃e i,P.underlying t=some (.array n e)∧P.info? e=some i∧i.size=s∧Cy P e=some k:=by
 unfold gD at h
 split at h
 ·rename_i n' e' he
  cases hi:P.info? e' with
  |none=>simp[hi]at h
  |some i =>
   cases hl:Cy P e' with
   |none=>simp[hi,hl]at h
   |some k'=>simp[hi,hl]at h;obtain⟨rfl,rfl,rfl⟩:=h;exact⟨e',i,he,hi,rfl,hl⟩
 ·cases h
theorem SY {P:Program}{t i o s:Nat}{k:Option Nat}(h:C9 P t i=some (o,s,k)):∃fs f inf,P.underlying t=some (.struct fs)∧fs[i]?=some f∧P.info? f.type=some inf∧f.offset=o∧inf.size=s∧s≠0∧Cy P f.type=some k:=by
 unfold C9 at h
 split at h
 ·rename_i fs hu
  split at h
  ·rename_i f hf
   cases hi:P.info? f.type with
   |none=>simp[hi]at h
   |some inf =>
    cases hl:Cy P f.type with
    |none=>simp[hi,hl]at h
    |some k' =>
     simp only[hi,hl]at h
     split at h
     ·cases h
     ·rename_i hne;cases h;exact⟨fs,f,inf,hu,hf,hi,rfl,rfl,hne,hl⟩
  ·cases h
 ·cases h
def iX (P:Program)(t:TypeId)(x:AV):Option AV :=
 match gD P t with
 |some (n,_,_) =>
  match x with
  | .sl m k f _=>Qf (0<n∧n≤m) (some (.ptr k f 0))
  | .osl id ver _ off m=>Qf (0<n∧n≤m) (some (.ref id ver off))
  |_=>none
 |none=>none
theorem So {P:Program}{c:Ctx}{t:TypeId}{x v:AV}{y:Value}(hx:Rep c y x)(h:iX P t x=some v):∃r,(ZDK t y).run P c.w=.ok r c.w∧Rep c r v:=by
 unfold iX at h;cases ha:gD P t with
 |none=>simp[ha]at h
 |some q =>
  obtain⟨n,s,k⟩:=q;obtain⟨e,i,hu,_⟩:=M9 ha;simp only[ha]at h;have run:∀ (a:Addr) (m cap:Nat),n≤m→(ZDK t (.slice (some a) m cap)).run P c.w=.ok (.pointer (some a)) c.w:=by
   intro a m cap hb;simp[ZDK,run_underlying hu,Nat.not_lt.2 hb]
  cases x with
  |sl m k f tt =>
   obtain⟨hb,h2⟩:=Xg h;cases h2;cases hx with
   |sl b' base _ _ cap _ _ us hS hc hr hn ht=>exact⟨_,run _ m cap hb.2,.ptr b' base k 0 f us hS hc hr⟩
   |slz a cap _ _ ht=>omega
  |osl id ver es off m =>
   obtain⟨hb,h2⟩:=Xg h;cases h2;cases hx with
   |osl _ _ _ _ _ cap b sz hi hg hn TAY=>exact⟨_,run _ m cap hb.2,.ref id ver off b sz hi hg⟩
   |TAh _ _ _ _ a hi=>omega
   |TAL _ _ _ _ _ a cap hn hs=>exact⟨_,run _ m cap hb.2,.TAR id ver off a hs⟩
   |TAG _ _ _ _ a hs=>omega
  |_=>simp at h
theorem PN {P:Program}{c:Ctx}{t:TypeId}{x i v:AV}{y z:Value}(hx:Rep c y x)(hi:Rep c z i)(h:DL P t x i=some v) :
  ∃r,(ZCC t y z).run P c.w=.ok r c.w∧Rep c r v:=by
 unfold DL at h;cases hi with
 |int k i =>
  simp only at h;cases he:AL P t with
  |some q =>
   obtain⟨e,s,b⟩:=q;obtain⟨hu,F_,hin,hs,_⟩:=SO he;simp only[he]at h;have run:∀ (a:Addr) (n cap:Nat),0≤i∧i<(n:Int)→(ZCC t (.slice (some a) n cap) (.int k i)).run P c.w=.ok (.pointer (some (a.add (i.toNat*s)))) c.w:=by
    intro a n cap hb;simp[ZCC,asIntOf,run_underlying hu,sizeOf,typeInfo,hin,hs,hb]
   cases x with
   |sl n m f tt =>
    obtain⟨hb,h2⟩:=Xg h;cases h2;cases hx with
    |sl b' base _ _ cap _ _ us hS hc hr hn ht =>
     refine⟨_,run _ n cap hb,?_⟩;rw[ZAg];exact .ptr b' base m (i.toNat*s) f us hS hc hr
    |slz a cap _ _ ht=>exfalso;simp at hb;omega
   |osl id ver es off n =>
    obtain⟨hb,h2⟩:=Xg h;cases h2;cases hx with
    |osl _ _ _ _ _ cap b' sz hi hg hn TAY =>
     refine⟨_,run _ n cap hb,?_⟩;rw[ZAg];exact .ref id ver _ b' sz hi hg
    |TAh _ _ _ _ a hi=>exfalso;simp at hb;omega
    |TAL _ _ _ _ _ a cap hn hs=>exact⟨_,run a n cap hb,.TAR id ver _ _ hs⟩
    |TAG _ _ _ _ a hs=>exfalso;simp at hb;omega
   |_=>simp at h
  |none =>
   simp only[he]at h;cases ha:gD P t with
   |none=>simp[ha]at h
   |some q =>
    obtain⟨n,s,kk⟩:=q;obtain⟨e,F_,hu,hin,hs,_⟩:=M9 ha;simp only[ha]at h;have run:∀a,0≤i∧i<(n:Int)→(ZCC t (.pointer (some a)) (.int k i)).run P c.w=.ok (.pointer (some (a.add (i.toNat*s)))) c.w:=by
     intro a hb;simp[ZCC,asIntOf,ZBz,run_underlying hu,sizeOf,typeInfo,hin,hs,hb]
    cases x with
    |ptr m f off =>
     obtain⟨hb,h2⟩:=Xg h;cases h2;cases hx with
     |ptr b' base _ _ _ us hS hc hr =>
      refine⟨_,run _ hb,?_⟩;rw[ZAg,ZCL];exact .ptr b' base m _ f us hS hc hr
    |ref id ver off =>
     obtain⟨hb,h2⟩:=Xg h;cases h2;cases hx with
     |ref _ _ _ b' sz hi hg =>
      refine⟨_,run _ hb,?_⟩;rw[ZAg];exact .ref id ver _ b' sz hi hg
     |TAR _ _ _ a hs=>exact⟨_,run _ hb,.TAR id ver _ _ hs⟩
    |_=>simp at h
 |_=>simp at h
def CM (P:Program)(t:TypeId)(x:AV)(i:Nat):Option AV :=
 match C9 P t i with
 |some (o,_,_) =>
  match x with
  | .ptr m f off=>some (.ptr m f (off+o))
  | .ref id ver off=>some (.ref id ver (off+o))
  |_=>none
 |none=>none
theorem NR {P:Program}{c:Ctx}{t:TypeId}{x v:AV}{y:Value}{i:Nat}(hx:Rep c y x)(h:CM P t x i=some v) :
  ∃r,(ZDL t y i).run P c.w=.ok r c.w∧Rep c r v:=by
 unfold CM at h;cases hf:C9 P t i with
 |none=>simp[hf]at h
 |some q =>
  obtain⟨o,s,k⟩:=q;obtain⟨fs,f,F_,hu,hfi,hin,ho,hs,hne,_⟩:=SY hf;simp only[hf]at h;have run:∀a,(ZDL t (.pointer (some a)) i).run P c.w=.ok (.pointer (some (a.add o))) c.w:=by
   intro a;have TDF:¬F_.size=0:=by omega
   simp[ZDL,run_underlying hu,hfi,ZBz,fieldPlace,sizeOf,typeInfo,hin,TDF,ho]
  cases x with
  |ptr m f off =>
   cases h;cases hx with
   |ptr b' base _ _ _ us hS hc hr =>
    refine⟨_,run _,?_⟩;rw[ZAg,ZCL];exact .ptr b' base m (off+o) f us hS hc hr
  |ref id ver off =>
   cases h;cases hx with
   |ref _ _ _ b' sz hi hg =>
    refine⟨_,run _,?_⟩;rw[ZAg];exact .ref id ver _ b' sz hi hg
   |TAR _ _ _ a hs=>exact⟨_,run _,.TAR id ver _ _ hs⟩
  |_=>simp at h
def apart (k:Option Nat)(l:List AV)(off:Nat):Option AV :=
 match k with
 |none=>Qf (off<l.length) (some (l.getD off .any))
 |some n=>Qf (off+n≤l.length) (some (.agg ((l.drop off).take n)))
theorem IH {P:Program}{c:Ctx}{t:TypeId}{k:Option Nat}(hk:Cy P t=some k){vs:Array Value}{l:List AV}(hl:TAH c vs l){off:Nat}{v:AV}(h:apart k l off=some v) :
  ∃r,(part t vs off).run P c.w=.ok r c.w∧Rep c r v:=by
 unfold Cy at hk
 split at hk
 ·rename_i d i hu hi
  cases hk;have TB8:=Iz hu c.w;cases hd:iJ d with
  |false =>
   rw[hd]at h TB8;obtain⟨h1,h2⟩:=Xg h;cases h2;have hlt:off<vs.size:=by rw[hl.1];exact h1
   refine⟨vs.getD off undef,?_,hl.2 off h1⟩;simp[part,TB8,hlt]
  |true =>
   rw[hd]at h TB8;obtain⟨h1,h2⟩:=Xg h;cases h2;have hle:off+i.size≤vs.size:=by rw[hl.1];exact h1
   refine⟨.agg (vs.extract off (off+i.size)),?_,.agg _ _ (by simp;omega) fun j hj=>?_⟩
   ·simp[part,TB8,sizeOf,typeInfo,hi]
   ·have hj':j<i.size:=by simp at hj;omega
    have e1:(vs.extract off (off+i.size)).getD j undef=vs.getD (off+j) undef:=by
     simp only[s_,Array.getElem?_extract];congr 1;by_cases hq:j<min (off+i.size) vs.size-off <;> simp_all
    have e2:((l.drop off).take i.size).getD j .any=l.getD (off+j) .any:=by
     simp[K',hj',ZBi]
    rw[e1,e2];exact hl.2 _ (by rw[←hl.1];omega)
 ·cases hk
def I2 (P:Program)(t:TypeId)(x:AV)(i:Nat):Option AV :=
 match C9 P t i with
 |some (o,_,k)=>match x with | .agg l=>apart k l o |_=>none
 |none=>none
theorem PK {P:Program}{c:Ctx}{t:TypeId}{x v:AV}{y:Value}{i:Nat}(hx:Rep c y x)(h:I2 P t x i=some v) :
  ∃r,(Instr.field t y i).run P c.w=.ok r c.w∧Rep c r v:=by
 unfold I2 at h;cases hf:C9 P t i with
 |none=>simp[hf]at h
 |some q =>
  obtain⟨o,s,k⟩:=q;obtain⟨fs,f,F_,hu,hfi,hin,ho,hs,hne,hk⟩:=SY hf;simp only[hf]at h;cases x with
  |agg l =>
   cases hx with
   |agg vs _ hl hr =>
    obtain⟨r,h1,h2⟩:=IH hk ⟨hl,hr⟩ h;exact⟨r,by simp[Instr.field,run_underlying hu,hfi,asAgg,ho,h1],h2⟩
  |_=>simp at h
def uR (P:Program)(t:TypeId)(x i:AV):Option AV :=
 match gD P t,x,i with
 |some (n,s,k),.agg l,.int _ i=>Qf (0≤i∧i<n) (apart k l (i.toNat*s))
 |_,_,_=>none
theorem V7 {P:Program}{c:Ctx}{t:TypeId}{x i v:AV}{y z:Value}(hx:Rep c y x)(hi:Rep c z i)(h:uR P t x i=some v) :
  ∃r,(Instr.index t y z).run P c.w=.ok r c.w∧Rep c r v:=by
 unfold uR at h
 split at h
 ·rename_i n s k l q i ha
  obtain⟨hb,h2⟩:=Xg h;obtain⟨e,F_,hu,hin,hs,hk⟩:=M9 ha;cases hx with
  |agg vs _ hl hr =>
   cases hi with
   |int =>
    obtain⟨r,h1,h3⟩:=IH hk ⟨hl,hr⟩ h2;exact⟨r,by simp[Instr.index,asIntOf,run_underlying hu,hb,sizeOf,typeInfo,hin,hs,h1],h3⟩
 ·cases h
def JE (o:Option AV)(d:Int):Option Int :=
 match o with
 |none=>some d
 |some (.int _ n)=>some n
 |_=>none
def EF (P:Program)(t:TypeId)(x:AV)(lo hi mx:Option AV):Option AV :=
 match AL P t,mx with
 |some (_,s,_),none =>
  match x with
  | .sl n m f t =>
   match JE lo 0,JE hi n with
   |some l,some h=>Qf (0≤l∧l≤h∧h≤n) (some (.sl (h-l).toNat (min ((h-l).toNat*s) (m-l.toNat*s)) (fun j=>f (l.toNat*s+j)) (t && decide (h=n))))
   |_,_=>none
  | .osl id ver es off n =>
   match JE lo 0,JE hi n with
   |some l,some h=>Qf (0≤l∧l≤h∧h≤n∧es=s) (some (.osl id ver es (off+l.toNat*s) (h-l).toNat))
   |_,_=>none
  |_=>none
 |some (_,s,_),some mx =>
  match x with
  | .sl n m f _ =>
   match JE lo 0,JE hi n,mx with
   |some l,some h,.int _ q=>Qf (0≤l∧l≤h∧h≤n∧q=h) (some (.sl (h-l).toNat (min ((h-l).toNat*s) (m-l.toNat*s)) (fun j=>f (l.toNat*s+j)) true))
   |_,_,_=>none
  |_=>none
 |_,_=>none
def PD (c:Ctx):Option Value→Option AV→Prop
 |none,none=>True
 |some v,some a=>Rep c v a
 |_,_=>False
theorem Ca {c:Ctx}{v:Option Value}{o:Option AV}{d n:Int}(hv:PD c v o)(h:JE o d=some n) :
  (v=none∧o=none∧n=d)∨(∃k,v=some (.int k n)):=by
 cases o with
 |none=>cases v with
  |none=>simp[JE]at h;exact .inl ⟨rfl,rfl,h.symm⟩
  |some v=>exact hv.elim
 |some a=>cases v with
  |none=>exact hv.elim
  |some v =>
   cases a <;> simp[JE]at h;subst h;cases(show Rep c v _ from hv);exact .inr ⟨_,rfl⟩
theorem Ke {P:Program}{w:World}(k:IntKind)(n:Int)(y:Nat)(code:BoundsCode)(h:0≤n∧n≤y) :
  (ZED (.int k n) y code).run P w=.ok n.toNat w:=by simp[ZED,asIntOf,h]
theorem Ko {P:Program}{c:Ctx}{len cap:Nat}{vl vh:Option Value}{lo hi:Option AV}{l h:Int}(hl:PD c vl lo)(hh:PD c vh hi)
  (el:JE lo 0=some l) (eh:JE hi len=some h) (hb:0≤l∧l≤h∧h≤len) (hc:len≤cap) :
  (ZAk true len cap vl vh none).run P c.w=.ok (l.toNat,h.toNat,cap) c.w:=by
 have h1:=Ca hl el;have h2:=Ca hh eh;rcases h1 with⟨rfl,_,rfl⟩ | ⟨k,rfl⟩ <;> rcases h2 with⟨rfl,_,rfl⟩ | ⟨k',rfl⟩
 ·simp[ZAk]
 ·simp[ZAk,Ke (P:=P) (w:=c.w) k' h cap _ ⟨by omega,by omega⟩]
 ·simp[ZAk,Ke (P:=P) (w:=c.w) k l len _ ⟨by omega,by omega⟩]
 ·simp[ZAk,Ke (P:=P) (w:=c.w) k' h cap _ ⟨by omega,by omega⟩,Ke (P:=P) (w:=c.w) k l h.toNat _ ⟨by omega,by omega⟩]
theorem Dy {P:Program}{c:Ctx}{len cap:Nat}{vl vh:Option Value}{lo hi:Option AV}{l h:Int}(hl:PD c vl lo)(hh:PD c vh hi)
  (el:JE lo 0=some l) (eh:JE hi len=some h) (hhs:hi≠none) (hb:0≤l∧l≤h∧h≤len) (hc:len≤cap) (km:IntKind) :
  (ZAk true len cap vl vh (some (.int km h))).run P c.w=.ok (l.toNat,h.toNat,h.toNat) c.w:=by
 have h1:=Ca hl el;have h2:=Ca hh eh;have hm:=Ke (P:=P) (w:=c.w) km h cap .slice3Acap ⟨by omega,by omega⟩;rcases h2 with⟨_,rfl,_⟩ | ⟨k',rfl⟩
 ·exact absurd rfl hhs
 ·have hhb:=Ke (P:=P) (w:=c.w) k' h h.toNat .slice3B ⟨by omega,by omega⟩
  rcases h1 with⟨rfl,_,rfl⟩ | ⟨k,rfl⟩
  ·simp[ZAk,hm,hhb]
  ·simp[ZAk,hm,hhb,Ke (P:=P) (w:=c.w) k l h.toNat _ ⟨by omega,by omega⟩]
theorem PS {P:Program}{c:Ctx}{t:TypeId}{x v:AV}{y:Value}{lo hi mx:Option AV}{vl vh vm:Option Value}(hx:Rep c y x)(hl:PD c vl lo)(hh:PD c vh hi)
  (hm:PD c vm mx) (hhm:mx≠none→hi≠none) (h:EF P t x lo hi mx=some v):∃r,(ZDM t y vl vh vm).run P c.w=.ok r c.w∧Rep c r v:=by
 unfold EF at h;cases he:AL P t with
 |none=>simp[he]at h
 |some q =>
  obtain⟨e,s,b⟩:=q;obtain⟨hu,F_,hin,hs,_⟩:=SO he;have run:∀ (a:Option Addr) (n cap:Nat) (l h m:Nat),(ZAk true n cap vl vh vm).run P c.w=.ok (l,h,m) c.w →
    (ZDM t (.slice a n cap) vl vh vm).run P c.w=.ok (.slice (if m=l then a else a.map (·.add (l*s))) (h-l) (m-l)) c.w:=by
   intro a n cap l h m hb;simp[ZDM,Instr.slice,run_underlying hu,hb,sizeOf,typeInfo,hin,hs]
  cases mx with
  |none =>
   cases vm with
   |some vm=>exact hm.elim
   |none =>
    simp only[he]at h;cases x with
    |sl n m f tt =>
     simp only at h
     split at h
     ·rename_i l hi' el eh
      obtain⟨hb,h2⟩:=Xg h;cases h2;cases hx with
      |sl b' base _ _ cap _ _ us hS hc hr hn ht =>
       refine⟨_,run _ n cap _ _ _ (Ko hl hh el eh hb hn),?_⟩;rw[show hi'.toNat-l.toNat=(hi'-l).toNat by omega];by_cases hz:cap=l.toNat
       ·have hz2:(hi'-l).toNat=0:=by omega
        rw[N_ hz,hz2];simp only[ZA8,ZCw];exact .slz _ _ _ _ (by simp;omega)
       ·rw[M_ hz,ZBp,ZAg]
        refine .sl b' (base+l.toNat*s) _ _ _ _ _ (fun j=>us (l.toNat*s+j)) hS (fun j hj=>?_) (fun j hj=>?_) (by omega) (by intro hq;simp at hq;have:=ht hq.1;omega)
        ·rw[ZCL];exact hc _ (by omega)
        ·exact hr _ (by omega)
      |slz a cap _ _ ht =>
       have hz2:(hi'-l).toNat=0:=by omega
       refine⟨_,run _ 0 cap _ _ _ (Ko hl hh el eh hb (p_ _)),?_⟩;rw[show hi'.toNat-l.toNat=0 by omega,hz2];simp only[ZA8,ZCw];exact .slz _ _ _ _ (by intro hq;simp at hq;have:=ht hq.1;omega)
     ·cases h
    |osl id ver es off n =>
     simp only at h
     split at h
     ·rename_i l hi' el eh
      obtain⟨⟨hb1,hb2,hb3,rfl⟩,h2⟩:=Xg h;cases h2;have hb:0≤l∧l≤hi'∧hi'≤n:=⟨hb1,hb2,hb3⟩
      cases hx with
      |osl _ _ _ _ _ cap b' sz hi hg hn TAY =>
       refine⟨_,run _ n cap _ _ _ (Ko hl hh el eh hb hn),?_⟩;rw[show hi'.toNat-l.toNat=(hi'-l).toNat by omega];by_cases hz:cap=l.toNat
       ·have hz2:(hi'-l).toNat=0:=by omega
        rw[N_ hz,hz2,hz,ZB7];exact .TAh _ _ _ _ _ hi
       ·rw[M_ hz,ZBp,ZAg]
        refine .osl _ _ _ _ _ _ _ _ hi hg (by omega) ?_ (by omega);have:l.toNat*es+(cap-l.toNat)*es=cap*es:=by rw[←ZAc];congr 1;omega
        omega
      |TAh _ _ _ _ a hi =>
       have hz2:(hi'-l).toNat=0:=by omega
       refine⟨_,run _ 0 0 _ _ _ (Ko hl hh el eh hb (N' _)),?_⟩;rw[show hi'.toNat-l.toNat=0 by omega,hz2,Nat.zero_sub];exact .TAh _ _ _ _ _ hi
      |TAL _ _ _ _ _ a cap hn hs =>
       refine⟨_,run _ n cap _ _ _ (Ko hl hh el eh hb hn),?_⟩;rw[show hi'.toNat-l.toNat=(hi'-l).toNat by omega];by_cases hz:cap=l.toNat
       ·rw[N_ hz]
        exact .TAL _ _ _ _ _ _ _ (by omega) hs
       ·rw[M_ hz,ZBp]
        exact .TAL _ _ _ _ _ _ _ (by omega) hs
      |TAG _ _ _ _ a hs =>
       have hz2:(hi'-l).toNat=0:=by omega
       refine⟨_,run _ 0 0 _ _ _ (Ko hl hh el eh hb (N' _)),?_⟩;rw[show hi'.toNat-l.toNat=0 by omega,hz2,Nat.zero_sub];exact .TAG _ _ _ _ _ hs
     ·cases h
    |_=>simp at h
  |some mx =>
   cases vm with
   |none=>exact hm.elim
   |some vm =>
    simp only[he]at h;cases x with
    |sl n m f tt =>
     simp only at h
     split at h
     ·rename_i l hi' km q el eh
      obtain⟨⟨hb1,hb2,hb3,rfl⟩,h2⟩:=Xg h;cases h2;cases(show Rep c vm _ from hm);cases hx with
      |sl b' base _ _ cap _ _ us hS hc hr hn ht =>
       refine⟨_,run _ n cap _ _ _ (Dy hl hh el eh (hhm (by simp)) ⟨hb1,hb2,hb3⟩ hn km),?_⟩;rw[show q.toNat-l.toNat=(q-l).toNat by omega];by_cases hz:q.toNat=l.toNat
       ·have hz2:(q-l).toNat=0:=by omega
        rw[N_ hz,hz2];simp only[ZA8,ZCw];exact .slz _ _ _ _ (by simp)
       ·rw[M_ hz,ZBp,ZAg]
        refine .sl b' (base+l.toNat*s) _ _ _ _ _ (fun j=>us (l.toNat*s+j)) hS (fun j hj=>?_) (fun j hj=>?_) (by omega) (by simp)
        ·rw[ZCL];exact hc _ (by omega)
        ·exact hr _ (by omega)
      |slz a cap _ _ ht =>
       have hz2:(q-l).toNat=0:=by omega
       refine⟨_,run _ 0 cap _ _ _ (Dy hl hh el eh (hhm (by simp)) ⟨hb1,hb2,hb3⟩ (p_ _) km),?_⟩;rw[show q.toNat-l.toNat=0 by omega,hz2];simp only[ZA8,ZCw];exact .slz _ _ _ _ (by simp)
     ·cases h
    |_=>simp at h
theorem FA (l:List AV)(i j:Nat)(a:AV):(l.set i a).getD j .any=if i=j∧j<l.length then a else l.getD j .any:=by
 simp only[K',ZCB];by_cases h:i=j
 ·subst h
  by_cases h2:i<l.length <;> simp[h2]
 ·simp[h]
theorem OE (vs:Array Value)(i j:Nat)(v:Value):(vs.setIfInBounds i v).getD j undef=if i=j∧j<vs.size then v else vs.getD j undef:=by
 simp only[s_,Array.getElem?_setIfInBounds];by_cases h:i=j
 ·subst h
  by_cases h2:i<vs.size <;> simp[h2]
 ·simp[h]
theorem TAH.set {c:Ctx}{vs:Array Value}{l:List AV}(h:TAH c vs l){x:Value}{a:AV}(hx:Rep c x a)(i:Nat):TAH c (vs.setIfInBounds i x) (l.set i a):=by
 refine⟨by simp[h.1],fun j hj=>?_⟩;have hj':j<l.length:=by simpa using hj
 rw[FA,OE];by_cases hij:i=j∧j<l.length
 ·rw[N_ hij,N_ ⟨hij.1,by rw[h.1];exact hij.2⟩];exact hx
 ·rw[M_ hij,M_ (by rw[h.1];exact hij)];exact h.2 j hj'
def HG (l:List AV):Nat→List AV→List AV
 |_,[]=>l
 |i,a :: r=>HG (l.set i a) (i+1) r
theorem Tf (r:List AV):∀ (l:List AV) (i:Nat),(HG l i r).length=l.length:=by
 induction r with
 |nil=>intro l i;rfl
 |cons a r ih=>intro l i;simp[HG,ih]
theorem TAH.TDG {c:Ctx}(r:List Value):∀ (ra:List AV) (vs:Array Value) (l:List AV) (off k:Nat),TAH c vs l→r.length=ra.length→(∀j,j<ra.length→Rep c (r.getD j undef) (ra.getD j .any)) →
  TAH c ((r.zipIdx k).foldl (fun cs (p:Value×Nat)=>cs.setIfInBounds (off+p.2) p.1) vs) (HG l (off+k) ra):=by
 induction r with
 |nil=>intro ra vs l off k h hl hr;cases ra with
  |nil=>simpa [HG]using h
  |cons _ _=>simp at hl
 |cons x r ih =>
  intro ra vs l off k h hl hr;cases ra with
  |nil=>simp at hl
  |cons a ra =>
   simp only[List.zipIdx_cons,List.foldl_cons,HG];have h0:=hr 0 (by simp);simp at h0;have:=ih ra (vs.setIfInBounds (off+k) x) (l.set (off+k) a) off (k+1) (h.set h0 _) (by simpa using hl) (fun j hj=>by have:=hr (j+1) (by simpa using hj);simpa using this);rwa[show off+(k+1)=off+k+1 by omega]at this
def Aj (pl:Nat→Option (Nat×Nat)):List AV→List (Nat×AV)→Option (List AV)
 |cells,[]=>some cells
 |cells,(i,v) :: rest =>
  match pl i with
  |some (off,size)=>Qf (v.cells.length=size∧off+size≤cells.length∧v.cells.all AV.one=true) (Aj pl (HG cells off (v.cells.map AV.loose)) rest)
  |none=>none
theorem CL {c:Ctx}{pl pl':Nat→Option (Nat×Nat)} (hpl:∀i x,pl i=some x→pl' i=some x):∀ (ps:List (Nat×Value)) (as:List (Nat×AV)) (vs:Array Value) (l l':List AV),
  ps.length=as.length→(∀j (h:j<ps.length) (h':j<as.length),(ps[j]).1=(as[j]).1∧Rep c (ps[j]).2 (as[j]).2)→TAH c vs l→Aj pl l as=some l' →
  ∃vs',Instr.fill pl' vs ps=some vs'∧TAH c vs' l'
 | [],[],vs,l,l',_,_,h,hf=>by simp[Aj]at hf;subst hf;exact⟨vs,rfl,h⟩
 | (i,x) :: ps,(i',a) :: as,vs,l,l',hl,hr,h,hf=>by
  have h0:=hr 0 (by simp) (by simp);simp at h0;obtain⟨rfl,hx⟩:=h0;simp only[Aj]at hf;cases hp:pl i with
  |none=>simp[hp]at hf
  |some q =>
   obtain⟨off,size⟩:=q;simp only[hp]at hf;obtain⟨⟨hs,hle,TA9⟩,hf'⟩:=Xg hf;have hcl:=CG hx TA9;have e1:x.cells.size=size:=by rw[hcl.1,hs]
   have e2:¬ (off+x.cells.size > vs.size):=by rw[e1,h.1];omega
   simp only[Instr.fill,hpl _ _ hp,e1];have hm:=TAH.TDG (c:=c) x.cells.toList (a.cells.map AV.loose) vs l off 0 h (by simp[hcl.1]) (fun j hj=>by
    have hj':j<a.cells.length:=by simpa using hj
    have:=(hcl.2 j hj').loose;have q1:x.cells.toList.getD j undef=x.cells.getD j undef:=by simp[K',s_]
    have q2:(a.cells.map AV.loose).getD j .any=(a.cells.getD j .any).loose:=by simp[K',hj']
    rw[q1,q2];exact this)
   rw[ZAm]at hm;have q3:(x.cells.zipIdx.foldl (fun cs (p:Value×Nat)=>cs.setIfInBounds (off+p.2) p.1) vs)=((x.cells.toList.zipIdx 0).foldl (fun cs (p:Value×Nat)=>cs.setIfInBounds (off+p.2) p.1) vs):=by
    rw[←Array.foldl_toList,Array.toList_zipIdx]
   rw[←q3]at hm;have:=CL hpl ps as _ _ l' (by simpa using hl) (fun j h1 h2=>by have:=hr (j+1) (by simpa using h1) (by simpa using h2);simpa using this) hm hf';obtain⟨vs',h1,h2⟩:=this;refine⟨vs',?_,h2⟩;rw[M_ (by simp;rw[h.1];omega)];exact h1
 | [],_ :: _,_,_,_,hl,_,_,_=>by simp at hl
 |_ :: _,[],_,_,_,hl,_,_,_=>by simp at hl
def FW (z:List AV):Nat→List AV
 |0=>[]
 |n+1=>z ++ FW z n
theorem ID (z:List AV):∀n,(FW z n).length=n*z.length∧∀j,j<n*z.length→(FW z n).getD j .any=z.getD (j%z.length) .any
 |0=>by simp[FW]
 |n+1=>by
  obtain⟨h1,h2⟩:=ID z n;have e:(n+1)*z.length=z.length+n*z.length:=by rw[ZAc];omega
  refine⟨by simp[FW,h1];omega,fun j hj=>?_⟩;simp only[FW,K'];by_cases hjl:j<z.length
  ·rw[T_ hjl,ZAJ hjl]
  ·rw[g_ (by omega)]
   have:=h2 (j-z.length) (by omega);simp only[K']at this;rw[this];congr 2;exact(Nat.mod_eq_sub_mod (by omega)).symm
theorem mE {c:Ctx}(z:Value)(n:Nat)(hn:0<z.cells.size):TAH c ((Array.range (n*z.cells.size)).map (z.cells[· % z.cells.size]!)) (FW (z.cells.toList.map K3) n):=by
  have hl:(z.cells.toList.map K3).length=z.cells.size:=by simp
  obtain⟨h1,h2⟩:=ID (z.cells.toList.map K3) n;rw[hl]at h1 h2;refine⟨by simp[h1],fun j hj=>?_⟩;rw[h1]at hj;rw[h2 j hj];have hm:j%z.cells.size<z.cells.size:=ZAI _ hn;have e1:((Array.range (n*z.cells.size)).map (z.cells[· % z.cells.size]!)).getD j undef=z.cells[j%z.cells.size]:=by
    simp[s_,hj,hm]
  have e2:(z.cells.toList.map K3).getD (j%z.cells.size) .any=K3 z.cells[j%z.cells.size]:=by
    simp[K',hm]
  rw[e1,e2];exact At c _
def Ki (P:Program)(t:TypeId)(n:Nat)(parts:List (Nat×AV)):Option AV :=
 match AL P t with
 |some (e,s,_) =>
  match Qh P e with
  |some z=>Qf (n*s≤2 ^ 24) ((Aj (fun i=>some (i*s,s)) (FW z n) parts).map fun l=>.sl n (n*s) (Xf l) true)
  |none=>none
 |none=>none
def EC (c:Ctx)(ps:List (Nat×Value)) (as:List (Nat×AV)):Prop :=
 ps.length=as.length∧∀j (h:j<ps.length) (h':j<as.length),(ps[j]).1=(as[j]).1∧Rep c (ps[j]).2 (as[j]).2
theorem IE {P:Program}{c:Ctx}{t:TypeId}{n:Nat}{ps:Array (Nat×Value)} {as:List (Nat×AV)} (hp:EC c ps.toList as) {v:AV} (h:Ki P t n as=some v) :
  ∃e s b l vs',AL P t=some (e,s,b)∧v=.sl n (n*s) (Xf l) true∧l.length=n*s∧n*s≤16777216∧0<s∧vs'.size=n*s∧(ZBR t n ps).run P c.w=.ok (.slice (some ⟨c.w.heap.size,0,none⟩) n n) (c.w.alloc (.cells vs' e))∧TAH c vs' l:=by
 unfold Ki at h;cases he:AL P t with
 |none=>simp[he]at h
 |some q =>
  obtain⟨e,s,b⟩:=q;obtain⟨hu,F_,z,hin,hs,_,hz,hzs,TA2⟩:=ZE he;simp only[he]at h;cases hzl:Qh P e with
  |none=>simp[hzl]at h
  |some zl =>
   simp only[hzl]at h;obtain⟨hle,h2⟩:=Xg h;have TB9:zl=z.cells.toList.map K3:=by simp[Qh,hin,hz]at hzl;exact hzl.symm
   subst TB9;cases hf:Aj (fun i=>some (i*s,s)) (FW (z.cells.toList.map K3) n) as with
   |none=>simp[hf]at h2
   |some l =>
    simp[hf]at h2;subst h2;have hzr:=mE (c:=c) z n (by omega);rw[hzs]at hzr;obtain⟨vs',h3,h4⟩:=CL (pl':=fun i=>some (i*s,s)) (fun _ _ h=>h) ps.toList as _ _ l hp.1 hp.2 hzr hf;have hlen:l.length=n*s:=by
     have:∀ (as:List (Nat×AV)) (l0 l1:List AV),Aj (fun i=>some (i*s,s)) l0 as=some l1→l1.length=l0.length:=by
      intro as
      induction as with
      |nil=>intro l0 l1 h;simp[Aj]at h;rw[h]
      |cons p as ih =>
       intro l0 l1 h;obtain⟨i,a⟩:=p;obtain⟨_,h'⟩:=Xg h;rw[ih _ _ h',Tf]
     rw[this _ _ _ hf,(ID _ n).1];simp[hzs]
    have hvs:vs'.size=n*s:=by rw[h4.1,hlen]
    have I_:(ZBR t n ps).run P c.w=.ok (.slice (some ⟨c.w.heap.size,0,none⟩) n n) (c.w.alloc (.cells vs' e)):=by
     have TFA:¬ (16777216<n*s):=by omega
     by_cases hn0:n*s=0
     ·have TFB:n=0:=(Nat.mul_eq_zero.1 hn0).resolve_right (by omega)
      subst TFB;simp[ZD8]at h3;simp[ZBR,run_underlying hu,sizeOf,typeInfo,hin,hs,newRow,ZD8,h3]
     ·simp[ZBR,run_underlying hu,sizeOf,typeInfo,zeroValue,hz,hin,hs,TFA,hn0,hzs,h3,newRow]
    exact⟨e,s,b,l,vs',rfl,rfl,hlen,by omega,TA2,hvs,I_,h4⟩
theorem NQ {P:Program}{c:Ctx}(hr:I' c){t:TypeId}{n:Nat}{ps:Array (Nat×Value)} {as:List (Nat×AV)} (hp:EC c ps.toList as) {v:AV} (h:Ki P t n as=some v) :
  ∃x w' S',(ZBR t n ps).run P c.w=.ok x w'∧Rep ⟨w',S',c.γ,c.H⟩ x v∧I' ⟨w',S',c.γ,c.H⟩∧Ext c ⟨w',S',c.γ,c.H⟩:=by
 obtain⟨e,s,b,l,vs',he,rfl,hlen,hle,TA2,hvs,I_,h4⟩:=IE hp h;obtain⟨g1,g2⟩:=To hr vs' e (c.w.alloc (.cells vs' e)) rfl rfl rfl rfl;refine⟨_,_,_,I_,?_,g1,g2⟩;refine .sl c.w.heap.size 0 n (n*s) n (Xf l) true (fun j=>vs'.getD j undef) (.inr rfl) (fun j hj=>?_) (fun j hj=>?_) (N' _) (fun _=>rfl)
 ·rw[z_]
  have:j<vs'.size:=by omega
  simp[this,ZAV]
 ·exact g2.rep hr (h4.2 j (by omega))
def Zv (P:Program)(t:TypeId)(n:Nat)(parts:List (Nat×AV)) (h:List AO):Option (AV×List AO) :=
 match AL P t with
 |some (_,s,_) =>
  match Ki P t n parts with
  |some (.sl k m f _)=>some (.osl h.length 0 s 0 k,h ++ [.row 0 m f])
  |_=>none
 |none=>none
theorem NP {P:Program}{c:Ctx}(hr:I' c){t:TypeId}{n:Nat}{ps:Array (Nat×Value)} {as:List (Nat×AV)} (hp:EC c ps.toList as) {v:AV} {h':List AO} (h:Zv P t n as c.H=some (v,h')) :
  ∃x w' γ',(ZBR t n ps).run P c.w=.ok x w'∧Rep ⟨w',c.S,γ',h'⟩ x v∧I' ⟨w',c.S,γ',h'⟩∧Ext c ⟨w',c.S,γ',h'⟩:=by
 unfold Zv at h;cases hb:Ki P t n as with
 |none=>rw[hb]at h;split at h <;> cases h
 |some q =>
  obtain⟨e,s,b,l,vs',he,rfl,hlen,hle,TA2,hvs,I_,h4⟩:=IE hp hb;simp only[he,hb,t_,Prod.mk.injEq]at h;obtain⟨rfl,rfl⟩:=h;obtain⟨g1,g2⟩:=Rq hr (nid:=none) (fun _ e=>by cases e) vs' e (n*s) (Xf l) (by rw[hvs];exact N' _) (fun j hj=>h4.2 j (by omega)) (c.w.alloc (.cells vs' e)) rfl rfl rfl rfl;have hn:n≤16777216:=m_ (Nat.le_mul_of_pos_right n TA2) hle;exact⟨_,_,_,I_,.osl _ _ _ _ _ n c.w.heap.size vs'.size (by simp[inf,KL,AO.info]) (by simp[K2,QN]) (N' _) (by rw[hvs,z_];exact N' _) (by omega),g1,g2⟩
def QK (P:Program)(t:TypeId)(i:Nat):Option (Nat×Nat) :=
 match P.underlying t with
 |some (.struct fs)=>match fs[i]? with
  |some f=>(P.info? f.type).map fun q=>(f.offset,q.size)
  |none=>none
 |some (.array _ e)=>(P.info? e).map fun q=>(i*q.size,q.size)
 |_=>none
def AC (P:Program)(t:TypeId):Bool :=
 match P.underlying t with
 |some (.struct fs)=>fs.all fun f=>(P.info? f.type).isSome
 |some (.array _ e)=>(P.info? e).isSome
 |_=>false
def Gc (P:Program)(t:TypeId)(parts:List (Nat×AV)):Option AV :=
 match Qh P t with
 |some z=>Qf (AC P t=true) ((Aj (QK P t) z parts).map .agg)
 |none=>none
theorem G8 {P:Program}(w:World):∀ (fs:List Field),(∀f∈fs,(P.info? f.type).isSome=true) →
  (fs.mapM (m:=Sem) fun f=>do pure (f.offset,←sizeOf f.type)).run P w=.ok (fs.map fun f=>(f.offset,((P.info? f.type).map (·.size)).getD 0)) w
 | [],_=>by simp
 |f :: fs,h=>by
  have h1:=h f (by simp);have ih:=G8 w fs (fun g hg=>h g (by simp[hg]));cases hi:P.info? f.type with
  |none=>simp[hi]at h1
  |some i =>
   simp only[List.mapM_cons,ZAv,sizeOf,typeInfo,run_program,ZAa,hi,ZCv,ZBW,ZBp,ZBK];simp only[sizeOf,typeInfo]at ih;rw[ih];simp
theorem PG {P:Program}{c:Ctx}{t:TypeId}{ps:Array (Nat×Value)} {as:List (Nat×AV)} (hp:EC c ps.toList as) {v:AV} (h:Gc P t as=some v) :
  ∃x,(ZDf t ps).run P c.w=.ok x c.w∧Rep c x v:=by
 unfold Gc at h;cases hz:Qh P t with
 |none=>simp[hz]at h
 |some z =>
  simp only[hz]at h;obtain⟨hok,h2⟩:=Xg h;cases hf:Aj (QK P t) z as with
  |none=>simp[hf]at h2
  |some l =>
   simp[hf]at h2;subst h2;unfold Qh at hz;cases hi:P.info? t with
   |none=>simp[hi]at hz
   |some F_ =>
    cases hz2:F_.zero with
    |none=>simp[hi,hz2]at hz
    |some zv =>
     simp[hi,hz2]at hz;subst hz;have h0:TAH c zv.cells (zv.cells.toList.map K3):=⟨by simp,Iw c zv.cells K3 (At c)⟩
     unfold AC at hok
     split at hok
     ·rename_i fs hu
      have TBL:∀f∈fs.toList,(P.info? f.type).isSome=true:=fun f hf=>(Array.all_eq_true_iff_forall_mem.1 hok) f (by simpa using hf)
      have hpl:∀i x,QK P t i=some x→(fun i=>((fs.toList.map fun f=>(f.offset,((P.info? f.type).map (·.size)).getD 0)).toArray)[i]?) i=some x:=by
       intro i x hx;unfold QK at hx;rw[hu]at hx;simp only at hx;cases hfi:fs[i]? with
       |none=>simp[hfi]at hx
       |some f =>
        simp only[hfi]at hx;cases hq:P.info? f.type with
        |none=>simp[hq]at hx
        |some q=>simp[hq]at hx;subst hx;simp[hfi,hq]
      obtain⟨vs',h3,h4⟩:=CL hpl ps.toList as _ _ l hp.1 hp.2 h0 hf;refine⟨.agg vs',?_,.agg _ _ h4.1 h4.2⟩;have hm:=G8 (P:=P) c.w fs.toList TBL;have hm':(fs.mapM (m:=Sem) fun f=>do pure (f.offset,←sizeOf f.type)).run P c.w=.ok (fs.toList.map fun f=>(f.offset,((P.info? f.type).map (·.size)).getD 0)).toArray c.w:=by
       rw[←Array.toArray_toList (xs:=fs),List.mapM_toArray];simp only[Sem.run_map];rw[show(fs.toList.toArray).toList=fs.toList by simp,hm];rfl
      simp only[ZDf,ZAv,zeroValue,typeInfo,run_program,ZAa,hi,ZCv,hz2,run_underlying hu,hm',h3]
     ·rename_i n e hu
      cases hq:P.info? e with
      |none=>simp[hq]at hok
      |some q =>
       have hpl:∀i x,QK P t i=some x→(fun i=>some (i*q.size,q.size)) i=some x:=by
        intro i x hx;unfold QK at hx;rw[hu]at hx
        simpa [hq]using hx
       obtain⟨vs',h3,h4⟩:=CL hpl ps.toList as _ _ l hp.1 hp.2 h0 hf;refine⟨.agg vs',?_,.agg _ _ h4.1 h4.2⟩;simp only[ZDf,ZAv,zeroValue,typeInfo,run_program,ZAa,hi,ZCv,hz2,run_underlying hu,sizeOf,hq,h3]
     ·cases hok
def Bd (P:Program)(nid:Option Nat)(t:TypeId)(h:List AO):Option (AV×List AO) :=
 match Qh P t with
 |some z=>some (.ref (QN nid h) 0 0,KL nid h (.row 0 z.length (Xf z)))
 |none=>none
def NO (nid:Option Nat)(v:AV)(h:List AO):Option (AV×List AO) :=
 Qf (v.cells.all AV.one=true) (some (.ref (QN nid h) 0 0,KL nid h (.row 0 v.cells.length (Xf (v.cells.map AV.boxed)))))
theorem Hh {c:Ctx}(hr:I' c){nid:Option Nat}(TAj:∀ id,nid=some id→c.H[id]?=some .D_)(cs:Array Value)(l:List AV)(hl:TAH c cs l)(el:TypeId) :
  ∃γ',Rep ⟨c.w.alloc (.cells cs el),c.S,γ',KL nid c.H (.row 0 l.length (Xf l))⟩ (.pointer (some ⟨c.w.heap.size,0,none⟩)) (.ref (QN nid c.H) 0 0) ∧
   I' ⟨c.w.alloc (.cells cs el),c.S,γ',KL nid c.H (.row 0 l.length (Xf l))⟩∧Ext c ⟨c.w.alloc (.cells cs el),c.S,γ',KL nid c.H (.row 0 l.length (Xf l))⟩:=by
 obtain⟨g1,g2⟩:=Rq hr TAj cs el l.length (Xf l) (by rw[hl.1];exact N' _) hl.2 (c.w.alloc (.cells cs el)) rfl rfl rfl rfl;exact⟨_,.ref _ _ _ c.w.heap.size cs.size (by simp[inf,Hg TAj,AO.info]) (by simp[K2]),g1,g2⟩
theorem PE {P:Program}{c:Ctx}(hr:I' c){nid:Option Nat}(TAj:∀ id,nid=some id→c.H[id]?=some .D_){t:TypeId}{v:AV}{h':List AO}(h:Bd P nid t c.H=some (v,h')) :
  ∃x w' γ',(Instr.alloc t true (.tuple #[])).run P c.w=.ok x w'∧Rep ⟨w',c.S,γ',h'⟩ x v∧I' ⟨w',c.S,γ',h'⟩∧Ext c ⟨w',c.S,γ',h'⟩:=by
 unfold Bd at h;cases hz:Qh P t with
 |none=>simp[hz]at h
 |some z =>
  simp[hz]at h;obtain⟨rfl,rfl⟩:=h;unfold Qh at hz;cases hi:P.info? t with
  |none=>simp[hi]at hz
  |some F_ =>
   cases hz2:F_.zero with
   |none=>simp[hi,hz2]at hz
   |some zv =>
    simp[hi,hz2]at hz;subst hz;obtain⟨γ',h1,h2,h3⟩:=Hh hr TAj zv.cells (zv.cells.toList.map K3) ⟨by simp,Iw c zv.cells K3 (At c)⟩ t;exact⟨_,_,γ',by simp[Instr.alloc,zeroValue,typeInfo,hi,hz2,newVar,newRow],h1,h2,h3⟩
theorem TAH.loose {c:Ctx}{vs:Array Value}{l:List AV}(h:TAH c vs l):TAH c vs (l.map AV.loose):=by
 refine⟨by simp[h.1],fun j hj=>?_⟩;have hj':j<l.length:=by simpa using hj
 have:=(h.2 j hj').loose;have e:(l.map AV.loose).getD j .any=(l.getD j .any).loose:=by simp[K',hj']
 rw[e];exact this
theorem TAH.boxed {c:Ctx}{vs:Array Value}{l:List AV}(h:TAH c vs l):TAH c vs (l.map AV.boxed):=by
 refine⟨by simp[h.1],fun j hj=>?_⟩;have hj':j<l.length:=by simpa using hj
 have:=(h.2 j hj').boxed;have e:(l.map AV.boxed).getD j .any=(l.getD j .any).boxed:=by simp[K',hj']
 rw[e];exact this
theorem V4 {P:Program}{c:Ctx}(hr:I' c){nid:Option Nat}(TAj:∀ id,nid=some id→c.H[id]?=some .D_){t:TypeId}{a v:AV}{y:Value}(hy:Rep c y a){h':List AO}(h:NO nid a c.H=some (v,h')) :
  ∃x w' γ',(Instr.box t y).run P c.w=.ok x w'∧Rep ⟨w',c.S,γ',h'⟩ x v∧I' ⟨w',c.S,γ',h'⟩∧Ext c ⟨w',c.S,γ',h'⟩:=by
 obtain⟨TA9,h2⟩:=Xg h;cases h2;obtain⟨γ',h1,h2,h3⟩:=Hh hr TAj y.cells (a.cells.map AV.boxed) (CG hy TA9).boxed t;rw[ZCz]at h1 h2 h3;exact⟨_,_,γ',by simp[Instr.box,newVar,newRow],h1,h2,h3⟩
theorem HV {c:Ctx}(hr:I' c){id ver:Nat}{f:Nat→AV}{H':List AO}{w:World}(hid:H'[id]?=some (.row ver 0 f)) (hH:∀i,i≠id→H'[i]?=c.H[i]?)
  (hw:w=c.w)
  (TBk:c.H[id]?=none∨c.H[id]?=some .D_∨(c.γ id=none∧∃v0,inf c.H id=some v0∧v0<ver)) :
  I' ⟨w,c.S,K2 c.γ id none,H'⟩∧Ext c ⟨w,c.S,K2 c.γ id none,H'⟩:=by
 subst hw;have J':Ext c ⟨c.w,c.S,K2 c.γ id none,H'⟩:=by
  refine⟨?_,fun _ h=>h,fun _ h=>.inl h,?_,fun _ _ _=>rfl,N' _,rfl,rfl,rfl⟩
  ·intro i o ho
   by_cases hi:i=id
   ·subst hi
    rcases TBk with h |h | ⟨hg,v0,hi0,hv⟩
    ·rw[h]at ho;cases ho
    ·rw[h]at ho;cases ho;trivial
    ·have J_:inf H' i=some ver:=by simp[inf,hid,AO.info]
     unfold inf at hi0;rw[ho]at hi0;cases o <;> simp[AO.info]at hi0
     ·subst hi0;exact .inr ⟨ver,J_,.inl hv⟩
     ·subst hi0;exact .inr ⟨ver,J_,.inl hv⟩
   ·have h1:=HLe.refl c i o ho
    have e1:=hH i hi;cases o with
    |D_=>trivial
    |dead=>simpa [e1]using h1
    |row v _ _=>simpa [e1,inf,K2,hi]using h1
    |con v _ _=>simpa [e1,inf,K2,hi]using h1
    |map k g=>simpa [e1,K2,hi]using h1
  ·rintro b ⟨i,o,sz,ho,TAP,hg⟩
   by_cases hi:i=id
   ·subst hi;simp[K2]at hg
   ·refine .inr ⟨i,o,sz,?_,TAP,?_⟩
    ·rw[←hH i hi];exact ho
    ·simpa [K2,hi]using hg
 refine⟨⟨?_,?_,?_,?_,hr.bound⟩,J'⟩
 ·intro i v n f ho
  by_cases hi:i=id
  ·subst hi
   simp only at ho;rw[hid]at ho;cases ho;exact .inl ⟨by simp[K2],rfl⟩
  ·simp only at ho
   rw[hH i hi]at ho;rcases hr.row i v n f ho with⟨h1,h2⟩ | ⟨b,sz,cs,el,h1,h2,h3,h4,h5,h6⟩
   ·exact .inl ⟨by simpa [K2,hi]using h1,h2⟩
   ·exact .inr ⟨b,sz,cs,el,by simpa [K2,hi]using h1,h2,h3,h4,h5,fun j hj=>J'.rep hr (h6 j hj)⟩
 ·intro i v n f ho
  by_cases hi:i=id
  ·subst hi;simp only at ho;rw[hid]at ho;cases ho
  ·simp only at ho
   rw[hH i hi]at ho;rcases hr.con i v n f ho with⟨h1,h2⟩ | ⟨b,sz,cs,el,fr,h1,h2,h3,h4,h5,h6⟩
   ·exact .inl ⟨by simpa [K2,hi]using h1,h2⟩
   ·exact .inr ⟨b,sz,cs,el,fr,by simpa [K2,hi]using h1,h2,h3,h4,h5,fun j hj=>J'.rep hr (h6 j hj)⟩
 ·intro i k g ho
  by_cases hi:i=id
  ·subst hi;simp only at ho;rw[hid]at ho;cases ho
  ·simp only at ho
   rw[hH i hi]at ho;obtain⟨b,sz,es,cl,h1,h2,h3,h4⟩:=hr.map i k g ho;exact⟨b,sz,es,cl,by simpa [K2,hi]using h1,h2,h3,h4.ext fun v a hv=>J'.rep hr hv⟩
 ·intro i i' o o' b sz sz' ho ho' h1 h2 hg hg'
  simp only at ho ho' hg hg';by_cases hi:i=id
  ·subst hi;simp[K2]at hg
  ·by_cases hi':i'=id
   ·subst hi';simp[K2]at hg'
   ·rw[hH i hi]at ho;rw[hH i' hi']at ho'
    simp only[K2,hi,hi',if_false]at hg hg';exact hr.inj _ _ _ _ _ _ _ ho ho' h1 h2 hg hg'
def XV (N:Nat)(f:Nat→AV)(M:Nat)(g:Nat→AV):Nat→AV:=fun j=>if j<N then f j else if j<N+M then g (j-N)else f j
def DN (s:Nat)(y:AV)(h:List AO):Option (Nat×(Nat→AV)) :=
 match y with
 | .sl n m g _=>Qf (n*s≤m) (some (n,g))
 | .osl id ver es off n =>
  match h[id]? with
  |some (.row v m g)=>Qf (v=ver∧es=s∧off+n*s≤m) (some (n,fun j=>g (off+j)))
  |some (.con v m g)=>Qf (v=ver∧es=s∧off+n*s≤m) (some (n,fun j=>g (off+j)))
  |_=>none
 |_=>none
def TAr (c:Ctx)(z:Value)(n s:Nat)(g:Nat→AV):Prop :=
 ∃ (b o cap:Nat) (us:Nat→Value),z=.slice (some ⟨b,o,none⟩) n cap∧n≤cap∧(∀j,j<n*s→c.w.cell? ⟨b,o+j,none⟩=some (us j))∧∀j,j<n*s→Rep c (us j) (g j)
theorem Mb {c:Ctx}(hr:I' c){s:Nat}{y:AV}{z:Value}(hz:Rep c z y){n:Nat}{g:Nat→AV}(h:DN s y c.H=some (n,g)) :
  (∃a cap,n=0∧z=.slice a 0 cap)∨TAr c z n s g:=by
 unfold DN at h;have obj:∀ (id ver es off m:Nat) (g':Nat→AV) (_:inf c.H id=some ver) (_:(c.γ id=none∧m=0)∨∃b sz cs el fr,c.γ id=some (b,sz)∧c.w.heap[b]?=some (.cells cs el fr)∧m≤cs.size∧∀j,j<m→Rep c (cs.getD j undef) (g' j)),
   Rep c z (.osl id ver es off n)→off+n*s≤m→(∃a cap,n=0∧z=.slice a 0 cap)∨TAr c z n s (fun j=>g' (off+j)):=by
  intro id ver es off m g' J_ TFC hz hle;cases hz with
  |osl _ _ _ _ _ cap b sz hi hg hn TAY hmx =>
   rcases TFC with⟨h1,_⟩ | ⟨b',sz',cs,el,fr,h1,h2,h3,h4⟩
   ·rw[h1]at hg;cases hg
   ·rw[h1]at hg;cases hg
    refine .inr ⟨b,off,cap,fun j=>cs.getD (off+j) undef,rfl,hn,fun j hj=>?_,fun j hj=>h4 _ (by omega)⟩;have hlt:off+j<cs.size:=by omega
    rw[cell_of_row c.w b _ cs el fr h2];simp[hlt,ZAV]
  |TAh _ _ _ _ a hi=>exact .inl ⟨a,0,rfl,rfl⟩
  |TAL _ _ _ _ _ a cap hn hs' =>
   exfalso;rcases hs' with⟨v,hi,hlt⟩ |hd
   ·rw[J_]at hi;cases hi;omega
   ·simp[inf,hd,AO.info]at J_
  |TAG _ _ _ _ a hs'=>exact .inl ⟨a,0,rfl,rfl⟩
 cases y with
 |sl n' m f t =>
  obtain⟨hle,h2⟩:=Xg h;cases h2;cases hz with
  |sl b base _ _ cap _ _ us hS hc hrr hn ht=>exact .inr ⟨b,base,cap,us,rfl,hn,fun j hj=>hc j (by omega),fun j hj=>hrr j (by omega)⟩
  |slz a cap _ _ ht=>exact .inl ⟨a,cap,rfl,rfl⟩
 |osl id ver es off n' =>
  cases ho:c.H[id]? with
  |none=>simp[ho]at h
  |some o =>
   simp only[ho]at h;cases o with
   |row v m g' =>
    obtain⟨⟨rfl,rfl,hle⟩,h2⟩:=Xg h;cases h2;refine obj id v es off m g' (by simp[inf,ho,AO.info]) ?_ hz hle;rcases hr.row id v m g' ho with h1 | ⟨b,sz,cs,el,h1,h2,h3,h4,h5,h6⟩
    ·exact .inl h1
    ·exact .inr ⟨b,sz,cs,el,_,h1,h2,by omega,h6⟩
   |con v m g' =>
    obtain⟨⟨rfl,rfl,hle⟩,h2⟩:=Xg h;cases h2;refine obj id v es off m g' (by simp[inf,ho,AO.info]) ?_ hz hle;rcases hr.con id v m g' ho with h1 | ⟨b,sz,cs,el,fr,h1,h2,h3,h4,h5,h6⟩
    ·exact .inl h1
    ·exact .inr ⟨b,sz,cs,el,fr,h1,h2,by omega,h6⟩
   |_=>simp at h
 |_=>simp at h
def J5 (P:Program)(t:TypeId)(x y:AV)(h:List AO):Option (AV×List AO) :=
 match AL P t with
 |none=>none
 |some (_,s,by_) =>
  match DN s y h with
  |none=>none
  |some (m,g) =>
   match x with
   | .osl id ver es off n =>
    match h[id]? with
    |some (.row v k f)=>Qf (v=ver∧es=s∧off=0∧n*s≤k∧(∀j,j<m*s→(g j).one=true)∧(n+m)*by_≤140737488355328∧n+m≤9223372036854775807)
      (some (.osl id (v+1) s 0 (n+m),h.set id (.row (v+1) ((n+m)*s) (XV (n*s) f (m*s) g))))
    |_=>none
   | .sl n k f true=>if m=0∧0<n then some (.sl n k f true,h)else Qf (n*s≤k∧(n=0∨0<m)∧(∀j,j<m*s→(g j).one=true)∧(n+m)*by_≤140737488355328∧n+m≤9223372036854775807)
      (some (.osl h.length 0 s 0 (n+m),h ++ [.row 0 ((n+m)*s) (XV (n*s) f (m*s) g)]))
   |_=>none
theorem Ay {P:Program}{w:World}{t e:TypeId}{i:TypeInfo}(ty:TypeId)(hu:P.underlying t=some (.slice e)) (hi:P.info? e=some i)
  (a a':Option Addr) (n cap TAZ:Nat) (hn:n≤cap) :
  (ZAD #[t,t] ty #[.slice a n cap,.slice a' 0 TAZ]).run P w=.ok (.slice a n cap) w:=by
 cases a <;> cases a' <;> simp[ZAD,run_underlying hu,sizeOf,typeInfo,hi,ZCZ,ZBv,hn,storeCells,loadCells,loadCellsFrom]
theorem O9 {P:Program}{w:World}{t e:TypeId}{i:TypeInfo}(ty:TypeId)(hu:P.underlying t=some (.slice e)) (hi:P.info? e=some i)
  (g TCV TDr:Nat) (cur:Array Value) (el:TypeId) (hg:w.heap[g]?=some (.cells cur el (0,0)))
  (a:Addr) (m c:Nat) (news:List Value) (hl:news.length=m*i.size) (TCx:∀j u,news[j]?=some u→w.cell? (a.add j)=some u) (h1:∀u∈news,u.oneCell'=true)
  (TAz:TCV+m≤TDr) (TDH:TCV*i.size+news.length≤cur.size) :
  (ZAD #[t,t] ty #[.slice (some ⟨g,0,none⟩) TCV TDr,.slice (some a) m c]).run P w =
   .ok (.slice (some ⟨g,0,none⟩) (TCV+m) TDr) (w.setRow g (cur.toList.take (TCV*i.size) ++ news ++ cur.toList.drop (TCV*i.size+news.length)).toArray):=by
 have hf:=run_firstCells_some (P:=P) w i.size m a m c news hl TCx;have hst:=run_storeCells_at P g (TCV*i.size) el news 0 cur w hg (by simpa using TDH) h1;simp only[ZAm]at hst;simp[ZAD,run_underlying hu,sizeOf,typeInfo,hi,ZCZ,TAz,hf,ZAg,hst]
theorem Eu (us:Nat→Value)(k j:Nat)(hj:j<k):((ZAO k).map us).getD j undef=us j:=by
 simp[K',hj]
theorem TAr.news {c:Ctx}{z:Value}{n s:Nat}{g:Nat→AV}(h:TAr c z n s g)(h1:∀j,j<n*s→(g j).one=true) :
  ∃ (a:Addr) (cap:Nat) (news:List Value),z=.slice (some a) n cap∧news.length=n*s∧(∀j u,news[j]?=some u→c.w.cell? (a.add j)=some u)∧(∀u∈news,u.oneCell'=true) ∧
   ∀j,j<n*s→Rep c (news.getD j undef) (g j):=by
 obtain⟨b,o,cap,us,rfl,_,hc,hr⟩:=h;refine⟨⟨b,o,none⟩,cap,(ZAO (n*s)).map us,rfl,by simp,fun j u hu=>?_,fun u hu=>?_,fun j hj=>?_⟩
 ·have hj:j<n*s:=by
   have:=(S_.1 hu).1
   simpa using this
  rw[ZAg,hc j hj];simp[hj]at hu;rw[hu]
 ·obtain⟨j,hj,rfl⟩:=ZBj.1 hu
  have hj':j<n*s:=by simpa using hj
  exact(hr j hj').one (h1 j hj')
 ·rw[Eu us _ _ hj];exact hr j hj
theorem TAr.TCA {c:Ctx}{z:Value}{n s:Nat}{g:Nat→AV}(h:TAr c z n s g) :
  ∃ (b o cap:Nat) (TAX:List Value),z=.slice (some ⟨b,o,none⟩) n cap∧n≤cap∧TAX.length=n*s∧(∀j u,TAX[j]?=some u→c.w.cell? ((⟨b,o,none⟩:Addr).add j)=some u) ∧
   ∀j,j<n*s→Rep c (TAX.getD j undef) (g j):=by
 obtain⟨b,o,cap,us,rfl,hn,hc,hr⟩:=h;refine⟨b,o,cap,(ZAO (n*s)).map us,rfl,hn,by simp,fun j u hu=>?_,fun j hj=>?_⟩
 ·have hj:j<n*s:=by
   have:=(S_.1 hu).1
   simpa using this
  rw[ZAg,hc j hj];simp[hj]at hu;rw[hu]
 ·rw[Eu us _ _ hj];exact hr j hj
theorem Ck {c:Ctx}{N M:Nat}{f g:Nat→AV}{TAX news rest:List Value}(h1:TAX.length=N)(h2:news.length=M)(ho:∀j,j<N→Rep c (TAX.getD j undef) (f j)) (hn:∀j,j<M→Rep c (news.getD j undef) (g j)) :
  ∀j,j<N+M→Rep c ((TAX ++ news ++ rest).toArray.getD j undef) (XV N f M g j):=by
 intro j hj;have e:(TAX ++ news ++ rest).toArray.getD j undef=((TAX ++ news ++ rest)[j]?).getD undef:=by simp[s_]
 rw[e,P_];unfold XV;by_cases hj1:j<N
 ·rw[N_ hj1,T_ (by omega),←K'];exact ho j hj1
 ·rw[M_ hj1,N_ hj,g_ (by omega),T_ (by omega),h1,←K'];exact hn _ (by omega)
theorem NN {P:Program}{c:Ctx}(hr:I' c){t:TypeId}(ty:TypeId){x y v:AV}{vx vy:Value}(hx:Rep c vx x)(hy:Rep c vy y){h':List AO}(h:J5 P t x y c.H=some (v,h')) :
  ∃r w' γ',(ZAD #[t,t] ty #[vx,vy]).run P c.w=.ok r w'∧Rep ⟨w',c.S,γ',h'⟩ r v∧I' ⟨w',c.S,γ',h'⟩∧Ext c ⟨w',c.S,γ',h'⟩:=by
 unfold J5 at h;cases he:AL P t with
 |none=>simp[he]at h
 |some q =>
  obtain⟨e,s,by_⟩:=q;obtain⟨hu,F_,z,hin,hs,hby,hz,hzs,TA2⟩:=ZE he;simp only[he]at h;cases TCW:DN s y c.H with
  |none=>simp[TCW]at h
  |some q =>
   obtain⟨m,g⟩:=q;simp only[TCW]at h;have TCK:=Mb hr hy TCW;have hvy:∃a TAs,vy=.slice a m TAs:=by
    rcases TCK with⟨a,TAs,rfl,rfl⟩ | ⟨b,o,cap,us,rfl,_⟩
    ·exact⟨_,_,rfl⟩
    ·exact⟨_,_,rfl⟩
   have hsy:0<m→TAr c vy m s g:=fun hm=>TCK.resolve_left (by rintro⟨a,TAs,rfl,_⟩;omega)
   have TBn:∀ (n:Nat) (f:Nat→AV) (b:Addr) (cap:Nat) (TAX:List Value),vx=.slice (some b) n cap→cap<n+m→TAX.length=n*s →
     (∀j u,TAX[j]?=some u→c.w.cell? (b.add j)=some u)→(∀j,j<n*s→Rep c (TAX.getD j undef) (f j))→TAr c vy m s g→(∀j,j<m*s→(g j).one=true) →
     (n+m)*by_≤140737488355328→n+m≤9223372036854775807 →
     ∃TAZ cs,(ZAD #[t,t] ty #[vx,vy]).run P c.w=.ok (.slice (some ⟨c.w.heap.size,0,none⟩) (n+m) TAZ) (c.w.drew.alloc (.cells cs e))∧n+m≤TAZ∧TAZ≤9223372036854775807∧cs.size=TAZ*s ∧
      ∀j,j<(n+m)*s→Rep c (cs.getD j undef) (XV (n*s) f (m*s) g j):=by
    intro n f b cap TAX hvx TAY hol hoc hor hsy h1 hb h63;obtain⟨a,TAs,news,e2,hnl,TDs,hn1,hnr⟩:=hsy.news h1;subst hs hby;have I_:=run_append_grow (P:=P) c.w t ty e F_ z hu hin hz b n cap TAX hol hoc a m TAs news hnl TDs TAY (by omega) (growslice_fits TAY hb);rw[hvx,e2];have hge:=grownCap_ge c.w (n+m) cap e;refine⟨_,_,I_,hge,grownCap_le_maxLen _ _ _ _ h63,?_,?_⟩
    ·simp only[ZBb,ZBd,size_zeroCells,hzs,hol,hnl,←ZAc]
     congr 1;omega
    ·intro j hj
     rw[ZAc]at hj;have:=Ck (c:=c) (rest:=(a_ z.cells (grownCap c.w (n+m) cap e-(n+m))).toList) hol hnl hor hnr j hj;have e3:(TAX ++ news ++ (a_ z.cells (grownCap c.w (n+m) cap e-(n+m))).toList).toArray=TAX.toArray ++ news.toArray ++ a_ z.cells (grownCap c.w (n+m) cap e-(n+m)):=by
      apply ZCQ;simp
     rwa[e3]at this
   have TBo:∀ (f:Nat→AV) (a0:Option Addr),vx=.slice a0 0 0→0<m→(∀j,j<m*s→(g j).one=true)→(0+m)*by_≤140737488355328→0+m≤9223372036854775807 →
     ∃TAZ cs,(ZAD #[t,t] ty #[vx,vy]).run P c.w=.ok (.slice (some ⟨c.w.heap.size,0,none⟩) (0+m) TAZ) (c.w.drew.alloc (.cells cs e))∧0+m≤TAZ∧TAZ≤9223372036854775807∧cs.size=TAZ*s ∧
      ∀j,j<(0+m)*s→Rep c (cs.getD j undef) (XV (0*s) f (m*s) g j):=by
    intro f a0 hvx hm h1 hb h63;cases a0 with
    |some a0=>exact TBn 0 f a0 0 [] hvx (by omega) (by simp) (by simp) (fun j hj=>by simp at hj) (hsy hm) h1 hb h63
    |none =>
     obtain⟨a,TAs,news,e2,hnl,TDs,hn1,hnr⟩:=(hsy hm).news h1;subst hs hby;simp only[z_]at hb h63 ⊢;have I_:=run_append_nil (P:=P) c.w t ty e F_ z hu hin hz a m TAs news hnl TDs hm (by omega) (by omega);rw[hvx,e2];have hge:=grownCap_ge c.w m 0 e;refine⟨_,_,I_,hge,grownCap_le_maxLen _ _ _ _ h63,?_,?_⟩
     ·simp only[ZBb,ZBd,size_zeroCells,hzs,hnl,←ZAc]
      congr 1;omega
     ·intro j hj
      have:=Ck (c:=c) (f:=f) (TAX:=[]) (rest:=(a_ z.cells (grownCap c.w m 0 e-m)).toList) rfl hnl (fun j hj=>absurd hj (ZAL j)) hnr j (by simpa using hj);have e3:([] ++ news ++ (a_ z.cells (grownCap c.w m 0 e-m)).toList).toArray=news.toArray ++ a_ z.cells (grownCap c.w m 0 e-m):=by
       apply ZCQ;simp
      rw[e3]at this
      simpa using this
   cases x with
   |osl id ver es off n =>
    cases ho:c.H[id]? with
    |none=>simp[ho]at h
    |some o =>
     simp only[ho]at h;cases o with
     |row v' k f =>
      obtain⟨⟨rfl,rfl,rfl,hk,h1,hb,h63⟩,h2⟩:=Xg h;cases h2;have hlt:=(S_.1 ho).1;have J_:inf c.H id=some v':=by simp[inf,ho,AO.info]
      have TAM:(c.H.set id (.row (v'+1) ((n+m)*es) (XV (n*es) f (m*es) g)))[id]?=some (.row (v'+1) ((n+m)*es) (XV (n*es) f (m*es) g)):=by simp[hlt]
      have TAI:∀i,i≠id→(c.H.set id (.row (v'+1) ((n+m)*es) (XV (n*es) f (m*es) g)))[i]?=c.H[i]?:=fun i hi=>by simp[w_ hi]
      have TA3:inf (c.H.set id (.row (v'+1) ((n+m)*es) (XV (n*es) f (m*es) g))) id=some (v'+1):=by simp[inf,TAM,AO.info]
      have fin:∀TAZ cs,(ZAD #[t,t] ty #[vx,vy]).run P c.w=.ok (.slice (some ⟨c.w.heap.size,0,none⟩) (n+m) TAZ) (c.w.drew.alloc (.cells cs e))→n+m≤TAZ→TAZ≤9223372036854775807→cs.size=TAZ*es →
        (∀j,j<(n+m)*es→Rep c (cs.getD j undef) (XV (n*es) f (m*es) g j)) →
        ∃r w' γ',(ZAD #[t,t] ty #[vx,vy]).run P c.w=.ok r w'∧Rep ⟨w',c.S,γ',c.H.set id (.row (v'+1) ((n+m)*es) (XV (n*es) f (m*es) g))⟩ r (.osl id (v'+1) es 0 (n+m)) ∧
         I' ⟨w',c.S,γ',c.H.set id (.row (v'+1) ((n+m)*es) (XV (n*es) f (m*es) g))⟩∧Ext c ⟨w',c.S,γ',c.H.set id (.row (v'+1) ((n+m)*es) (XV (n*es) f (m*es) g))⟩:=by
       intro TAZ cs I_ TAY TDt hcs TA8;obtain⟨g1,g2⟩:=A0 (c:=c) (c':=⟨c.w.drew.alloc (.cells cs e),c.S,K2 c.γ id (some (c.w.heap.size,cs.size)),c.H.set id (.row (v'+1) ((n+m)*es) (XV (n*es) f (m*es) g))⟩) hr
        (id:=id) (ver:=v'+1) (n:=(n+m)*es) (b:=c.w.heap.size) (sz:=cs.size) TAM TAI rfl (by simp[K2]) (fun i hi=>by simp[K2,hi]) (heap_alloc_new c.w.drew _) rfl
        (by rw[hcs];exact ZAU _ TAY) (fun b' _ hb'=>heap_alloc_old c.w.drew _ b' hb') (by simp) rfl rfl rfl (.inl (N' _)) (.inr (.inr ⟨v',J_,.inl (by omega)⟩)) TA8
       exact⟨_,_,_,I_,.osl id _ es 0 _ _ c.w.heap.size cs.size TA3 (by simp[K2]) TAY (by omega) TDt,g1,g2⟩
      have live:¬TAe c.H id v':=by
       rintro(⟨v'',hi,hlt⟩ |hd)
       ·rw[J_]at hi;cases hi;omega
       ·simp[inf,hd,AO.info]at J_
      cases hx with
      |osl _ _ _ _ _ cap b sz hi hg hn TAY hmx =>
       rcases hr.row id _ k f ho with⟨hg',_⟩ | ⟨b',sz',cs,el,hg',hh,hcs,hks,hnS,hcr⟩
       ·rw[hg']at hg;cases hg
       ·rw[hg']at hg;cases hg
        have hsx:TAr c (.slice (some ⟨b,0,none⟩) n cap) n es f:=by
         refine⟨b,0,cap,fun j=>cs.getD j undef,rfl,hn,fun j hj=>ZU hh (m:=k) (by omega) j (by omega),fun j hj=>hcr j (by omega)⟩
        rcases ZCm m with rfl |hm
        ·
         obtain⟨a,TAs,rfl⟩:=hvy;have I_:=Ay (P:=P) (w:=c.w) ty hu hin (some ⟨b,0,none⟩) a n cap TAs hn;obtain⟨g1,g2⟩:=A0 (c:=c) (c':=⟨c.w,c.S,c.γ,c.H.set id (.row (v'+1) ((n+0)*es) (XV (n*es) f (0*es) g))⟩) hr
          (id:=id) (ver:=v'+1) (n:=(n+0)*es) (b:=b) (sz:=sz) TAM TAI rfl hg' (fun _ _=>rfl) hh hcs (by simp;omega) (fun _ _ _=>rfl) (N' _) rfl rfl rfl
          (.inr ⟨_,_,ho,rfl,hg'⟩) (.inr (.inr ⟨v',J_,.inl (by omega)⟩)) (fun j hj=>by
           have hj':j<n*es:=by simpa using hj
           simp only[XV,N_ hj'];exact hcr j (by omega))
         exact⟨_,_,c.γ,I_,.osl id _ es 0 _ _ b sz TA3 hg' (by simpa using hn) TAY hmx,g1,g2⟩
        ·by_cases TAz:n+m≤cap
         ·obtain⟨a,TAs,news,rfl,hnl,hnc,hn1,hnr⟩:=(hsy hm).news h1
          subst hs hby;have hmul:n*F_.size+m*F_.size≤cap*F_.size:=by rw[←ZAc];exact ZAU _ TAz
          have I_:=O9 (P:=P) (w:=c.w) ty hu hin b n cap cs el hh a m TAs news hnl hnc hn1 TAz (by omega);have TCX:(cs.toList.take (n*F_.size) ++ news ++ cs.toList.drop (n*F_.size+news.length)).toArray.size=sz:=by
           simp;omega
          obtain⟨g1,g2⟩:=A0 (c:=c) (c':=⟨c.w.setRow b (cs.toList.take (n*F_.size) ++ news ++ cs.toList.drop (n*F_.size+news.length)).toArray,c.S,c.γ,c.H.set id (.row (v'+1) ((n+m)*F_.size) (XV (n*F_.size) f (m*F_.size) g))⟩) hr
           (id:=id) (ver:=v'+1) (n:=(n+m)*F_.size) (b:=b) (sz:=sz) TAM TAI rfl hg' (fun _ _=>rfl) (setRow_heap c.w b cs _ el _ hh) TCX (by rw[ZAc];omega)
           (fun b' hb' _=>setRow_other c.w b b' _ hb') (by simp) rfl rfl rfl (.inr ⟨_,_,ho,rfl,hg'⟩) (.inr (.inr ⟨v',J_,.inl (by omega)⟩)) (fun j hj=>by
            rw[ZAc]at hj;refine Ck (c:=c) (by simp;omega) hnl (fun j hj=>?_) hnr j hj;have e1:(cs.toList.take (n*F_.size)).getD j undef=cs.getD j undef:=by
             simp[K',hj,s_]
            rw[e1];exact hcr j (by omega))
          exact⟨_,_,c.γ,I_,.osl id _ _ 0 _ _ b sz TA3 hg' TAz TAY hmx,g1,g2⟩
         ·obtain⟨b',o',TDu,TAX,e1,hnc,hol,hoc,hor⟩:=hsx.TCA
          cases e1;obtain⟨TAZ,cs',I_,h3,h3',h4,h5⟩:=TBn n f ⟨b,0,none⟩ cap TAX rfl (by omega) hol hoc hor (hsy hm) h1 hb h63;exact fin TAZ cs' I_ h3 h3' h4 h5
      |TAh _ _ _ _ a hi =>
       rcases ZCm m with rfl |hm
       ·obtain⟨a',TAs,rfl⟩:=hvy
        have I_:=Ay (P:=P) (w:=c.w) ty hu hin a a' 0 0 TAs (N' _);simp only[ZAm,ZA8]at TAM TAI TA3 ⊢;rcases hr.row id _ k f ho with⟨hg',hk0⟩ | ⟨b',sz',cs,el,hg',hh,hcs,hks,hnS,hcr⟩
        ·obtain⟨g1,g2⟩:=HV hr (id:=id) (ver:=v'+1) (w:=c.w) TAM TAI rfl (.inr (.inr ⟨hg',v',J_,by omega⟩))
         exact⟨_,_,_,I_,.TAh id _ _ 0 a TA3,g1,g2⟩
        ·obtain⟨g1,g2⟩:=A0 (c:=c) (c':=⟨c.w,c.S,c.γ,c.H.set id (.row (v'+1) 0 (XV 0 f 0 g))⟩) hr
          (id:=id) (ver:=v'+1) (n:=0) (b:=b') (sz:=sz') TAM TAI rfl hg' (fun _ _=>rfl) hh hcs (p_ _) (fun _ _ _=>rfl) (N' _) rfl rfl rfl
          (.inr ⟨_,_,ho,rfl,hg'⟩) (.inr (.inr ⟨v',J_,.inl (by omega)⟩)) (fun j hj=>absurd hj (ZAL j))
         exact⟨_,_,c.γ,I_,.TAh id _ _ 0 a TA3,g1,g2⟩
       ·obtain⟨TAZ,cs',I_,h3,h3',h4,h5⟩:=TBo f a rfl hm h1 hb h63
        exact fin TAZ cs' I_ h3 h3' h4 h5
      |TAL _ _ _ _ _ a cap hn hs'=>exact absurd hs' live
      |TAG _ _ _ _ a hs'=>exact absurd hs' live
     |_=>simp at h
   |sl n k f tt =>
    cases tt with
    |false=>simp at h
    |true =>
     simp only at h
     split at h
     ·rename_i hz0
      obtain⟨rfl,hn0⟩:=hz0;cases h;obtain⟨a',TAs,rfl⟩:=hvy;cases hx with
      |sl b base _ _ cap _ _ us hS hc hrr hn ht =>
       exact⟨_,c.w,c.γ,Ay (P:=P) (w:=c.w) ty hu hin _ a' _ _ TAs hn,.sl b base n k cap f true us hS hc hrr hn ht,hr,Ext.refl c⟩
      |slz a cap _ _ ht=>exact absurd hn0 (ZAG 0)
     obtain⟨⟨hk,hnm,h1,hb,h63⟩,h2⟩:=Xg h;cases h2;have TAM:(c.H ++ [.row 0 ((n+m)*s) (XV (n*s) f (m*s) g)])[c.H.length]?=some (.row 0 ((n+m)*s) (XV (n*s) f (m*s) g)):=by simp
     have TAI:∀i,i≠c.H.length→(c.H ++ [.row 0 ((n+m)*s) (XV (n*s) f (m*s) g)])[i]?=c.H[i]?:=fun i hi=>by
      have:=AA (nid:=none) (h:=c.H) (o:=.row 0 ((n+m)*s) (XV (n*s) f (m*s) g)) i (by simpa [QN]using hi)
      simpa [KL]using this
     have TB1:c.H[c.H.length]?=none:=by simp
     have TA3:inf (c.H ++ [.row 0 ((n+m)*s) (XV (n*s) f (m*s) g)]) c.H.length=some 0:=by simp[inf,AO.info]
     have fin:∀TAZ cs,(ZAD #[t,t] ty #[vx,vy]).run P c.w=.ok (.slice (some ⟨c.w.heap.size,0,none⟩) (n+m) TAZ) (c.w.drew.alloc (.cells cs e))→n+m≤TAZ→TAZ≤9223372036854775807→cs.size=TAZ*s →
       (∀j,j<(n+m)*s→Rep c (cs.getD j undef) (XV (n*s) f (m*s) g j)) →
       ∃r w' γ',(ZAD #[t,t] ty #[vx,vy]).run P c.w=.ok r w'∧Rep ⟨w',c.S,γ',c.H ++ [.row 0 ((n+m)*s) (XV (n*s) f (m*s) g)]⟩ r (.osl c.H.length 0 s 0 (n+m)) ∧
        I' ⟨w',c.S,γ',c.H ++ [.row 0 ((n+m)*s) (XV (n*s) f (m*s) g)]⟩∧Ext c ⟨w',c.S,γ',c.H ++ [.row 0 ((n+m)*s) (XV (n*s) f (m*s) g)]⟩:=by
      intro TAZ cs I_ TAY TDt hcs TA8;obtain⟨g1,g2⟩:=A0 (c:=c) (c':=⟨c.w.drew.alloc (.cells cs e),c.S,K2 c.γ c.H.length (some (c.w.heap.size,cs.size)),c.H ++ [.row 0 ((n+m)*s) (XV (n*s) f (m*s) g)]⟩) hr
       (id:=c.H.length) (ver:=0) (n:=(n+m)*s) (b:=c.w.heap.size) (sz:=cs.size) TAM TAI rfl (by simp[K2]) (fun i hi=>by simp[K2,hi]) (heap_alloc_new c.w.drew _) rfl
       (by rw[hcs];exact ZAU _ TAY) (fun b' _ hb'=>heap_alloc_old c.w.drew _ b' hb') (by simp) rfl rfl rfl (.inl (N' _)) (.inl TB1) TA8
      exact⟨_,_,_,I_,.osl _ 0 s 0 _ _ c.w.heap.size cs.size TA3 (by simp[K2]) TAY (by omega) TDt,g1,g2⟩
     rcases ZCm m with rfl |hm
     ·obtain rfl:n=0:=by omega
      obtain⟨a',TAs,rfl⟩:=hvy;have hvx:∃a,vx=.slice a 0 0:=by
       cases hx with
       |sl b base _ _ cap _ _ us hS hc hrr hn ht=>have:=ht rfl;subst this;exact⟨_,rfl⟩
       |slz a cap _ _ ht=>have:=ht rfl;subst this;exact⟨_,rfl⟩
      obtain⟨a,rfl⟩:=hvx;have I_:=Ay (P:=P) (w:=c.w) ty hu hin a a' 0 0 TAs (N' _);simp only[ZAm,ZA8]at TAM TAI TA3 ⊢;obtain⟨g1,g2⟩:=HV hr (id:=c.H.length) (ver:=0) (w:=c.w) TAM TAI rfl (.inl TB1);exact⟨_,_,_,I_,.TAh _ 0 s 0 a TA3,g1,g2⟩
     ·cases hx with
      |sl b base _ _ cap _ _ us hS hc hrr hn ht =>
       have:=ht rfl;subst this;have hsx:TAr c (.slice (some ⟨b,base,none⟩) cap cap) cap s f:=⟨b,base,cap,us,rfl,N' _,fun j hj=>hc j (by omega),fun j hj=>hrr j (by omega)⟩
       obtain⟨b',o',TDu,TAX,e1,hnc,hol,hoc,hor⟩:=hsx.TCA;cases e1;obtain⟨TAZ,cs',I_,h3,h3',h4,h5⟩:=TBn cap f ⟨b,base,none⟩ cap TAX rfl (by omega) hol hoc hor (hsy hm) h1 hb h63;exact fin TAZ cs' I_ h3 h3' h4 h5
      |slz a cap _ _ ht =>
       have:=ht rfl;subst this;obtain⟨TAZ,cs',I_,h3,h3',h4,h5⟩:=TBo f a rfl hm h1 hb h63;exact fin TAZ cs' I_ h3 h3' h4 h5
   |_=>simp at h
def yG (k:IntKind)(x y:Int):Int:=k.wrap ((ZBM k.bits x &&& ZBM k.bits y).toNat)
def ior (k:IntKind)(x y:Int):Int:=k.wrap ((ZBM k.bits x ||| ZBM k.bits y).toNat)
def wh (k:IntKind)(x y:Int):Int:=k.wrap ((ZBM k.bits x ^^^ ZBM k.bits y).toNat)
def tI (k:IntKind)(x y:Int):Int:=k.wrap ((ZBM k.bits x &&& ~~~(ZBM k.bits y)).toNat)
def yH (k:IntKind)(x y:Int):Int:=k.wrap (x*2 ^ (min y.toNat k.bits))
def yI (k:IntKind)(x y:Int):Int:=x.fdiv (2 ^ (min y.toNat k.bits))
def AV.TAl:AV→Bool
 | .ptr ..=>true
 | .ref ..=>true
 |_=>false
def YE (P:Program):Nat→List Field→Bool
 |_,[]=>true
 | i,f :: l=>decide (f.name≠"_") && f.offset == i && (match P.underlying f.type with | some (.int _)=>true | _=>false) && YE P (i+1) l
def rR (P:Program)(t:TypeId)(n:Nat):Bool :=
 match P.underlying t with
 |some (.struct fs)=>!P.stoodInHeld t && !P.eqGuardType P.depth t && fs.size == n && YE P 0 fs.toList
 |_=>false
def Lp:Bool→List AV→List AV→Option Bool
 |acc,[],[]=>some acc
 |acc,.int k x :: l,.int k' y :: m=>Qf (k=k') (Lp (acc && decide (x=y)) l m)
 |_,_,_=>none
def IA (P:Program)(t:TypeId):Bool:=match P.underlying t with |some (.slice _)=>true |_=>false
def iR (P:Program)(op:BinOp)(t:TypeId)(a:AV):Option AV :=
 match op,a with
 | .eql,.sl n _ _ _=>Qf (IA P t=true) (some (if n=0 then .TAg else .bool false))
 | .neq,.sl n _ _ _=>Qf (IA P t=true) (some (if n=0 then .TAg else .bool true))
 |_,_=>none
def CK (P:Program)(op:BinOp)(t:TypeId)(a b:AV):Option AV :=
 match op,a,b with
 | .shl,.int k x,.int _ y=>Qf (0≤y) (some (.int k (yH k x y)))
 | .shr,.int k x,.int _ y=>Qf (0≤y) (some (.int k (yI k x y)))
 | .add,.int k x,.int k' y=>Qf (k=k') (some (.int k (k.wrap (x+y))))
 | .sub,.int k x,.int k' y=>Qf (k=k') (some (.int k (k.wrap (x-y))))
 | .mul,.int k x,.int k' y=>Qf (k=k') (some (.int k (k.wrap (x*y))))
 | .quo,.int k x,.int k' y=>Qf (k=k'∧y≠0) (some (.int k (k.wrap (x.tdiv y))))
 | .rem,.int k x,.int k' y=>Qf (k=k'∧y≠0) (some (.int k (x.tmod y)))
 | .and,.int k x,.int k' y=>Qf (k=k') (some (.int k (yG k x y)))
 | .or,.int k x,.int k' y=>Qf (k=k') (some (.int k (ior k x y)))
 | .xor,.int k x,.int k' y=>Qf (k=k') (some (.int k (wh k x y)))
 | .andNot,.int k x,.int k' y=>Qf (k=k') (some (.int k (tI k x y)))
 | .eql,.int k x,.int k' y=>Qf (k=k') (some (.bool (decide (x=y))))
 | .neq,.int k x,.int k' y=>Qf (k=k') (some (.bool (!decide (x=y))))
 | .lss,.int k x,.int k' y=>Qf (k=k') (some (.bool (decide (x<y))))
 | .leq,.int k x,.int k' y=>Qf (k=k') (some (.bool (decide (x≤y))))
 | .gtr,.int k x,.int k' y=>Qf (k=k') (some (.bool (decide (y<x))))
 | .geq,.int k x,.int k' y=>Qf (k=k') (some (.bool (decide (y≤x))))
 | .eql,.bool x,.bool y=>Qf (Mk P t=true) (some (.bool (x == y)))
 | .neq,.bool x,.bool y=>Qf (Mk P t=true) (some (.bool (!(x == y))))
 | .eql,.nil,.nil=>Qf (fx P t=true) (some (.bool true))
 | .neq,.nil,.nil=>Qf (fx P t=true) (some (.bool false))
 | .eql,a,.nil=>Qf (fx P t=true∧a.TAl=true) (some (.bool false))
 | .neq,a,.nil=>Qf (fx P t=true∧a.TAl=true) (some (.bool true))
 | .eql,.str x,.str y=>some (.bool (x.toList == y.toList))
 | .neq,.str x,.str y=>some (.bool (!(x.toList == y.toList)))
 | .eql,.agg l,.agg m=>Qf (rR P t l.length=true) ((Lp true l m).map .bool)
 | .neq,.agg l,.agg m=>Qf (rR P t l.length=true) ((Lp true l m).map fun b=>.bool (!b))
 |_,_,_=>none
theorem FI {P:Program}{t:TypeId}(h:fx P t=true):∃e,P.underlying t=some (.pointer e):=by
 unfold fx at h
 split at h
 ·exact⟨_,‹_›⟩
 ·cases h
theorem Mm {P:Program}{t:TypeId}(h:Mk P t=true):P.underlying t=some .bool:=by
 unfold Mk at h
 split at h
 ·assumption
 ·cases h
theorem Rep.TAl {c:Ctx}{v:Value}{a:AV}(h:Rep c v a)(hp:a.TAl=true):∃b,v=.pointer (some b):=by
 cases h <;> first |exact⟨_,rfl⟩ |simp[AV.TAl]at hp
theorem Yv {P:Program}{t:TypeId}(hu:P.underlying t=some .bool)(a b:Bool)(w:World):(Op.equal t (.bool a) (.bool b)).run P w=.ok (a == b) w:=by
 have:∀d,(ZCq (d+1) t (.bool a) (.bool b)).run P w=.ok (a == b) w:=fun d=>by simp[ZCq,run_underlying hu]
 exact this 9999
theorem Rf {P:Program}{t e:TypeId}(hu:P.underlying t=some (.pointer e)) (a:Option Addr) (w:World):(Op.equal t (.pointer a) (.pointer none)).run P w=.ok a.isNone w:=by
 have:∀d,(ZCq (d+1) t (.pointer a) (.pointer none)).run P w=.ok a.isNone w:=fun d=>by cases a <;> simp[ZCq,run_underlying hu]
 exact this 9999
theorem TS {c:Ctx}{v:Value}{k:IntKind}{x:Int}(h:Rep c v (.int k x)):v=.int k x:=by cases h;rfl
theorem G2 {P:Program}(w:World)(d:Nat)(xs ys:Array Value)(c:Ctx):∀ (fs:List Field) (i:Nat) (l m:List AV) (acc r:Bool),YE P i fs=true→fs.length=l.length→Lp acc l m=some r →
  (∀j,j<l.length→i+j<xs.size∧Rep c (xs.getD (i+j) undef) (l.getD j .any))→(∀j,j<m.length→i+j<ys.size∧Rep c (ys.getD (i+j) undef) (m.getD j .any)) →
  ∃b,(ZD9 (d+1) xs ys fs).run P w=.ok b w∧r=(acc && b)
 | [],i,l,m,acc,r,_,hl,ha,_,_=>by
  cases l with
  |nil=>cases m with
   |nil=>cases ha;exact⟨true,by simp[ZD9],by simp⟩
   |cons _ _=>simp[Lp]at ha
  |cons _ _=>simp at hl
 |f :: fs,i,l,m,acc,r,hf,hl,ha,hx,hy=>by
  cases l with
  |nil=>simp at hl
  |cons a l =>
   cases m with
   |nil=>cases a <;> simp[Lp]at ha
   |cons b m =>
    cases a <;> cases b <;> simp only[Lp,reduceCtorEq]at ha;rename_i k x k' y;obtain⟨hk,ha'⟩:=Xg ha;clear ha;subst hk;have ha:=ha';clear ha';simp only[YE,x_,decide_eq_true_eq,beq_iff_eq]at hf;obtain⟨⟨⟨h1,h2⟩,h3⟩,h4⟩:=hf;have hu:∃kk,P.underlying f.type=some (.int kk):=by
     revert h3;cases P.underlying f.type with
     |none=>simp
     |some t=>cases t <;> simp
    obtain⟨kk,hu⟩:=hu;have px:∀ (zs:Array Value) (z:Int),i<zs.size→Rep c (zs.getD i undef) (.int k z)→(part f.type zs f.offset).run P w=.ok (.int k z) w:=fun zs z hz hr=>by
     have e:=TS hr;have hz':zs[i]?=some (.int k z):=by
      rw[←e];simp[ZAV,hz]
     simp[part,Iz hu,iJ,h2,hz']
    have hx0:=hx 0 (by simp);have hy0:=hy 0 (by simp);have e1:=px xs x hx0.1 hx0.2;have e2:=px ys y hy0.1 hy0.2;obtain⟨b,hb,hr⟩:=G2 w d xs ys c fs (i+1) l m _ r h4 (by simpa using hl) ha
     (fun j hj=>by have:=hx (j+1) (by simpa using hj);rw[show i+1+j=i+(j+1)by omega];simpa using this)
     (fun j hj=>by have:=hy (j+1) (by simpa using hj);rw[show i+1+j=i+(j+1)by omega];simpa using this)
    refine⟨decide (x=y) && b,?_,by rw[hr,Bool.and_assoc]⟩;rw[ZD9,N_ h1];simp only[ZAv,e1,e2,ZAa,run_equalIn_int w d f.type k kk x y hu];by_cases hxy:x=y
    ·subst hxy;simp[hb]
    ·have:(x == y)=false:=by simpa using hxy
     simp[this,hxy]
theorem Sh:∀ (l m:List AV) (acc r:Bool),Lp acc l m=some r→l.length=m.length
 | [],[],_,_,_=>rfl
 | [],_ :: _,_,_,h=>by simp[Lp]at h
 |a :: l,[],_,_,h=>by cases a <;> simp[Lp]at h
 |a :: l,b :: m,acc,r,h=>by
  cases a <;> cases b <;> simp only[Lp,reduceCtorEq]at h;obtain⟨_,h⟩:=Xg h;have:=Sh l m _ r h;simp[this]
theorem iI {P:Program}{c:Ctx}{t:TypeId}{xs ys:Array Value}{l m:List AV}{r:Bool}(hx:Rep c (.agg xs) (.agg l)) (hy:Rep c (.agg ys) (.agg m)) (ht:rR P t l.length=true) (hr:Lp true l m=some r) (w:World) :
  (ZCq 10000 t (.agg xs) (.agg ys)).run P w=.ok r w∧P.eqGuardType P.depth t=false:=by
 cases hx with
 |agg _ _ hl1 hr1 =>
  cases hy with
  |agg _ _ hl2 hr2 =>
   unfold rR at ht
   split at ht
   ·rename_i fs hu
    simp only[x_,ZDW,beq_iff_eq]at ht;obtain⟨⟨⟨h1,h2⟩,h3⟩,h4⟩:=ht;have hfs:P.fieldsOf t=fs:=by simp[Program.fieldsOf,hu]
    have hlm:=Sh l m _ _ hr;refine⟨?_,h2⟩;obtain⟨b,hb,e⟩:=G2 (P:=P) w 9998 xs ys c fs.toList 0 l m true r h4 (by simpa using h3) hr (fun j hj=>⟨by omega,by rw[z_];exact hr1 j hj⟩) (fun j hj=>⟨by omega,by rw[z_];exact hr2 j hj⟩);rw[show(10000:Nat)=9999+1 from rfl,run_equalIn_struct w 9999 t xs ys (by rw[hfs];exact hu) h1,hfs,show(9999:Nat)=9998+1 from rfl,hb,e];simp
   ·cases ht
theorem Vh {P:Program}{c:Ctx}{op:BinOp}{t:TypeId}{a v:AV}{x:Value}(hx:Rep c x a)(h:iR P op t a=some v)(o1 o2:Operand) :
  ∃r,(do eqGuard op t o1 o2 x (.slice none 0 0);binOp op t x (.slice none 0 0):Sem Value).run P c.w=.ok r c.w∧Rep c r v:=by
 have key:∀ (op:BinOp),op=.eql∨op=.neq→∀ (q:Option Addr) (n cap:Nat),IA P t=true→(do eqGuard op t o1 o2 (.slice q n cap) (.slice none 0 0);binOp op t (.slice q n cap) (.slice none 0 0):Sem Value).run P c.w=.ok (.bool (if op=.eql then q.isNone else !q.isNone)) c.w:=by
  intro op hop q n cap hs;have hu:∃e,P.underlying t=some (.slice e):=by
   unfold IA at hs
   split at hs
   ·exact⟨_,‹_›⟩
   ·cases hs
  obtain⟨e,hu⟩:=hu;rcases hop with rfl |rfl <;> simp[eqGuard,binOp,run_equal_slice_nil c.w t e q n cap hu]
 unfold iR at h
 split at h
 ·obtain⟨hs,h⟩:=Xg h
  cases h;cases hx with
  |sl b base n m cap f t' us hS hc hr hn ht =>
   refine⟨_,key .eql (.inl rfl) _ _ _ hs,?_⟩;rw[N_ rfl]
   split
   ·exact .TAg _
   ·exact .bool _
  |slz q cap f t' ht=>exact⟨_,key .eql (.inl rfl) _ _ _ hs,.TAg _⟩
 ·obtain⟨hs,h⟩:=Xg h
  cases h;cases hx with
  |sl b base n m cap f t' us hS hc hr hn ht =>
   refine⟨_,key .neq (.inr rfl) _ _ _ hs,?_⟩;rw[M_ (by simp)]
   split
   ·exact .TAg _
   ·exact .bool _
  |slz q cap f t' ht=>exact⟨_,key .neq (.inr rfl) _ _ _ hs,.TAg _⟩
 ·cases h
theorem V3 {P:Program}{c:Ctx}{op:BinOp}{t:TypeId}{a b v:AV}{x y:Value}(hx:Rep c x a)(hy:Rep c y b)(h:CK P op t a b=some v)(o1 o2:Operand) :
  ∃r,(do eqGuard op t o1 o2 x y;binOp op t x y:Sem Value).run P c.w=.ok r c.w∧Rep c r v:=by
 unfold CK at h
 split at h
 ·obtain⟨h1,h2⟩:=Xg h;cases h2;cases hx;cases hy
  exact⟨_,by simp[eqGuard,binOp,Op.shift,Int.not_lt.2 h1,yH],.int _ _⟩
 ·obtain⟨h1,h2⟩:=Xg h;cases h2;cases hx;cases hy
  exact⟨_,by simp[eqGuard,binOp,Op.shift,Int.not_lt.2 h1,yI],.int _ _⟩
 ·obtain⟨h1,h2⟩:=Xg h;cases h2;cases hx;cases hy;subst h1
  exact⟨_,by simp[eqGuard,binOp,ZC7],.int _ _⟩
 ·obtain⟨h1,h2⟩:=Xg h;cases h2;cases hx;cases hy;subst h1
  exact⟨_,by simp[eqGuard,binOp,ZC7],.int _ _⟩
 ·obtain⟨h1,h2⟩:=Xg h;cases h2;cases hx;cases hy;subst h1
  exact⟨_,by simp[eqGuard,binOp,ZC7],.int _ _⟩
 ·obtain⟨⟨h1,h0⟩,h2⟩:=Xg h;cases h2;cases hx;cases hy;subst h1
  exact⟨_,by simp[eqGuard,binOp,Op.intDiv,h0],.int _ _⟩
 ·obtain⟨⟨h1,h0⟩,h2⟩:=Xg h;cases h2;cases hx;cases hy;subst h1
  exact⟨_,by simp[eqGuard,binOp,Op.intDiv,h0],.int _ _⟩
 ·obtain⟨h1,h2⟩:=Xg h;cases h2;cases hx;cases hy;subst h1
  exact⟨_,by simp[eqGuard,binOp,ZCr,yG],.int _ _⟩
 ·obtain⟨h1,h2⟩:=Xg h;cases h2;cases hx;cases hy;subst h1
  exact⟨_,by simp[eqGuard,binOp,ZCr,ior],.int _ _⟩
 ·obtain⟨h1,h2⟩:=Xg h;cases h2;cases hx;cases hy;subst h1
  exact⟨_,by simp[eqGuard,binOp,ZCr,wh],.int _ _⟩
 ·obtain⟨h1,h2⟩:=Xg h;cases h2;cases hx;cases hy;subst h1
  exact⟨_,by simp[eqGuard,binOp,ZCr,tI],.int _ _⟩
 ·obtain⟨h1,h2⟩:=Xg h;cases h2;cases hx;cases hy;subst h1
  exact⟨.bool (decide (_=_)),by simp[eqGuard,binOp,ZCf];rfl,.bool _⟩
 ·obtain⟨h1,h2⟩:=Xg h;cases h2;cases hx;cases hy;subst h1
  exact⟨.bool (!decide (_=_)),by simp[eqGuard,binOp,ZCf];rfl,.bool _⟩
 ·obtain⟨h1,h2⟩:=Xg h;cases h2;cases hx;cases hy;subst h1
  exact⟨_,by simp[eqGuard,binOp,ZCf],.bool _⟩
 ·obtain⟨h1,h2⟩:=Xg h;cases h2;cases hx;cases hy;subst h1
  exact⟨_,by simp[eqGuard,binOp,ZCf],.bool _⟩
 ·obtain⟨h1,h2⟩:=Xg h;cases h2;cases hx;cases hy;subst h1
  exact⟨_,by simp[eqGuard,binOp,ZCf],.bool _⟩
 ·obtain⟨h1,h2⟩:=Xg h;cases h2;cases hx;cases hy;subst h1
  exact⟨_,by simp[eqGuard,binOp,ZCf],.bool _⟩
 ·obtain⟨h1,h2⟩:=Xg h;cases h2;cases hx;cases hy
  exact⟨_,by simp[eqGuard,binOp,Yv (Mm h1)],.bool _⟩
 ·obtain⟨h1,h2⟩:=Xg h;cases h2;cases hx;cases hy
  exact⟨_,by simp[eqGuard,binOp,Yv (Mm h1)],.bool _⟩
 ·obtain⟨h1,h2⟩:=Xg h;cases h2;cases hx;cases hy
  obtain⟨e,hu⟩:=FI h1;exact⟨_,by simp[eqGuard,binOp,Rf hu],.bool _⟩
 ·obtain⟨h1,h2⟩:=Xg h;cases h2;cases hx;cases hy
  obtain⟨e,hu⟩:=FI h1;exact⟨_,by simp[eqGuard,binOp,Rf hu],.bool _⟩
 ·obtain⟨⟨h1,hp⟩,h2⟩:=Xg h;cases h2;cases hy
  obtain⟨e,hu⟩:=FI h1;obtain⟨b',rfl⟩:=hx.TAl hp;exact⟨_,by simp[eqGuard,binOp,Rf hu],.bool _⟩
 ·obtain⟨⟨h1,hp⟩,h2⟩:=Xg h;cases h2;cases hy
  obtain⟨e,hu⟩:=FI h1;obtain⟨b',rfl⟩:=hx.TAl hp;exact⟨_,by simp[eqGuard,binOp,Rf hu],.bool _⟩
 ·cases h;cases hx;cases hy
  exact⟨_,by simp[eqGuard,binOp,Op.stringOp],.bool _⟩
 ·cases h;cases hx;cases hy
  exact⟨_,by simp[eqGuard,binOp,Op.stringOp],.bool _⟩
 ·obtain⟨ht,h⟩:=Xg h
  simp only[ZCP]at h;obtain⟨r,hr,rfl⟩:=h;have hx':=hx;have hy':=hy;cases hx';cases hy';obtain⟨h1,h2⟩:=iI hx hy ht hr c.w;exact⟨.bool r,by simp only[ZAv,run_eqGuard_agg c.w .eql t _ _ _ _ h2,ZAa,run_eql_struct,h1],.bool _⟩
 ·obtain⟨ht,h⟩:=Xg h
  simp only[ZCP]at h;obtain⟨r,hr,rfl⟩:=h;have hx':=hx;have hy':=hy;cases hx';cases hy';obtain⟨h1,h2⟩:=iI hx hy ht hr c.w;exact⟨.bool (!r),by simp only[ZAv,run_eqGuard_agg c.w .neq t _ _ _ _ h2,ZAa,run_neq_struct,h1],.bool _⟩
 ·cases h
def M2 (P:Program)(op:BinOp)(t:TypeId)(y:Operand)(a b:AV):Option AV :=
 match y with
 | .const (.slice none 0 0)=>iR P op t a
 |_=>CK P op t a b
def uV (op:UnOp)(a:AV):Option AV :=
 match op,a with
 | .neg,.int k n=>some (.int k (k.wrap (0-n)))
 | .xor,.int k n=>some (.int k (wh k (if k.signed then -1 else k.max) n))
 | .not,.bool b=>some (.bool !b)
 | .not,.TAg=>some .TAg
 |_,_=>none
theorem cN {P:Program}{c:Ctx}{op:UnOp}{a v:AV}{x:Value}(hx:Rep c x a)(h:uV op a=some v):∃r,(ZDQ op x).run P c.w=.ok r c.w∧Rep c r v:=by
 unfold uV at h
 split at h
 ·cases h;cases hx;exact⟨_,by simp only[ZDQ,ZC7];rfl,.int _ _⟩
 ·cases h;cases hx;exact⟨_,by simp only[ZDQ,ZCr];rfl,.int _ _⟩
 ·cases h;cases hx;exact⟨_,by simp only[ZDQ];rfl,.bool _⟩
 ·cases h;cases hx;exact⟨_,by simp only[ZDQ];rfl,.TAg _⟩
 ·cases h
def Oh (P:Program)(src dst:TypeId)(a:AV):Option AV :=
 match VS P src,VS P dst,a with
 |some _,some k,.int _ n=>some (.int k (k.wrap n))
 |_,_,_=>none
theorem Ao {P:Program}{t:TypeId}{k:IntKind}(h:VS P t=some k):P.underlying t=some (.int k):=by
 unfold VS at h
 split at h
 ·cases h;assumption
 ·cases h
theorem Se {P:Program}{c:Ctx}{s d:TypeId}{a v:AV}{x:Value}(hx:Rep c x a)(h:Oh P s d a=some v):∃r,(convert s d x).run P c.w=.ok r c.w∧Rep c r v:=by
 unfold Oh at h
 split at h
 ·rename_i k1 k n h1 h2
  cases h;cases hx;obtain⟨e1,e2⟩:P.underlying s=some (.int _)∧P.underlying d=some (.int _):=⟨Ao h1,Ao h2⟩
  exact⟨_,by simp[convert,run_underlying e1,run_underlying e2,Conv.intToInt],.int _ _⟩
 ·cases h
def KY:List AV→Nat→AV
 | [a]=>fun _=>a
 |z=>fun j=>z.getD (j%z.length) .any
def Ep (P:Program)(nid:Option Nat)(t:TypeId)(l cp:AV)(h:List AO):Option (AV×List AO) :=
 match AL P t,l,cp with
 |some (e,s,by_),.int _ n,.int _ m =>
  match Qh P e with
  |some z=>Qf (m=n∧0≤n∧by_*n≤140737488355328∧n≤9223372036854775807) (some (.osl (QN nid h) 0 s 0 n.toNat,KL nid h (.row 0 (n.toNat*s) (KY z))))
  |none=>none
 |_,_,_=>none
theorem FT (z:List AV)(j:Nat)(hz:z≠[]):KY z j=z.getD (j%z.length) .any:=by
 match z,hz with
 | [a],_=>simp[KY,Nat.mod_one]
 |a :: b :: r,_=>rfl
theorem Sm {P:Program}{c:Ctx}(hr:I' c){nid:Option Nat}(TAj:∀ id,nid=some id→c.H[id]?=some .D_){t:TypeId}{l m v:AV}{x y:Value}(hx:Rep c x l)(hy:Rep c y m){h':List AO}
  (h:Ep P nid t l m c.H=some (v,h')) :
  ∃r w' γ',(Instr.makeSlice t x y).run P c.w=.ok r w'∧Rep ⟨w',c.S,γ',h'⟩ r v∧I' ⟨w',c.S,γ',h'⟩∧Ext c ⟨w',c.S,γ',h'⟩:=by
 unfold Ep at h
 split at h
 ·rename_i e s by_ k1 n k2 m he
  obtain⟨hu,F_,z,hin,hs,hby,hz,hzs,TA2⟩:=ZE he;cases hzl:Qh P e with
  |none=>simp[hzl]at h
  |some zl =>
   simp only[hzl]at h;obtain⟨⟨rfl,h0,hb,h63⟩,h2⟩:=Xg h;cases h2;cases hx;cases hy;have TB9:zl=z.cells.toList.map K3:=by simp[Qh,hin,hz]at hzl;exact hzl.symm
   subst TB9;obtain⟨n,rfl⟩:=ZBY h0;simp only[U'];subst hs hby;have I_:=run_make (P:=P) c.w t e F_ z hu hin hz k1 k2 n n (by omega) (ZB2 _) (by omega) (by omega);simp only[U']at I_;have hsz:(madeCells z.cells (n*F_.size)).size=n*F_.size:=size_madeCells _ _;obtain⟨g1,g2⟩:=Rq hr TAj (madeCells z.cells (n*F_.size)) e (n*F_.size) (KY (z.cells.toList.map K3)) (by omega) (fun j hj=>by
    have hlen:(z.cells.toList.map K3).length=z.cells.size:=by simp
    rw[FT _ _ (by intro TCB;rw[TCB]at hlen;simp at hlen;omega),hlen];have hm:j%z.cells.size<z.cells.size:=ZAI _ (by omega);have e1:(madeCells z.cells (n*F_.size)).getD j undef=z.cells[j%z.cells.size]:=by
     simp[madeCells,s_,hj,hm]
    have e2:(z.cells.toList.map K3).getD (j%z.cells.size) .any=K3 z.cells[j%z.cells.size]:=by
     simp[K',hm]
    rw[e1,e2];exact At c _) (c.w.alloc (.cells (madeCells z.cells (n*F_.size)) e)) rfl rfl rfl rfl
   exact⟨_,_,_,I_,.osl _ 0 _ 0 n n c.w.heap.size (n*F_.size) (by simp[inf,Hg TAj,AO.info]) (by simp[K2,hsz]) (N' _) (by omega) (by omega),g1,g2⟩
 ·cases h
def NS (P:Program)(t:TypeId)(a:AV):Option AV :=
 match a with
 | .sl n _ _ _=>Qf ((AL P t).isSome=true) (some (.int .i64 n))
 | .osl _ _ _ _ n=>Qf ((AL P t).isSome=true) (some (.int .i64 n))
 | .str s=>match P.underlying t with |some .string=>some (.int .i64 s.size) |_=>none
 |_=>none
theorem V9 {P:Program}{c:Ctx}{t:TypeId}(ty:TypeId){a v:AV}{x:Value}(hx:Rep c x a)(h:NS P t a=some v):∃r,(ZCM #[t] ty #[x]).run P c.w=.ok r c.w∧Rep c r v:=by
 unfold NS at h;have hsl:(AL P t).isSome=true→∀a n cap,(ZCM #[t] ty #[.slice a n cap]).run P c.w=.ok (.int .i64 n) c.w:=by
  intro hi a n cap;cases he:AL P t with
  |none=>simp[he]at hi
  |some q =>
   obtain⟨e,s,b⟩:=q;simp[ZCM,run_underlying (ZE he).1,goInt]
 split at h
 ·obtain⟨h1,h2⟩:=Xg h;cases h2
  cases hx with
  |sl _ _ _ _ _ _ _ _ _ _ _ _ _=>exact⟨_,hsl h1 _ _ _,.int _ _⟩
  |slz _ _ _ _ _=>exact⟨_,hsl h1 _ _ _,.int _ _⟩
 ·obtain⟨h1,h2⟩:=Xg h;cases h2
  cases hx with
  |osl=>exact⟨_,hsl h1 _ _ _,.int _ _⟩
  |TAh=>exact⟨_,hsl h1 _ _ _,.int _ _⟩
  |TAL=>exact⟨_,hsl h1 _ _ _,.int _ _⟩
  |TAG=>exact⟨_,hsl h1 _ _ _,.int _ _⟩
 ·split at h
  ·rename_i hu
   cases h;cases hx;exact⟨_,by simp[ZCM,run_underlying hu,goInt],.int _ _⟩
  ·cases h
 ·cases h
def uQ (P:Program)(t:TypeId)(a:AV):Option AV :=
 match a with
 | .sl n _ _ true=>Qf ((AL P t).isSome=true) (some (.int .i64 n))
 |_=>none
theorem V5 {P:Program}{c:Ctx}{t:TypeId}(ty:TypeId){a v:AV}{x:Value}(hx:Rep c x a)(h:uQ P t a=some v):∃r,(ZCg #[t] ty #[x]).run P c.w=.ok r c.w∧Rep c r v:=by
 unfold uQ at h;have hsl:(AL P t).isSome=true→∀a n cap,(ZCg #[t] ty #[.slice a n cap]).run P c.w=.ok (.int .i64 cap) c.w:=by
  intro hi a n cap;cases he:AL P t with
  |none=>simp[he]at hi
  |some q =>
   obtain⟨e,s,b⟩:=q;simp[ZCg,run_underlying (ZE he).1,goInt]
 split at h
 ·obtain⟨h1,h2⟩:=Xg h;cases h2
  cases hx with
  |sl _ _ _ _ _ _ _ _ _ _ _ _ ht=>have:=ht rfl;subst this;exact⟨_,hsl h1 _ _ _,.int _ _⟩
  |slz _ _ _ _ ht=>have:=ht rfl;subst this;exact⟨_,hsl h1 _ _ _,.int _ _⟩
 ·cases h
def K8 (P:Program)(t t':TypeId)(x y:AV)(h:List AO):Option (AV×List AO) :=
 match AL P t,VS P t',x,y with
 |some (e,s,by_),some .i64,.sl 0 _ _ true,.int .i64 n =>
  match Qh P e with
  |some z=>Qf (0<n∧by_*n≤140737488355328∧n≤9223372036854775807) (some (.osl h.length 0 s 0 n.toNat,h ++ [.row 0 (n.toNat*s) (KY z)]))
  |none=>none
 |some (e,s,by_),some .i64,.sl (N+1) k f true,.int .i64 n =>
  match Qh P e with
  |some z=>if n=0 then some (.sl (N+1) k f true,h)else Qf (0<n∧(N+1)*s≤k∧by_*(N+1+n)≤140737488355328∧(N:Int)+1+n≤9223372036854775807) (some (.osl h.length 0 s 0 (N+1+n.toNat),h ++ [.row 0 ((N+1+n.toNat)*s) (XV ((N+1)*s) f (n.toNat*s) (KY z))]))
  |none=>none
 |some (e,s,by_),some .i64,.osl id ver es off N,.int .i64 n =>
  match Qh P e with
  |some z=>match h[id]? with
   |some (.row v k f)=>if n=0 then some (.osl id ver es off N,h)else Qf (0<n∧0<N∧v=ver∧es=s∧off=0∧N*s≤k∧z.all AV.one=true∧by_*(N+n)≤140737488355328∧(N:Int)+n≤9223372036854775807) (some (.osl id (v+1) s 0 (N+n.toNat),h.set id (.row (v+1) ((N+n.toNat)*s) (XV (N*s) f (n.toNat*s) (KY z)))))
   |_=>none
  |none=>none
 |_,_,_,_=>none
theorem D0 {P:Program}(w:World)(t tn ty e:TypeId)(i:TypeInfo)(z:Value)(k kn:IntKind)(ht:P.underlying t=some (.slice e)) (htn:P.underlying tn=some (.int kn)) (hi:P.info? e=some i) (hz:i.zero=some z)
  (b:Addr) (N C n:Nat) (TAX:List Value) (hold:(ZBv i.size N (.slice (some b) N C)).run P w.drew=.ok TAX.toArray w.drew) (h0:0<n) (hC:C<N+n) (hs:0<i.size) (h63:((N+n:Nat):Int)≤9223372036854775807)
  (TDH:ZCU (N+n) C*i.bytes≤281474976710656) (h48:n*i.bytes≤281474976710656) :
  (ZAD #[t,tn] ty #[.slice (some b) N C,.int k n]).run P w =
   .ok (.slice (some ⟨w.heap.size,0,none⟩) (N+n) (grownCap w (N+n) C e)) (w.drew.alloc (.cells (TAX.toArray ++ a_ z.cells n ++ a_ z.cells (grownCap w (N+n) C e-(N+n))) e)):=by
 have hn:¬ (N+n≤C):=by omega
 have hn':n≠0:=by omega
 have hw:Q_.wrap (n:Int)=n:=by rw[M'];omega
 have TDI:¬ (9223372036854775807<((N:Int)+(n:Int))):=by omega
 have TDJ:¬ (281474976710656<ZCU (N+n) C*i.bytes):=by omega
 have TCs:¬ (281474976710656<(n:Int)*(i.bytes:Int)):=by
  rw[←ZBL];omega
 have TBE:¬ ((n:Int)<0):=by omega
 have hns:¬ (n*i.size=0):=ZC8 hn' (by omega);simp[ZAD,run_underlying ht,run_underlying htn,sizeOf,typeInfo,zeroValue,hi,hz,asInt,asIntOf,hw,hn,hn',TBE,hns,TDI,TDJ,TCs,ZCs,hold,newRow,grownCap]
theorem CZ {P:Program}(w:World)(t tn ty e:TypeId)(i:TypeInfo)(k kn:IntKind)(ht:P.underlying t=some (.slice e)) (htn:P.underlying tn=some (.int kn)) (hi:P.info? e=some i)
  (b:Option Addr) (N C:Nat) (hc:N≤C):(ZAD #[t,tn] ty #[.slice b N C,.int k 0]).run P w=.ok (.slice b N C) w:=by
 have hw:Q_.wrap (0:Int)=0:=by rw[M'];omega
 cases b <;> simp[ZAD,run_underlying ht,run_underlying htn,sizeOf,typeInfo,hi,asInt,asIntOf,hw,storeCells,hc]
theorem HE {P:Program}(w:World)(t tn ty e:TypeId)(i:TypeInfo)(z:Value)(k kn:IntKind)(ht:P.underlying t=some (.slice e)) (htn:P.underlying tn=some (.int kn)) (hi:P.info? e=some i) (hz:i.zero=some z)
  (g N C n:Nat) (cur:Array Value) (el:TypeId) (hg:w.heap[g]?=some (.cells cur el (0,0))) (h0:0<n) (hs:0<i.size) (TAz:N+n≤C) (h48:n*i.bytes≤281474976710656) (h63:(n:Int)≤9223372036854775807)
  (hl:(a_ z.cells n).toList.length=n*i.size) (h1:∀u∈(a_ z.cells n).toList,u.oneCell'=true) (TDH:N*i.size+n*i.size≤cur.size) :
  (ZAD #[t,tn] ty #[.slice (some ⟨g,0,none⟩) N C,.int k n]).run P w =
   .ok (.slice (some ⟨g,0,none⟩) (N+n) C) (w.setRow g (cur.toList.take (N*i.size) ++ (a_ z.cells n).toList ++ cur.toList.drop (N*i.size+(a_ z.cells n).toList.length)).toArray):=by
 have hn':n≠0:=by omega
 have hw:Q_.wrap (n:Int)=n:=by rw[M'];omega
 have TCs:¬ (281474976710656<(n:Int)*(i.bytes:Int)):=by
  rw[←ZBL];omega
 have TBE:¬ ((n:Int)<0):=by omega
 have hns:¬ (n*i.size=0):=ZC8 hn' (by omega);have hst:=run_storeCells_at P g (N*i.size) el (a_ z.cells n).toList 0 cur w hg (by rw[hl];simpa using TDH) h1;simp only[ZAm]at hst;simp[ZAD,run_underlying ht,run_underlying htn,sizeOf,typeInfo,zeroValue,hi,hz,asInt,asIntOf,hw,hn',TBE,hns,TCs,TAz,ZAg,hst]
theorem Iy {P:Program}(w:World)(t tn ty e:TypeId)(i:TypeInfo)(z:Value)(k kn:IntKind)(ht:P.underlying t=some (.slice e)) (htn:P.underlying tn=some (.int kn)) (hi:P.info? e=some i) (hz:i.zero=some z)
  (a:Option Addr) (n:Nat) (h0:0<n) (hs:0<i.size) (h63:(n:Int)≤9223372036854775807) (h48:n*i.bytes≤281474976710656) :
  (ZAD #[t,tn] ty #[.slice a 0 0,.int k n]).run P w =
   .ok (.slice (some ⟨w.heap.size,0,none⟩) n (grownCap w n 0 e)) (w.drew.alloc (.cells (a_ z.cells n ++ a_ z.cells (grownCap w n 0 e-n)) e)):=by
 have hn:n≠0:=by omega
 have hw:Q_.wrap (n:Int)=n:=by rw[M'];omega
 have TDI:¬ (9223372036854775807<(n:Int)):=by omega
 have TDJ:¬ (281474976710656<ZCU n 0*i.bytes):=by rw[nextslicecap_zero h0];omega
 have TCs:¬ (281474976710656<(n:Int)*(i.bytes:Int)):=by
  rw[←ZBL];omega
 have TBE:¬ ((n:Int)<0):=by omega
 have hns:¬ (n*i.size=0):=ZC8 hn (by omega);cases a with
 |none=>simp[ZAD,run_underlying ht,run_underlying htn,sizeOf,typeInfo,zeroValue,hi,hz,asInt,asIntOf,hw,hn,TBE,hns,TDI,TDJ,TCs,ZCs,run_firstCells_none,newRow,grownCap]
 |some a=>simp[ZAD,run_underlying ht,run_underlying htn,sizeOf,typeInfo,zeroValue,hi,hz,asInt,asIntOf,hw,hn,TBE,hns,TDI,TDJ,TCs,ZCs,ZBv,loadCells,loadCellsFrom,newRow,grownCap]
theorem Ss {P:Program}{c:Ctx}(hr:I' c){t t':TypeId}(ty:TypeId){x y v:AV}{vx vy:Value}(hx:Rep c vx x)(hy:Rep c vy y){h':List AO}(h:K8 P t t' x y c.H=some (v,h')) :
  ∃r w' γ',(ZAD #[t,t'] ty #[vx,vy]).run P c.w=.ok r w'∧Rep ⟨w',c.S,γ',h'⟩ r v∧I' ⟨w',c.S,γ',h'⟩∧Ext c ⟨w',c.S,γ',h'⟩:=by
 unfold K8 at h
 split at h
 ·rename_i e s by_ k f n he hk
  obtain⟨hu,F_,z,hin,hs,hby,hz,hzs,TA2⟩:=ZE he;cases hzl:Qh P e with
  |none=>simp[hzl]at h
  |some zl =>
   simp only[hzl]at h;obtain⟨⟨h0,hb,h63⟩,h2⟩:=Xg h;cases h2;cases hy;have TB9:zl=z.cells.toList.map K3:=by simp[Qh,hin,hz]at hzl;exact hzl.symm
   subst TB9;obtain⟨n,rfl⟩:=ZBY (ZC9 h0);simp only[U'];subst hs hby;have hvx:∃a,vx=.slice a 0 0:=by
    cases hx with
    |sl b base _ _ cap _ _ us hS hc hrr hn ht=>have:=ht rfl;subst this;exact⟨_,rfl⟩
    |slz a cap _ _ ht=>have:=ht rfl;subst this;exact⟨_,rfl⟩
   obtain⟨a,rfl⟩:=hvx;have hb':n*F_.bytes≤140737488355328:=by
    rw[ZBH];exact ZDh.1 (by simpa using hb)
   have I_:=Iy (P:=P) c.w t t' ty e F_ z .i64 _ hu (Ao hk) hin hz a n (by omega) TA2 h63 (by omega);have hge:=grownCap_ge c.w n 0 e;have hsz:(a_ z.cells n ++ a_ z.cells (grownCap c.w n 0 e-n)).size=grownCap c.w n 0 e*F_.size:=by
    simp only[ZBb,size_zeroCells,hzs,←ZAc];congr 1;omega
   have TBz:(c.H ++ [AO.row 0 (n*F_.size) (KY (z.cells.toList.map K3))])[c.H.length]?=some (.row 0 (n*F_.size) (KY (z.cells.toList.map K3))):=by simp
   have TAI:∀i,i≠c.H.length→(c.H ++ [AO.row 0 (n*F_.size) (KY (z.cells.toList.map K3))])[i]?=c.H[i]?:=fun i hi=>by
    have:=AA (nid:=none) (h:=c.H) (o:=.row 0 (n*F_.size) (KY (z.cells.toList.map K3))) i (by simpa [QN]using hi)
    simpa [KL]using this
   have TB1:c.H[c.H.length]?=none:=by simp
   obtain⟨g1,g2⟩:=A0 (c:=c) (c':=⟨c.w.drew.alloc (.cells (a_ z.cells n ++ a_ z.cells (grownCap c.w n 0 e-n)) e),c.S,K2 c.γ c.H.length (some (c.w.heap.size,grownCap c.w n 0 e*F_.size)),c.H ++ [.row 0 (n*F_.size) (KY (z.cells.toList.map K3))]⟩) hr
    (id:=c.H.length) (ver:=0) (n:=n*F_.size) (b:=c.w.heap.size) (sz:=grownCap c.w n 0 e*F_.size) TBz TAI rfl (by simp[K2]) (fun i hi=>by simp[K2,hi]) (heap_alloc_new c.w.drew _) hsz
    (ZAU _ hge) (fun b' _ hb'=>heap_alloc_old c.w.drew _ b' hb') (by simp) rfl rfl rfl (.inl (N' _)) (.inl TB1) (fun j hj=>by
     have hlen:(z.cells.toList.map K3).length=z.cells.size:=by simp
     rw[FT _ _ (by intro TCB;rw[TCB]at hlen;simp at hlen;omega),hlen];have hm:j%z.cells.size<z.cells.size:=ZAI _ (by omega);have hj':j<(a_ z.cells n).size:=by rw[size_zeroCells,hzs];exact hj
     have e1:(a_ z.cells n ++ a_ z.cells (grownCap c.w n 0 e-n)).getD j undef=z.cells[j%z.cells.size]:=by
      rw[s_,Array.getElem?_append_left hj'];have hjn:j<n*z.cells.size:=by rw[hzs];exact hj
      simp[a_,hjn,hm]
     have e2:(z.cells.toList.map K3).getD (j%z.cells.size) .any=K3 z.cells[j%z.cells.size]:=by
      simp[K',hm]
     rw[e1,e2];exact At c _)
   exact⟨_,_,_,I_,.osl _ 0 _ 0 n (grownCap c.w n 0 e) c.w.heap.size (grownCap c.w n 0 e*F_.size) (by simp[inf,AO.info]) (by simp[K2]) hge (by omega) (grownCap_le_maxLen _ _ _ _ (by show n≤9223372036854775807;omega)),g1,g2⟩
 ·rename_i e s by_ N k f n he hk
  obtain⟨hu,F_,z,hin,hs,hby,hz,hzs,TA2⟩:=ZE he;cases hzl:Qh P e with
  |none=>simp[hzl]at h
  |some zl =>
   simp only[hzl]at h;cases hy;cases hx with
   |sl b base _ _ cap _ _ us hS hc hrr hn ht =>
    have TAY:=ht rfl;subst TAY;by_cases hn0:n=0
    ·subst hn0
     rw[N_ rfl]at h;cases h;exact⟨_,c.w,c.γ,CZ (P:=P) c.w t t' ty e F_ .i64 _ hu (Ao hk) hin _ _ _ (N' _),.sl b base (N+1) k (N+1) f true us hS hc hrr hn ht,hr,Ext.refl c⟩
    rw[M_ hn0]at h;obtain⟨⟨h0,hle,hb,h63⟩,h2⟩:=Xg h;cases h2;have TB9:zl=z.cells.toList.map K3:=by simp[Qh,hin,hz]at hzl;exact hzl.symm
    subst TB9;obtain⟨n,rfl⟩:=ZBY (ZC9 h0);simp only[U'];subst hs hby;have hsx:TAr c (.slice (some ⟨b,base,none⟩) (N+1) (N+1)) (N+1) F_.size f:=⟨b,base,N+1,us,rfl,N' _,fun j hj=>hc j (by omega),fun j hj=>hrr j (by omega)⟩
    obtain⟨b',o',TDu,TAX,e1,hnc,hol,hoc,hor⟩:=hsx.TCA;cases e1;have hold:=run_firstCells_some (P:=P) c.w.drew F_.size (N+1) ⟨b,base,none⟩ (N+1) (N+1) TAX hol (by simpa using hoc);have hbN:(N+1+n)*F_.bytes≤140737488355328:=by
     rw[ZBH];have:(F_.bytes:Int)*((N+1+n:Nat):Int)≤140737488355328:=by simpa using hb
     exact ZDh.1 (by rw[ZBL];exact this)
    have hbn:n*F_.bytes≤281474976710656:=m_ (ZAU _ (show n≤N+1+n by omega)) (by omega);have I_:=D0 (P:=P) c.w t t' ty e F_ z .i64 _ hu (Ao hk) hin hz ⟨b,base,none⟩ (N+1) (N+1) n TAX hold (by omega) (by omega) TA2 (by omega) (growslice_fits (by omega) hbN) hbn;have hge:=grownCap_ge c.w (N+1+n) (N+1) e;obtain⟨F,hF⟩:∃F,F=XV ((N+1)*F_.size) f (n*F_.size) (KY (z.cells.toList.map K3)):=⟨_,rfl⟩
    rw[←hF];obtain⟨cs,hcs⟩:∃cs,cs=TAX.toArray ++ a_ z.cells n ++ a_ z.cells (grownCap c.w (N+1+n) (N+1) e-(N+1+n)):=⟨_,rfl⟩
    rw[←hcs]at I_;have hsz:cs.size=grownCap c.w (N+1+n) (N+1) e*F_.size:=by
     rw[hcs];simp only[ZBb,ZBd,size_zeroCells,hzs,hol,←ZAc];congr 1;omega
    have TAM:(c.H ++ [AO.row 0 ((N+1+n)*F_.size) F])[c.H.length]?=some (.row 0 ((N+1+n)*F_.size) F):=by simp
    have TAI:∀i,i≠c.H.length→(c.H ++ [AO.row 0 ((N+1+n)*F_.size) F])[i]?=c.H[i]?:=fun i hi=>by
     have:=AA (nid:=none) (h:=c.H) (o:=.row 0 ((N+1+n)*F_.size) F) i (by simpa [QN]using hi)
     simpa [KL]using this
    have TB1:c.H[c.H.length]?=none:=by simp
    have TA8:∀j,j<(N+1+n)*F_.size→Rep c (cs.getD j undef) (F j):=fun j hj=>by
     rw[ZAc]at hj;have hnl:(a_ z.cells n).toList.length=n*F_.size:=by rw[ZBS,size_zeroCells,hzs]
     have hnr:∀j,j<n*F_.size→Rep c ((a_ z.cells n).toList.getD j undef) (KY (z.cells.toList.map K3) j):=fun j hj=>by
      have hlen:(z.cells.toList.map K3).length=z.cells.size:=by simp
      rw[FT _ _ (by intro TCB;rw[TCB]at hlen;simp at hlen;omega),hlen];have hm:j%z.cells.size<z.cells.size:=ZAI _ (by omega);have hjn:j<n*z.cells.size:=by rw[hzs];exact hj
      have e1:(a_ z.cells n).toList.getD j undef=z.cells[j%z.cells.size]:=by
       simp[a_,hjn,hm]
      have e2:(z.cells.toList.map K3).getD (j%z.cells.size) .any=K3 z.cells[j%z.cells.size]:=by
       simp[K',hm]
      rw[e1,e2];exact At c _
     have:=Ck (c:=c) (rest:=(a_ z.cells (grownCap c.w (N+1+n) (N+1) e-(N+1+n))).toList) hol hnl hor hnr j hj;have e3:(TAX ++ (a_ z.cells n).toList ++ (a_ z.cells (grownCap c.w (N+1+n) (N+1) e-(N+1+n))).toList).toArray=cs:=by
      rw[hcs];apply ZCQ;simp
     rw[e3]at this;rw[hF];exact this
    obtain⟨g1,g2⟩:=A0 (c:=c) (c':=⟨c.w.drew.alloc (.cells cs e),c.S,K2 c.γ c.H.length (some (c.w.heap.size,cs.size)),c.H ++ [.row 0 ((N+1+n)*F_.size) F]⟩) hr
     (id:=c.H.length) (ver:=0) (n:=(N+1+n)*F_.size) (b:=c.w.heap.size) (sz:=cs.size) TAM TAI rfl (by simp[K2]) (fun i hi=>by simp[K2,hi]) (heap_alloc_new c.w.drew _) rfl
     (by rw[hsz];exact ZAU _ hge) (fun b' _ hb'=>heap_alloc_old c.w.drew _ b' hb') (by simp) rfl rfl rfl (.inl (N' _)) (.inl TB1) TA8
    exact⟨_,_,_,I_,.osl _ 0 _ 0 _ _ c.w.heap.size cs.size (by simp[inf,AO.info]) (by simp[K2]) hge (by omega) (grownCap_le_maxLen _ _ _ _ (by show N+1+n≤9223372036854775807;omega)),g1,g2⟩
 ·rename_i e s by_ id ver es off N n he hk
  obtain⟨hu,F_,z,hin,hs,hby,hz,hzs,TA2⟩:=ZE he;cases hzl:Qh P e with
  |none=>simp[hzl]at h
  |some zl =>
   simp only[hzl]at h;cases hy;cases ho:c.H[id]? with
   |none=>simp[ho]at h
   |some o =>
    simp only[ho]at h;cases o with
    |row v' k f =>
     simp only at h;by_cases hn0:n=0
     ·subst hn0
      rw[N_ rfl]at h;cases h;have TDK:=fun b N C hc=>CZ (P:=P) c.w t t' ty e F_ .i64 _ hu (Ao hk) hin b N C hc
      have hx':=hx;cases hx with
      |osl _ _ _ _ _ cap b sz hi hg hn TAY hmx=>exact⟨_,c.w,c.γ,TDK _ _ _ hn,hx',hr,Ext.refl c⟩
      |TAh _ _ _ _ a hi=>exact⟨_,c.w,c.γ,TDK _ _ _ (N' _),hx',hr,Ext.refl c⟩
      |TAL _ _ _ _ _ a cap hn hs'=>exact⟨_,c.w,c.γ,TDK _ _ _ hn,hx',hr,Ext.refl c⟩
      |TAG _ _ _ _ a hs'=>exact⟨_,c.w,c.γ,TDK _ _ _ (N' _),hx',hr,Ext.refl c⟩
     rw[M_ hn0]at h;obtain⟨⟨h0,hN0,rfl,rfl,rfl,hle,TA9,hb,h63⟩,h2⟩:=Xg h;cases h2;have TB9:zl=z.cells.toList.map K3:=by simp[Qh,hin,hz]at hzl;exact hzl.symm
     subst TB9;obtain⟨n,rfl⟩:=ZBY (ZC9 h0);simp only[U'];subst hs hby;have live:¬TAe c.H id v':=by
      have J_:inf c.H id=some v':=by simp[inf,ho,AO.info]
      rintro(⟨v'',hi,hlt⟩ |hd)
      ·rw[J_]at hi;cases hi;omega
      ·simp[inf,hd,AO.info]at J_
     obtain⟨F,hF⟩:∃F,F=XV (N*F_.size) f (n*F_.size) (KY (z.cells.toList.map K3)):=⟨_,rfl⟩
     rw[←hF];have hlt:=(S_.1 ho).1;have J_:inf c.H id=some v':=by simp[inf,ho,AO.info]
     have TAM:(c.H.set id (.row (v'+1) ((N+n)*F_.size) F))[id]?=some (.row (v'+1) ((N+n)*F_.size) F):=by simp[hlt]
     have TAI:∀i,i≠id→(c.H.set id (.row (v'+1) ((N+n)*F_.size) F))[i]?=c.H[i]?:=fun i hi=>by simp[w_ hi]
     have TA3:inf (c.H.set id (.row (v'+1) ((N+n)*F_.size) F)) id=some (v'+1):=by simp[inf,TAM,AO.info]
     have hnl:(a_ z.cells n).toList.length=n*F_.size:=by rw[ZBS,size_zeroCells,hzs]
     have hnr:∀j,j<n*F_.size→Rep c ((a_ z.cells n).toList.getD j undef) (KY (z.cells.toList.map K3) j):=fun j hj=>by
      have hlen:(z.cells.toList.map K3).length=z.cells.size:=by simp
      rw[FT _ _ (by intro TCB;rw[TCB]at hlen;simp at hlen;omega),hlen];have hm:j%z.cells.size<z.cells.size:=ZAI _ (by omega);have hjn:j<n*z.cells.size:=by rw[hzs];exact hj
      have e1:(a_ z.cells n).toList.getD j undef=z.cells[j%z.cells.size]:=by
       simp[a_,hjn,hm]
      have e2:(z.cells.toList.map K3).getD (j%z.cells.size) .any=K3 z.cells[j%z.cells.size]:=by
       simp[K',hm]
      rw[e1,e2];exact At c _
     have hn1:∀u∈(a_ z.cells n).toList,u.oneCell'=true:=fun u hu=>by
      obtain⟨j,hj,rfl⟩:=ZAT hu;have h1:=hnr j (by omega);rw[K',V' hj]at h1;refine Rep.one h1 ?_;have hlen:(z.cells.toList.map K3).length=z.cells.size:=by simp
      rw[FT _ _ (by intro TCB;rw[TCB]at hlen;simp at hlen;omega),hlen];have hm:j%z.cells.size<(z.cells.toList.map K3).length:=by rw[hlen];exact ZAI _ (by omega)
      rw[K',V' hm];exact ZA5.1 TA9 _ (ZAR hm)
     have hbN:(N+n)*F_.bytes≤140737488355328:=by
      rw[ZBH];have:(F_.bytes:Int)*((N+n:Nat):Int)≤140737488355328:=by simpa using hb
      exact ZDh.1 (by rw[ZBL];exact this)
     have hbn:n*F_.bytes≤281474976710656:=m_ (ZAU _ (show n≤N+n by omega)) (by omega);cases hx with
     |osl _ _ _ _ _ cap b sz hi hg hn TAY hmx =>
      rcases hr.row id _ k f ho with⟨hg',_⟩ | ⟨b',sz',cs,el,hg',hh,hcs,hks,hnS,hcr⟩
      ·rw[hg']at hg;cases hg
      ·rw[hg']at hg;cases hg
       by_cases TAz:N+n≤cap
       ·have hmul:N*F_.size+n*F_.size≤cap*F_.size:=by rw[←ZAc];exact ZAU _ TAz
        have I_:=HE (P:=P) c.w t t' ty e F_ z .i64 _ hu (Ao hk) hin hz b N cap n cs el hh (by omega) TA2 TAz hbn (by omega) hnl hn1 (by omega);have TCX:(cs.toList.take (N*F_.size) ++ (a_ z.cells n).toList ++ cs.toList.drop (N*F_.size+(a_ z.cells n).toList.length)).toArray.size=sz:=by
         rw[ZBd,j_,j_,hnl,v_,List.length_drop,ZBS];omega
        obtain⟨g1,g2⟩:=A0 (c:=c) (c':=⟨c.w.setRow b (cs.toList.take (N*F_.size) ++ (a_ z.cells n).toList ++ cs.toList.drop (N*F_.size+(a_ z.cells n).toList.length)).toArray,c.S,c.γ,c.H.set id (.row (v'+1) ((N+n)*F_.size) F)⟩) hr
         (id:=id) (ver:=v'+1) (n:=(N+n)*F_.size) (b:=b) (sz:=sz) TAM TAI rfl hg' (fun _ _=>rfl) (setRow_heap c.w b cs _ el _ hh) TCX (by rw[ZAc];omega)
         (fun b' hb' _=>setRow_other c.w b b' _ hb') (by simp) rfl rfl rfl (.inr ⟨_,_,ho,rfl,hg'⟩) (.inr (.inr ⟨v',J_,.inl (by omega)⟩)) (fun j hj=>by
          rw[ZAc]at hj;rw[hF];refine Ck (c:=c) (by simp;omega) hnl (fun j hj=>?_) hnr j hj;have e1:(cs.toList.take (N*F_.size)).getD j undef=cs.getD j undef:=by
           simp[K',hj,s_]
          rw[e1];exact hcr j (by omega))
        exact⟨_,_,c.γ,I_,.osl id _ _ 0 _ _ b sz TA3 hg' TAz TAY hmx,g1,g2⟩
       ·have hsx:TAr c (.slice (some ⟨b,0,none⟩) N cap) N F_.size f:=⟨b,0,cap,fun j=>cs.getD j undef,rfl,hn,fun j hj=>ZU hh (m:=k) (by omega) j (by omega),fun j hj=>hcr j (by omega)⟩
        obtain⟨b',o',TDu,TAX,e1,hnc,hol,hoc,hor⟩:=hsx.TCA;cases e1;have hold:=run_firstCells_some (P:=P) c.w.drew F_.size N ⟨b,0,none⟩ N cap TAX hol (by simpa using hoc);have I_:=D0 (P:=P) c.w t t' ty e F_ z .i64 _ hu (Ao hk) hin hz ⟨b,0,none⟩ N cap n TAX hold (by omega) (by omega) TA2 (by omega) (growslice_fits (by omega) hbN) hbn;have hge:=grownCap_ge c.w (N+n) cap e;obtain⟨cs',TDv⟩:∃cs',cs'=TAX.toArray ++ a_ z.cells n ++ a_ z.cells (grownCap c.w (N+n) cap e-(N+n)):=⟨_,rfl⟩
        rw[←TDv]at I_;have hsz:cs'.size=grownCap c.w (N+n) cap e*F_.size:=by
         rw[TDv];simp only[ZBb,ZBd,size_zeroCells,hzs,hol,←ZAc];congr 1;omega
        have TA8:∀j,j<(N+n)*F_.size→Rep c (cs'.getD j undef) (F j):=fun j hj=>by
         rw[ZAc]at hj;have:=Ck (c:=c) (rest:=(a_ z.cells (grownCap c.w (N+n) cap e-(N+n))).toList) hol hnl hor hnr j hj;have e3:(TAX ++ (a_ z.cells n).toList ++ (a_ z.cells (grownCap c.w (N+n) cap e-(N+n))).toList).toArray=cs':=by
          rw[TDv];apply ZCQ;simp
         rw[e3]at this;rw[hF];exact this
        obtain⟨g1,g2⟩:=A0 (c:=c) (c':=⟨c.w.drew.alloc (.cells cs' e),c.S,K2 c.γ id (some (c.w.heap.size,cs'.size)),c.H.set id (.row (v'+1) ((N+n)*F_.size) F)⟩) hr
         (id:=id) (ver:=v'+1) (n:=(N+n)*F_.size) (b:=c.w.heap.size) (sz:=cs'.size) TAM TAI rfl (by simp[K2]) (fun i hi=>by simp[K2,hi]) (heap_alloc_new c.w.drew _) rfl
         (by rw[hsz];exact ZAU _ hge) (fun b' _ hb'=>heap_alloc_old c.w.drew _ b' hb') (by simp) rfl rfl rfl (.inl (N' _)) (.inr (.inr ⟨v',J_,.inl (by omega)⟩)) TA8
        exact⟨_,_,_,I_,.osl id _ _ 0 _ _ c.w.heap.size cs'.size TA3 (by simp[K2]) hge (by omega) (grownCap_le_maxLen _ _ _ _ (by show N+n≤9223372036854775807;omega)),g1,g2⟩
     |TAh _ _ _ _ a hi=>exact absurd hN0 (ZAG 0)
     |TAL _ _ _ _ _ a cap hn hs'=>exact absurd hs' live
     |TAG _ _ _ _ a hs'=>exact absurd hN0 (ZAG 0)
    |_=>simp at h
 ·cases h
def cE (a b:AV):Option AV:=match a,b with | .int k x,.int k' y=>Qf (k=k') (some (.int k (if y<x then y else x))) |_,_=>none
def cD (a b:AV):Option AV:=match a,b with | .int k x,.int k' y=>Qf (k=k') (some (.int k (if x<y then y else x))) |_,_=>none
theorem Vg {P:Program}{c:Ctx}(ts:Array TypeId)(ty:TypeId){a b v:AV}{x y:Value}(hx:Rep c x a)(hy:Rep c y b)(h:cE a b=some v) :
  ∃r,(ZDN ts ty #[x,y]).run P c.w=.ok r c.w∧Rep c r v:=by
 unfold cE at h
 split at h
 ·obtain⟨rfl,h2⟩:=Xg h;cases h2;cases hx;cases hy
  exact⟨_,by simp[ZDN,Builtin.min2],.int _ _⟩
 ·cases h
theorem Vf {P:Program}{c:Ctx}(ts:Array TypeId)(ty:TypeId){a b v:AV}{x y:Value}(hx:Rep c x a)(hy:Rep c y b)(h:cD a b=some v) :
  ∃r,(ZDO ts ty #[x,y]).run P c.w=.ok r c.w∧Rep c r v:=by
 unfold cD at h
 split at h
 ·obtain⟨rfl,h2⟩:=Xg h;cases h2;cases hx;cases hy
  exact⟨_,by simp[ZDO,Builtin.max2],.int _ _⟩
 ·cases h
def UC (g:Int→Option AV)(n:Int)(a:AV):Int→Option AV:=fun m=>if m=n then some a else g m
theorem IK {kd k:IntKind}{n:Int}:∀ (es:List MapEntry) (i:Nat),(∀e∈es,∃m,e.key=.int k m) →
  (∃j e,es[j]?=some e∧e.key=.int k n∧ZA4 (.int kd) (.int k n) es i=some (some (i+j,e.val))) ∨
  ((∀e∈es,e.key≠.int k n)∧ZA4 (.int kd) (.int k n) es i=some none)
 | [],i,_=>.inr ⟨by simp,rfl⟩
 |e :: es,i,h=>by
  obtain⟨m,hm⟩:=h e (by simp);by_cases hmn:m=n
  ·subst hmn
   exact .inl ⟨0,e,rfl,hm,by simp[ZA4,ZET,hm]⟩
  ·have hne:(n == m)=false:=by simp;omega
   have TCk:ZA4 (.int kd) (.int k n) (e :: es) i=ZA4 (.int kd) (.int k n) es (i+1):=by
    simp[ZA4,ZET,hm,hne]
   rcases IK es (i+1) (fun e' he'=>h e' (by simp[he']))with⟨j,e',h1,h2,h3⟩ | ⟨h1,h2⟩
   ·refine .inl ⟨j+1,e',by simpa using h1,h2,?_⟩
    rw[TCk,h3];congr 3;omega
   ·refine .inr ⟨?_,by rw[TCk,h2]⟩
    intro e' he';rcases b_.1 he' with rfl |he'
    ·rw[hm];intro he;cases he;exact hmn rfl
    ·exact h1 e' he'
theorem TBQ.find {c:Ctx}{k:IntKind}{g:Int→Option AV}{es:Array MapEntry}(h:TBQ c k g es)(kd:IntKind)(n:Int) :
  (∃a j e,g n=some a∧es.toList[j]?=some e∧e.key=.int k n∧Rep c e.val a∧ZA4 (.int kd) (.int k n) es.toList 0=some (some (j,e.val))) ∨
  (g n=none∧ZA4 (.int kd) (.int k n) es.toList 0=some none):=by
 rcases IK (kd:=kd) (k:=k) (n:=n) es.toList 0 h.keys with⟨j,e,h1,h2,h3⟩ | ⟨h1,h2⟩
 ·rw[z_]at h3
  cases hg:g n with
  |none=>exact absurd h2 (h.TB7 n hg e (ZAK h1))
  |some a =>
   obtain⟨e',he',hk',hr'⟩:=h.hit n a hg;obtain⟨j',hj',rfl⟩:=ZAT he';have hje:j=j':=by
    have hjl:=(S_.1 h1).1;have hj2:=(S_.1 h1).2;rcases Nat.lt_trichotomy j j' with hlt |rfl |hlt
    ·exact absurd (by rw[hj2,h2,hk']) (ZBT.1 h.uniq j j' hjl hj' hlt)
    ·rfl
    ·exact absurd (by rw[hj2,h2,hk']) (ZBT.1 h.uniq j' j hj' hjl hlt)
   subst hje;have:es.toList[j]=e:=(S_.1 h1).2;rw[this]at hr';exact .inl ⟨a,j,e,rfl,h1,h2,hr',h3⟩
 ·cases hg:g n with
  |none=>exact .inr ⟨rfl,h2⟩
  |some a =>
   obtain⟨e,he,hk,_⟩:=h.hit n a hg;exact absurd hk (h1 e he)
def EE (P:Program)(nid:Option Nat)(t:TypeId)(h:List AO):Option (AV×List AO) :=
 match lK P t with
 |some (kt,_)=>match VS P kt with
  |some k=>some (.mp (QN nid h),KL nid h (.map k fun _=>none))
  |none=>none
 |none=>none
theorem ON {P:Program}{t k e:TypeId}(h:lK P t=some (k,e)):P.underlying t=some (.map k e):=by
 unfold lK at h
 split at h
 ·cases h;assumption
 ·cases h
theorem PO {P:Program}{c:Ctx}(hr:I' c){nid:Option Nat}(TAj:∀ id,nid=some id→c.H[id]?=some .D_){t:TypeId}{v:AV}{h':List AO}(h:EE P nid t c.H=some (v,h')) :
  ∃r w' γ',(ZEU t none).run P c.w=.ok r w'∧Rep ⟨w',c.S,γ',h'⟩ r v∧I' ⟨w',c.S,γ',h'⟩∧Ext c ⟨w',c.S,γ',h'⟩:=by
 unfold EE at h
 split at h
 ·split at h
  ·rename_i k hk
   cases h;have TBk:c.H[QN nid c.H]?=none∨c.H[QN nid c.H]?=some .D_∨((∃k0 g0,c.H[QN nid c.H]?=some (.map k0 g0))∧K2 c.γ (QN nid c.H) (some (c.w.heap.size,0)) (QN nid c.H)=c.γ (QN nid c.H)):=by
    cases nid with
    |none=>exact .inl (by simp[QN])
    |some id=>exact .inr (.inl (by simpa [QN]using TAj id rfl))
   obtain⟨g1,g2⟩:=aU (c:=c) (c':=⟨c.w.alloc (.map #[] 0),c.S,K2 c.γ (QN nid c.H) (some (c.w.heap.size,0)),KL nid c.H (.map k fun _=>none)⟩) hr
    (id:=QN nid c.H) (b:=c.w.heap.size) (sz:=0) (es:=#[]) (clock:=0) (Hg TAj) (fun i hi=>AA i hi) rfl (by simp[K2]) (fun i hi=>by simp[K2,hi]) (heap_alloc_new c.w _)
    (fun b' _ hb'=>heap_alloc_old c.w _ b' hb') (by simp) rfl rfl rfl (.inl (N' _)) TBk
    ⟨by simp,by simp,by simp,by simp⟩
   exact⟨_,_,_,by simp[ZEU],.mp _ c.w.heap.size 0 k _ (Hg TAj) (by simp[K2]),g1,g2⟩
  ·cases h
 ·cases h
theorem TCv.ok {c:Ctx}{k:IntKind}{g:Int→Option Value}{es:Array MapEntry}(h:TCv k g es):TBQ c k (fun n=>(g n).map K3) es:=by
 refine⟨h.keys,h.uniq,fun n a hn=>?_,fun n hn=>?_⟩
 ·simp only[ZCP]at hn
  obtain⟨v,h1,rfl⟩:=hn;obtain⟨e,he,hk,rfl⟩:=h.hit n v h1;exact⟨e,he,hk,At c _⟩
 ·simp only[Option.map_eq_none_iff]at hn
  exact h.TB7 n hn
def DM (P:Program)(t:TypeId)(x i:AV)(ok:Bool)(h:List AO):Option AV :=
 match lK P t,i with
 |some (kt,et),.int ik n =>
  match VS P kt,oq P et with
  |some _,some z =>
   match x with
   | .TBN=>some (if ok then .tup [z,.bool false]else z)
   | .TCr k g=>Qf (k=ik) (match (g n).map K3 with
     |some a=>some (if ok then .tup [a,.bool true]else a)
     |none=>some (if ok then .tup [z,.bool false]else z))
   | .mp id =>
    match h[id]? with
    |some (.map k g)=>Qf (k=ik) (match g n with
     |some a=>some (if ok then .tup [a,.bool true]else a)
     |none=>some (if ok then .tup [z,.bool false]else z))
    |_=>none
   |_=>none
  |_,_=>none
 |_,_=>none
theorem WR {P:Program}{t:TypeId}{z:AV}(h:oq P t=some z):∃i v,P.info? t=some i∧i.zero=some v∧z=Ou v:=by
 unfold oq at h;cases hi:P.info? t with
 |none=>simp[hi]at h
 |some i =>
  cases hz:i.zero with
  |none=>simp[hi,hz]at h
  |some v=>simp[hi,hz]at h;exact⟨i,v,rfl,hz,h.symm⟩
theorem JF {P:Program}{w:World}{kt:TypeId}{k:IntKind}(hk:P.underlying kt=some (.int k)) (empty:Bool) (v:Value) (ik:IntKind) (n:Int) (hv:v=.int ik n) :
  (ZDA empty 10000 kt v).run P w=.ok () w:=by
 have:∀d,(ZDA empty (d+1) kt v).run P w=.ok () w:=fun d=>by subst hv;simp[ZDA,run_underlying hk]
 exact this 9999
theorem F9 {c:Ctx}{x y:Value}{a b:AV}(h1:Rep c x a)(h2:Rep c y b):Rep c (.tuple #[x,y]) (.tup [a,b]):=by
 refine .tup _ _ rfl fun j hj=>?_
 have:j=0∨j=1:=by simp at hj;omega
 rcases this with rfl |rfl
 ·simpa [ZAV]using h1
 ·simpa [ZAV]using h2
theorem NU {P:Program}{c:Ctx}(hr:I' c){t:TypeId}{x i v:AV}{ok:Bool}{y z:Value}(hx:Rep c y x)(hi:Rep c z i)(h:DM P t x i ok c.H=some v) :
  ∃r,(ZAy t y z ok).run P c.w=.ok r c.w∧Rep c r v:=by
 unfold DM at h
 split at h
 ·rename_i kt et ik n hm
  have hu:=ON hm;cases hi
  split at h
  ·rename_i kk zv hk hz
   obtain⟨iz,vz,J_,hzero,rfl⟩:=WR hz;have hku:=Ao hk;have TB2:=au c vz
   split at h
   ·cases hx
    have hfk:(ZAb kt (.int ik n) []).run P c.w=.ok none c.w:=by simp[ZAb,run_underlying hku,ZA4]
    have I_:(ZAy t (.map none) (.int ik n) ok).run P c.w=.ok (if ok then .tuple #[vz,.bool false]else vz) c.w:=by
     simp[ZAy,run_underlying hu,JF hku _ _ ik n rfl,hfk,zeroValue,typeInfo,J_,hzero]
    refine⟨_,I_,?_⟩;cases h;cases ok
    ·exact TB2
    ·exact F9 TB2 (.bool _)
   ·rename_i k g
    obtain⟨rfl,h2⟩:=Xg h;cases hx with
    |TCr b _ _ es cl hS h3 hm' =>
     have h5:=hm'.ok (c:=c);have TAN:(getObj b).run P c.w=.ok (.map es cl) c.w:=by simp[getObj,ZEM,h3]
     rcases h5.find kk n with⟨a,j,e,ha,hj,hek,her,hf⟩ | ⟨ha,hf⟩
     ·have hfk:(ZAb kt (.int k n) es.toList).run P c.w=.ok (some (j,e.val)) c.w:=by simp[ZAb,run_underlying hku,hf]
      have I_:(ZAy t (.map (some b)) (.int k n) ok).run P c.w=.ok (if ok then .tuple #[e.val,.bool true]else e.val) c.w:=by
       simp[ZAy,run_underlying hu,TAN,JF hku _ _ k n rfl,hfk]
      refine⟨_,I_,?_⟩;rw[ha]at h2;cases h2;cases ok
      ·exact her
      ·exact F9 her (.bool _)
     ·have hfk:(ZAb kt (.int k n) es.toList).run P c.w=.ok none c.w:=by simp[ZAb,run_underlying hku,hf]
      have I_:(ZAy t (.map (some b)) (.int k n) ok).run P c.w=.ok (if ok then .tuple #[vz,.bool false]else vz) c.w:=by
       simp[ZAy,run_underlying hu,TAN,JF hku _ _ k n rfl,hfk,zeroValue,typeInfo,J_,hzero]
      refine⟨_,I_,?_⟩;rw[ha]at h2;cases h2;cases ok
      ·exact TB2
      ·exact F9 TB2 (.bool _)
   ·rename_i id
    split at h
    ·rename_i k g ho
     obtain⟨rfl,h2⟩:=Xg h;obtain⟨b,sz,es,cl,h1,h3,h4,h5⟩:=hr.map id k g ho;cases hx with
     |mp _ b' sz' k' g' hi' hg' =>
      rw[h1]at hg';cases hg';have TAN:(getObj b).run P c.w=.ok (.map es cl) c.w:=by simp[getObj,ZEM,h3]
      rcases h5.find kk n with⟨a,j,e,ha,hj,hek,her,hf⟩ | ⟨ha,hf⟩
      ·have hfk:(ZAb kt (.int k n) es.toList).run P c.w=.ok (some (j,e.val)) c.w:=by simp[ZAb,run_underlying hku,hf]
       have I_:(ZAy t (.map (some b)) (.int k n) ok).run P c.w=.ok (if ok then .tuple #[e.val,.bool true]else e.val) c.w:=by
        simp[ZAy,run_underlying hu,TAN,JF hku _ _ k n rfl,hfk]
       refine⟨_,I_,?_⟩;rw[ha]at h2;cases h2;cases ok
       ·exact her
       ·exact F9 her (.bool _)
      ·have hfk:(ZAb kt (.int k n) es.toList).run P c.w=.ok none c.w:=by simp[ZAb,run_underlying hku,hf]
       have I_:(ZAy t (.map (some b)) (.int k n) ok).run P c.w=.ok (if ok then .tuple #[vz,.bool false]else vz) c.w:=by
        simp[ZAy,run_underlying hu,TAN,JF hku _ _ k n rfl,hfk,zeroValue,typeInfo,J_,hzero]
       refine⟨_,I_,?_⟩;rw[ha]at h2;cases h2;cases ok
       ·exact TB2
       ·exact F9 TB2 (.bool _)
     |TCH _ _ hi'=>rw[ho]at hi';cases hi'
    ·cases h
   ·cases h
  ·cases h
 ·cases h
def Zx (P:Program)(t:TypeId)(x i a:AV)(h:List AO):Option (List AO) :=
 match lK P t,x,i with
 |some (kt,_),.mp id,.int ik n =>
  match VS P kt,h[id]? with
  |some _,some (.map k g)=>Qf (k=ik) (some (h.set id (.map k (UC g n a))))
  |_,_=>none
 |_,_,_=>none
theorem FY {P:Program}{c:Ctx}(hr:I' c){t:TypeId}{x i a:AV}{vx vi va:Value}(hx:Rep c vx x)(hi:Rep c vi i)(ha:Rep c va a){h':List AO}(h:Zx P t x i a c.H=some h') :
  ∃w',(ZBs t vx vi va).run P c.w=.ok () w'∧I' ⟨w',c.S,c.γ,h'⟩∧Ext c ⟨w',c.S,c.γ,h'⟩:=by
 unfold Zx at h
 split at h
 ·rename_i kt et id ik n hm
  have hu:=ON hm;cases hi
  split at h
  ·rename_i kk k g hk ho
   obtain⟨rfl,h2⟩:=Xg h;cases h2;have hku:=Ao hk;obtain⟨b,sz,es,cl,h1,h3,h4,h5⟩:=hr.map id k g ho;cases hx with
   |mp _ b' sz' k' g' hi' hg' =>
    rw[h1]at hg';cases hg';have hlt:=(S_.1 ho).1;have TAN:(getObj b).run P c.w=.ok (.map es cl) c.w:=by simp[getObj,ZEM,h3]
    have TAM:∀o,(setObj b o).run P c.w=.ok () { c.w with heap:=c.w.heap.setIfInBounds b o }:=fun o=>by simp[setObj,ZEM,h3]
    have hb:b<c.w.heap.size:=(f_.1 h3).1;have fin:∀es' cl',TBQ c k (UC g n a) es'→(ZBs t (.map (some b)) (.int k n) va).run P c.w=.ok () { c.w with heap:=c.w.heap.setIfInBounds b (.map es' cl') } →
      ∃w',(ZBs t (.map (some b)) (.int k n) va).run P c.w=.ok () w'∧I' ⟨w',c.S,c.γ,c.H.set id (.map k (UC g n a))⟩∧Ext c ⟨w',c.S,c.γ,c.H.set id (.map k (UC g n a))⟩:=by
     intro es' cl' hok I_;refine⟨_,I_,aU (c:=c) (c':=⟨{ c.w with heap:=c.w.heap.setIfInBounds b (.map es' cl') },c.S,c.γ,_⟩) hr (id:=id) (b:=b) (sz:=sz) (es:=es') (clock:=cl') (by simp[hlt]) (fun i hi=>by simp[w_ hi]) rfl h1 (fun _ _=>rfl)
      (by simp[hb]) (fun b' hb' _=>by simp[w_ hb']) (by simp) rfl rfl rfl (.inr ⟨_,_,ho,rfl,h1⟩) (.inr (.inr ⟨⟨k,g,ho⟩,rfl⟩)) hok⟩
    rcases h5.find kk n with⟨a0,j,e,ha0,hj,hek,her,hf⟩ | ⟨ha0,hf⟩
    ·have hfk:(ZAb kt (.int k n) es.toList).run P c.w=.ok (some (j,e.val)) c.w:=by simp[ZAb,run_underlying hku,hf]
     have hje:es[j]?=some e:=by simpa using hj
     have TEV:(ZD1 (((es[j]?).map (·.key)).getD (.int k n)) (.int k n)).run P c.w=.ok (.int k n) c.w:=by
      have hsb:∀d,ZDB (d+1) (.int k n) (.int k n)=true:=fun d=>by simp[ZDB]
      have TFD:ZDB 10000 (.int k n) (.int k n)=true:=hsb 9999;simp[hje,hek,ZD1,TFD]
     refine fin (es.modify j fun e=>{ e with key:=.int k n,val:=va }) cl ?_ ?_
     ·have hjl:=(S_.1 hj).1
      have TAW:∀e'∈(es.modify j fun e=>{ e with key:=.int k n,val:=va }).toList,(∃i',i'≠j∧es.toList[i']?=some e')∨(e'.key=.int k n∧e'.val=va):=by
       intro e' he';obtain⟨i',hi',rfl⟩:=ZAT he';have hi2:i'<es.size:=by simpa using hi'
       by_cases hij:j=i'
       ·subst hij;right;simp
       ·left;refine⟨i',fun h=>hij h.symm,?_⟩
        simp[hij,hi2]
      refine⟨?_,?_,?_,?_⟩
      ·intro e' he'
       rcases TAW e' he' with⟨i',_,h⟩ | ⟨h,_⟩
       ·exact h5.keys _ (ZAK h)
       ·exact⟨n,h⟩
      ·rw[ZBT]
       intro p q hp hq hpq;have hp2:p<es.size:=by simpa using hp
       have hq2:q<es.size:=by simpa using hq
       have key:∀r (hr:r<(es.modify j fun e=>{ e with key:=.int k n,val:=va }).toList.length),((es.modify j fun e=>{ e with key:=.int k n,val:=va }).toList[r]).key=(es.toList[r]'(by simpa using hr)).key:=by
        intro r hr;simp only[ZDi,Array.getElem_modify]
        split
        ·rename_i hjr
         subst hjr;have:es[j]'(by simpa using hjl)=e:=by simpa using (S_.1 hj).2
         simp[this,hek]
        ·rfl
       rw[key p hp,key q hq];exact ZBT.1 h5.uniq p q (by simpa using hp2) (by simpa using hq2) hpq
      ·intro m a' hm'
       unfold UC at hm';by_cases hmn:m=n
       ·subst hmn
        rw[N_ rfl]at hm';cases hm';refine⟨{ e with key:=.int k m,val:=va },?_,rfl,ha⟩;refine ZDt.2 ⟨j,by simpa using hjl,?_⟩;have:es[j]'(by simpa using hjl)=e:=by simpa using (S_.1 hj).2
        simp[this]
       ·rw[M_ hmn]at hm'
        obtain⟨e',he',hk',hr'⟩:=h5.hit m a' hm';obtain⟨i',hi',rfl⟩:=ZAT he';have hne:j≠i':=by
         rintro rfl;have:=(S_.1 hj).2;rw[this,hek]at hk';cases hk';exact hmn rfl
        refine⟨es.toList[i'],?_,hk',hr'⟩;refine ZDt.2 ⟨i',by simpa using hi',?_⟩;simp[hne]
      ·intro m hm' e' he' hkm
       unfold UC at hm';by_cases hmn:m=n
       ·rw[N_ hmn]at hm';cases hm'
       ·rw[M_ hmn]at hm'
        rcases TAW e' he' with⟨i',_,h⟩ | ⟨h,_⟩
        ·exact h5.TB7 m hm' _ (ZAK h) hkm
        ·rw[h]at hkm;cases hkm;exact hmn rfl
     ·simp only[ZBs,run_underlying hu,ZAv,ZAa,TAN,JF hku _ _ k n rfl,hfk,TEV,TAM]
    ·have hfk:(ZAb kt (.int k n) es.toList).run P c.w=.ok none c.w:=by simp[ZAb,run_underlying hku,hf]
     refine fin (es.push { key:=.int k n,val:=va,born:=cl }) (cl+1) ?_ ?_
     ·refine⟨?_,?_,?_,?_⟩
      ·intro e' he'
       rcases(show e'∈es.toList∨e'=_ by simpa using he')with h |h
       ·exact h5.keys _ h
       ·exact⟨n,by rw[h]⟩
      ·have:(es.push { key:=.int k n,val:=va,born:=cl }).toList=es.toList ++ [{ key:=.int k n,val:=va,born:=cl }]:=by simp
       rw[this,List.pairwise_append];refine⟨h5.uniq,by simp,?_⟩;intro x hx' y hy';simp at hy';subst hy';exact h5.TB7 n ha0 x hx'
      ·intro m a' hm'
       unfold UC at hm';by_cases hmn:m=n
       ·subst hmn;rw[N_ rfl]at hm';cases hm'
        exact⟨{ key:=.int k m,val:=va,born:=cl },by simp,rfl,ha⟩
       ·rw[M_ hmn]at hm'
        obtain⟨e',he',h⟩:=h5.hit m a' hm';exact⟨e',by simp[ZDj.1 he'],h⟩
      ·intro m hm' e' he' hkm
       unfold UC at hm';by_cases hmn:m=n
       ·rw[N_ hmn]at hm';cases hm'
       ·rw[M_ hmn]at hm'
        rcases(show e'∈es.toList∨e'=_ by simpa using he')with h |h
        ·exact h5.TB7 m hm' _ h hkm
        ·rw[h]at hkm;cases hkm;exact hmn rfl
     ·simp only[ZBs,run_underlying hu,ZAv,ZAa,TAN,JF hku _ _ k n rfl,hfk,TAM]
   |TCH _ _ hi'=>rw[ho]at hi';cases hi'
  ·cases h
 ·cases h
def Mt (off N:Nat)(f g:Nat→AV):Nat→AV:=fun j=>if off≤j∧j<off+N then(g (j-off)).loose else f j
def FX (P:Program)(t:TypeId)(x y:AV)(h:List AO):Option (AV×List AO) :=
 match AL P t with
 |none=>none
 |some (_,s,_) =>
  match DN s y h with
  |none=>none
  |some (m,g) =>
   match x with
   | .osl id ver es off n =>
    match h[id]? with
    |some (.row v k f)=>Qf (v=ver∧es=s∧off+min m n*s≤k∧(∀j,j<min m n*s→(g j).one=true))
      (some (.int .i64 ((min m n:Nat):Int),h.set id (.row v k (Mt off (min m n*s) f g))))
    |_=>none
   |_=>none
theorem TAr.le {c:Ctx}{z:Value}{n s:Nat}{g:Nat→AV}(h:TAr c z n s g){k:Nat}(hk:k≤n)(h1:∀j,j<k*s→(g j).one=true) :
  ∃ (a:Addr) (cap:Nat) (news:List Value),z=.slice (some a) n cap∧news.length=k*s∧(∀j u,news[j]?=some u→c.w.cell? (a.add j)=some u)∧(∀u∈news,u.oneCell'=true) ∧
   ∀j,j<k*s→Rep c (news.getD j undef) (g j):=by
 obtain⟨b,o,cap,us,rfl,hc,h2,h3⟩:=h;have hks:k*s≤n*s:=ZAU _ hk;have h':TAr c (.slice (some ⟨b,o,none⟩) k cap) k s g:=⟨b,o,cap,us,rfl,by omega,fun j hj=>h2 j (by omega),fun j hj=>h3 j (by omega)⟩
 obtain⟨a,TAZ,news,e,g1,g2,g3,g4⟩:=h'.news h1;cases e;exact⟨_,_,news,rfl,g1,g2,g3,g4⟩
theorem Sf {P:Program}{c:Ctx}(hr:I' c){t t':TypeId}(ty:TypeId){x y v:AV}{vx vy:Value}(hx:Rep c vx x)(hy:Rep c vy y){h':List AO}(h:FX P t x y c.H=some (v,h')) :
  ∃r w' γ',(ZDC #[t,t'] ty #[vx,vy]).run P c.w=.ok r w'∧Rep ⟨w',c.S,γ',h'⟩ r v∧I' ⟨w',c.S,γ',h'⟩∧Ext c ⟨w',c.S,γ',h'⟩:=by
 unfold FX at h;cases he:AL P t with
 |none=>simp[he]at h
 |some q =>
  obtain⟨e,s,by_⟩:=q;obtain⟨hu,F_,z,hin,hs,hby,hz,hzs,TA2⟩:=ZE he;simp only[he]at h;cases TCW:DN s y c.H with
  |none=>simp[TCW]at h
  |some q =>
   obtain⟨m,g⟩:=q;simp only[TCW]at h;have TCK:=Mb hr hy TCW;have hvy:∃a TAs,vy=.slice a m TAs:=by
    rcases TCK with⟨a,TAs,rfl,rfl⟩ | ⟨b,o,cap,us,rfl,_⟩
    ·exact⟨_,_,rfl⟩
    ·exact⟨_,_,rfl⟩
   have hsy:0<m→TAr c vy m s g:=fun hm=>TCK.resolve_left (by rintro⟨a,TAs,rfl,_⟩;omega)
   cases x with
   |osl id ver es off n =>
    cases ho:c.H[id]? with
    |none=>simp[ho]at h
    |some o =>
     simp only[ho]at h;cases o with
     |row v' k f =>
      obtain⟨⟨rfl,rfl,hk,h1⟩,h2⟩:=Xg h;cases h2;have hlt:=(S_.1 ho).1;have J_:inf c.H id=some v':=by simp[inf,ho,AO.info]
      have live:¬TAe c.H id v':=by
       rintro(⟨v'',hi,hlt⟩ |hd)
       ·rw[J_]at hi;cases hi;omega
       ·simp[inf,hd,AO.info]at J_
      have hvx:∃a cap,vx=.slice a n cap:=by
       cases hx with
       |osl _ _ _ _ _ cap b sz hi hg hn TAY hmx=>exact⟨_,_,rfl⟩
       |TAh _ _ _ _ a hi=>exact⟨_,_,rfl⟩
       |TAL _ _ _ _ _ a cap hn hs'=>exact absurd hs' live
       |TAG _ _ _ _ a hs'=>exact absurd hs' live
      by_cases hk0:min m n=0
      ·
       have e0:(c.H.set id (.row v' k (Mt off (min m n*es) f g)))=c.H:=by
        have:Mt off (min m n*es) f g=f:=by
         funext j;unfold Mt;rw[M_];rw[hk0,ZA8];omega
        rw[this];refine ZAp fun i=>?_
        rw[ZCB];by_cases hi:id=i
        ·subst hi;rw[N_ rfl,N_ hlt,ho]
        ·rw[M_ hi]
       rw[e0];obtain⟨ax,TFE,rfl⟩:=hvx;obtain⟨ay,TAs,rfl⟩:=hvy;refine⟨goInt ((min m n:Nat):Int),c.w,c.γ,?_,.int _ _,hr,Ext.refl c⟩;have hm0:Nat.min m n=0:=hk0;cases ax <;> cases ay <;> simp[ZDC,run_underlying hu,sizeOf,typeInfo,hin,ZCZ,ZBv,hm0,storeCells,loadCells,loadCellsFrom]
      ·have hm:0<m:=by omega
       cases hx with
       |osl _ _ _ _ _ cap b sz hi hg hn TAY hmx =>
        rcases hr.row id _ k f ho with⟨hg',_⟩ | ⟨b',sz',cs,el,hg',hh,hcs,hks,hnS,hcr⟩
        ·rw[hg']at hg;cases hg
        ·rw[hg']at hg;cases hg
         obtain⟨a,TAs,news,rfl,hnl,hnc,hn1,hnr⟩:=(hsy hm).le (Nat.min_le_left m n) h1;subst hs;have hf:=run_firstCells_some (P:=P) c.w F_.size (min m n) a m TAs news hnl hnc;have hst:=run_storeCells_at P b off el news 0 cs c.w hh (by omega) hn1;simp only[ZAm]at hst;have TCX:(cs.toList.take off ++ news ++ cs.toList.drop (off+news.length)).toArray.size=sz:=by
          simp;omega
         refine⟨goInt ((min m n:Nat):Int),c.w.setRow b (cs.toList.take off ++ news ++ cs.toList.drop (off+news.length)).toArray,c.γ,?_,.int _ _,?_⟩
         ·have hmm:Nat.min m n=min m n:=rfl
          simp[ZDC,run_underlying hu,sizeOf,typeInfo,hin,ZCZ,hmm,hf,hst]
         ·refine A0 (c:=c) (c':=⟨_,c.S,c.γ,_⟩) hr (id:=id) (ver:=v') (n:=k) (b:=b) (sz:=sz) (f:=Mt off (min m n*F_.size) f g)
           (by simp[hlt]) (fun i hi=>by simp[w_ hi]) rfl hg' (fun _ _=>rfl) (setRow_heap c.w b cs _ el _ hh) TCX (by omega)
           (fun b' hb' _=>setRow_other c.w b b' _ hb') (by simp) rfl rfl rfl (.inr ⟨_,_,ho,rfl,hg'⟩) (.inr (.inr ⟨v',J_,.inr ⟨rfl,rfl⟩⟩)) ?_
          intro j hj;unfold Mt;have hl:(cs.toList.take off).length=off:=by simp;omega
          by_cases TCy:off≤j∧j<off+min m n*F_.size
          ·simp only[N_ TCy]
           obtain⟨d,rfl⟩:∃d,j=off+d:=⟨j-off,by omega⟩
           have hd:d<min m n*F_.size:=by omega
           have hr2:=(hnr d hd).loose;have e1:(cs.toList.take off ++ news ++ cs.toList.drop (off+news.length)).toArray.getD (off+d) undef=news.getD d undef:=by
            simp only[s_,ZBG];rw[T_ (by simp;omega),g_ (by omega),hl,ZA0,K']
           rw[e1,ZA0];exact hr2
          ·simp only[M_ TCy]
           have e1:(cs.toList.take off ++ news ++ cs.toList.drop (off+news.length)).toArray.getD j undef=cs.getD j undef:=by
            simp only[s_,ZBG];by_cases hj1:j<off
            ·rw[P_,T_ (by omega),ZAe,N_ hj1];simp
            ·have hj2:off+min m n*F_.size≤j:=by omega
             rw[g_ (by simp;omega)];simp only[j_,hl,ZBi];rw[show off+news.length+(j-(off+news.length))=j by omega];simp
           rw[e1];exact hcr j (by omega)
       |TAh _ _ _ _ a hi=>exact absurd (Nat.min_zero m) hk0
       |TAL _ _ _ _ _ a cap hn hs'=>exact absurd hs' live
       |TAG _ _ _ _ a hs'=>exact absurd hs' live
     |_=>simp at h
   |_=>simp at h
def gy (off N:Nat)(f:Nat→AV):Nat→AV:=fun j=>if off≤j∧j<off+N then .any else f j
def un (P:Program)(t:TypeId):Bool:=match P.underlying t with
 |some (.slice e)=>match P.info? e with
  |some i=>match i.zero with
   |some z=>z.cells.toList.all fun u=>u.oneCell'
   |none=>false
  |none=>false
 |_=>false
def Gd (P:Program)(t:TypeId)(x:AV)(h:List AO):Option (AV×List AO) :=
 match AL P t with
 |none=>none
 |some (_,s,_) =>
  match x with
  | .osl id ver es off n =>
   match h[id]? with
   |some (.row v k f)=>Qf (un P t=true∧v=ver∧es=s∧off+n*s≤k) (some (.any,h.set id (.row v k (gy off (n*s) f))))
   |_=>none
  |_=>none
theorem PH {P:Program}{c:Ctx}(hr:I' c){t:TypeId}(ty:TypeId){x v:AV}{vx:Value}(hx:Rep c vx x){h':List AO}(h:Gd P t x c.H=some (v,h')) :
  ∃r w' γ',(ZC1 #[t] ty #[vx]).run P c.w=.ok r w'∧Rep ⟨w',c.S,γ',h'⟩ r v∧I' ⟨w',c.S,γ',h'⟩∧Ext c ⟨w',c.S,γ',h'⟩:=by
 unfold Gd at h;cases he:AL P t with
 |none=>simp[he]at h
 |some q =>
  obtain⟨e,s,by_⟩:=q;obtain⟨hu,F_,z,hin,hs,hby,hz,hzs,TA2⟩:=ZE he;simp only[he]at h;cases x with
  |osl id ver es off n =>
   cases ho:c.H[id]? with
   |none=>simp[ho]at h
   |some o =>
    simp only[ho]at h;cases o with
    |row v' k f =>
     obtain⟨⟨hzo,rfl,rfl,hk⟩,h2⟩:=Xg h;cases h2;have TA9:∀u∈z.cells.toList,u.oneCell'=true:=by
      unfold un at hzo;rw[hu]at hzo;simp only[hin,hz]at hzo;exact ZA5.1 hzo
     have hlt:=(S_.1 ho).1;have J_:inf c.H id=some v':=by simp[inf,ho,AO.info]
     have live:¬TAe c.H id v':=by
      rintro(⟨v'',hi,hlt⟩ |hd)
      ·rw[J_]at hi;cases hi;omega
      ·simp[inf,hd,AO.info]at J_
     have hvx:∃a cap,vx=.slice a n cap∧(n≠0→a≠none):=by
      cases hx with
      |osl _ _ _ _ _ cap b sz hi hg hn TAY hmx=>exact⟨_,_,rfl,by simp⟩
      |TAh _ _ _ _ a hi=>exact⟨_,_,rfl,by simp⟩
      |TAL _ _ _ _ _ a cap hn hs'=>exact absurd hs' live
      |TAG _ _ _ _ a hs'=>exact absurd hs' live
     by_cases hk0:n=0
     ·subst hk0
      have e0:(c.H.set id (.row v' k (gy off (0*es) f)))=c.H:=by
       have:gy off (0*es) f=f:=by
        funext j;unfold gy;rw[M_];rw[ZA8];omega
       rw[this];refine ZAp fun i=>?_
       rw[ZCB];by_cases hi:id=i
       ·subst hi;rw[N_ rfl,N_ hlt,ho]
       ·rw[M_ hi]
      rw[e0];obtain⟨ax,TFE,rfl,_⟩:=hvx;refine⟨.tuple #[],c.w,c.γ,?_,.any _,hr,Ext.refl c⟩;cases ax <;> simp[ZC1,run_underlying hu]
     ·cases hx with
      |osl _ _ _ _ _ cap b sz hi hg hn TAY hmx =>
       rcases hr.row id _ k f ho with⟨hg',_⟩ | ⟨b',sz',cs,el,hg',hh,hcs,hks,hnS,hcr⟩
       ·rw[hg']at hg;cases hg
       ·rw[hg']at hg;cases hg
        have hnl:(a_ z.cells n).toList.length=n*es:=by rw[ZBS,size_zeroCells,hzs]
        have hn1:∀u∈(a_ z.cells n).toList,u.oneCell'=true:=by
         intro u hu';refine TA9 u ?_;simp only[a_,Array.toList_map,ZBj]at hu';obtain⟨j,hj,rfl⟩:=hu';have hj2:j<n*z.cells.size:=by simpa using hj
         have TFF:j%z.cells.size<z.cells.size:=ZAI _ (by omega);rw[getElem!_pos z.cells (j%z.cells.size) TFF];exact ZDj.2 (Array.getElem_mem _)
        have hst:=run_storeCells_at P b off el (a_ z.cells n).toList 0 cs c.w hh (by omega) hn1;simp only[ZAm]at hst;generalize TCx:(a_ z.cells n).toList=news at *;have TCX:(cs.toList.take off ++ news ++ cs.toList.drop (off+news.length)).toArray.size=sz:=by
         simp;omega
        refine⟨.tuple #[],c.w.setRow b (cs.toList.take off ++ news ++ cs.toList.drop (off+news.length)).toArray,c.γ,?_,.any _,?_⟩
        ·obtain⟨m,rfl⟩:∃m,n=m+1:=⟨n-1,by omega⟩
         simp[ZC1,run_underlying hu,zeroValue,typeInfo,hin,hz,TCx,hst]
        ·refine A0 (c:=c) (c':=⟨_,c.S,c.γ,_⟩) hr (id:=id) (ver:=v') (n:=k) (b:=b) (sz:=sz) (f:=gy off (n*es) f)
          (by simp[hlt]) (fun i hi=>by simp[w_ hi]) rfl hg' (fun _ _=>rfl) (setRow_heap c.w b cs _ el _ hh) TCX (by omega)
          (fun b' hb' _=>setRow_other c.w b b' _ hb') (by simp) rfl rfl rfl (.inr ⟨_,_,ho,rfl,hg'⟩) (.inr (.inr ⟨v',J_,.inr ⟨rfl,rfl⟩⟩)) ?_
         intro j hj;unfold gy;have hl:(cs.toList.take off).length=off:=by simp;omega
         by_cases TCy:off≤j∧j<off+n*es
         ·simp only[N_ TCy]
          exact .any _
         ·simp only[M_ TCy]
          have e1:(cs.toList.take off ++ news ++ cs.toList.drop (off+news.length)).toArray.getD j undef=cs.getD j undef:=by
           simp only[s_,ZBG];by_cases hj1:j<off
           ·rw[P_,T_ (by omega),ZAe,N_ hj1];simp
           ·have hj2:off+n*es≤j:=by omega
            rw[g_ (by simp;omega)];simp only[j_,hl,ZBi];rw[show off+news.length+(j-(off+news.length))=j by omega];simp
          rw[e1];exact hcr j (by omega)
      |TAh _ _ _ _ a hi=>exact absurd rfl hk0
      |TAL _ _ _ _ _ a cap hn hs'=>exact absurd hs' live
      |TAG _ _ _ _ a hs'=>exact absurd hs' live
    |_=>simp at h
  |_=>simp at h
def XZ:AV:=.tup []
theorem Pd (c:Ctx):Rep c undef XZ:=.tup _ _ rfl (by simp)
def lQ (f:FuncId):List AV→List AV→Option AV
 | [],l=>some (.fn f l)
 | [r],[]=>some (.mfn f r)
 |_,_=>none
theorem lS {c:Ctx}{f:FuncId}{fs cs:Array Value}{l m:List AV}(hf:TAH c fs l)(hc:TAH c cs m){a:AV}(h:lQ f l m=some a):Rep c (.func (.func f) fs cs) a:=by
 unfold lQ at h
 split at h
 ·cases h
  obtain rfl:fs=#[]:=ZDX.1 hf.1;exact .fn _ _ _ hc.1 hc.2
 ·cases h
  obtain rfl:cs=#[]:=ZDX.1 hc.1;rename_i r;obtain⟨v,rfl⟩:∃v,fs=#[v]:=Array.size_eq_one_iff.1 hf.1;exact .mfn _ _ _ (hf.2 0 (Nat.zero_lt_succ _))
 ·cases h
def Jk (P:Program)(strict:Bool)(nid:Option Nat)(o:Op)(ρ:Operand→AV)(h:List AO):Option (AV×List AO) :=
 match o with
 | .move x=>some (ρ x,h)
 | .assign x=>some (ρ x,h)
 | .pick c a b=>match ρ c with
  | .bool true=>some (ρ a,h)
  | .bool false=>some (ρ b,h)
  |_=>none
 | .alloc t=>Bd P nid t h
 | .box _ v=>NO nid (ρ v) h
 | .build t ps=>(Gc P t (ps.toList.map fun p=>(p.1,ρ p.2))).map fun v=>(v,h)
 | .buildSlice t n ps=>if strict then Zv P t n (ps.toList.map fun p=>(p.1,ρ p.2)) h else(Ki P t n (ps.toList.map fun p=>(p.1,ρ p.2))).map fun v=>(v,h)
 | .load t a=>(Qy P strict t (ρ a) h).map fun v=>(v,h)
 | .store t a v=>(ZC P strict t (ρ a) (ρ v) h).map fun h'=>(XZ,h')
 | .nilCheck x=>Qf ((ρ x).TAl=true) (some (ρ x,h))
 | .binOp op t x y _=>(M2 P op t y (ρ x) (ρ y)).map fun v=>(v,h)
 | .unOp op _ x=>(uV op (ρ x)).map fun v=>(v,h)
 | .convert s d x=>(Oh P s d (ρ x)).map fun v=>(v,h)
 | .makeFunc (.func f) first G_=>(lQ f (first.toList.map ρ) (G_.toList.map ρ)).map fun v=>(v,h)
 | .makeMap t none=>EE P nid t h
 | .makeSlice t l c=>Ep P nid t (ρ l) (ρ c) h
 | .slice t x lo hi mx=>Qf (mx=none∨hi≠none) ((EF P t (ρ x) (lo.map ρ) (hi.map ρ) (mx.map ρ)).map fun v=>(v,h))
 | .fieldAddr t x i=>(CM P t (ρ x) i).map fun v=>(v,h)
 | .field t x i=>(I2 P t (ρ x) i).map fun v=>(v,h)
 | .indexAddr t x i=>(DL P t (ρ x) (ρ i)).map fun v=>(v,h)
 | .index t x i=>(uR P t (ρ x) (ρ i)).map fun v=>(v,h)
 | .sliceToArrayPointer t x=>(iX P t (ρ x)).map fun v=>(v,h)
 | .lookup t x i ok=>(DM P t (ρ x) (ρ i) ok h).map fun v=>(v,h)
 | .mapUpdate t m k v=>(Zx P t (ρ m) (ρ k) (ρ v) h).map fun h'=>(XZ,h')
 | .insert t m k v=>(Zx P t (ρ m) (ρ k) (ρ v) h).map fun h'=>(XZ,h')
 | .extract x i=>match ρ x with
  | .tup l=>Qf (i<l.length) (some (l.getD i .any,h))
  |_=>none
 | .call { callee:=.builtin .len,args,argTypes }=>match args.toList,argTypes.toList with
  | [x],[t]=>(NS P t (ρ x)).map fun v=>(v,h)
  |_,_=>none
 | .call { callee:=.builtin .min,args,.. }=>match args.toList with
  | [x,y]=>(cE (ρ x) (ρ y)).map fun v=>(v,h)
  |_=>none
 | .call { callee:=.builtin .max,args,.. }=>match args.toList with
  | [x,y]=>(cD (ρ x) (ρ y)).map fun v=>(v,h)
  |_=>none
 | .call { callee:=.builtin .append,args,argTypes }=>match args.toList,argTypes.toList with
  | [x,y],[t,t']=>if t=t' then J5 P t (ρ x) (ρ y) h else K8 P t t' (ρ x) (ρ y) h
  |_,_=>none
 | .call { callee:=.builtin .cap,args,argTypes }=>match args.toList,argTypes.toList with
  | [x],[t]=>(uQ P t (ρ x)).map fun v=>(v,h)
  |_,_=>none
 | .call { callee:=.builtin .copy,args,argTypes }=>match args.toList,argTypes.toList with
  | [x,y],[t,_]=>FX P t (ρ x) (ρ y) h
  |_,_=>none
 | .call { callee:=.builtin .clear,args,argTypes }=>match args.toList,argTypes.toList with
  | [x],[t]=>Gd P t (ρ x) h
  |_,_=>none
 |_=>none
theorem Is {c:Ctx}{ρv:Operand→Value}{ρ:Operand→AV}(hρ:∀x,Rep c (ρv x) (ρ x)) (ps:Array (Nat×Operand)) :
  EC c (ps.map fun(i,x)=>(i,ρv x)).toList (ps.toList.map fun p=>(p.1,ρ p.2)):=by
 refine⟨by simp,fun j h h'=>?_⟩;simp only[ZDi,Array.getElem_map,List.getElem_map];exact⟨trivial,hρ _⟩
theorem Hc {c:Ctx}{ρv:Operand→Value}{ρ:Operand→AV}(hρ:∀x,Rep c (ρv x) (ρ x)) (xs:Array Operand):TAH c (xs.map ρv) (xs.toList.map ρ):=by
 refine⟨by simp,fun j hj=>?_⟩;have hj':j<xs.size:=by simpa using hj
 have e1:(xs.map ρv).getD j undef=ρv xs[j]:=by simp[ZAV,hj']
 have e2:(xs.toList.map ρ).getD j .any=ρ xs[j]:=by simp[K',hj']
 rw[e1,e2];exact hρ _
theorem Nk {c:Ctx}{ρv:Operand→Value}{ρ:Operand→AV}(hρ:∀x,Rep c (ρv x) (ρ x)) (x:Option Operand):PD c (x.map ρv) (x.map ρ):=by
 cases x with
 |none=>trivial
 |some x=>exact hρ x
theorem Bw {α:Type}{a:Array α}{x y:α}(h:a.toList=[x,y]):a=#[x,y]:=by
 apply ZCQ;simpa using h
theorem Bv {α:Type}{a:Array α}{x:α}(h:a.toList=[x]):a=#[x]:=by
 apply ZCQ;simpa using h
theorem cH {P:Program}{c:Ctx}(hr:I' c){strict:Bool}{nid:Option Nat}(TAj:∀ id,nid=some id→c.H[id]?=some .D_){o:Oper}{ρv:Operand→Value}{ρ:Operand→AV}
  (hρ:∀x,Rep c (ρv x) (ρ x)) (hcv:∀v,ρv (.const v)=v) {v:AV} {h':List AO} (h:Jk P strict nid o.op ρ c.H=some (v,h')):TBY c ((execOp ρv o).run P c.w) v h':=by
 obtain⟨dst,op,type,pos,after,guard⟩:=o;replace h:Jk P strict nid op ρ c.H=some (v,h'):=h;unfold Jk at h;unfold execOp
 dsimp only
 have TAJ:∀ {o:Option AV} {s:Sem Value},(o.map fun v=>(v,c.H))=some (v,h')→(∀v,o=some v→∃r,s.run P c.w=.ok r c.w∧Rep c r v) →
   TBY c ((do pure (.value (←s)):Sem Next).run P c.w) v h':=by
  intro o s ho hs;cases o with
  |none=>simp at ho
  |some v' =>
   simp at ho;obtain⟨rfl,rfl⟩:=ho;obtain⟨r,h1,h2⟩:=hs _ rfl;exact TBY.same hr (by simp[h1]) h2
 have TAt:∀ {s:Sem Value},(∃r w' γ',s.run P c.w=.ok r w'∧Rep ⟨w',c.S,γ',h'⟩ r v∧I' ⟨w',c.S,γ',h'⟩∧Ext c ⟨w',c.S,γ',h'⟩) →
   TBY c ((do pure (.value (←s)):Sem Next).run P c.w) v h':=by
  rintro s ⟨r,w',γ',h1,h2,h3,h4⟩;exact⟨r,w',_,γ',.inl (by simp[h1]),h2,h3,h4⟩
 have TBp:∀ {o:Option (List AO)} {s:Sem Unit},(o.map fun h'=>(XZ,h'))=some (v,h')→(∀h1,o=some h1→∃w' γ',s.run P c.w=.ok () w'∧I' ⟨w',c.S,γ',h1⟩∧Ext c ⟨w',c.S,γ',h1⟩) →
   TBY c ((do s;pure .skip:Sem Next).run P c.w) v h':=by
  intro o s ho hs;cases o with
  |none=>simp at ho
  |some h1 =>
   simp at ho;obtain⟨rfl,rfl⟩:=ho;obtain⟨w',γ',g1,g2,g3⟩:=hs _ rfl;exact⟨undef,w',_,γ',.inr ⟨by simp[g1],rfl⟩,Pd _,g2,g3⟩
 split at h
 ·cases h;exact TBY.same hr rfl (hρ _)
 ·cases h;exact TBY.same hr rfl (hρ _)
 ·rename_i cc a b
  have hc:=hρ cc
  split at h
  ·rename_i e;rw[e]at hc;cases h
   generalize hq:ρv cc=q at hc;cases hc;exact TBY.same hr (x:=ρv a) (by simp[asBool,hq]) (hρ _)
  ·rename_i e;rw[e]at hc;cases h
   generalize hq:ρv cc=q at hc;cases hc;exact TBY.same hr (x:=ρv b) (by simp[asBool,hq]) (hρ _)
  ·cases h
 ·exact TAt (PE hr TAj h)
 ·exact TAt (V4 hr TAj (hρ _) h)
 ·exact TAJ h fun v hv=>PG (Is hρ _) hv
 ·rename_i t n ps
  by_cases hst:strict=true
  ·rw[N_ hst]at h
   exact TAt (NP hr (Is hρ ps) h)
  rw[M_ hst]at h;cases ho:Ki P t n (ps.toList.map fun p=>(p.1,ρ p.2))with
  |none=>simp[ho]at h
  |some v' =>
   simp[ho]at h;obtain⟨rfl,rfl⟩:=h;obtain⟨x,w',S',h1,h2,h3,h4⟩:=NQ hr (Is hρ ps) ho;exact⟨x,w',S',_,.inl (by simp[h1]),h2,h3,h4⟩
 ·exact TAJ h fun v hv=>IG hr (hρ _) hv
 ·exact TBp h fun h1 hh=>PT hr (hρ _) (hρ _) hh
 ·rename_i x
  obtain⟨h1,h2⟩:=Xg h;cases h2;have hx:=hρ x;obtain⟨b,hb⟩:=hx.TAl h1;refine TBY.same hr (x:=ρv x) ?_ hx;simp[hb]
 ·refine TAJ h fun v hv=>?_
  unfold M2 at hv
  split at hv
  ·rw[hcv];exact Vh (hρ _) hv _ _
  ·exact V3 (hρ _) (hρ _) hv _ _
 ·exact TAJ h fun v hv=>cN (hρ _) hv
 ·exact TAJ h fun v hv=>Se (hρ _) hv
 ·rename_i f first G_
  refine TAJ h fun v hv=>⟨.func (.func f) (first.map ρv) (G_.map ρv),by simp[Instr.makeFunc],lS (Hc hρ first) (Hc hρ G_) hv⟩
 ·exact TAt (PO hr TAj h)
 ·exact TAt (Sm hr TAj (hρ _) (hρ _) h)
 ·rename_i t x lo hi mx
  obtain⟨h1,h2⟩:=Xg h;refine TAJ h2 fun v hv=>PS (hρ _) (Nk hρ lo) (Nk hρ hi) (Nk hρ mx) (fun hm=>?_) hv
  rcases h1 with rfl |h1
  ·simp at hm
  ·simpa using h1
 ·exact TAJ h fun v hv=>NR (hρ _) hv
 ·exact TAJ h fun v hv=>PK (hρ _) hv
 ·exact TAJ h fun v hv=>PN (hρ _) (hρ _) hv
 ·exact TAJ h fun v hv=>V7 (hρ _) (hρ _) hv
 ·exact TAJ h fun v hv=>So (hρ _) hv
 ·exact TAJ h fun v hv=>NU hr (hρ _) (hρ _) hv
 ·exact TBp h fun h1 hh=>let ⟨w',g1,g2,g3⟩:=FY hr (hρ _) (hρ _) (hρ _) hh; ⟨w',c.γ,g1,g2,g3⟩
 ·exact TBp h fun h1 hh=>let ⟨w',g1,g2,g3⟩:=FY hr (hρ _) (hρ _) (hρ _) hh; ⟨w',c.γ,g1,g2,g3⟩
 ·rename_i x i
  have hx:=hρ x
  split at h
  ·rename_i l e
   obtain⟨h1,h2⟩:=Xg h;cases h2;rw[e]at hx;generalize hq:ρv x=q at hx;cases hx with
   |tup vs _ hl hrr =>
    have hlt:i<vs.size:=by omega
    refine TBY.same hr (x:=vs.getD i undef) ?_ (hrr i h1);simp[Instr.extract,hq,hlt,ZAV]
  ·cases h
 ·rename_i args argTypes
  split at h
  ·rename_i x t h1 h2
   rw[Bv h1,Bv h2];have:=TAJ (s:=ZCM #[t] type #[ρv x]) h fun v hv=>V9 type (hρ _) hv
   simpa [resolve,invoke,builtin]using this
  ·cases h
 ·rename_i args argTypes
  split at h
  ·rename_i x y h1
   rw[Bw h1];have:=TAJ (s:=ZDN argTypes type #[ρv x,ρv y]) h fun v hv=>Vg argTypes type (hρ _) (hρ _) hv
   simpa [resolve,invoke,builtin]using this
  ·cases h
 ·rename_i args argTypes
  split at h
  ·rename_i x y h1
   rw[Bw h1];have:=TAJ (s:=ZDO argTypes type #[ρv x,ρv y]) h fun v hv=>Vf argTypes type (hρ _) (hρ _) hv
   simpa [resolve,invoke,builtin]using this
  ·cases h
 ·rename_i args argTypes
  split at h
  ·rename_i x y t t' h1 h2
   rw[Bw h1,Bw h2]
   split at h
   ·rename_i ht
    subst ht;have:=TAt (NN hr type (hρ _) (hρ _) h)
    simpa [resolve,invoke,builtin]using this
   ·have:=TAt (Ss hr type (hρ _) (hρ _) h)
    simpa [resolve,invoke,builtin]using this
  ·cases h
 ·rename_i args argTypes
  split at h
  ·rename_i x t h1 h2
   rw[Bv h1,Bv h2];have:=TAJ (s:=ZCg #[t] type #[ρv x]) h fun v hv=>V5 type (hρ _) hv
   simpa [resolve,invoke,builtin]using this
  ·cases h
 ·rename_i args argTypes
  split at h
  ·rename_i x y t t' h1 h2
   rw[Bw h1,Bw h2];have:=TAt (Sf (t':=t') hr type (hρ _) (hρ _) h)
   simpa [resolve,invoke,builtin]using this
  ·cases h
 ·rename_i args argTypes
  split at h
  ·rename_i x t h1 h2
   rw[Bv h1,Bv h2];have:=TAt (PH hr type (hρ _) h)
   simpa [resolve,invoke,builtin]using this
  ·cases h
 ·cases h
end
end Go.Ab
