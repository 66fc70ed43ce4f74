/- Abstract values, abstract heaps, and what it means that a world holds them. -/
import Derived.Calls
import Derived.Orders
import Derived.Laws.World
import Derived.Laws.FloatArith
import Derived.KernelRfl
import Derived.Laws.Cells
import Derived.Laws.IdiomCopy
import Derived.Laws.Strings
import Derived.ChangeKeysEq
import Derived.Laws.BytesString
import Derived.Laws.StructEq
set_option linter.unusedVariables false
set_option linter.unusedSimpArgs false
section
namespace Go.Ab
abbrev ON := Option Nat
abbrev LN := List (Nat × Nat)
theorem om {p : Prop} (h : p := by omega) : p := h
theorem am {p : Prop} (h : p := by assumption) : p := h
def nrm (k:FloatKind) (b:Nat):ON:=if (k.decode b).isNaN then none else some b
inductive AV where
  | any
  | undef
  | bool (b:Bool)
  | int (k:IntKind) (n:Int)
  | flt (k:FloatKind) (x:ON)
  | nanbits
  | str (s:List UInt8)
  | ptr (l off:Nat)
  | nilptr
  | slice (l off len cap sz:Nat)
  | nilslice
  | map (l:Nat)
  | func (f:FuncId) (first captured:List AV)
  | nilfunc
  | iface (t:TypeId) (v:AV)
  | niliface
  | glob (g:Nat)
  | agg (cs:List AV)
  | tuple (cs:List AV)
  deriving Inhabited
structure LI where
  blk:Nat
  base:Nat
  lim:Nat
abbrev Mu:=Nat->Option LI
inductive R (μ:Mu):AV->Value->Prop where
  | any (v:Value):R μ .any v
  | undef:R μ .undef Go.undef
  | bool (b:Bool):R μ (.bool b) (.bool b)
  | int (k:IntKind) (n:Int):R μ (.int k n) (.int k n)
  | flt {k:FloatKind} {b:Nat} {x:ON} (h:nrm k b=x) (hb:b < 2^k.format.width):R μ (.flt k x) (.float k b)
  | nanbits {n:Nat} (h:nrm .f32 n=none) (hb:n < 2^32):R μ .nanbits (.int .u32 n)
  | str {s:ByteArray} {l:List UInt8} (h:s.data.toList=l):R μ (.str l) (.string s)
  | ptr {l off:Nat} {li:LI} {a:Addr} (h:μ l=some li) (ha:a=⟨li.blk,li.base+off,none⟩):R μ (.ptr l off) (.pointer (some a))
  | nilptr:R μ .nilptr (.pointer none)
  | slice {l off len cap sz:Nat} {li:LI} {a:Addr} (h:μ l=some li) (hb:a.block=li.blk) (hsp:a.spot=none)
      (ho:cap=0 \/ a.off=li.base+off) (hl:off+cap * sz<=li.lim) (hc:len<=cap):R μ (.slice l off len cap sz) (.slice (some a) len cap)
  | slice0 {l off sz:Nat} (p:Addr):R μ (.slice l off 0 0 sz) (.slice (some p) 0 0)
  | nilslice:R μ .nilslice (.slice none 0 0)
  | map {l:Nat} {li:LI} {b:Nat} (h:μ l=some li) (hb:b=li.blk):R μ (.map l) (.map (some b))
  | func {f:FuncId} {as bs:List AV} {vs us:Array Value} (h₁:as.length=vs.size) (g₁:∀ (i:Nat) (a:AV) (v:Value),as[i]? = some a->vs[i]? = some v->R μ a v)
      (h₂:bs.length=us.size) (g₂:∀ (i:Nat) (a:AV) (v:Value),bs[i]? = some a->us[i]? = some v->R μ a v):R μ (.func f as bs) (.func (.func f) vs us)
  | nilfunc:R μ .nilfunc .nilFunc
  | iface {t:TypeId} {a:AV} {v:Value} (h:R μ a v):R μ (.iface t a) (.iface t v)
  | niliface:R μ .niliface .nilIface
  | glob {g:Nat}:R μ (.glob g) (.pointer (some ⟨g,0,none⟩))
  | agg {as:List AV} {vs:Array Value} (h:as.length=vs.size) (g:∀ (i:Nat) (a:AV) (v:Value),as[i]? = some a->vs[i]? = some v->R μ a v):R μ (.agg as) (.agg vs)
  | tuple {as:List AV} {vs:Array Value} (h:as.length=vs.size) (g:∀ (i:Nat) (a:AV) (v:Value),as[i]? = some a->vs[i]? = some v->R μ a v):R μ (.tuple as) (.tuple vs)
def RL (μ:Mu) (as:List AV) (vs:List Value):Prop:=as.length=vs.length /\ ∀ (i:Nat) (a:AV) (v:Value),as[i]? = some a->vs[i]? = some v->R μ a v
theorem RL.nil {μ:Mu}:RL μ [] []:=⟨rfl,fun i a v h=>by simp at h⟩
theorem RL.cons {μ:Mu} {a:AV} {v:Value} {as:List AV} {vs:List Value} (h:R μ a v) (hs:RL μ as vs):RL μ (a :: as) (v :: vs):=
 ⟨by simp [hs.1],fun i x y hx hy=>by
  cases i with
  | zero=>simp at hx hy;subst hx;subst hy;exact h
  | succ i=>exact hs.2 i x y (by simpa using hx) (by simpa using hy)⟩
theorem RL.head {μ:Mu} {a:AV} {v:Value} {as:List AV} {vs:List Value} (h:RL μ (a :: as) (v :: vs)):R μ a v:=h.2 0 a v rfl rfl
theorem RL.tail {μ:Mu} {a:AV} {v:Value} {as:List AV} {vs:List Value} (h:RL μ (a :: as) (v :: vs)):RL μ as vs:=
 ⟨by simpa using h.1,fun i x y hx hy=>h.2 (i+1) x y (by simpa using hx) (by simpa using hy)⟩
theorem RL.nil_inv {μ:Mu} {vs:List Value} (h:RL μ [] vs):vs=[]:=by
 cases vs with
 | nil=>rfl
 | cons v vs=>simp [RL] at h
theorem RL.cons_inv {μ:Mu} {a:AV} {as:List AV} {vs:List Value} (h:RL μ (a :: as) vs):∃ v us,vs=v :: us/\R μ a v/\RL μ as us:=by
 cases vs with
 | nil=>simp [RL] at h
 | cons v us=>exact⟨v,us,rfl,h.head,h.tail⟩
theorem RL.append {μ:Mu} {as bs:List AV} {vs us:List Value} (h:RL μ as vs) (h' : RL μ bs us):RL μ (as ++ bs) (vs ++ us):=by
 induction as generalizing vs with
 | nil=>rw [h.nil_inv];exact h'
 | cons a as ih=>obtain⟨v,vs',rfl,h1,h2⟩:=h.cons_inv;exact RL.cons h1 (ih h2)
theorem RL.get {μ:Mu} {as:List AV} {vs:List Value} (h:RL μ as vs) {i:Nat} {a:AV} (ha:as[i]? = some a):∃ v,vs[i]? = some v/\R μ a v:=by
 have hi:i < as.length:=by
  rcases Nat.lt_or_ge i as.length with h' | h'
  ·exact h'
  ·rw [List.getElem?_eq_none h'] at ha;cases ha
 have hv:i < vs.length:=h.1 ▸ hi
 exact⟨vs[i],List.getElem?_eq_getElem hv,h.2 i a _ ha (List.getElem?_eq_getElem hv)⟩
theorem RL.drop {μ:Mu} {as:List AV} {vs:List Value} (h:RL μ as vs) (n:Nat):RL μ (as.drop n) (vs.drop n):=
 ⟨by simp [h.1],fun i a v ha hv=>h.2 (n+i) a v (by simpa using ha) (by simpa using hv)⟩
theorem RL.take {μ:Mu} {as:List AV} {vs:List Value} (h:RL μ as vs) (n:Nat):RL μ (as.take n) (vs.take n):=
 ⟨by simp [h.1],fun i a v ha hv=>by
  rw [List.getElem?_take] at ha hv
  split at ha
  ·rename_i hi;rw [if_pos hi] at hv;exact h.2 i a v ha hv
  ·cases ha⟩
theorem RL.set {μ:Mu} {as:List AV} {vs:List Value} (h:RL μ as vs) {a:AV} {v:Value} (n:Nat) (hr:R μ a v):RL μ (as.set n a) (vs.set n v):=
 ⟨by simp [h.1],fun i x y hx hy=>by
  rw [List.getElem?_set] at hx hy
  split at hx
  ·rename_i hi;rw [if_pos hi] at hy
   split at hx
   ·cases hx
    split at hy
    ·cases hy;exact hr
    ·cases hy
   ·cases hx
  ·rename_i hi;rw [if_neg hi] at hy;exact h.2 i x y hx hy⟩
theorem R.aggL {μ:Mu} {as:List AV} {vs:Array Value}:R μ (.agg as) (.agg vs) ↔ RL μ as vs.toList:=
  ⟨fun h=>by cases h with | agg h g=>exact⟨by simpa using h,fun i a v ha hv=>g i a v ha (by simpa using hv)⟩,
   fun h=>.agg (by simpa using h.1) (fun i a v ha hv=>h.2 i a v ha (by simpa using hv))⟩
theorem R.agg_inv {μ:Mu} {as:List AV} {v:Value} (h:R μ (.agg as) v):∃ vs,v=.agg vs/\RL μ as vs.toList:=by
 cases h with
 | agg h g=>exact⟨_,rfl,R.aggL.1 (.agg h g)⟩
theorem R.tuple_inv {μ:Mu} {as:List AV} {v:Value} (h:R μ (.tuple as) v):∃ vs,v=.tuple vs/\RL μ as vs.toList:=by
 cases h with
 | tuple h g=>exact⟨_,rfl,by simpa using h,fun i a v ha hv=>g i a v ha (by simpa using hv)⟩
theorem R.tupleL {μ:Mu} {as:List AV} {vs:Array Value} (h:RL μ as vs.toList):R μ (.tuple as) (.tuple vs):=
 .tuple (by simpa using h.1) (fun i a v ha hv=>h.2 i a v ha (by simpa using hv))
def Mu.le (μ μ' : Mu):Prop:=∀ l li,μ l=some li->μ' l=some li
theorem Mu.le_refl (μ:Mu):μ.le μ:=fun _ _ h=>h
theorem Mu.le_trans {μ μ' μ'' : Mu} (h:μ.le μ') (h' : μ'.le μ''):μ.le μ'':=fun l li x=>h' l li (h l li x)
theorem R.mono {μ μ' : Mu} (hle:μ.le μ') {a:AV} {v:Value} (h:R μ a v):R μ' a v:=by
 induction h with
 | any v=>exact .any v
 | undef=>exact .undef
 | bool b=>exact .bool b
 | int k n=>exact .int k n
 | flt h hb=>exact .flt h hb
 | nanbits h hb=>exact .nanbits h hb
 | str h=>exact .str h
 | ptr h ha=>exact .ptr (hle _ _ h) ha
 | nilptr=>exact .nilptr
 | slice h hb hsp ho hl hc=>exact .slice (hle _ _ h) hb hsp ho hl hc
 | slice0 p=>exact .slice0 p
 | nilslice=>exact .nilslice
 | map h hb=>exact .map (hle _ _ h) hb
 | func h₁ _ h₂ _ i₁ i₂=>exact .func h₁ i₁ h₂ i₂
 | nilfunc=>exact .nilfunc
 | iface _ ih=>exact .iface ih
 | niliface=>exact .niliface
 | glob=>exact .glob
 | agg h _ ih=>exact .agg h ih
 | tuple h _ ih=>exact .tuple h ih
theorem RL.mono {μ μ' : Mu} (hle:μ.le μ') {as:List AV} {vs:List Value} (h:RL μ as vs):RL μ' as vs:=⟨h.1,fun i a v ha hv=>(h.2 i a v ha hv).mono hle⟩
inductive AV.On (p:Nat->Prop):AV->Prop where
  | any:AV.On p .any
  | undef:AV.On p .undef
  | bool (b):AV.On p (.bool b)
  | int (k m):AV.On p (.int k m)
  | flt (k x):AV.On p (.flt k x)
  | nanbits:AV.On p .nanbits
  | str (s):AV.On p (.str s)
  | ptr {l off} (h:p l):AV.On p (.ptr l off)
  | nilptr:AV.On p .nilptr
  | slice {l off len cap sz} (h:cap=0 \/ p l):AV.On p (.slice l off len cap sz)
  | nilslice:AV.On p .nilslice
  | map {l} (h:p l):AV.On p (.map l)
  | func {f as bs} (h₁:∀ a ∈ as,AV.On p a) (h₂:∀ a ∈ bs,AV.On p a):AV.On p (.func f as bs)
  | nilfunc:AV.On p .nilfunc
  | iface {t a} (h:AV.On p a):AV.On p (.iface t a)
  | niliface:AV.On p .niliface
  | glob {g}:AV.On p (.glob g)
  | agg {as} (h:∀ a ∈ as,AV.On p a):AV.On p (.agg as)
  | tuple {as} (h:∀ a ∈ as,AV.On p a):AV.On p (.tuple as)
theorem qCZ {as:List AV} {vs:Array Value} (h:as.length=vs.size) {a:AV} (ha:a ∈ as):∃ (i:Nat) (v:Value),as[i]? = some a/\vs[i]? = some v:=by
 obtain⟨i,hi,he⟩:=List.getElem_of_mem ha
 exact⟨i,vs[i]'(h ▸ hi),by rw [List.getElem?_eq_getElem hi,he],by rw [Array.getElem?_eq_getElem (h ▸ hi)]⟩
theorem R.on {μ:Mu} {a:AV} {v:Value} (h:R μ a v):AV.On (fun l=>∃ li,μ l=some li) a:=by
 induction h with
 | any v=>exact .any
 | undef=>exact .undef
 | bool b=>exact .bool b
 | int k n=>exact .int k n
 | flt h hb=>exact .flt _ _
 | nanbits h hb=>exact .nanbits
 | str h=>exact .str _
 | ptr h ha=>exact .ptr ⟨_,h⟩
 | nilptr=>exact .nilptr
 | slice h hb hsp ho hl hc=>exact .slice (.inr ⟨_,h⟩)
 | slice0 p=>exact .slice (.inl rfl)
 | nilslice=>exact .nilslice
 | map h hb=>exact .map ⟨_,h⟩
 | func h₁ _ h₂ _ i₁ i₂ =>
  exact .func (fun a ha=>by obtain⟨i,v,x,y⟩:=qCZ h₁ ha;exact i₁ i a v x y) (fun a ha=>by obtain⟨i,v,x,y⟩:=qCZ h₂ ha;exact i₂ i a v x y)
 | nilfunc=>exact .nilfunc
 | iface _ ih=>exact .iface ih
 | niliface=>exact .niliface
 | glob=>exact .glob
 | agg h _ ih=>exact .agg (fun a ha=>by obtain⟨i,v,x,y⟩:=qCZ h ha;exact ih i a v x y)
 | tuple h _ ih=>exact .tuple (fun a ha=>by obtain⟨i,v,x,y⟩:=qCZ h ha;exact ih i a v x y)
theorem R.agree {μ μ' : Mu} {p:Nat->Prop} (ha:∀ l li,p l->μ l=some li->μ' l=some li) {a:AV} {v:Value} (h:R μ a v) (hlt:AV.On p a):R μ' a v:=by
 induction h with
 | any v=>exact .any v
 | undef=>exact .undef
 | bool b=>exact .bool b
 | int k n=>exact .int k n
 | flt h hb=>exact .flt h hb
 | nanbits h hb=>exact .nanbits h hb
 | str h=>exact .str h
 | ptr h e=>cases hlt with | ptr hl=>exact .ptr (ha _ _ hl h) e
 | nilptr=>exact .nilptr
 | @slice l off len cap sz li a h hb hsp ho hl hc =>
  cases hlt with
  | slice hl' =>
   rcases hl' with rfl | hl'
   ·obtain rfl:len=0:=by omega
    exact .slice0 _
   ·exact .slice (ha _ _ hl' h) hb hsp ho hl hc
 | slice0 p=>exact .slice0 p
 | nilslice=>exact .nilslice
 | map h hb=>cases hlt with | map hl=>exact .map (ha _ _ hl h) hb
 | func h₁ _ h₂ _ i₁ i₂ =>
  cases hlt with
  | func l₁ l₂=>exact .func h₁ (fun i a v x y=>i₁ i a v x y (l₁ a (List.mem_of_getElem? x))) h₂ (fun i a v x y=>i₂ i a v x y (l₂ a (List.mem_of_getElem? x)))
 | nilfunc=>exact .nilfunc
 | iface _ ih=>cases hlt with | iface hl=>exact .iface (ih hl)
 | niliface=>exact .niliface
 | glob=>exact .glob
 | agg h _ ih=>cases hlt with | agg hl=>exact .agg h (fun i a v x y=>ih i a v x y (hl a (List.mem_of_getElem? x)))
 | tuple h _ ih=>cases hlt with | tuple hl=>exact .tuple h (fun i a v x y=>ih i a v x y (hl a (List.mem_of_getElem? x)))
theorem AV.On.mono {p q:Nat->Prop} (hpq:∀ l,p l->q l) {a:AV} (h:AV.On p a):AV.On q a:=by
 induction h with
 | any=>exact .any
 | undef=>exact .undef
 | bool b=>exact .bool b
 | int k n=>exact .int k n
 | flt k x=>exact .flt _ _
 | nanbits=>exact .nanbits
 | str h=>exact .str _
 | ptr h=>exact .ptr (hpq _ h)
 | nilptr=>exact .nilptr
 | slice h=>exact .slice (h.imp id (hpq _))
 | nilslice=>exact .nilslice
 | map h=>exact .map (hpq _ h)
 | func _ _ i₁ i₂=>exact .func i₁ i₂
 | nilfunc=>exact .nilfunc
 | iface _ ih=>exact .iface ih
 | niliface=>exact .niliface
 | glob=>exact .glob
 | agg _ ih=>exact .agg ih
 | tuple _ ih=>exact .tuple ih
inductive HB where
  | row (cs:List AV) (wr:Bool)
  | mp (es:List (AV × AV))
  deriving Inhabited
def HB.wr:HB->Bool
 | .row _ b=>b
 | .mp _=>true
def HB.On (p:Nat->Prop):HB->Prop
 | .row cs _=>∀ a ∈ cs,AV.On p a
 | .mp es=>∀ e ∈ es,AV.On p e.1/\AV.On p e.2
structure AHeap where
  next:Nat
  get:Nat->Option HB
  wf:∀ l,next<=l->get l=none
namespace AHeap
def new (H:AHeap) (b:HB):AHeap where
 next:=H.next+1
 get:=fun l=>if l=H.next then some b else H.get l
 wf:=fun l h=>by rw [if_neg om];exact H.wf l om
def put (H:AHeap) (l:Nat) (b:HB):AHeap where
 next:=H.next
 get:=fun l'=>if l'=l/\l < H.next then some b else H.get l'
 wf:=fun l' h=>by rw [if_neg om];exact H.wf l' h
def del (H:AHeap) (l:Nat):AHeap where
 next:=H.next
 get:=fun l'=>if l'=l then none else H.get l'
 wf:=fun l' h=>by by_cases e:l'=l <;> simp [e];exact H.wf l' h
theorem new_next (H:AHeap) (b:HB):(H.new b).next=H.next+1:=rfl
theorem put_next (H:AHeap) (l:Nat) (b:HB):(H.put l b).next=H.next:=rfl
theorem del_next (H:AHeap) (l:Nat):(H.del l).next=H.next:=rfl
theorem new_get (H:AHeap) (b:HB) (l:Nat):(H.new b).get l=if l=H.next then some b else H.get l:=rfl
theorem put_get (H:AHeap) (l:Nat) (b:HB) (l' : Nat):(H.put l b).get l'=if l'=l/\l < H.next then some b else H.get l':=rfl
theorem del_get (H:AHeap) (l l' : Nat):(H.del l).get l'=if l'=l then none else H.get l':=rfl
theorem lt_of_get (H:AHeap) {l:Nat} {b:HB} (h:H.get l=some b):l < H.next:=by
  rcases Nat.lt_or_ge l H.next with h' | h'
  · exact h'
  · rw [H.wf l h'] at h;cases h
end AHeap
def Mu.ext (n:Nat) (μ μ' : Mu):Prop:=∀ l,l < n->μ' l=μ l
theorem Mu.ext_refl (n:Nat) (μ:Mu):μ.ext n μ:=fun _ _=>rfl
theorem Mu.ext_trans {n m:Nat} {μ μ' μ'' : Mu} (h:Mu.ext n μ μ') (h' : Mu.ext m μ' μ'') (hnm:n<=m):Mu.ext n μ μ'':=
 fun l hl=>(h' l om).trans (h l hl)
structure Sim (F:Nat->Prop) (μ:Mu) (H:AHeap) (w:World):Prop where
  dom:∀ l li,μ l=some li->l < H.next/\li.blk < w.heap.size
  row:∀ l li cs wr,H.get l=some (.row cs wr)->μ l=some li -> ∃ c e lo hi,w.heap[li.blk]? = some (.cells c e (lo,hi))/\li.base+li.lim<=c.size /\
    cs.length<=li.lim/\(∀ (i:Nat) (a:AV),cs[i]? = some a -> ∃ v,c[li.base+i]? = some v/\R μ a v)/\(wr=true -> ∀ o,li.base<=o -> ¬ (lo<=o/\o < hi))
  mp:∀ l li es,H.get l=some (.mp es)->μ l=some li -> ∃ ms ck,w.heap[li.blk]? = some (.map ms ck)/\ms.size=es.length /\
    ∀ (i:Nat) (e:AV × AV) (m:MapEntry),es[i]? = some e->ms[i]? = some m->R μ e.1 m.key/\R μ e.2 m.val
  sep:∀ l l' b b' li li',l ≠ l'->H.get l=some b->b.wr=true->H.get l'=some b'->μ l=some li->μ l'=some li'->li.blk ≠ li'.blk
  may:∀ l b li,H.get l=some b->b.wr=true->μ l=some li->F li.blk
  fresh:∀ b,w.heap.size<=b->F b
structure Keeps (F:Nat->Prop) (w w' : World):Prop where
  os:w'.os=w.os
  tape:w'.tape=w.tape
  output:w'.output=w.output
  size:w.heap.size<=w'.heap.size
  block:∀ b,b < w.heap.size -> ¬ F b->w'.heap[b]? = w.heap[b]?
theorem Keeps.refl (F:Nat->Prop) (w:World):Keeps F w w:=⟨rfl,rfl,rfl,Nat.le_refl _,fun _ _ _=>rfl⟩
theorem Keeps.trans {F:Nat->Prop} {a b c:World} (h:Keeps F a b) (k:Keeps F b c):Keeps F a c:=
 ⟨k.os.trans h.os,k.tape.trans h.tape,k.output.trans h.output,Nat.le_trans h.size k.size,fun i hi hf=>(k.block i (Nat.lt_of_lt_of_le hi h.size) hf).trans (h.block i hi hf)⟩
theorem Keeps.drew {F:Nat->Prop} (w:World) (n:Nat):Keeps F w { w with drawn:=n }:=⟨rfl,rfl,rfl,Nat.le_refl _,fun _ _ _=>rfl⟩
theorem Keeps.mono {F F' : Nat->Prop} {w w' : World} (h:Keeps F w w') (hF:∀ b,F b->F' b):Keeps F' w w':=
 ⟨h.os,h.tape,h.output,h.size,fun b hb hn=>h.block b hb fun hf=>hn (hF b hf)⟩
section
variable {F:Nat->Prop} {μ:Mu} {H:AHeap} {w:World}
theorem Sim.drew (h:Sim F μ H w) (n:Nat):Sim F μ H { w with drawn:=n }:=⟨h.dom,h.row,h.mp,h.sep,h.may,h.fresh⟩
theorem Sim.lt (h:Sim F μ H w) {a:AV} {v:Value} (hr:R μ a v):AV.On (· < H.next) a:=
 hr.on.mono fun l ⟨li,hl⟩=>(h.dom l li hl).1
theorem Sim.lift (h:Sim F μ H w) {μ' : Mu} (he:Mu.ext H.next μ μ') {a:AV} {v:Value} (hr:R μ a v):R μ' a v:=
 hr.mono fun l li hl=>by rw [he l (h.dom l li hl).1];exact hl
theorem Sim.liftL (h:Sim F μ H w) {μ' : Mu} (he:Mu.ext H.next μ μ') {as:List AV} {vs:List Value} (hr:RL μ as vs):RL μ' as vs:=
 ⟨hr.1,fun i a v ha hv=>h.lift he (hr.2 i a v ha hv)⟩
end
end Go.Ab
end
/- What the model's float operations come to when a NaN's bits are forgotten. -/
section
namespace Go.Ab
open Ieee
theorem gH (f:Format) (neg:Bool) {rung:Nat} (h:rung<=f.infRung):(f.read (f.word neg rung)).isNaN=false:=by
 have hlt:=f.infRung_lt
 have hpos:0 < f.signWeight:=Nat.two_pow_pos _
 have hm:f.word neg rung % f.signWeight=rung:=by
  unfold Format.word
  split
  ·rw [Nat.add_mod_left,Nat.mod_eq_of_lt om]
  ·exact Nat.mod_eq_of_lt om
 unfold Format.read
 simp only [hm]
 split
 ·rfl
 ·split
  ·rfl
  ·rw [if_pos om];rfl
theorem qCd (f:Format) {d:Datum} (h:d.isNaN=false):(f.read (f.write d)).isNaN=false:=by
 cases d with
 | number neg mag place =>
  unfold Format.write Format.nearest
  dsimp only
  split
  ·exact gH f neg (Nat.zero_le _)
  ·exact gH f neg (Nat.min_le_right ..)
 | infinity neg=>exact gH f neg (Nat.le_refl _)
 | nan neg fr=>cases h
theorem qIi {a b d:Datum} (h:a.sum b=some d):d.isNaN=false:=by
  unfold Datum.sum at h
  split at h
  · cases h
  · cases h
  · split at h
    · cases h;rfl
    · cases h
  · cases h;rfl
  · cases h;rfl
  · cases h;rfl
theorem qET {a b d:Datum} (h:a.product b=some d):d.isNaN=false:=by
  unfold Datum.product at h
  split at h
  · cases h
  · cases h
  · cases h;rfl
  · split at h
    · cases h
    · cases h;rfl
  · split at h
    · cases h
    · cases h;rfl
  · cases h;rfl
theorem qEl {n:Nat} {a b d:Datum} (h:a.quotient n b=some d):d.isNaN=false:=by
  unfold Datum.quotient at h
  split at h
  · cases h
  · cases h
  · cases h
  · cases h;rfl
  · cases h;rfl
  · split at h
    · split at h
      · cases h
      · cases h;rfl
    · cases h;rfl
theorem yY (k:FloatKind) {d:Datum} (h:d.isNaN=false):nrm k (k.encode d)=some (k.encode d):=by
 unfold nrm FloatKind.encode FloatKind.decode
 rw [qCd _ h];rfl
theorem wQ (k:FloatKind) {o:Option Datum} (h:∀ d,o=some d->d.isNaN=false) {r:Nat} (hr:o.map k.format.write=some r):nrm k r=some r:=by
 cases o with
 | none=>cases hr
 | some d=>cases hr;exact yY k (h d rfl)
theorem kQ {op:BinOp} {k:FloatKind} {x y r:Nat} (h:floatBits op k x y=some r):nrm k r=some r:=by
  unfold floatBits at h
  split at h
  · exact wQ k (fun d hd=>qIi hd) h
  · exact wQ k (fun d hd=>qIi hd) h
  · exact wQ k (fun d hd=>qET hd) h
  · exact wQ k (fun d hd=>qEl hd) h
  · cases h
theorem vA {k:FloatKind} {b x:Nat} (h:nrm k b=some x):x=b/\(k.decode b).isNaN=false:=by
  unfold nrm at h
  split at h
  · cases h
  · rename_i hn;cases h;exact⟨rfl,by simpa using hn⟩
theorem kR {k:FloatKind} {b:Nat} (h:nrm k b=none):(k.decode b).isNaN=true:=by
  unfold nrm at h
  split at h
  · assumption
  · cases h
theorem vF {d:Datum} (h:d.isNaN=true):∃ s t,d=.nan s t:=by
 cases d with
 | nan s t=>exact⟨s,t,rfl⟩
 | number=>cases h
 | infinity=>cases h
def fop (op:BinOp) (k:FloatKind) (x y:ON):ON:=
 match x,y with
 | some a,some b=>floatBits op k a b
 | _,_=>none
def dT (k:FloatKind) (x y:ON):Option Ordering:=
 match x,y with
 | some a,some b=>k.format.order a b
 | _,_=>none
theorem qAy {a b:Datum} (h:a.isNaN=true):a.sum b=none:=by obtain⟨s,t,rfl⟩:=vF h;rfl
theorem cB {a b:Datum} (h:b.isNaN=true):a.sum b=none:=by obtain⟨s,t,rfl⟩:=vF h;cases a <;> rfl
theorem qAI {a b:Datum} (h:a.isNaN=true):a.product b=none:=by obtain⟨s,t,rfl⟩:=vF h;rfl
theorem qAb {a b:Datum} (h:b.isNaN=true):a.product b=none:=by obtain⟨s,t,rfl⟩:=vF h;cases a <;> rfl
theorem qAc {n:Nat} {a b:Datum} (h:a.isNaN=true):a.quotient n b=none:=by obtain⟨s,t,rfl⟩:=vF h;rfl
theorem kX {n:Nat} {a b:Datum} (h:b.isNaN=true):a.quotient n b=none:=by obtain⟨s,t,rfl⟩:=vF h;cases a <;> rfl
theorem qCc {a b:Datum} (h:a.isNaN=true):a.order b=none:=by obtain⟨s,t,rfl⟩:=vF h;rfl
theorem qBB {a b:Datum} (h:b.isNaN=true):a.order b=none:=by obtain⟨s,t,rfl⟩:=vF h;cases a <;> rfl
theorem qEi {a:Datum}:a.opposite.isNaN=a.isNaN:=by cases a <;> rfl
theorem kD {op:BinOp} {k:FloatKind} {x y:Nat} (h:nrm k x=none \/ nrm k y=none):floatBits op k x y=none:=by
  have h' : (k.format.read x).isNaN=true \/ (k.format.read y).isNaN=true:=h.imp kR kR
  unfold floatBits Format.add Format.sub Format.mul Format.div
  split
  · rcases h' with h' | h'
    · rw [qAy h'];rfl
    · rw [cB h'];rfl
  · rcases h' with h' | h'
    · rw [qAy h'];rfl
    · rw [cB (by rw [qEi];exact h')];rfl
  · rcases h' with h' | h'
    · rw [qAI h'];rfl
    · rw [qAb h'];rfl
  · rcases h' with h' | h'
    · rw [qAc h'];rfl
    · rw [kX h'];rfl
  · rfl
theorem qKa (op:BinOp) (k:FloatKind) (x y:Nat):fop op k (nrm k x) (nrm k y)=floatBits op k x y:=by
 cases hx:nrm k x with
 | none=>rw [kD (.inl hx)];rfl
 | some a =>
  cases hy:nrm k y with
  | none=>rw [kD (.inr hy)];rfl
  | some b=>rw [(vA hx).1,(vA hy).1];rfl
theorem pM (k:FloatKind) (x y:Nat):dT k (nrm k x) (nrm k y)=k.format.order x y:=by
 unfold Format.order
 cases hx:nrm k x with
 | none=>rw [qCc (a:=k.format.read x) (kR hx)];rfl
 | some a =>
  cases hy:nrm k y with
  | none=>rw [qBB (b:=k.format.read y) (kR hy)];rfl
  | some b=>rw [(vA hx).1,(vA hy).1];rfl
theorem qKm (t:Nat):nrm .f32 ((t % 2) * 2^31+0x7f800000+1+(t / 2) % (2^23 - 1))=none/\(t % 2) * 2^31+0x7f800000+1+(t / 2) % (2^23 - 1) < 2^FloatKind.f32.format.width:=by
 generalize hb:(t % 2) * 2^31+0x7f800000+1+(t / 2) % (2^23 - 1)=b
 have hs:Format.signWeight single=2147483648:=rfl
 have hi:Format.infRung single=2139095040:=rfl
 have hw:FloatKind.f32.format.width=32:=rfl
 have hm:b % 2147483648=0x7f800000+1+(t / 2) % (2^23 - 1):=by omega
 refine⟨?_,by rw [hw];omega⟩
 have hbin:Format.binade single=8388608:=rfl
 have h:(FloatKind.f32.decode b).isNaN=true:=by
  unfold FloatKind.decode FloatKind.format Format.read
  simp only [hs,hi,hm,hbin]
  rw [if_neg om,if_neg om,if_neg om]
  rfl
 unfold nrm;rw [h];rfl
theorem qKn (t:Nat):nrm .f64 ((t % 2) * 2^63+0x7ff0000000000000+1+(t / 2) % (2^52 - 1))=none/\(t % 2) * 2^63+0x7ff0000000000000+1+(t / 2) % (2^52 - 1) < 2^FloatKind.f64.format.width:=by
 generalize hb:(t % 2) * 2^63+0x7ff0000000000000+1+(t / 2) % (2^52 - 1)=b
 have hs:Format.signWeight double=9223372036854775808:=rfl
 have hi:Format.infRung double=9218868437227405312:=rfl
 have hw:FloatKind.f64.format.width=64:=rfl
 have hm:b % 9223372036854775808=0x7ff0000000000000+1+(t / 2) % (2^52 - 1):=by omega
 refine⟨?_,by rw [hw];omega⟩
 have hbin:Format.binade double=4503599627370496:=rfl
 have h:(FloatKind.f64.decode b).isNaN=true:=by
  unfold FloatKind.decode FloatKind.format Format.read
  simp only [hs,hi,hm,hbin]
  rw [if_neg om,if_neg om,if_neg om]
  rfl
 unfold nrm;rw [h];rfl
theorem qHF (k:FloatKind) (x y t:Nat):nrm k ((Question.nanBits k x y).cut t)=none/\(Question.nanBits k x y).cut t < 2^k.format.width:=by
  cases k
  · exact qKm t
  · exact qKn t
theorem qBw (k:FloatKind) (x t:Nat):nrm k ((Question.nanConv k x).cut t)=none/\(Question.nanConv k x).cut t < 2^k.format.width:=by
  cases k
  · exact qKm t
  · exact qKn t
theorem wP (k:FloatKind) (m:Bool) (x y t:Nat):nrm k ((Question.nanMinMax k m x y).cut t)=none/\(Question.nanMinMax k m x y).cut t < 2^k.format.width:=by
  cases k
  · exact qKm t
  · exact qKn t
def qKL (w w' : World):Prop:=w'=w \/ ∃ n,w' = { w with drawn:=n }
section
variable {P:Program} {w:World}
theorem run_choose (q:Question) (hq:q.forced=false):(choose q).run P w=.ok (q.cut (w.tape w.drawn q)) { w with drawn:=w.drawn+1 }:=by
 simp [choose,Sem.run,hq]
theorem qID {α β:Type} (s:Sem α) (f:α->Sem β) (w:World):(s >>= f).run P w=match s.run P w with
  | .ok a w'=>(f a).run P w'
  | .halt h w'=>.halt h w':=by
 show (s.bind f).run P w=_
 induction s generalizing w with
 | pure a=>rfl
 | load m a k ih =>
  simp only [Sem.bind,Sem.run]
  split
  ·exact ih _ _
  ·split
   ·exact ih _ _
   ·rfl
 | store m a v k ih =>
  simp only [Sem.bind]
  cases v <;> first | rfl | (simp only [Sem.run];split <;> (split <;> first | rfl | exact ih _))
 | new o k ih=>exact ih _ _
 | shape r k ih=>exact ih _ _
 | freeze a n k ih=>exact ih _
 | frozen a k ih=>exact ih _ _
 | getObj r k ih =>
  simp only [Sem.bind,Sem.run]
  split
  ·rfl
  ·exact ih _ _
  ·rfl
 | setObj r o k ih =>
  simp only [Sem.bind,Sem.run]
  split
  ·rfl
  ·exact ih _
  ·rfl
 | choose q k ih =>
  simp only [Sem.bind,Sem.run]
  split
  ·exact ih _ _
  ·exact ih _ _
 | sys c k ih=>exact ih _ _
 | program k ih=>exact ih _ _
 | mark m k ih=>exact ih _
 | halt h=>rfl
theorem bind_ok {α β:Type} {s:Sem α} {f:α->Sem β} {w w' : World} {a:α} (h:s.run P w=.ok a w'):(s >>= f).run P w=(f a).run P w':=by
 rw [qID,h]
theorem run_floatArith (op:BinOp) (k:FloatKind) (x y:Nat) (hop:op=.add \/ op=.sub \/ op=.mul \/ op=.quo) :
  ∃ r w',(Op.floatArith op k x y).run P w=.ok (.float k r) w'/\qKL w w'/\nrm k r=fop op k (nrm k x) (nrm k y)/\r < 2^k.format.width:=by
 rw [qKa]
 cases hf:floatBits op k x y with
 | some r =>
  refine⟨r,w,?_,.inl rfl,kQ hf,?_⟩
  ·unfold floatBits at hf
   rcases hop with rfl | rfl | rfl | rfl <;> simp only at hf <;> simp [Op.floatArith,hf]
  ·have:=floatBits_wf hf
   cases k
   ·exact(show r < 4294967296 by simpa [Lit.wf] using this)
   ·exact(show r < 18446744073709551616 by simpa [Lit.wf] using this)
 | none =>
  refine⟨_,_,?_,.inr ⟨w.drawn+1,rfl⟩,(qHF k x y (w.tape w.drawn (.nanBits k x y))).1,(qHF k x y (w.tape w.drawn (.nanBits k x y))).2⟩
  unfold floatBits at hf
  have hc:=run_choose (P:=P) (w:=w) (.nanBits k x y) rfl
  rcases hop with rfl | rfl | rfl | rfl <;> simp only at hf <;> simp [Op.floatArith,hf,hc]
end
end Go.Ab
end
/- Operations with their types resolved; what they come to on abstract values. -/
section
namespace Go.Ab
inductive Opd where
  | tmp (t:Nat)
  | const (a:AV)
  deriving Inhabited
abbrev Env:=Nat->AV
def Opd.ev (E:Env):Opd->AV
 | .tmp t=>E t
 | .const a=>a
inductive Cv where
  | ii (k:IntKind)
  | toF (k:FloatKind)
  | fi (k:IntKind)
  | ff (k:FloatKind)
  | bs
  deriving DecidableEq
inductive AOp where
  -- quiet
  | move (x:Opd)
  | pick (c a b:Opd)
  | load (ag:Bool) (n:Nat) (a:Opd)
  | nilCheck (x:Opd)
  | bin (op:BinOp) (x y:Opd)
  | eqAgg (neg:Bool) (kind n:Nat) (x y:Opd)
  | eqBool (neg:Bool) (x y:Opd)
  | eqNilI (neg:Bool) (x y:Opd)
  | eqNilS (neg:Bool) (x y:Opd)
  | un (op:UnOp) (x:Opd)
  | conv (c:Cv) (x:Opd)
  | fn (f:FuncId) (first captured:List Opd)
  | build (zs:List AV) (parts:List (Nat × Nat × Opd))
  | slArr (n sz:Nat) (x:Opd) (lo hi mx:Option Opd)
  | slSl (sz:Nat) (x:Opd) (lo hi mx:Option Opd)
  | slStr (x:Opd) (lo hi:Option Opd)
  | faddr (off:Nat) (x:Opd)
  | field (ag:Bool) (off n:Nat) (x:Opd)
  | iaArr (len sz:Nat) (x i:Opd)
  | iaSl (sz:Nat) (x i:Opd)
  | ixArr (len:Nat) (ag:Bool) (sz:Nat) (x i:Opd)
  | ixStr (x i:Opd)
  | extract (i:Nat) (x:Opd)
  | len (x:Opd)
  | lenStr (x:Opd)
  | lenC (n:Nat)
  | cap (x:Opd)
  | min2 (x y:Opd)
  | max2 (x y:Opd)
  | max4 (x y z w:Opd)
  | lookup (zero:AV) (ok:Bool) (x k:Opd)
  | iface (t:TypeId) (x:Opd)
  -- effects
  | alloc (zs:List AV)
  | box (x:Opd)
  | bslice (sz len:Nat) (zs:List AV) (parts:List (Nat × Nat × Opd))
  | store (n:Nat) (a x:Opd)
  | mkSlice (sz bytes:Nat) (zs:List AV) (len cap:Opd)
  | append (sz bytes:Nat) (x y:Opd)
  | appendZ (sz bytes:Nat) (zs:List AV) (x y:Opd)
  | copy (sz:Nat) (x y:Opd)
  | clear (sz:Nat) (zs:List AV) (x:Opd)
  | makeMap
  | mapUpdate (x k v:Opd)
  | call (f:FuncId) (args:List Opd)
  | callV (f:Opd) (args:List Opd)
  | callI (t:Nat) (want:Bool) (f:FuncId) (args:List Opd)
  deriving Inhabited
/-! ### Pure parts -/
def AV.cells:AV->Option (List AV)
 | .agg cs=>some cs
 | .any=>none
 | .undef=>none
 | .tuple _=>none
 | a=>some [a]
def laid (cs:List AV) (off:Nat) (vs:List AV):List AV:=cs.take off ++ vs ++ cs.drop (off+vs.length)
def uY (E:Env) (cs:List AV):List (Nat × Nat × Opd)->Option (List AV)
 | []=>some cs
 | (off,size,x) :: rest =>
  match (x.ev E).cells with
  | some vs=>if vs.length=size/\off+size<=cs.length then uY E (laid cs off vs) rest else none
  | none=>none
def vJ (op:BinOp) (x y:AV):Option AV:=
 match op,x,y with
 | .add,.int k a,.int k' b=>if k=k' then some (.int k (k.wrap (a+b))) else none
 | .sub,.int k a,.int k' b=>if k=k' then some (.int k (k.wrap (a - b))) else none
 | .mul,.int k a,.int k' b=>if k=k' then some (.int k (k.wrap (a * b))) else none
 | .quo,.int k a,.int k' b=>if k=k'/\b ≠ 0 then some (.int k (k.wrap (a.tdiv b))) else none
 | .rem,.int k a,.int k' b=>if k=k'/\b ≠ 0 then some (.int k (a.tmod b)) else none
 | .and,.int k a,.int k' b=>if k=k' then some (.int k (k.wrap (BitVec.ofInt k.bits a &&& BitVec.ofInt k.bits b).toNat)) else none
 | .or,.int k a,.int k' b=>if k=k' then some (.int k (k.wrap (BitVec.ofInt k.bits a ||| BitVec.ofInt k.bits b).toNat)) else none
 | .xor,.int k a,.int k' b=>if k=k' then some (.int k (k.wrap (BitVec.ofInt k.bits a ^^^ BitVec.ofInt k.bits b).toNat)) else none
 | .andNot,.int k a,.int k' b=>if k=k' then some (.int k (k.wrap (BitVec.ofInt k.bits a &&& ~~~ BitVec.ofInt k.bits b).toNat)) else none
 | .shl,.int k a,.int _ b=>if 0<=b then some (.int k (k.wrap (a * 2^(min b.toNat k.bits)))) else none
 | .shr,.int k a,.int _ b=>if 0<=b then some (.int k (a.fdiv (2^(min b.toNat k.bits)))) else none
 | .eql,.int k a,.int k' b=>if k=k' then some (.bool (decide (a=b))) else none
 | .neq,.int k a,.int k' b=>if k=k' then some (.bool (decide (a ≠ b))) else none
 | .lss,.int k a,.int k' b=>if k=k' then some (.bool (decide (a < b))) else none
 | .leq,.int k a,.int k' b=>if k=k' then some (.bool (decide (a<=b))) else none
 | .gtr,.int k a,.int k' b=>if k=k' then some (.bool (decide (b < a))) else none
 | .geq,.int k a,.int k' b=>if k=k' then some (.bool (decide (b<=a))) else none
 | .eql,.nanbits,.int .u32 b=>if nrm .f32 b.toNat ≠ none/\0<=b/\b < 2^32 then some (.bool false) else none
 | .eql,.int .u32 a,.nanbits=>if nrm .f32 a.toNat ≠ none/\0<=a/\a < 2^32 then some (.bool false) else none
 | .eql,.nanbits,.nanbits=>some .any
 | .add,.flt k a,.flt k' b=>if k=k' then some (.flt k (fop .add k a b)) else none
 | .sub,.flt k a,.flt k' b=>if k=k' then some (.flt k (fop .sub k a b)) else none
 | .mul,.flt k a,.flt k' b=>if k=k' then some (.flt k (fop .mul k a b)) else none
 | .quo,.flt k a,.flt k' b=>if k=k' then some (.flt k (fop .quo k a b)) else none
 | .eql,.flt k a,.flt k' b=>if k=k' then some (.bool (dT k a b == some .eq)) else none
 | .neq,.flt k a,.flt k' b=>if k=k' then some (.bool (dT k a b != some .eq)) else none
 | .lss,.flt k a,.flt k' b=>if k=k' then some (.bool (dT k a b == some .lt)) else none
 | .leq,.flt k a,.flt k' b=>if k=k' then some (.bool (dT k a b == some .lt || dT k a b == some .eq)) else none
 | .gtr,.flt k a,.flt k' b=>if k=k' then some (.bool (dT k a b == some .gt)) else none
 | .geq,.flt k a,.flt k' b=>if k=k' then some (.bool (dT k a b == some .gt || dT k a b == some .eq)) else none
 | .add,.str a,.str b=>if a.length+b.length<=9223372036854775807 then some (.str (a ++ b)) else none
 | .eql,.str a,.str b=>some (.bool (decide (a=b)))
 | .neq,.str a,.str b=>some (.bool (decide (a ≠ b)))
 | .lss,.str a,.str b=>some (.bool (Op.bytesLess a b))
 | .leq,.str a,.str b=>some (.bool (Op.bytesLess a b || decide (a=b)))
 | .gtr,.str a,.str b=>some (.bool (!(Op.bytesLess a b || decide (a=b))))
 | .geq,.str a,.str b=>some (.bool (!Op.bytesLess a b))
 | _,_,_=>none
def qLm (k:FloatKind) (x:ON):ON:=x.map (Op.negFloat k)
def unA (op:UnOp) (x:AV):Option AV:=
 match op,x with
 | .neg,.int k n=>some (.int k (k.wrap (0 - n)))
 | .neg,.flt k x=>some (.flt k (qLm k x))
 | .not,.bool b=>some (.bool (!b))
 | _,_=>none
def wZ (kind:Nat):AV->AV->Option Bool
 | .int k a,.int k' b=>if k=k'/\kind=0 then some (decide (a=b)) else none
 | .flt k a,.flt k' b=>if k=k'/\kind=1 then some (dT k a b == some .eq) else none
 | .bool a,.bool b=>if kind=2 then some (a == b) else none
 | .str a,.str b=>if kind=3 then some (decide (a=b)) else none
 | _,_=>none
def yO (kind:Nat):List AV->List AV->Option Bool
 | [],[]=>some true
 | a :: as,b :: bs=>match wZ kind a b,yO kind as bs with
  | some x,some y=>some (x && y)
  | _,_=>none
 | _,_=>none
def f2i (s:FloatKind) (x:ON) (k:IntKind):Option Int:=x.bind fun b=>floatToIntVal s b k
def f2f (s:FloatKind) (x:ON) (k:FloatKind):Option (ON):=
 match x with
 | none=>some none
 | some b=>(floatToFloatBits s b k).map some
def qJR:AV->Option UInt8
 | .int .u8 b=>some (UInt8.ofNat b.toNat)
 | _=>none
def dS (c:Cv) (get:Nat->Option HB) (x:AV):Option AV:=
 match c,x with
 | .ii k,.int _ n=>some (.int k (k.wrap n))
 | .ii _,.nanbits=>some .any
 | .toF k,.int _ n=>some (.flt k (some (floatOfInt k n)))
 | .fi k,.flt s x=>(f2i s x k).map (AV.int k)
 | .ff k,.flt s x=>(f2f s x k).map (AV.flt k)
 | .bs,.nilslice=>some (.str [])
 | .bs,.slice l o n _ sz =>
  if sz=1/\n ≠ 0 then
   match get l with
   | some (.row cs _)=>if o+n<=cs.length then (((cs.drop o).take n).mapM qJR).map AV.str else none
   | _=>none
  else if n=0 then some (.str []) else none
 | _,_=>none
def bnd (x:Option AV) (dflt y:Nat):ON:=
 match x with
 | none=>some dflt
 | some (.int _ n)=>if 0<=n/\n<=(y:Int) then some n.toNat else none
 | _=>none
def qGK (len cap:Nat) (lo hi mx:Option AV):Option (Nat × Nat × Nat):=
 match mx,hi with
 | some _,none=>none
 | _,_ =>
  match bnd mx cap cap with
  | none=>none
  | some m =>
   match bnd hi len m with
   | none=>none
   | some h =>
    match bnd lo 0 h with
    | none=>none
    | some l=>some (l,h,m)
def qGm (x y:AV):Option AV:=
 match x,y with
 | .int k a,.int k' b=>if k=k' then some (.int k (if b < a then b else a)) else none
 | .flt k a,.flt k' b=>if k=k' then some (.flt k (match dT k a b with
  | none=>none
  | some .lt=>a
  | some .gt=>b
  | some .eq=>if (k.decode (a.getD 0)).neg then a else b)) else none
 | _,_=>none
def qGi (x y:AV):Option AV:=
 match x,y with
 | .int k a,.int k' b=>if k=k' then some (.int k (if a < b then b else a)) else none
 | .flt k a,.flt k' b=>if k=k' then some (.flt k (match dT k a b with
  | none=>none
  | some .lt=>b
  | some .gt=>a
  | some .eq=>if (k.decode (a.getD 0)).neg then b else a)) else none
 | _,_=>none
def mxI (a b:Int):Int:=if a < b then b else a
def qKk (x y z w:AV):Option AV:=
 match x,y,z,w with
 | .int k a,.int k2 b,.int k3 c,.int k4 d=>if k=k2/\k=k3/\k=k4 then some (.int k (mxI (mxI (mxI a b) c) d)) else none
 | _,_,_,_=>none
def part (ag:Bool) (n off:Nat) (cs:List AV):Option AV:=
 if ag then (if off+n<=cs.length then some (.agg ((cs.drop off).take n)) else none) else cs[off]?
def qGh (es:List (AV × AV)) (k:AV):Option (Option AV):=
 match es with
 | []=>some none
 | (a,b) :: rest=>match wZ 0 k a with
  | some true=>some (some b)
  | some false=>qGh rest k
  | none=>none
def zS (E:Env) (get:Nat->Option HB):AOp->Option AV
 | .move x=>some (x.ev E)
 | .pick c a b=>match c.ev E with
  | .bool t=>some (if t=true then a.ev E else b.ev E)
  | _=>none
 | .load ag n a=>match a.ev E with
  | .ptr l off=>match get l with
   | some (.row cs _)=>part ag n off cs
   | _=>none
  | _=>none
 | .nilCheck x=>match x.ev E with
  | .ptr l off=>some (.ptr l off)
  | .glob g=>some (.glob g)
  | .func f a b=>some (.func f a b)
  | _=>none
 | .bin op x y=>vJ op (x.ev E) (y.ev E)
 | .eqAgg neg kind n x y=>match x.ev E,y.ev E with
  | .agg xs,.agg ys=>if xs.length=n then (yO kind xs ys).map fun b=>.bool (b != neg) else none
  | _,_=>none
 | .eqBool neg x y=>match x.ev E,y.ev E with
  | .bool a,.bool b=>some (.bool ((a == b) != neg))
  | _,_=>none
 | .eqNilI neg x y=>match x.ev E,y.ev E with
  | .niliface,.niliface=>some (.bool (true != neg))
  | .iface _ _,.niliface=>some (.bool (false != neg))
  | _,_=>none
 | .eqNilS neg x y=>match x.ev E,y.ev E with
  | .nilslice,.nilslice=>some (.bool (true != neg))
  | .slice _ _ _ _ _,.nilslice=>some (.bool (false != neg))
  | _,_=>none
 | .un op x=>unA op (x.ev E)
 | .conv c x=>dS c get (x.ev E)
 | .fn f as bs=>some (.func f (as.map (·.ev E)) (bs.map (·.ev E)))
 | .build zs parts=>(uY E zs parts).map .agg
 | .slArr n sz x lo hi mx=>match x.ev E with
  | .ptr l o=>match get l with
   | some (.row cs _)=>if o+n * sz<=cs.length then
     match qGK n n (lo.map (·.ev E)) (hi.map (·.ev E)) (mx.map (·.ev E)) with
     | some (a,h,m)=>some (.slice l (o+a * sz) (h - a) (m - a) sz)
     | none=>none
    else none
   | _=>none
  | _=>none
 | .slSl sz x lo hi mx=>match x.ev E with
  | .slice l o len cap sz'=>if sz=sz' then
    match qGK len cap (lo.map (·.ev E)) (hi.map (·.ev E)) (mx.map (·.ev E)) with
    | some (a,h,m)=>some (.slice l (o+a * sz) (h - a) (m - a) sz)
    | none=>none
   else none
  | .nilslice=>match qGK 0 0 (lo.map (·.ev E)) (hi.map (·.ev E)) (mx.map (·.ev E)) with
   | some _=>some .nilslice
   | none=>none
  | _=>none
 | .slStr x lo hi=>match x.ev E with
  | .str s=>match qGK s.length s.length (lo.map (·.ev E)) (hi.map (·.ev E)) none with
   | some (a,h,_)=>some (.str ((s.take h).drop a))
   | none=>none
  | _=>none
 | .faddr off x=>match x.ev E with
  | .ptr l o=>some (.ptr l (o+off))
  | _=>none
 | .field ag off n x=>match x.ev E with
  | .agg cs=>part ag n off cs
  | _=>none
 | .iaArr len sz x i=>match x.ev E,i.ev E with
  | .ptr l o,.int _ n=>if 0<=n/\n < (len:Int) then some (.ptr l (o+n.toNat * sz)) else none
  | _,_=>none
 | .iaSl sz x i=>match x.ev E,i.ev E with
  | .slice l o len _ sz',.int _ n=>if sz=sz'/\0<=n/\n < (len:Int) then some (.ptr l (o+n.toNat * sz)) else none
  | _,_=>none
 | .ixArr len ag sz x i=>match x.ev E,i.ev E with
  | .agg cs,.int _ n=>if 0<=n/\n < (len:Int) then part ag sz (n.toNat * sz) cs else none
  | _,_=>none
 | .ixStr x i=>match x.ev E,i.ev E with
  | .str s,.int _ n=>if 0<=n then (s[n.toNat]?).map fun b=>.int .u8 b.toNat else none
  | _,_=>none
 | .extract i x=>match x.ev E with
  | .tuple as=>as[i]?
  | _=>none
 | .len x=>match x.ev E with
  | .slice _ _ n _ _=>some (.int .i64 n)
  | .nilslice=>some (.int .i64 0)
  | _=>none
 | .lenStr x=>match x.ev E with
  | .str s=>some (.int .i64 s.length)
  | _=>none
 | .lenC n=>some (.int .i64 n)
 | .cap x=>match x.ev E with
  | .slice _ _ _ c _=>some (.int .i64 c)
  | .nilslice=>some (.int .i64 0)
  | _=>none
 | .min2 x y=>qGm (x.ev E) (y.ev E)
 | .max2 x y=>qGi (x.ev E) (y.ev E)
 | .max4 x y z w=>qKk (x.ev E) (y.ev E) (z.ev E) (w.ev E)
 | .lookup zero ok x k=>match x.ev E with
  | .map l=>match get l with
   | some (.mp es)=>(qGh es (k.ev E)).map fun r =>
     let v:=r.getD zero
     if ok then .tuple [v,.bool r.isSome] else v
   | _=>none
  | _=>none
 | .iface t x=>some (.iface t (x.ev E))
 | _=>none
/-! ### Resolving types -/
def vY:Value->Option AV
 | .bool b=>some (.bool b)
 | .int k n=>some (.int k n)
 | .float k b=>if b < 2^k.format.width then some (.flt k (nrm k b)) else none
 | .string s=>some (.str s.data.toList)
 | .pointer none=>some .nilptr
 | .slice none 0 0=>some .nilslice
 | .nilFunc=>some .nilfunc
 | .nilIface=>some .niliface
 | _=>none
def qLR:Value->Option AV
 | .agg cs=>(cs.toList.mapM vY).map .agg
 | .tuple vs=>if vs.isEmpty then some .undef else none
 | v=>vY v
section
variable (P:Program)
def qBO (t:TypeId):Option (Bool × Nat):=
 match P.underlying t,P.info? t with
 | some d,some i=>some (match d with | .struct _ | .array _ _=>true | _=>false,i.size)
 | _,_=>none
def xH (t:TypeId):ON:=(P.info? t).map (·.size)
def uL (t:TypeId):ON:=(P.info? t).map (·.bytes)
def wL (t:TypeId):Option (List AV):=
 match (P.info? t).bind (·.zero) with
 | some z=>z.cells.toList.mapM vY
 | none=>none
def pY (t:TypeId):ON:=
 if xH P t=some 1 then
  match P.underlying t with
  | some (.int _)=>some 0
  | some (.float _)=>some 1
  | some .bool=>some 2
  | some .string=>some 3
  | _=>none
 else none
def jE:Operand->Option Opd
 | .tmp t=>some (.tmp t)
 | .const v=>(qLR v).map .const
 | .global g=>some (.const (.glob g))
 | .func f=>some (.const (.func f [] []))
def qDy (xs:Array Operand):Option (List Opd):=xs.toList.mapM jE
def qGL (x:Option Operand):Option (Option Opd):=
 match x with
 | none=>some none
 | some x=>(jE x).map some
def qF (elem:TypeId) (x y:Operand):Option AOp:=do
 let sz <- xH P elem
 let bytes <- uL P elem
 let zs <- wL P elem
 if zs.length=sz/\0 < bytes then some (.append sz bytes (<- jE x) (<- jE y)) else none
def qE (elem:TypeId) (x y:Operand):Option AOp:=do
 let sz <- xH P elem
 let bytes <- uL P elem
 let zs <- wL P elem
 if zs.length=sz/\0 < bytes then some (.appendZ sz bytes zs (<- jE x) (<- jE y)) else none
def jH (o:Op):Option AOp:=
 match o with
 | .move x=>do some (.move (<- jE x))
 | .assign x=>do some (.move (<- jE x))
 | .pick c a b=>do some (.pick (<- jE c) (<- jE a) (<- jE b))
 | .alloc t=>do some (.alloc (<- wL P t))
 | .box _ x=>do some (.box (<- jE x))
 | .build t parts =>
  match P.underlying t with
  | some (.struct fields)=>do
   let zs <- wL P t
   let ps <- parts.toList.mapM fun (i,x)=>do
    let f <- fields[i]?
    some (f.offset,<- xH P f.type,<- jE x)
   let _ <- fields.toList.mapM fun f=>xH P f.type
   some (.build zs ps)
  | some (.array _ elem)=>do
   let zs <- wL P t
   let sz <- xH P elem
   let ps <- parts.toList.mapM fun (i,x)=>do some (i * sz,sz,<- jE x)
   some (.build zs ps)
  | _=>none
 | .buildSlice t len parts =>
  match P.underlying t with
  | some (.slice elem)=>do
   let sz <- xH P elem
   let zs <- wL P elem
   let ps <- parts.toList.mapM fun (i,x)=>do some (i * sz,sz,<- jE x)
   if len * sz<=2^24/\zs.length=sz then some (.bslice sz len (List.replicate len zs).flatten ps) else none
  | _=>none
 | .load t a=>do
  let (ag,n) <- qBO P t
  some (.load ag n (<- jE a))
 | .store t a x=>do some (.store (<- xH P t) (<- jE a) (<- jE x))
 | .nilCheck x=>do some (.nilCheck (<- jE x))
 | .binOp op t x y _ =>
  if op=.eql \/ op=.neq then
   match P.underlying t with
   | some (.int _) | some (.float _) | some .string=>do some (.bin op (<- jE x) (<- jE y))
   | some .bool=>do some (.eqBool (op=.neq) (<- jE x) (<- jE y))
   | some (.array n e)=>if P.eqGuardType P.depth t then none else do some (.eqAgg (op=.neq) (<- pY P e) n (<- jE x) (<- jE y))
   | some (.interface _)=>match y with
    | .const _=>do some (.eqNilI (op=.neq) (<- jE x) (<- jE y))
    | _=>none
   | some (.slice _)=>match y with
    | .const _=>do some (.eqNilS (op=.neq) (<- jE x) (<- jE y))
    | _=>none
   | _=>none
  else do some (.bin op (<- jE x) (<- jE y))
 | .unOp op _ x=>do some (.un op (<- jE x))
 | .convert src dst x =>
  match P.underlying src,P.underlying dst with
  | some (.int _),some (.int k)=>do some (.conv (.ii k) (<- jE x))
  | some (.int _),some (.float k)=>do some (.conv (.toF k) (<- jE x))
  | some (.float _),some (.int k)=>do some (.conv (.fi k) (<- jE x))
  | some (.float _),some (.float k)=>do some (.conv (.ff k) (<- jE x))
  | some (.slice e),some .string=>match P.underlying e with
   | some (.int .u8)=>do some (.conv .bs (<- jE x))
   | _=>none
  | _,_=>none
 | .makeFunc (.func f) first captured=>do some (.fn f (<- qDy first) (<- qDy captured))
 | .makeSlice t l c =>
  match P.underlying t with
  | some (.slice elem)=>do
   let sz <- xH P elem
   let zs <- wL P elem
   let bytes <- uL P elem
   if zs.length=sz then some (.mkSlice sz bytes zs (<- jE l) (<- jE c)) else none
  | _=>none
 | .slice t x lo hi mx =>
  match P.underlying t with
  | some (.array n elem)=>do some (.slArr n (<- xH P elem) (<- jE x) (<- qGL lo) (<- qGL hi) (<- qGL mx))
  | some (.slice elem)=>do some (.slSl (<- xH P elem) (<- jE x) (<- qGL lo) (<- qGL hi) (<- qGL mx))
  | some .string=>if mx.isSome then none else do some (.slStr (<- jE x) (<- qGL lo) (<- qGL hi))
  | _=>none
 | .fieldAddr s x i =>
  match P.underlying s with
  | some (.struct fields)=>do
   let f <- fields[i]?
   let n <- xH P f.type
   if n=0 then none else some (.faddr f.offset (<- jE x))
  | _=>none
 | .field t x i =>
  match P.underlying t with
  | some (.struct fields)=>do
   let f <- fields[i]?
   let (ag,n) <- qBO P f.type
   some (.field ag f.offset n (<- jE x))
  | _=>none
 | .indexAddr t x i =>
  match P.underlying t with
  | some (.array len elem)=>do some (.iaArr len (<- xH P elem) (<- jE x) (<- jE i))
  | some (.slice elem)=>do some (.iaSl (<- xH P elem) (<- jE x) (<- jE i))
  | _=>none
 | .index t x i =>
  match P.underlying t with
  | some (.array len elem)=>do
   let (ag,n) <- qBO P elem
   some (.ixArr len ag n (<- jE x) (<- jE i))
  | some .string=>do some (.ixStr (<- jE x) (<- jE i))
  | _=>none
 | .lookup t x k ok =>
  match P.underlying t with
  | some (.map key elem) =>
   match P.underlying key,(P.info? elem).bind (·.zero) with
   | some (.int _),some z=>do some (.lookup (<- vY z) ok (<- jE x) (<- jE k))
   | _,_=>none
  | _=>none
 | .mapUpdate t m k x =>
  match P.underlying t with
  | some (.map key _) =>
   match P.underlying key with
   | some (.int _)=>do some (.mapUpdate (<- jE m) (<- jE k) (<- jE x))
   | _=>none
  | _=>none
 | .insert t m k x =>
  match P.underlying t with
  | some (.map key _) =>
   match P.underlying key with
   | some (.int _)=>do some (.mapUpdate (<- jE m) (<- jE k) (<- jE x))
   | _=>none
  | _=>none
 | .makeMap _ none=>some .makeMap
 | .extract t i=>do some (.extract i (<- jE t))
 | .makeInterface t x =>
  match P.underlying t with
  | some (.interface _)=>none
  | some _=>do some (.iface t (<- jE x))
  | none=>none
 | .call c =>
  match c.callee with
  | .value (.func f)=>do some (.call f (<- qDy c.args))
  | .value f=>do some (.callV (<- jE f) (<- qDy c.args))
  | .invoke _ _=>none
  | .builtin b =>
   match b,c.args.toList,c.argTypes.toList with
   | .len,[x],[t] =>
    match P.underlying t with
    | some (.array n _)=>some (.lenC n)
    | some (.slice _)=>do some (.len (<- jE x))
    | some .string=>do some (.lenStr (<- jE x))
    | _=>none
   | .cap,[x],[t] =>
    match P.underlying t with
    | some (.array n _)=>some (.lenC n)
    | some (.slice _)=>do some (.cap (<- jE x))
    | _=>none
   | .min,[x,y],_=>do some (.min2 (<- jE x) (<- jE y))
   | .max,[x,y],_=>do some (.max2 (<- jE x) (<- jE y))
   | .max,[x,y,z,w],_=>do some (.max4 (<- jE x) (<- jE y) (<- jE z) (<- jE w))
   | .append,[x,y],[t,u] =>
    match P.underlying t,P.underlying u with
    | some (.slice elem),some (.slice _)=>qF P elem x y
    | some (.slice elem),some .string=>qF P elem x y
    | some (.slice elem),some (.int _)=>qE P elem x y
    | _,_=>none
   | .copy,[x,y],[t,u] =>
    match P.underlying t,P.underlying u with
    | some (.slice elem),some (.slice _)=>do some (.copy (<- xH P elem) (<- jE x) (<- jE y))
    | _,_=>none
   | .clear,[x],[t] =>
    match P.underlying t with
    | some (.slice elem)=>do some (.clear (<- xH P elem) (<- wL P elem) (<- jE x))
    | _=>none
   | _,_,_=>none
 | _=>none
end
end Go.Ab
end
/- Quiet operations: what the model's operation does is what 'aval' says. -/
section
namespace Go.Ab
def RE (μ:Mu) (E:Env) (a:Act):Prop:=∀ t,R μ (E t) (a.tmps.getD t Go.undef)
section
variable {P:Program} {μ:Mu} {E:Env} {a:Act} {F:Nat->Prop} {H:AHeap} {w:World}
theorem wV {v:Value} {x:AV} (h:vY v=some x):R μ x v:=by
  unfold vY at h
  split at h
  · cases h;exact .bool _
  · cases h;exact .int _ _
  · split at h
    · rename_i hb;cases h;exact .flt rfl hb
    · cases h
  · cases h;exact .str rfl
  · cases h;exact .nilptr
  · cases h;exact .nilslice
  · cases h;exact .nilfunc
  · cases h;exact .niliface
  · cases h
theorem qBu {f:Value->Option AV} (hf:∀ v x,f v=some x->R μ x v):∀ {vs:List Value} {as:List AV},vs.mapM f=some as->RL μ as vs
 | [],as,h=>by simp at h;subst h;exact RL.nil
 | v :: vs,as,h=>by
  simp only [List.mapM_cons,Option.bind_eq_bind,Option.bind_eq_some_iff,Option.pure_def,Option.some.injEq] at h
  obtain⟨x,hx,xs,hxs,rfl⟩:=h
  exact RL.cons (hf v x hx) (qBu hf hxs)
theorem qKN {v:Value} {x:AV} (h:qLR v=some x):R μ x v:=by
 unfold qLR at h
 split at h
 ·rename_i cs
  cases hm:cs.toList.mapM vY with
  | none=>rw [hm] at h;cases h
  | some as =>
   rw [hm] at h;cases h
   exact R.aggL.2 (qBu (fun v x=>wV) hm)
 ·rename_i vs
  split at h
  ·rename_i he
   cases h
   have:vs = #[]:=by simpa using he
   subst this
   exact .undef
  ·cases h
 ·exact wV h
theorem vG {x:Operand} {y:Opd} (h:jE x=some y) (he:RE μ E a):R μ (y.ev E) (a.eval x):=by
 cases x with
 | tmp t=>simp [jE] at h;subst h;exact he t
 | const v =>
  simp only [jE,Option.map_eq_some_iff] at h
  obtain⟨x,hx,rfl⟩:=h
  exact qKN hx
 | global g=>simp [jE] at h;subst h;exact .glob
 | func f=>simp [jE] at h;subst h;exact .func rfl (fun i a v h=>by simp at h) rfl (fun i a v h=>by simp at h)
theorem qAN {xs:Array Operand} {ys:List Opd} (h:qDy xs=some ys) (he:RE μ E a):RL μ (ys.map (·.ev E)) (xs.map a.eval).toList:=by
 unfold qDy at h
 rw [Array.toList_map]
 generalize xs.toList=l at h
 clear xs
 induction l generalizing ys with
 | nil=>simp at h;subst h;exact RL.nil
 | cons x l ih =>
  simp only [List.mapM_cons,Option.bind_eq_bind,Option.bind_eq_some_iff,Option.pure_def,Option.some.injEq] at h
  obtain⟨y,hy,ys',hys,rfl⟩:=h
  exact RL.cons (vG hy he) (ih hys)
theorem run_pure {α:Type} (x:α):(pure x:Sem α).run P w=.ok x w:=rfl
def qV (P:Program) (μ:Mu) (w:World) (s:Sem Value) (r:AV):Prop:=∃ v w',s.run P w=.ok v w'/\qKL w w'/\R μ r v
theorem qV.pure {r:AV} {v:Value} (h:R μ r v):qV P μ w (Pure.pure v) r:=⟨v,w,rfl,.inl rfl,h⟩
theorem qV.bind {α:Type} {s:Sem α} {f:α->Sem Value} {x:α} {r:AV} (h:s.run P w=.ok x w) (g:qV P μ w (f x) r):qV P μ w (s >>= f) r:=by
 obtain⟨v,w',h1,h2,h3⟩:=g
 exact⟨v,w',by rw [bind_ok h,h1],h2,h3⟩
theorem qG {t:TypeId} {d:TypeDesc} (h:P.underlying t=some d):(underlying t).run P w=.ok d w:=run_underlying h w
theorem qBa {t:TypeId} {i:TypeInfo} (h:P.info? t=some i):(typeInfo t).run P w=.ok i w:=by
 simp [typeInfo,program,Sem.run,h]
theorem vB {t:TypeId} {n:Nat} (h:xH P t=some n):(sizeOf t).run P w=.ok n w:=by
 unfold xH at h
 cases hi:P.info? t with
 | none=>rw [hi] at h;cases h
 | some i =>
  rw [hi] at h;cases h
  simp only [sizeOf]
  rw [bind_ok (qBa hi)];rfl
theorem qAe {t:TypeId} {b:Bool} {n:Nat} (h:qBO P t=some (b,n)):(isAgg t).run P w=.ok b w/\(sizeOf t).run P w=.ok n w:=by
 unfold qBO at h
 cases hd:P.underlying t with
 | none=>rw [hd] at h;cases h
 | some d =>
  cases hi:P.info? t with
  | none=>rw [hd,hi] at h;cases h
  | some i =>
   rw [hd,hi] at h
   simp only [Option.some.injEq,Prod.mk.injEq] at h
   obtain⟨h1,h2⟩:=h
   refine⟨?_,vB (by unfold xH;rw [hi,<- h2];rfl)⟩
   simp only [isAgg]
   rw [bind_ok (qG hd)]
   split at h1 <;> (subst h1;first | rfl | (split <;> simp_all))
theorem addr_add (b o n:Nat):(⟨b,o,none⟩:Addr).add n=⟨b,o+n,none⟩:=by unfold Addr.add;split <;> simp_all
theorem cell_of {b o:Nat} {c:Array Value} {e:TypeId} {f:Nat × Nat} (h:w.heap[b]? = some (.cells c e f)):w.cell? ⟨b,o,none⟩=c[o]?:=by
 simp [World.cell?,h]
theorem qHe {b o:Nat} {c:Array Value} {e:TypeId} {lo hi:Nat} (h:w.heap[b]? = some (.cells c e (lo,hi))):w.frozen? ⟨b,o,none⟩=(decide (lo<=o) && decide (o < hi)):=by
 simp [World.frozen?,h]
theorem bF (hs:Sim F μ H w) {l:Nat} {li:LI} {cs:List AV} {wr:Bool} (hg:H.get l=some (.row cs wr)) (hm:μ l=some li) {off n:Nat} (hn:off+n<=cs.length) :
  ∃ us:List Value,us.length=n/\RL μ ((cs.drop off).take n) us /\ ∀ (j:Nat) (v:Value),us[j]? = some v->w.cell? ⟨li.blk,li.base+off+j,none⟩=some v:=by
 obtain⟨c,e,lo,hi,hb,hsz,hlim,hc,_⟩:=hs.row l li cs wr hg hm
 refine⟨(c.toList.drop (li.base+off)).take n,?_,⟨?_,?_⟩,?_⟩
 ·simp;omega
 ·simp;omega
 ·intro i a v ha hv
  simp only [List.getElem?_take,List.getElem?_drop] at ha hv
  split at ha
  ·rename_i hi'
   rw [if_pos hi'] at hv
   obtain⟨v',hv',hr⟩:=hc (off+i) a ha
   rw [Array.getElem?_toList] at hv
   rw [Nat.add_assoc] at hv
   rw [hv] at hv'
   cases hv'
   exact hr
  ·cases ha
 ·intro j v hv
  simp only [List.getElem?_take,List.getElem?_drop] at hv
  split at hv
  ·rw [cell_of hb,<- hv,Array.getElem?_toList]
  ·cases hv
theorem jY {b o:Nat} {us:List Value} (h:∀ (j:Nat) (v:Value),us[j]? = some v->w.cell? ⟨b,o+j,none⟩=some v):(loadCells ⟨b,o,none⟩ us.length).run P w=.ok us.toArray w:=
 run_loadCells_list w ⟨b,o,none⟩ us (fun j v hj=>by rw [addr_add];exact h j v hj)
theorem uH {l off:Nat} {v:Value} (h:R μ (.ptr l off) v):∃ li,μ l=some li/\v=.pointer (some ⟨li.blk,li.base+off,none⟩):=by
 cases h with
 | ptr h ha=>exact⟨_,h,by rw [ha]⟩
theorem qGg (hs:Sim F μ H w) {t:TypeId} {ag:Bool} {n:Nat} (ht:qBO P t=some (ag,n)) {l off:Nat} {v:Value} (hv:R μ (.ptr l off) v) {cs:List AV} {wr:Bool}
  (hg:H.get l=some (.row cs wr)) {r:AV} (hp:part ag n off cs=some r):qV P μ w (Instr.loadAt t v) r:=by
 obtain⟨li,hm,rfl⟩:=uH hv
 obtain⟨hA,hN⟩:=qAe (w:=w) ht
 unfold Instr.loadAt
 refine qV.bind (x:=⟨li.blk,li.base+off,none⟩) rfl ?_
 unfold loadVar
 refine qV.bind hA ?_
 unfold part at hp
 cases ag with
 | true =>
  simp only [if_true] at hp
  split at hp
  ·rename_i hn
   cases hp
   obtain⟨us,hl,hr,hc⟩:=bF hs hg hm hn
   simp only [if_true]
   refine qV.bind hN ?_
   subst hl
   refine qV.bind (jY hc) (qV.pure (R.aggL.2 (by simpa using hr)))
  ·cases hp
 | false =>
  simp only [Bool.false_eq_true,if_false] at hp ⊢
  obtain⟨c,e,lo,hi,hb,hsz,hlim,hc,_⟩:=hs.row l li cs wr hg hm
  obtain⟨u,hu,hr⟩:=hc off r hp
  refine⟨u,w,?_,.inl rfl,hr⟩
  rw [run_load,cell_of hb,hu]
theorem qCu {t:TypeId} {ag:Bool} {n:Nat} (ht:qBO P t=some (ag,n)) {cs:List AV} {vs:Array Value} (hr:RL μ cs vs.toList) {off:Nat} {r:AV} (hp:part ag n off cs=some r) :
  qV P μ w (Go.part t vs off) r:=by
 obtain⟨hA,hN⟩:=qAe (w:=w) ht
 unfold Go.part
 refine qV.bind hA ?_
 unfold part at hp
 cases ag with
 | true =>
  simp only [if_true] at hp
  split at hp
  ·rename_i hn
   cases hp
   simp only [if_true]
   refine qV.bind hN (qV.pure (R.aggL.2 ?_))
   have:=(hr.drop off).take n
   simpa [Array.toList_extract,List.extract] using this
  ·cases hp
 | false =>
  simp only [Bool.false_eq_true,if_false] at hp ⊢
  obtain⟨v,hv,hR⟩:=hr.get hp
  rw [Array.getElem?_toList] at hv
  rw [hv]
  exact qV.pure hR
/-! scalars, inverted -/
theorem bK {b:Bool} {v:Value} (h:R μ (.bool b) v):v=.bool b:=by cases h;rfl
theorem zK {k:IntKind} {n:Int} {v:Value} (h:R μ (.int k n) v):v=.int k n:=by cases h;rfl
theorem yB {k:FloatKind} {x:ON} {v:Value} (h:R μ (.flt k x) v):∃ b,v=.float k b/\nrm k b=x/\b < 2^k.format.width:=by
 cases h with
 | flt h hb=>exact⟨_,rfl,h,hb⟩
theorem dB {s:List UInt8} {v:Value} (h:R μ (.str s) v):∃ b:ByteArray,v=.string b/\b.data.toList=s:=by
 cases h with
 | str h=>exact⟨_,rfl,h⟩
theorem bB {v:Value} (h:R μ .nanbits v):∃ n:Nat,v=.int .u32 n/\nrm .f32 n=none/\n < 2^32:=by
 cases h with
 | nanbits h hb=>exact⟨_,rfl,h,hb⟩
theorem pP {op:BinOp} {t:TypeId} {X Y:Operand} {v u:Value} (h:¬ (∃ xs ys,v=.agg xs/\u=.agg ys)) (h' : ¬ (v=.nilIface/\u=.nilIface)) :
    (eqGuard op t X Y v u).run P w=.ok () w:=by
  unfold eqGuard
  split
  · simp only [Bool.not_true,Bool.false_eq_true,if_false]
    split
    · exact absurd ⟨rfl,rfl⟩ h'
    · exact absurd ⟨_,_,rfl,rfl⟩ h
    · rfl
  · simp only [Bool.not_true,Bool.false_eq_true,if_false]
    split
    · exact absurd ⟨rfl,rfl⟩ h'
    · exact absurd ⟨_,_,rfl,rfl⟩ h
    · rfl
  · rfl
theorem qIG {s:Sem Value} {k:FloatKind} {x y:Nat} {op:BinOp} (hop:op=.add \/ op=.sub \/ op=.mul \/ op=.quo) (hs:s=Op.floatArith op k x y) :
  qV P μ w s (.flt k (fop op k (nrm k x) (nrm k y))):=by
 subst hs
 obtain⟨r,w',h1,h2,h3,h4⟩:=run_floatArith (P:=P) (w:=w) op k x y hop
 exact⟨_,w',h1,h2,.flt h3 h4⟩
theorem qED (a b:Int):(a == b)=decide (a=b):=by
 by_cases h:a=b <;> simp [h]
theorem qJQ (a b:Int):(a != b)=decide (a ≠ b):=by
 by_cases h:a=b <;> simp [h]
theorem qDv {op:BinOp} {t:TypeId} {X Y:Operand} {x y r:AV} {v u:Value} (h:vJ op x y=some r) (hx:R μ x v) (hy:R μ y u) :
    qV P μ w (do eqGuard op t X Y v u;binOp op t v u) r:=by
  have hg:(eqGuard op t X Y v u).run P w=.ok () w:=by
    refine pP ?_ ?_
    · rintro⟨xs,ys,rfl,rfl⟩
      unfold vJ at h
      split at h <;> first | cases h;done | cases hx
    · rintro⟨rfl,rfl⟩
      unfold vJ at h
      split at h <;> first | cases h;done | cases hx
  refine qV.bind hg ?_
  clear hg
  unfold vJ at h
  split at h
  -- integers
  iterate 9
    · obtain rfl:=zK hx
      obtain rfl:=zK hy
      split at h
      · rename_i hk
        first
          | (subst hk;cases h;simp only [binOp,Op.intArith,Op.intBits,ne_eq,not_true_eq_false,if_false];exact qV.pure (.int _ _))
          | (obtain⟨rfl,hb⟩:=hk;cases h;simp only [binOp,Op.intDiv,ne_eq,not_true_eq_false,if_false,hb];exact qV.pure (.int _ _))
      · cases h
  iterate 2
    · obtain rfl:=zK hx
      obtain rfl:=zK hy
      split at h
      · rename_i hk
        cases h
        simp only [binOp,Op.shift]
        rw [if_neg om]
        exact qV.pure (.int _ _)
      · cases h
  iterate 6
    · obtain rfl:=zK hx
      obtain rfl:=zK hy
      split at h
      · rename_i hk
        subst hk
        cases h
        simp only [binOp,Op.intCmp,ne_eq,not_true_eq_false,if_false,qED,qJQ]
        exact qV.pure (.bool _)
      · cases h
  -- what Float32bits leaves of a NaN
  · obtain⟨n,rfl,hn,hl⟩:=bB hx
    obtain rfl:=zK hy
    split at h
    · rename_i b hb
      cases h
      simp only [binOp,Op.intCmp,ne_eq,not_true_eq_false,if_false]
      have:((n:Int) == b)=false:=by
        rw [beq_eq_false_iff_ne]
        rintro rfl
        exact hb.1 (by simpa using hn)
      rw [this]
      exact qV.pure (.bool _)
    · cases h
  · obtain⟨n,rfl,hn,hl⟩:=bB hy
    obtain rfl:=zK hx
    split at h
    · rename_i b hb
      cases h
      simp only [binOp,Op.intCmp,ne_eq,not_true_eq_false,if_false]
      have:(b == (n:Int))=false:=by
        rw [beq_eq_false_iff_ne]
        rintro rfl
        exact hb.1 (by simpa using hn)
      rw [this]
      exact qV.pure (.bool _)
    · cases h
  · obtain⟨n,rfl,hn,hl⟩:=bB hx
    obtain⟨m,rfl,hm,hl'⟩:=bB hy
    cases h
    simp only [binOp,Op.intCmp,ne_eq,not_true_eq_false,if_false]
    exact qV.pure (.any _)
  -- floats
  iterate 4
    · obtain⟨b,rfl,rfl,hb⟩:=yB hx
      obtain⟨c,rfl,rfl,hc⟩:=yB hy
      split at h
      · rename_i hk
        subst hk
        cases h
        exact qIG (by simp) (by simp [binOp])
      · cases h
  iterate 6
    · obtain⟨b,rfl,rfl,hb⟩:=yB hx
      obtain⟨c,rfl,rfl,hc⟩:=yB hy
      split at h
      · rename_i hk
        subst hk
        cases h
        simp only [binOp,Op.floatCmp,ne_eq,not_true_eq_false,if_false,pM]
        exact qV.pure (.bool _)
      · cases h
  -- strings
  · obtain⟨b,rfl,rfl⟩:=dB hx
    obtain⟨c,rfl,rfl⟩:=dB hy
    split at h
    · rename_i hl
      cases h
      simp only [binOp,Op.stringOp]
      rw [if_neg (by
        have e1:b.size=b.data.toList.length:=rfl
        have e2:c.size=c.data.toList.length:=rfl
        have e3:IntKind.i64.max=9223372036854775807:=rfl
        rw [e1,e2,e3];omega)]
      exact qV.pure (.str (by simp))
    · cases h
  iterate 6
    · obtain⟨b,rfl,rfl⟩:=dB hx
      obtain⟨c,rfl,rfl⟩:=dB hy
      cases h
      simp only [binOp,Op.stringOp,ByteArray.toList_eq]
      refine qV.pure ?_
      first
        | exact .bool _
        | (have e:∀ (p q:List UInt8),(p == q)=decide (p=q):=fun p q=>by by_cases hpq:p=q <;> simp [hpq]
           simp only [e,decide_not]
           exact .bool _)
  · cases h
end
end Go.Ab
end
/- The other quiet operations; all of them together. -/
section
namespace Go.Ab
section
variable {P:Program} {μ:Mu} {E:Env} {a:Act} {F:Nat->Prop} {H:AHeap} {w:World}
theorem agg_inv {as:List AV} {v:Value} (h:R μ (.agg as) v):∃ vs:Array Value,v=.agg vs/\RL μ as vs.toList:=R.agg_inv h
theorem gK {e:TypeId} {kind:Nat} (h:pY P e=some kind):(∃ i,P.info? e=some i/\i.size=1) /\
  ((kind=0 /\ ∃ k,P.underlying e=some (.int k)) \/ (kind=1 /\ ∃ k,P.underlying e=some (.float k)) \/ (kind=2/\P.underlying e=some .bool) \/ (kind=3/\P.underlying e=some .string)):=by
 unfold pY at h
 split at h
 ·rename_i hs
  refine⟨?_,?_⟩
  ·unfold xH at hs
   cases hi:P.info? e with
   | none=>rw [hi] at hs;cases hs
   | some i=>rw [hi] at hs;exact⟨i,rfl,by simpa using hs⟩
  ·split at h <;> first | cases h;done | skip
   all_goals (cases h;simp_all)
 ·cases h
theorem qEE {e:TypeId} {kind:Nat} (h:pY P e=some kind) {x y:AV} {v u:Value} {b:Bool} (hc:wZ kind x y=some b) (hx:R μ x v) (hy:R μ y u) (d:Nat) :
  (Op.equalIn (d+1) e v u).run P w=.ok b w:=by
 obtain⟨_,hk⟩:=gK h
 unfold wZ at hc
 split at hc
 ·obtain rfl:=zK hx
  obtain rfl:=zK hy
  split at hc
  ·rename_i hh
   obtain⟨rfl,rfl⟩:=hh
   cases hc
   obtain⟨k',hu⟩:∃ k,P.underlying e=some (.int k):=by
    rcases hk with ⟨_,h⟩ | ⟨h,_⟩ | ⟨h,_⟩ | ⟨h,_⟩
    ·exact h
    all_goals cases h
   simp only [Op.equalIn]
   rw [bind_ok (qG hu)]
   simp [Sem.run_pure,qED]
  ·cases hc
 ·obtain⟨b1,rfl,rfl,hb1⟩:=yB hx
  obtain⟨b2,rfl,rfl,hb2⟩:=yB hy
  split at hc
  ·rename_i hh
   obtain⟨rfl,rfl⟩:=hh
   cases hc
   obtain⟨k',hu⟩:∃ k,P.underlying e=some (.float k):=by
    rcases hk with ⟨h,_⟩ | ⟨_,h⟩ | ⟨h,_⟩ | ⟨h,_⟩
    ·cases h
    ·exact h
    all_goals cases h
   simp only [Op.equalIn]
   rw [bind_ok (qG hu)]
   simp [Sem.run_pure,Op.floatEq,pM]
  ·cases hc
 ·obtain rfl:=bK hx
  obtain rfl:=bK hy
  split at hc
  ·rename_i hh
   subst hh
   cases hc
   have hu:P.underlying e=some .bool:=by
    rcases hk with ⟨h,_⟩ | ⟨h,_⟩ | ⟨_,h⟩ | ⟨h,_⟩
    ·cases h
    ·cases h
    ·exact h
    ·cases h
   simp only [Op.equalIn]
   rw [bind_ok (qG hu)]
   simp [Sem.run_pure]
  ·cases hc
 ·obtain⟨b1,rfl,rfl⟩:=dB hx
  obtain⟨b2,rfl,rfl⟩:=dB hy
  split at hc
  ·rename_i hh
   subst hh
   cases hc
   have hu:P.underlying e=some .string:=by
    rcases hk with ⟨h,_⟩ | ⟨h,_⟩ | ⟨h,_⟩ | ⟨_,h⟩
    ·cases h
    ·cases h
    ·cases h
    ·exact h
   rw [run_equalIn_string w d e b1 b2 hu,ByteArray.toList_eq,ByteArray.toList_eq]
   have:∀ p q:List UInt8,(p == q)=decide (p=q):=fun p q=>by by_cases hpq:p=q <;> simp [hpq]
   rw [this]
  ·cases hc
 ·cases hc
theorem qBh {e:TypeId} {kind:Nat} (h:pY P e=some kind) (d:Nat) {xs ys:Array Value}:∀ (as bs:List AV) (off:Nat) (b:Bool),yO kind as bs=some b ->
  RL μ as (xs.toList.drop off)->RL μ bs (ys.toList.drop off)->(Op.eqItems (d+1) e (P.cellsOf e) xs ys (List.range' off as.length)).run P w=.ok b w
 | [],bs,off,b,hc,hx,hy=>by
  cases bs with
  | nil=>simp [yO] at hc;subst hc;rfl
  | cons _ _=>simp [yO] at hc
 | x :: as,bs,off,b,hc,hx,hy=>by
  cases bs with
  | nil=>simp [yO] at hc
  | cons y bs =>
   obtain⟨⟨i,hi,hsz⟩,hk⟩:=gK h
   have hcells:P.cellsOf e=1:=by unfold Program.cellsOf;rw [hi];simpa using hsz
   have hag:qBO P e=some (false,1):=by
    unfold qBO
    rcases hk with ⟨_,k,hu⟩ | ⟨_,k,hu⟩ | ⟨_,hu⟩ | ⟨_,hu⟩ <;> (rw [hu,hi];simp [hsz])
   simp only [yO] at hc
   split at hc
   ·rename_i b1 b2 h1 h2
    cases hc
    obtain⟨v,us,hv,hR,hxt⟩:=hx.cons_inv
    obtain⟨u,us',hu,hR',hyt⟩:=hy.cons_inv
    have gv:xs[off]? = some v:=by
     have:=congrArg List.head? hv
     rw [List.head?_drop] at this
     simpa using this
    have gu:ys[off]? = some u:=by
     have:=congrArg List.head? hu
     rw [List.head?_drop] at this
     simpa using this
    have p1:(Go.part e xs (off * P.cellsOf e)).run P w=.ok v w:=by
     unfold Go.part
     rw [bind_ok (qAe hag).1,hcells,Nat.mul_one]
     simp [gv,Sem.run_pure]
    have p2:(Go.part e ys (off * P.cellsOf e)).run P w=.ok u w:=by
     unfold Go.part
     rw [bind_ok (qAe hag).1,hcells,Nat.mul_one]
     simp [gu,Sem.run_pure]
    have hxt' : RL μ as (xs.toList.drop (off+1)):=by
     have:xs.toList.drop (off+1)=us:=by
      rw [<- List.drop_drop,hv];rfl
     rw [this];exact hxt
    have hyt' : RL μ bs (ys.toList.drop (off+1)):=by
     have:ys.toList.drop (off+1)=us':=by
      rw [<- List.drop_drop,hu];rfl
     rw [this];exact hyt
    have ih:=qBh h d as bs (off+1) b2 h2 hxt' hyt'
    simp only [List.length_cons,List.range'_succ,Op.eqItems]
    rw [bind_ok p1,bind_ok p2,bind_ok (qEE h h1 hR hR' d)]
    cases b1
    ·rfl
    ·simpa using ih
   ·cases hc
theorem qGU {t e:TypeId} {n kind:Nat} (hu:P.underlying t=some (.array n e)) (h:pY P e=some kind) {as bs:List AV} {xs ys:Array Value} (hn:as.length=n) {b:Bool}
  (hc:yO kind as bs=some b) (hx:RL μ as xs.toList) (hy:RL μ bs ys.toList):(Op.equal t (.agg xs) (.agg ys)).run P w=.ok b w:=by
 obtain⟨⟨i,hi,_⟩,_⟩:=gK h
 have e1:Op.equal t (.agg xs) (.agg ys)=Op.equalIn (9999+1) t (.agg xs) (.agg ys):=rfl
 rw [e1,run_equalIn_array w 9999 xs ys hu hi,List.range_eq_range']
 subst hn
 exact qBh h 9998 as bs 0 b hc (by simpa using hx) (by simpa using hy)
/-! bounds of a slice expression -/
theorem dH {x:Option AV} {v:Option Value} {d y n:Nat} {code:BoundsCode} (h:bnd x d y=some n) (hx:∀ a,x=some a -> ∃ u,v=some u/\R μ a u) (hn:x=none->v=none) :
  (v=none/\n=d) \/ ∃ u,v=some u/\(Instr.sliceBound u y code).run P w=.ok n w/\n<=y:=by
 unfold bnd at h
 split at h
 ·cases h;exact .inl ⟨hn rfl,rfl⟩
 ·rename_i k m
  split at h
  ·rename_i hb
   cases h
   obtain⟨u,hu,hr⟩:=hx _ rfl
   obtain rfl:=zK hr
   refine .inr ⟨_,hu,?_,by omega⟩
   unfold Instr.sliceBound
   rw [bind_ok (show (asIntOf (.int k m)).run P w=.ok (k,m) w from rfl)]
   simp only [hb,and_self,if_true]
   rfl
  ·cases h
 ·cases h
structure OptR (μ:Mu) (x:Option AV) (v:Option Value):Prop where
  some:∀ a,x=some a -> ∃ u,v=some u/\R μ a u
  none:x=none->v=none
theorem mM {x:Option Operand} {y:Option Opd} (h:qGL x=some y) (he:RE μ E a):OptR μ (y.map (·.ev E)) (x.map a.eval):=by
 cases x with
 | none=>simp [qGL] at h;subst h;exact⟨fun _ h=>by simp at h,fun _=>rfl⟩
 | some x =>
  simp only [qGL,Option.map_eq_some_iff] at h
  obtain⟨z,hz,rfl⟩:=h
  exact⟨fun b hb=>by simp at hb;subst hb;exact⟨_,rfl,vG hz he⟩,fun h=>by simp at h⟩
theorem pK {isSlice:Bool} {len cap:Nat} {lo hi mx:Option AV} {l h m:Nat} {vlo vhi vmx:Option Value} (hb:qGK len cap lo hi mx=some (l,h,m)) (hlc:len<=cap)
  (hlo:OptR μ lo vlo) (hhi:OptR μ hi vhi) (hmx:OptR μ mx vmx) :
  (Instr.sliceBounds isSlice len cap vlo vhi vmx).run P w=.ok (l,h,m) w/\l<=h/\h<=m/\m<=cap:=by
 unfold qGK at hb
 split at hb
 ·cases hb
 ·rename_i hne
  split at hb
  ·cases hb
  ·rename_i m' hm
   split at hb
   ·cases hb
   ·rename_i h' hh
    split at hb
    ·cases hb
    ·rename_i l' hl
     cases hb
     unfold Instr.sliceBounds
     cases vmx with
     | none =>
      have mx0:mx=none:=by
       cases mx with
       | none=>rfl
       | some a=>obtain⟨u,hu,_⟩:=hmx.some a rfl;cases hu
      subst mx0
      simp only [bnd,Option.some.injEq] at hm
      subst hm
      rw [bind_ok (show (pure cap:Sem Nat).run P w=.ok cap w from rfl)]
      rcases dH (P:=P) (w:=w) (code:=if isSlice then .sliceAcap else .sliceAlen) hh hhi.some hhi.none with ⟨rfl,rfl⟩ | ⟨u,rfl,hr,hle⟩
      ·rw [bind_ok (show (pure h:Sem Nat).run P w=.ok h w from rfl)]
       rcases dH (P:=P) (w:=w) (code:=.sliceB) hl hlo.some hlo.none with ⟨rfl,rfl⟩ | ⟨u,rfl,hr,hle⟩
       ·exact⟨by rw [bind_ok (show (pure 0:Sem Nat).run P w=.ok 0 w from rfl)];rfl,Nat.zero_le _,hlc,Nat.le_refl _⟩
       ·refine⟨?_,hle,hlc,Nat.le_refl _⟩
        simp only [Option.isSome_none,Bool.false_eq_true,if_false]
        rw [bind_ok hr];rfl
      ·simp only []
       rw [bind_ok hr]
       rcases dH (P:=P) (w:=w) (code:=.sliceB) hl hlo.some hlo.none with ⟨rfl,rfl⟩ | ⟨u',rfl,hr',hle'⟩
       ·exact⟨by rw [bind_ok (show (pure 0:Sem Nat).run P w=.ok 0 w from rfl)];rfl,Nat.zero_le _,hle,Nat.le_refl _⟩
       ·refine⟨?_,hle',hle,Nat.le_refl _⟩
        simp only [Option.isSome_none,Bool.false_eq_true,if_false]
        rw [bind_ok hr'];rfl
     | some um =>
      cases mx with
      | none=>have:=hmx.none rfl;cases this
      | some am =>
       cases hi with
       | none=>exact absurd rfl (hne am rfl)
       | some ah =>
        obtain⟨uh,hvh,_⟩:=hhi.some ah rfl
        subst hvh
        rcases dH (P:=P) (w:=w) (code:=if isSlice then .slice3Acap else .slice3Alen) hm hmx.some hmx.none with ⟨h0,_⟩ | ⟨u,hu,hr,hle⟩
        ·cases h0
        cases hu
        simp only []
        rw [bind_ok hr]
        rcases dH (P:=P) (w:=w) (code:=.slice3B) hh hhi.some hhi.none with ⟨h0,_⟩ | ⟨u',hu',hr',hle'⟩
        ·cases h0
        cases hu'
        rw [bind_ok hr']
        rcases dH (P:=P) (w:=w) (code:=.slice3C) hl hlo.some hlo.none with ⟨rfl,rfl⟩ | ⟨u'',rfl,hr'',hle''⟩
        ·exact⟨by rw [bind_ok (show (pure 0:Sem Nat).run P w=.ok 0 w from rfl)];rfl,Nat.zero_le _,hle',hle⟩
        ·refine⟨?_,hle'',hle',hle⟩
         simp only [Option.isSome_some,if_true]
         rw [bind_ok hr''];rfl
theorem uN {b:Addr} (h:b.spot=none) (n:Nat):b.add n=⟨b.block,b.off+n,none⟩:=by
 cases b with
 | mk bl o s=>simp at h;subst h;exact addr_add bl o n
theorem qKX {l o len cap sz x y m:Nat} {p:Option Addr} {n c:Nat} (h:R μ (.slice l o len cap sz) (.slice p n c)) (hxy:x<=y) (hym:y<=m) (hm:m<=cap) :
  R μ (.slice l (o+x * sz) (y - x) (m - x) sz) (.slice (if m=x then p else p.map (·.add (x * sz))) (y - x) (m - x)):=by
 by_cases hmx:m=x
 ·subst hmx
  obtain rfl:y=m:=by omega
  simp only [if_true,Nat.sub_self]
  obtain⟨ad,rfl⟩:∃ ad,p=some ad:=by
   generalize hs:AV.slice l o len cap sz=s at h
   generalize hv:Value.slice p n c=v at h
   cases h with
   | slice h hb hsp ho hl hc=>cases hv;exact⟨_,rfl⟩
   | slice0 q=>cases hv;exact⟨_,rfl⟩
   | _=>cases hs
  exact .slice0 _
 ·rw [if_neg hmx]
  generalize hs:AV.slice l o len cap sz=s at h
  cases h with
  | @slice l' o' len' cap' sz' li a hμ hb hsp ho hl hc =>
   cases hs
   have hc0:cap ≠ 0:=by omega
   have ho' : a.off=li.base+o:=ho.resolve_left hc0
   have e1:o+x * sz+(m - x) * sz=o+m * sz:=by
    have e2:m=x+(m - x):=by omega
    have:m * sz=x * sz+(m - x) * sz:=by rw [<- Nat.add_mul,<- e2]
    omega
   have e3:m * sz<=cap * sz:=Nat.mul_le_mul_right sz hm
   exact .slice hμ (by simp [uN hsp,hb]) (by simp [uN hsp]) (.inr (by simp [uN hsp];omega)) om om
  | slice0 p =>
   cases hs
   omega
  | _=>cases hs
/-! parts of a struct or an array put together -/
theorem qCo:∀ (us:List Value) (j off:Nat) (cs:Array Value),(us.zipIdx j).foldl (fun cs (c,j)=>cs.setIfInBounds (off+j) c) cs =
  ((cs.toList.take (off+j) ++ us ++ cs.toList.drop (off+j+us.length)).take cs.size).toArray
 | [],j,off,cs=>by
  apply Array.ext'
  simp [List.take_of_length_le]
 | u :: us,j,off,cs=>by
  rw [List.zipIdx_cons,List.foldl_cons,qCo us (j+1) off]
  apply Array.ext'
  simp only [Array.size_setIfInBounds,Array.toList_setIfInBounds]
  apply List.ext_getElem?
  intro i
  simp only [List.getElem?_take,List.getElem?_append,List.getElem?_drop,List.length_append,List.length_take,List.length_set,List.getElem?_set,Array.length_toList,List.length_cons]
  by_cases hi:i < cs.size
  ·simp only [hi,if_true]
   by_cases h1:i < off+j
   ·simp only [show i < off+(j+1) by omega,show ¬ (off+j=i) by omega,if_true,if_false]
    have a1:i < min (off+(j+1)) cs.size+us.length:=by omega
    have a2:i < min (off+(j+1)) cs.size:=by omega
    have a3:i < min (off+j) cs.size+(us.length+1):=by omega
    have a4:i < min (off+j) cs.size:=by omega
    simp [a1,a2,a3,a4,h1]
   ·by_cases h2:i=off+j
    ·subst h2
     have a1:off+j < min (off+(j+1)) cs.size+us.length:=by omega
     have a2:off+j < min (off+(j+1)) cs.size:=by omega
     have a3:off+j < min (off+j) cs.size+(us.length+1):=by omega
     have a4:¬ off+j < min (off+j) cs.size:=by omega
     have a5:off+j - min (off+j) cs.size=0:=by omega
     simp [a1,a2,a3,a4,a5,hi]
    ·by_cases h3:i < off+j+us.length+1
     ·have a1:i < min (off+(j+1)) cs.size+us.length:=by omega
      have a2:¬ i < min (off+(j+1)) cs.size:=by omega
      have a3:i < min (off+j) cs.size+(us.length+1):=by omega
      have a4:¬ i < min (off+j) cs.size:=by omega
      have a5:i - min (off+j) cs.size=(i - min (off+(j+1)) cs.size)+1:=by omega
      simp [a1,a2,a3,a4,a5]
     ·have a1:¬ i < min (off+(j+1)) cs.size+us.length:=by omega
      have a3:¬ i < min (off+j) cs.size+(us.length+1):=by omega
      have a6:off+(j+1)+us.length+(i - (min (off+(j+1)) cs.size+us.length))=i:=by omega
      have a7:off+j+(us.length+1)+(i - (min (off+j) cs.size+(us.length+1)))=i:=by omega
      simp [a1,a3,a6,a7,show ¬ (off+j=i) by omega]
  ·simp [hi]
theorem qKf {cs vs:List AV} {ds us:List Value} (h:RL μ cs ds) (hv:RL μ vs us) {off:Nat}:RL μ (laid cs off vs) (ds.take off ++ us ++ ds.drop (off+us.length)):=by
 unfold laid
 rw [<- hv.1]
 exact RL.append (RL.append (h.take off) hv) (h.drop _)
theorem qEF {x:AV} {v:Value} {vs:List AV} (hr:R μ x v) (hc:x.cells=some vs):RL μ vs v.cells.toList:=by
 have one:∀ {v:Value},R μ x v->x.cells=some [x]->v.cells = #[v]->RL μ [x] v.cells.toList:=fun h _ e=>by rw [e];exact RL.cons h RL.nil
 cases hr <;> simp only [AV.cells,Option.some.injEq,reduceCtorEq] at hc <;> subst hc <;>
  first
   | (refine RL.cons ?_ RL.nil;first | (exact .bool _) | (exact .int _ _) | (exact .flt ‹_› ‹_›) | (exact .nanbits ‹_› ‹_›) | (exact .str ‹_›) | (exact .ptr ‹_› ‹_›) | (exact .nilptr) | (exact .slice ‹_› ‹_› ‹_› ‹_› ‹_› ‹_›) | (exact .slice0 _) | (exact .nilslice) | (exact .map ‹_› ‹_›) | (exact .func ‹_› ‹_› ‹_› ‹_›) | (exact .nilfunc) | (exact .iface ‹_›) | (exact .niliface) | (exact .glob))
   | (exact R.aggL.1 (.agg ‹_› ‹_›))
end
end Go.Ab
end
/- All quiet operations. -/
section
namespace Go.Ab
section
variable {P:Program} {μ:Mu} {E:Env} {a:Act} {F:Nat->Prop} {H:AHeap} {w:World}
theorem pL {place:Nat->Option (Nat × Nat)}:∀ {ps:List (Nat × Operand)} {qs:List (Nat × Nat × Opd)} {cs ds:List AV} {vs:Array Value},
  ps.mapM (fun (i,x)=>do let y <- jE x;let p <- place i;some (p.1,p.2,y))=some qs->RE μ E a->RL μ cs vs.toList->uY E cs qs=some ds ->
  ∃ us:Array Value,Instr.fill place vs (ps.map fun (i,x)=>(i,a.eval x))=some us/\RL μ ds us.toList
 | [],qs,cs,ds,vs,hm,he,hr,hf=>by
  simp at hm;subst hm
  simp [uY] at hf;subst hf
  exact⟨vs,rfl,hr⟩
 | (i,x) :: ps,qs,cs,ds,vs,hm,he,hr,hf=>by
  simp only [List.mapM_cons,Option.bind_eq_bind,Option.bind_eq_some_iff,Option.pure_def,Option.some.injEq] at hm
  obtain⟨q,⟨y,hy,p,hp,rfl⟩,qs',hqs,rfl⟩:=hm
  simp only [uY] at hf
  split at hf
  ·rename_i ws hws
   split at hf
   ·rename_i hl
    have hR:=qEF (vG hy he) hws
    have hsz:(a.eval x).cells.size=p.2:=by rw [<- hl.1,hR.1];simp
    have A1:cs.length=vs.size:=by rw [hr.1];simp
    have A2:ws.length=(a.eval x).cells.size:=by rw [hR.1];simp
    have A3:=hl.1
    have A4:=hl.2
    have hR2:RL μ (laid cs p.1 ws) ((a.eval x).cells.zipIdx.foldl (fun cs (c,j)=>cs.setIfInBounds (p.1+j) c) vs).toList:=by
     rw [<- Array.foldl_toList,Array.toList_zipIdx,qCo]
     simp only [Nat.add_zero]
     rw [List.take_of_length_le (by
      simp only [List.length_append,List.length_take,List.length_drop,Array.length_toList]
      omega)]
     exact qKf hr hR
    obtain⟨us,h1,h2⟩:=pL hqs he hR2 hf
    refine⟨us,?_,h2⟩
    simp only [List.map_cons,Instr.fill,hp]
    rw [if_neg (by
     simp only [Bool.or_eq_true,decide_eq_true_eq,not_or]
     constructor <;> omega)]
    exact h1
   ·cases hf
  ·cases hf
theorem gM {t:TypeId} {zs:List AV} (h:wL P t=some zs):∃ z,(zeroValue t).run P w=.ok z w/\RL μ zs z.cells.toList:=by
 unfold wL at h
 split at h
 ·rename_i z hz
  cases hi:P.info? t with
  | none=>rw [hi] at hz;cases hz
  | some i =>
   rw [hi] at hz
   refine⟨z,?_,qBu (fun v x=>wV) h⟩
   unfold zeroValue
   rw [bind_ok (qBa hi)]
   have:i.zero=some z:=hz
   rw [this];rfl
 ·cases h
theorem qFv {α β:Type} {f:α->Option β} {g:α->Sem β} (hg:∀ x y,f x=some y->(g x).run P w=.ok y w):∀ {xs:List α} {ys:List β},xs.mapM f=some ys->(xs.mapM g).run P w=.ok ys w
 | [],ys,h=>by simp at h;subst h;rfl
 | x :: xs,ys,h=>by
  simp only [List.mapM_cons,Option.bind_eq_bind,Option.bind_eq_some_iff,Option.pure_def,Option.some.injEq] at h
  obtain⟨y,hy,ys',hys,rfl⟩:=h
  rw [List.mapM_cons,bind_ok (hg x y hy),bind_ok (qFv hg hys)];rfl
theorem qAR {f:Nat × Operand->Option (Nat × Nat × Opd)} {g:Nat × Operand->Option (Nat × Nat × Opd)} (hfg:∀ x y,f x=some y->g x=some y):∀ {xs:List (Nat × Operand)} {ys},xs.mapM f=some ys->xs.mapM g=some ys
 | [],ys,h=>by simpa using h
 | x :: xs,ys,h=>by
  simp only [List.mapM_cons,Option.bind_eq_bind,Option.bind_eq_some_iff,Option.pure_def,Option.some.injEq] at h ⊢
  obtain⟨y,hy,ys',hys,rfl⟩:=h
  exact⟨y,hfg x y hy,ys',qAR hfg hys,rfl⟩
theorem qGV {s k:FloatKind} {x:ON} {y:ON} (h:f2f s x k=some y) {b:Nat} (hb:b < 2^s.format.width) (hx:nrm s b=x):qV P μ w (Conv.floatToFloat s b k) (.flt k y):=by
 unfold f2f at h
 split at h
 ·cases h
  have hn:=kR hx
  obtain⟨sg,fr,hd⟩:=vF hn
  unfold Conv.floatToFloat
  by_cases hsk:s=k
  ·subst hsk
   simp only [if_true]
   exact qV.pure (.flt hx hb)
  ·rw [if_neg hsk,hd]
   have hc:=run_choose (P:=P) (w:=w) (.nanConv k b) rfl
   refine⟨_,_,?_,.inr ⟨w.drawn+1,rfl⟩,.flt (qBw k b (w.tape w.drawn (.nanConv k b))).1 (qBw k b (w.tape w.drawn (.nanConv k b))).2⟩
   rw [bind_ok' hc];rfl
 ·rename_i c
  obtain⟨rfl,hn⟩:=vA hx
  simp only [Option.map_eq_some_iff] at h
  obtain⟨r,hr,rfl⟩:=h
  have hwf:r < 2^k.format.width:=by
   have:=floatToFloatBits_wf (src:=s) (dst:=k) (by
    cases s
    ·exact(show _ by simpa [Lit.wf] using (show c < 4294967296 from hb))
    ·exact(show _ by simpa [Lit.wf] using (show c < 18446744073709551616 from hb))) hr
   cases k
   ·exact(show r < 4294967296 by simpa [Lit.wf] using this)
   ·exact(show r < 18446744073709551616 by simpa [Lit.wf] using this)
  unfold floatToFloatBits at hr
  unfold Conv.floatToFloat
  by_cases hsk:s=k
  ·subst hsk
   simp only [if_true,Option.some.injEq] at hr ⊢
   subst hr
   exact qV.pure (.flt hx hb)
  ·rw [if_neg hsk] at hr ⊢
   split at hr
   ·cases hr
   ·rename_i sg hd
    cases hr
    rw [hd]
    exact qV.pure (.flt (yY k rfl) hwf)
   ·rename_i sg m e hd
    split at hr
    ·cases hr
    ·rename_i ho
     cases hr
     rw [hd]
     simp only [ho,Bool.false_eq_true,if_false]
     exact qV.pure (.flt (yY k rfl) hwf)
 where
 bind_ok' {α β:Type} {P:Program} {s:Sem α} {f:α->Sem β} {w w' : World} {a:α} (h:s.run P w=.ok a w'):(s >>= f).run P w=(f a).run P w':=bind_ok h
theorem qDx:∀ {cs:List AV} {bs:List UInt8} {us:List Value},cs.mapM qJR=some bs->RL μ cs us -> ∃ ns:List Int,us=ns.map (Value.int .u8)/\bs=ns.map fun n=>UInt8.ofNat n.toNat
 | [],bs,us,h,hr=>by simp at h;subst h;rw [hr.nil_inv];exact⟨[],rfl,rfl⟩
 | c :: cs,bs,us,h,hr=>by
  simp only [List.mapM_cons,Option.bind_eq_bind,Option.bind_eq_some_iff,Option.pure_def,Option.some.injEq] at h
  obtain⟨b,hb,bs',hbs,rfl⟩:=h
  obtain⟨v,us',rfl,hR,hr'⟩:=hr.cons_inv
  obtain⟨ns,rfl,rfl⟩:=qDx hbs hr'
  unfold qJR at hb
  split at hb
  ·rename_i n
   cases hb
   obtain rfl:=zK hR
   exact⟨n :: ns,rfl,rfl⟩
  ·cases hb
theorem qCw:∀ (ns:List Int) (s:ByteArray),(ns.foldl (fun r n=>r.push (UInt8.ofNat n.toNat)) s).data.toList=s.data.toList ++ ns.map fun n=>UInt8.ofNat n.toNat
 | [],s=>by simp
 | n :: ns,s=>by rw [List.foldl_cons,qCw ns];simp [ByteArray.push]
theorem qFX {src dst:TypeId} {x:Operand} {c:Cv} {y:Opd} (hc:jH P (.convert src dst x)=some (.conv c y)) {r:AV} (hv:dS c H.get (y.ev E)=some r) (hs:Sim F μ H w) (he:RE μ E a) :
  qV P μ w (convert src dst (a.eval x)) r:=by
 simp only [jH] at hc
 have hR:∀ {z:Opd},jE x=some z->R μ (z.ev E) (a.eval x):=fun h=>vG h he
 split at hc
 ·rename_i k0 k hu hu'
  simp only [Option.bind_eq_bind,Option.bind_eq_some_iff,Option.some.injEq,AOp.conv.injEq] at hc
  obtain⟨z,hz,rfl,rfl⟩:=hc
  have hR:=hR hz
  unfold convert
  refine qV.bind (qG hu) (qV.bind (qG hu') ?_)
  unfold dS at hv
  split at hv
  ·rename_i e1 e2
   cases e1;cases hv
   rw [e2] at hR
   rw [zK hR]
   exact qV.pure (.int _ _)
  ·rename_i e1 e2
   cases e1;cases hv
   rw [e2] at hR
   obtain⟨n,e3,_,_⟩:=bB hR
   rw [e3]
   exact qV.pure (.any _)
  all_goals first | (rename_i e1 e2;cases e1;done) | (rename_i e1;cases e1;done) | cases hv
 ·rename_i k0 k hu hu'
  simp only [Option.bind_eq_bind,Option.bind_eq_some_iff,Option.some.injEq,AOp.conv.injEq] at hc
  obtain⟨z,hz,rfl,rfl⟩:=hc
  have hR:=hR hz
  unfold convert
  refine qV.bind (qG hu) (qV.bind (qG hu') ?_)
  unfold dS at hv
  split at hv
  all_goals first | (rename_i e1 e2;cases e1;done) | (rename_i e1;cases e1;done) | skip
  ·rename_i e1 e2
   cases e1;cases hv
   rw [e2] at hR
   rw [zK hR]
   refine qV.pure (.flt (yY _ rfl) ?_)
   unfold FloatKind.nearest
   exact k.format.write_lt _
  ·cases hv
 ·rename_i k0 k hu hu'
  simp only [Option.bind_eq_bind,Option.bind_eq_some_iff,Option.some.injEq,AOp.conv.injEq] at hc
  obtain⟨z,hz,rfl,rfl⟩:=hc
  have hR:=hR hz
  unfold dS at hv
  split at hv
  all_goals first | (rename_i e1 e2;cases e1;done) | (rename_i e1;cases e1;done) | skip
  ·rename_i e1 e2
   cases e1
   rw [e2] at hR
   obtain⟨b,e3,hb,hl⟩:=yB hR
   rw [e3]
   simp only [f2i,Option.map_eq_some_iff,Option.bind_eq_some_iff] at hv
   obtain⟨n,⟨b',hb',hn⟩,rfl⟩:=hv
   subst hb
   obtain⟨rfl,_⟩:=vA hb'
   exact⟨_,w,run_convert_float_int w src dst _ k b' n (by rw [hu];rfl) hu' hn,.inl rfl,.int _ _⟩
  ·cases hv
 ·rename_i k0 k hu hu'
  simp only [Option.bind_eq_bind,Option.bind_eq_some_iff,Option.some.injEq,AOp.conv.injEq] at hc
  obtain⟨z,hz,rfl,rfl⟩:=hc
  have hR:=hR hz
  unfold convert
  refine qV.bind (qG hu) (qV.bind (qG hu') ?_)
  unfold dS at hv
  split at hv
  all_goals first | (rename_i e1 e2;cases e1;done) | (rename_i e1;cases e1;done) | skip
  ·rename_i e1 e2
   cases e1
   rw [e2] at hR
   obtain⟨b,e3,hb,hl⟩:=yB hR
   rw [e3]
   simp only [Option.map_eq_some_iff] at hv
   obtain⟨y',hy',rfl⟩:=hv
   exact qGV hy' hl hb
  ·cases hv
 ·rename_i e hu hu'
  split at hc
  ·rename_i hue
   simp only [Option.bind_eq_bind,Option.bind_eq_some_iff,Option.some.injEq,AOp.conv.injEq] at hc
   obtain⟨z,hz,rfl,rfl⟩:=hc
   have hR:=hR hz
   unfold convert
   refine qV.bind (qG hu) (qV.bind (qG hu') ?_)
   have go:qV P μ w (Conv.bytesToString (a.eval x)) r:=by
    unfold dS at hv
    split at hv
    all_goals first | (rename_i e1 e2;cases e1;done) | (rename_i e1;cases e1;done) | skip
    ·rename_i e1 e2
     cases hv
     rw [e2] at hR
     cases hR' : a.eval x <;> rw [hR'] at hR <;> cases hR
     exact qV.pure (.str rfl)
    ·rename_i l o n cp sz e1 e2
     rw [e2] at hR
     split at hv
     ·rename_i hsz
      obtain⟨rfl,hn0⟩:=hsz
      split at hv
      ·rename_i cs wr hg
       split at hv
       ·rename_i hon
        simp only [Option.map_eq_some_iff] at hv
        obtain⟨bs,hbs,rfl⟩:=hv
        generalize a.eval x=v at hR
        generalize hsl:AV.slice l o n cp 1=sl at hR
        cases hR with
        | @slice l' o' n' cp' sz' li ad hμ hb hsp ho hl hc' =>
         cases hsl
         have ho' : ad.off=li.base+o:=ho.resolve_left om
         have had:ad=⟨li.blk,li.base+o,none⟩:=by cases ad;simp at *;simp [hb,ho',hsp]
         subst had
         obtain⟨us,hul,hur,huc⟩:=bF hs hg hμ hon
         obtain⟨ns,rfl,rfl⟩:=qDx hbs hur
         have hld:=jY (P:=P) huc
         rw [hul] at hld
         refine⟨_,w,run_bytesToString w _ _ _ ns hld,.inl rfl,.str ?_⟩
         rw [qCw];rfl
        | slice0 p=>cases hsl;omega
        | _=>cases hsl
       ·cases hv
      ·cases hv
     ·split at hv
      ·rename_i hn0
       cases hv
       subst hn0
       generalize a.eval x=v at hR
       generalize hsl:AV.slice l o 0 cp sz=sl at hR
       cases hR with
       | @slice l' o' n' cp' sz' li ad hμ hb hsp ho hl hc' =>
        cases hsl
        exact⟨_,w,run_bytesToString w ad 0 cp [] rfl,.inl rfl,.str rfl⟩
       | slice0 p =>
        cases hsl
        exact⟨_,w,run_bytesToString w p 0 0 [] rfl,.inl rfl,.str rfl⟩
       | _=>cases hsl
      ·cases hv
    ·cases hv
   generalize hv' : a.eval x=v at go hR
   cases v with
   | slice p n c =>
    simp only []
    refine qV.bind (qG hue) go
   | _=>exact(by
     obtain⟨v',w',h1,_⟩:=go
     simp only [Conv.bytesToString] at h1
     cases h1)
  ·cases hc
 ·cases hc
end
end Go.Ab
end
namespace Go.Ab
abbrev LL := List (List AV)
abbrev VK := AV -> AHeap -> Prop
end Go.Ab
