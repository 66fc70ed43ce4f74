/- Abstract values, abstract heaps, and what it means that a world holds them. -/
import Derived.Calls
import Derived.Orders
import Derived.Laws.World
import Derived.Laws.FloatArith
import Derived.KernelRfl
set_option linter.unusedVariables false
set_option linter.unusedSimpArgs false
namespace Go.Ab

/-- A float's bits, a NaN's forgotten. -/
def nrm (k : FloatKind) (b : Nat) : Option Nat := if (k.decode b).isNaN then none else some b

inductive AV where
  | any
  | undef
  | bool (b : Bool)
  | int (k : IntKind) (n : Int)
  | flt (k : FloatKind) (x : Option Nat)
  | nanbits
  | str (s : List UInt8)
  | ptr (l off : Nat)
  | nilptr
  | slice (l off len cap sz : Nat)
  | nilslice
  | map (l : Nat)
  | func (f : FuncId) (first captured : List AV)
  | nilfunc
  | iface (t : TypeId) (v : AV)
  | niliface
  | glob (g : Nat)
  | agg (cs : List AV)
  | tuple (cs : List AV)
  deriving Inhabited

/-- Where a location lies: its block, the block's cell that is its cell 0, and how many cells it may use. -/
structure LI where
  blk : Nat
  base : Nat
  lim : Nat

abbrev Mu := Nat → Option LI

inductive R (μ : Mu) : AV → Value → Prop where
  | any (v : Value) : R μ .any v
  | undef : R μ .undef Go.undef
  | bool (b : Bool) : R μ (.bool b) (.bool b)
  | int (k : IntKind) (n : Int) : R μ (.int k n) (.int k n)
  | flt {k : FloatKind} {b : Nat} {x : Option Nat} (h : nrm k b = x) (hb : b < 2 ^ k.format.width) : R μ (.flt k x) (.float k b)
  | nanbits {n : Nat} (h : nrm .f32 n = none) (hb : n < 2 ^ 32) : R μ .nanbits (.int .u32 n)
  | str {s : ByteArray} {l : List UInt8} (h : s.data.toList = l) : R μ (.str l) (.string s)
  | ptr {l off : Nat} {li : LI} {a : Addr} (h : μ l = some li) (ha : a = ⟨li.blk, li.base + off, none⟩) : R μ (.ptr l off) (.pointer (some a))
  | nilptr : R μ .nilptr (.pointer none)
  | slice {l off len cap sz : Nat} {li : LI} {a : Addr} (h : μ l = some li) (hb : a.block = li.blk) (hsp : a.spot = none)
      (ho : cap = 0 ∨ a.off = li.base + off) (hl : off + cap * sz ≤ li.lim) (hc : len ≤ cap) : R μ (.slice l off len cap sz) (.slice (some a) len cap)
  | slice0 {l off sz : Nat} (p : Option Addr) : R μ (.slice l off 0 0 sz) (.slice p 0 0)
  | nilslice : R μ .nilslice (.slice none 0 0)
  | map {l : Nat} {li : LI} {b : Nat} (h : μ l = some li) (hb : b = li.blk) : R μ (.map l) (.map (some b))
  | func {f : FuncId} {as bs : List AV} {vs us : Array Value} (h₁ : as.length = vs.size) (g₁ : ∀ (i : Nat) (a : AV) (v : Value), as[i]? = some a → vs[i]? = some v → R μ a v)
      (h₂ : bs.length = us.size) (g₂ : ∀ (i : Nat) (a : AV) (v : Value), bs[i]? = some a → us[i]? = some v → R μ a v) : R μ (.func f as bs) (.func (.func f) vs us)
  | nilfunc : R μ .nilfunc .nilFunc
  | iface {t : TypeId} {a : AV} {v : Value} (h : R μ a v) : R μ (.iface t a) (.iface t v)
  | niliface : R μ .niliface .nilIface
  | glob {g : Nat} : R μ (.glob g) (.pointer (some ⟨g, 0, none⟩))
  | agg {as : List AV} {vs : Array Value} (h : as.length = vs.size) (g : ∀ (i : Nat) (a : AV) (v : Value), as[i]? = some a → vs[i]? = some v → R μ a v) : R μ (.agg as) (.agg vs)
  | tuple {as : List AV} {vs : Array Value} (h : as.length = vs.size) (g : ∀ (i : Nat) (a : AV) (v : Value), as[i]? = some a → vs[i]? = some v → R μ a v) : R μ (.tuple as) (.tuple vs)

/-- Two lists of values, place by place. -/
def RL (μ : Mu) (as : List AV) (vs : List Value) : Prop := as.length = vs.length ∧ ∀ (i : Nat) (a : AV) (v : Value), as[i]? = some a → vs[i]? = some v → R μ a v

theorem RL.nil {μ : Mu} : RL μ [] [] := ⟨rfl, fun i a v h => by simp at h⟩
theorem RL.cons {μ : Mu} {a : AV} {v : Value} {as : List AV} {vs : List Value} (h : R μ a v) (hs : RL μ as vs) : RL μ (a :: as) (v :: vs) :=
  ⟨by simp [hs.1], fun i x y hx hy => by
    cases i with
    | zero => simp at hx hy; subst hx; subst hy; exact h
    | succ i => exact hs.2 i x y (by simpa using hx) (by simpa using hy)⟩
theorem RL.head {μ : Mu} {a : AV} {v : Value} {as : List AV} {vs : List Value} (h : RL μ (a :: as) (v :: vs)) : R μ a v := h.2 0 a v rfl rfl
theorem RL.tail {μ : Mu} {a : AV} {v : Value} {as : List AV} {vs : List Value} (h : RL μ (a :: as) (v :: vs)) : RL μ as vs :=
  ⟨by simpa using h.1, fun i x y hx hy => h.2 (i + 1) x y (by simpa using hx) (by simpa using hy)⟩
theorem RL.nil_inv {μ : Mu} {vs : List Value} (h : RL μ [] vs) : vs = [] := by
  cases vs with
  | nil => rfl
  | cons v vs => simp [RL] at h
theorem RL.cons_inv {μ : Mu} {a : AV} {as : List AV} {vs : List Value} (h : RL μ (a :: as) vs) : ∃ v us, vs = v :: us ∧ R μ a v ∧ RL μ as us := by
  cases vs with
  | nil => simp [RL] at h
  | cons v us => exact ⟨v, us, rfl, h.head, h.tail⟩
theorem RL.append {μ : Mu} {as bs : List AV} {vs us : List Value} (h : RL μ as vs) (h' : RL μ bs us) : RL μ (as ++ bs) (vs ++ us) := by
  induction as generalizing vs with
  | nil => rw [h.nil_inv]; exact h'
  | cons a as ih => obtain ⟨v, vs', rfl, h1, h2⟩ := h.cons_inv; exact RL.cons h1 (ih h2)
theorem RL.get {μ : Mu} {as : List AV} {vs : List Value} (h : RL μ as vs) {i : Nat} {a : AV} (ha : as[i]? = some a) : ∃ v, vs[i]? = some v ∧ R μ a v := by
  have hi : i < as.length := by
    rcases Nat.lt_or_ge i as.length with h' | h'
    · exact h'
    · rw [List.getElem?_eq_none h'] at ha; cases ha
  have hv : i < vs.length := h.1 ▸ hi
  exact ⟨vs[i], List.getElem?_eq_getElem hv, h.2 i a _ ha (List.getElem?_eq_getElem hv)⟩
theorem RL.drop {μ : Mu} {as : List AV} {vs : List Value} (h : RL μ as vs) (n : Nat) : RL μ (as.drop n) (vs.drop n) :=
  ⟨by simp [h.1], fun i a v ha hv => h.2 (n + i) a v (by simpa using ha) (by simpa using hv)⟩
theorem RL.take {μ : Mu} {as : List AV} {vs : List Value} (h : RL μ as vs) (n : Nat) : RL μ (as.take n) (vs.take n) :=
  ⟨by simp [h.1], fun i a v ha hv => by
    rw [List.getElem?_take] at ha hv
    split at ha
    · rename_i hi; rw [if_pos hi] at hv; exact h.2 i a v ha hv
    · cases ha⟩
theorem RL.set {μ : Mu} {as : List AV} {vs : List Value} (h : RL μ as vs) {a : AV} {v : Value} (n : Nat) (hr : R μ a v) : RL μ (as.set n a) (vs.set n v) :=
  ⟨by simp [h.1], fun i x y hx hy => by
    rw [List.getElem?_set] at hx hy
    split at hx
    · rename_i hi; rw [if_pos hi] at hy
      split at hx
      · cases hx
        split at hy
        · cases hy; exact hr
        · cases hy
      · cases hx
    · rename_i hi; rw [if_neg hi] at hy; exact h.2 i x y hx hy⟩

theorem R.aggL {μ : Mu} {as : List AV} {vs : Array Value} : R μ (.agg as) (.agg vs) ↔ RL μ as vs.toList :=
  ⟨fun h => by cases h with | agg h g => exact ⟨by simpa using h, fun i a v ha hv => g i a v ha (by simpa using hv)⟩,
   fun h => .agg (by simpa using h.1) (fun i a v ha hv => h.2 i a v ha (by simpa using hv))⟩
theorem R.agg_inv {μ : Mu} {as : List AV} {v : Value} (h : R μ (.agg as) v) : ∃ vs, v = .agg vs ∧ RL μ as vs.toList := by
  cases h with
  | agg h g => exact ⟨_, rfl, R.aggL.1 (.agg h g)⟩
theorem R.tuple_inv {μ : Mu} {as : List AV} {v : Value} (h : R μ (.tuple as) v) : ∃ vs, v = .tuple vs ∧ RL μ as vs.toList := by
  cases h with
  | tuple h g => exact ⟨_, rfl, by simpa using h, fun i a v ha hv => g i a v ha (by simpa using hv)⟩
theorem R.tupleL {μ : Mu} {as : List AV} {vs : Array Value} (h : RL μ as vs.toList) : R μ (.tuple as) (.tuple vs) :=
  .tuple (by simpa using h.1) (fun i a v ha hv => h.2 i a v ha (by simpa using hv))

/-- More is known of where locations lie. -/
def Mu.le (μ μ' : Mu) : Prop := ∀ l li, μ l = some li → μ' l = some li
theorem Mu.le_refl (μ : Mu) : μ.le μ := fun _ _ h => h
theorem Mu.le_trans {μ μ' μ'' : Mu} (h : μ.le μ') (h' : μ'.le μ'') : μ.le μ'' := fun l li x => h' l li (h l li x)

theorem R.mono {μ μ' : Mu} (hle : μ.le μ') {a : AV} {v : Value} (h : R μ a v) : R μ' a v := by
  induction h with
  | any v => exact .any v
  | undef => exact .undef
  | bool b => exact .bool b
  | int k n => exact .int k n
  | flt h hb => exact .flt h hb
  | nanbits h hb => exact .nanbits h hb
  | str h => exact .str h
  | ptr h ha => exact .ptr (hle _ _ h) ha
  | nilptr => exact .nilptr
  | slice h hb hsp ho hl hc => exact .slice (hle _ _ h) hb hsp ho hl hc
  | slice0 p => exact .slice0 p
  | nilslice => exact .nilslice
  | map h hb => exact .map (hle _ _ h) hb
  | func h₁ _ h₂ _ i₁ i₂ => exact .func h₁ i₁ h₂ i₂
  | nilfunc => exact .nilfunc
  | iface _ ih => exact .iface ih
  | niliface => exact .niliface
  | glob => exact .glob
  | agg h _ ih => exact .agg h ih
  | tuple h _ ih => exact .tuple h ih
theorem RL.mono {μ μ' : Mu} (hle : μ.le μ') {as : List AV} {vs : List Value} (h : RL μ as vs) : RL μ' as vs := ⟨h.1, fun i a v ha hv => (h.2 i a v ha hv).mono hle⟩

/-- All locations in a value are such. -/
inductive AV.On (p : Nat → Prop) : AV → Prop where
  | any : AV.On p .any
  | undef : AV.On p .undef
  | bool (b) : AV.On p (.bool b)
  | int (k m) : AV.On p (.int k m)
  | flt (k x) : AV.On p (.flt k x)
  | nanbits : AV.On p .nanbits
  | str (s) : AV.On p (.str s)
  | ptr {l off} (h : p l) : AV.On p (.ptr l off)
  | nilptr : AV.On p .nilptr
  | slice {l off len cap sz} (h : cap = 0 ∨ p l) : AV.On p (.slice l off len cap sz)
  | nilslice : AV.On p .nilslice
  | map {l} (h : p l) : AV.On p (.map l)
  | func {f as bs} (h₁ : ∀ a ∈ as, AV.On p a) (h₂ : ∀ a ∈ bs, AV.On p a) : AV.On p (.func f as bs)
  | nilfunc : AV.On p .nilfunc
  | iface {t a} (h : AV.On p a) : AV.On p (.iface t a)
  | niliface : AV.On p .niliface
  | glob {g} : AV.On p (.glob g)
  | agg {as} (h : ∀ a ∈ as, AV.On p a) : AV.On p (.agg as)
  | tuple {as} (h : ∀ a ∈ as, AV.On p a) : AV.On p (.tuple as)

theorem mem_get {as : List AV} {vs : Array Value} (h : as.length = vs.size) {a : AV} (ha : a ∈ as) : ∃ (i : Nat) (v : Value), as[i]? = some a ∧ vs[i]? = some v := by
  obtain ⟨i, hi, he⟩ := List.getElem_of_mem ha
  exact ⟨i, vs[i]'(h ▸ hi), by rw [List.getElem?_eq_getElem hi, he], by rw [Array.getElem?_eq_getElem (h ▸ hi)]⟩

theorem R.on {μ : Mu} {a : AV} {v : Value} (h : R μ a v) : AV.On (fun l => ∃ li, μ l = some li) a := by
  induction h with
  | any v => exact .any
  | undef => exact .undef
  | bool b => exact .bool b
  | int k n => exact .int k n
  | flt h hb => exact .flt _ _
  | nanbits h hb => exact .nanbits
  | str h => exact .str _
  | ptr h ha => exact .ptr ⟨_, h⟩
  | nilptr => exact .nilptr
  | slice h hb hsp ho hl hc => exact .slice (.inr ⟨_, h⟩)
  | slice0 p => exact .slice (.inl rfl)
  | nilslice => exact .nilslice
  | map h hb => exact .map ⟨_, h⟩
  | func h₁ _ h₂ _ i₁ i₂ =>
    exact .func (fun a ha => by obtain ⟨i, v, x, y⟩ := mem_get h₁ ha; exact i₁ i a v x y) (fun a ha => by obtain ⟨i, v, x, y⟩ := mem_get h₂ ha; exact i₂ i a v x y)
  | nilfunc => exact .nilfunc
  | iface _ ih => exact .iface ih
  | niliface => exact .niliface
  | glob => exact .glob
  | agg h _ ih => exact .agg (fun a ha => by obtain ⟨i, v, x, y⟩ := mem_get h ha; exact ih i a v x y)
  | tuple h _ ih => exact .tuple (fun a ha => by obtain ⟨i, v, x, y⟩ := mem_get h ha; exact ih i a v x y)

/-- A value reads the same under whatever agrees on its locations. -/
theorem R.agree {μ μ' : Mu} {p : Nat → Prop} (ha : ∀ l li, p l → μ l = some li → μ' l = some li) {a : AV} {v : Value} (h : R μ a v) (hlt : AV.On p a) : R μ' a v := by
  induction h with
  | any v => exact .any v
  | undef => exact .undef
  | bool b => exact .bool b
  | int k n => exact .int k n
  | flt h hb => exact .flt h hb
  | nanbits h hb => exact .nanbits h hb
  | str h => exact .str h
  | ptr h e => cases hlt with | ptr hl => exact .ptr (ha _ _ hl h) e
  | nilptr => exact .nilptr
  | @slice l off len cap sz li a h hb hsp ho hl hc =>
    cases hlt with
    | slice hl' =>
      rcases hl' with rfl | hl'
      · obtain rfl : len = 0 := by omega
        exact .slice0 _
      · exact .slice (ha _ _ hl' h) hb hsp ho hl hc
  | slice0 p => exact .slice0 p
  | nilslice => exact .nilslice
  | map h hb => cases hlt with | map hl => exact .map (ha _ _ hl h) hb
  | func h₁ _ h₂ _ i₁ i₂ =>
    cases hlt with
    | func l₁ l₂ => exact .func h₁ (fun i a v x y => i₁ i a v x y (l₁ a (List.mem_of_getElem? x))) h₂ (fun i a v x y => i₂ i a v x y (l₂ a (List.mem_of_getElem? x)))
  | nilfunc => exact .nilfunc
  | iface _ ih => cases hlt with | iface hl => exact .iface (ih hl)
  | niliface => exact .niliface
  | glob => exact .glob
  | agg h _ ih => cases hlt with | agg hl => exact .agg h (fun i a v x y => ih i a v x y (hl a (List.mem_of_getElem? x)))
  | tuple h _ ih => cases hlt with | tuple hl => exact .tuple h (fun i a v x y => ih i a v x y (hl a (List.mem_of_getElem? x)))

theorem AV.On.mono {p q : Nat → Prop} (hpq : ∀ l, p l → q l) {a : AV} (h : AV.On p a) : AV.On q a := by
  induction h with
  | any => exact .any
  | undef => exact .undef
  | bool b => exact .bool b
  | int k n => exact .int k n
  | flt k x => exact .flt _ _
  | nanbits => exact .nanbits
  | str h => exact .str _
  | ptr h => exact .ptr (hpq _ h)
  | nilptr => exact .nilptr
  | slice h => exact .slice (h.imp id (hpq _))
  | nilslice => exact .nilslice
  | map h => exact .map (hpq _ h)
  | func _ _ i₁ i₂ => exact .func i₁ i₂
  | nilfunc => exact .nilfunc
  | iface _ ih => exact .iface ih
  | niliface => exact .niliface
  | glob => exact .glob
  | agg _ ih => exact .agg ih
  | tuple _ ih => exact .tuple ih

/-- What a location holds. -/
inductive HB where
  | row (cs : List AV) (wr : Bool)
  | mp (es : List (AV × AV))
  deriving Inhabited

def HB.wr : HB → Bool
  | .row _ b => b
  | .mp _ => true
def HB.On (p : Nat → Prop) : HB → Prop
  | .row cs _ => ∀ a ∈ cs, AV.On p a
  | .mp es => ∀ e ∈ es, AV.On p e.1 ∧ AV.On p e.2

structure AHeap where
  next : Nat
  get : Nat → Option HB
  wf : ∀ l, next ≤ l → get l = none

namespace AHeap
def new (H : AHeap) (b : HB) : AHeap where
  next := H.next + 1
  get := fun l => if l = H.next then some b else H.get l
  wf := fun l h => by rw [if_neg (by omega)]; exact H.wf l (by omega)
/-- Other contents at a location that is there. -/
def put (H : AHeap) (l : Nat) (b : HB) : AHeap where
  next := H.next
  get := fun l' => if l' = l ∧ l < H.next then some b else H.get l'
  wf := fun l' h => by rw [if_neg (by omega)]; exact H.wf l' h
def del (H : AHeap) (l : Nat) : AHeap where
  next := H.next
  get := fun l' => if l' = l then none else H.get l'
  wf := fun l' h => by by_cases e : l' = l <;> simp [e]; exact H.wf l' h
theorem new_next (H : AHeap) (b : HB) : (H.new b).next = H.next + 1 := rfl
theorem put_next (H : AHeap) (l : Nat) (b : HB) : (H.put l b).next = H.next := rfl
theorem del_next (H : AHeap) (l : Nat) : (H.del l).next = H.next := rfl
theorem new_get (H : AHeap) (b : HB) (l : Nat) : (H.new b).get l = if l = H.next then some b else H.get l := rfl
theorem put_get (H : AHeap) (l : Nat) (b : HB) (l' : Nat) : (H.put l b).get l' = if l' = l ∧ l < H.next then some b else H.get l' := rfl
theorem del_get (H : AHeap) (l l' : Nat) : (H.del l).get l' = if l' = l then none else H.get l' := rfl
theorem lt_of_get (H : AHeap) {l : Nat} {b : HB} (h : H.get l = some b) : l < H.next := by
  rcases Nat.lt_or_ge l H.next with h' | h'
  · exact h'
  · rw [H.wf l h'] at h; cases h
end AHeap

/-- Below n nothing has turned of where locations lie. -/
def Mu.ext (n : Nat) (μ μ' : Mu) : Prop := ∀ l, l < n → μ' l = μ l
theorem Mu.ext_refl (n : Nat) (μ : Mu) : μ.ext n μ := fun _ _ => rfl
theorem Mu.ext_trans {n m : Nat} {μ μ' μ'' : Mu} (h : Mu.ext n μ μ') (h' : Mu.ext m μ' μ'') (hnm : n ≤ m) : Mu.ext n μ μ'' :=
  fun l hl => (h' l (by omega)).trans (h l hl)

/-- The world holds what the abstract heap says, under μ (of a location that lies nowhere nothing is asked); 'F' says which blocks may be written. -/
structure Sim (F : Nat → Prop) (μ : Mu) (H : AHeap) (w : World) : Prop where
  dom : ∀ l li, μ l = some li → l < H.next ∧ li.blk < w.heap.size
  row : ∀ l li cs wr, H.get l = some (.row cs wr) → μ l = some li → ∃ c e lo hi, w.heap[li.blk]? = some (.cells c e (lo, hi)) ∧ li.base + li.lim ≤ c.size ∧
    cs.length ≤ li.lim ∧ (∀ (i : Nat) (a : AV), cs[i]? = some a → ∃ v, c[li.base + i]? = some v ∧ R μ a v) ∧ (wr = true → ∀ o, li.base ≤ o → o < li.base + li.lim → ¬ (lo ≤ o ∧ o < hi))
  mp : ∀ l li es, H.get l = some (.mp es) → μ l = some li → ∃ ms ck, w.heap[li.blk]? = some (.map ms ck) ∧ ms.size = es.length ∧
    ∀ (i : Nat) (e : AV × AV) (m : MapEntry), es[i]? = some e → ms[i]? = some m → R μ e.1 m.key ∧ R μ e.2 m.val
  sep : ∀ l l' b b' li li', l ≠ l' → H.get l = some b → b.wr = true → H.get l' = some b' → μ l = some li → μ l' = some li' → li.blk ≠ li'.blk
  may : ∀ l b li, H.get l = some b → b.wr = true → μ l = some li → F li.blk
  fresh : ∀ b, w.heap.size ≤ b → F b

/-- Between two worlds of one call: the streams are the same, blocks outside F are the same. -/
structure Keeps (F : Nat → Prop) (w w' : World) : Prop where
  os : w'.os = w.os
  tape : w'.tape = w.tape
  output : w'.output = w.output
  size : w.heap.size ≤ w'.heap.size
  block : ∀ b, b < w.heap.size → ¬ F b → w'.heap[b]? = w.heap[b]?

theorem Keeps.refl (F : Nat → Prop) (w : World) : Keeps F w w := ⟨rfl, rfl, rfl, Nat.le_refl _, fun _ _ _ => rfl⟩
theorem Keeps.trans {F : Nat → Prop} {a b c : World} (h : Keeps F a b) (k : Keeps F b c) : Keeps F a c :=
  ⟨k.os.trans h.os, k.tape.trans h.tape, k.output.trans h.output, Nat.le_trans h.size k.size, fun i hi hf => (k.block i (Nat.lt_of_lt_of_le hi h.size) hf).trans (h.block i hi hf)⟩
theorem Keeps.drew {F : Nat → Prop} (w : World) (n : Nat) : Keeps F w { w with drawn := n } := ⟨rfl, rfl, rfl, Nat.le_refl _, fun _ _ _ => rfl⟩
theorem Keeps.mono {F F' : Nat → Prop} {w w' : World} (h : Keeps F w w') (hF : ∀ b, F b → F' b) : Keeps F' w w' :=
  ⟨h.os, h.tape, h.output, h.size, fun b hb hn => h.block b hb fun hf => hn (hF b hf)⟩

section
variable {F : Nat → Prop} {μ : Mu} {H : AHeap} {w : World}

theorem Sim.drew (h : Sim F μ H w) (n : Nat) : Sim F μ H { w with drawn := n } := ⟨h.dom, h.row, h.mp, h.sep, h.may, h.fresh⟩

theorem Sim.lt (h : Sim F μ H w) {a : AV} {v : Value} (hr : R μ a v) : AV.On (· < H.next) a :=
  hr.on.mono fun l ⟨li, hl⟩ => (h.dom l li hl).1

/-- What was true of a value stays true when more locations lie somewhere. -/
theorem Sim.lift (h : Sim F μ H w) {μ' : Mu} (he : Mu.ext H.next μ μ') {a : AV} {v : Value} (hr : R μ a v) : R μ' a v :=
  hr.mono fun l li hl => by rw [he l (h.dom l li hl).1]; exact hl
theorem Sim.liftL (h : Sim F μ H w) {μ' : Mu} (he : Mu.ext H.next μ μ') {as : List AV} {vs : List Value} (hr : RL μ as vs) : RL μ' as vs :=
  ⟨hr.1, fun i a v ha hv => h.lift he (hr.2 i a v ha hv)⟩
end

end Go.Ab
