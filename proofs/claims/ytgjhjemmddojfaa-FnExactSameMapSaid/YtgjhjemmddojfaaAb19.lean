/- Steps: what is left to show behind one operation, one piece of code. -/
import Derived.Test.YtgjhjemmddojfaaAb18
import Derived.Laws.BitsLemmas
set_option linter.unusedVariables false
set_option linter.unusedSimpArgs false
namespace Go.Ab

def seqK (P : Program) (b : ACode) (Q : AExit → Env → AHeap → Prop) : AExit → Env → AHeap → Prop := fun e E H => match e with
  | .normal => aexec P b Q E H
  | .exit id => Q (.exit id) E H
  | .ret => Q .ret E H
def blockK (id : Nat) (Q : AExit → Env → AHeap → Prop) : AExit → Env → AHeap → Prop := fun e E H => match e with
  | .normal => Q .normal E H
  | .exit i => if i = id then Q .normal E H else Q (.exit i) E H
  | .ret => Q .ret E H
def loopK (X : Env → AHeap → Prop) (Q : AExit → Env → AHeap → Prop) : AExit → Env → AHeap → Prop := fun e E H => match e with
  | .normal => X E H
  | .exit id => Q (.exit id) E H
  | .ret => Q .ret E H
/-- The end of a body. -/
def endK (rs : List ARes) (H : AHeap) (Q : AV → AHeap → Prop) : AExit → Env → AHeap → Prop := fun e E Hc => match e with
  | .exit _ => False
  | _ => ∃ r, aresults rs E Hc = some r ∧ Fin H Hc r Q

mutual
/-- No location is named. -/
def AV.flat : AV → Bool
  | .any => true
  | .undef => true
  | .bool _ => true
  | .int _ _ => true
  | .flt _ _ => true
  | .nanbits => true
  | .str _ => true
  | .ptr _ _ => false
  | .nilptr => true
  | .slice _ _ _ _ _ => false
  | .nilslice => true
  | .map _ => false
  | .func _ as bs => flatL as && flatL bs
  | .nilfunc => true
  | .iface _ a => a.flat
  | .niliface => true
  | .glob _ => true
  | .agg cs => flatL cs
  | .tuple cs => flatL cs
def flatL : List AV → Bool
  | [] => true
  | a :: as => a.flat && flatL as
end
mutual
theorem on_of_flat {p : Nat → Prop} : ∀ {a : AV}, a.flat = true → a.On p
  | .any, _ => .any
  | .undef, _ => .undef
  | .bool _, _ => .bool _
  | .int _ _, _ => .int _ _
  | .flt _ _, _ => .flt _ _
  | .nanbits, _ => .nanbits
  | .str _, _ => .str _
  | .ptr _ _, h => by cases h
  | .nilptr, _ => .nilptr
  | .slice _ _ _ _ _, h => by cases h
  | .nilslice, _ => .nilslice
  | .map _, h => by cases h
  | .func _ as bs, h => by
    simp only [AV.flat, Bool.and_eq_true] at h
    exact .func (on_of_flatL h.1) (on_of_flatL h.2)
  | .nilfunc, _ => .nilfunc
  | .iface _ a, h => by
    simp only [AV.flat] at h
    exact .iface (on_of_flat h)
  | .niliface, _ => .niliface
  | .glob _, _ => .glob
  | .agg cs, h => by
    simp only [AV.flat] at h
    exact .agg (on_of_flatL h)
  | .tuple cs, h => by
    simp only [AV.flat] at h
    exact .tuple (on_of_flatL h)
theorem on_of_flatL {p : Nat → Prop} : ∀ {as : List AV}, flatL as = true → ∀ a ∈ as, a.On p
  | [], _ => fun a h => by cases h
  | b :: bs, h => by
    simp only [flatL, Bool.and_eq_true] at h
    have h1 : AV.On p b := on_of_flat h.1
    have h2 : ∀ a ∈ bs, AV.On p a := on_of_flatL h.2
    intro a ha
    rcases List.mem_cons.1 ha with e | ha
    · rw [e]; exact h1
    · exact h2 a ha
end
theorem fin_flat {H Hc : AHeap} {r : AV} {Q : AV → AHeap → Prop} (hg : Grew H Hc) (hr : r.flat = true) (hQ : Q r H) : Fin H Hc r Q := fin_plain hg (on_of_flat hr) hQ

theorem get_new_ne {H : AHeap} {b : HB} {l : Nat} (h : l ≠ H.next) : (H.new b).get l = H.get l := by rw [AHeap.new_get, if_neg h]
theorem get_new_eq {H : AHeap} {b : HB} {l : Nat} (h : l = H.next) : (H.new b).get l = some b := by rw [AHeap.new_get, if_pos h]
theorem get_put_ne {H : AHeap} {b : HB} {l l' : Nat} (h : l' ≠ l) : (H.put l b).get l' = H.get l' := by rw [AHeap.put_get, if_neg (fun x => h x.1)]
theorem get_put_eq {H : AHeap} {b : HB} {l l' : Nat} (h : l' = l) (h2 : l < H.next) : (H.put l b).get l' = some b := by rw [AHeap.put_get, if_pos ⟨h, h2⟩]
theorem get_del_ne {H : AHeap} {l l' : Nat} (h : l' ≠ l) : (H.del l).get l' = H.get l' := by rw [AHeap.del_get, if_neg h]

theorem new_put {H : AHeap} {b c : HB} : (H.new b).put H.next c = H.new c := AHeap.ext' rfl fun l => by
  rw [AHeap.put_get, AHeap.new_get, AHeap.new_get, AHeap.new_next]
  by_cases h : l = H.next
  · rw [if_pos ⟨h, by omega⟩, if_pos h]
  · rw [if_neg (fun x => h x.1), if_neg h, if_neg h]

theorem wrap_i64 {n : Int} (h1 : -9223372036854775808 ≤ n) (h2 : n ≤ 9223372036854775807) : IntKind.i64.wrap n = n := by
  rw [IntKind.wrap_i64]; omega

section
variable {P : Program} {E : Env} {H : AHeap} {k : Env → AHeap → Prop} {Q : AExit → Env → AHeap → Prop} {d : Option Nat} {rest : List AOper}

theorem ax_skip (h : Q .normal E H) : aexec P .skip Q E H := h
theorem ax_run {ops : List AOper} (h : arun P ops E H (Q .normal)) : aexec P (.run ops) Q E H := h
theorem ax_seq {a b : ACode} (h : aexec P a (seqK P b Q) E H) : aexec P (.seq a b) Q E H := h
theorem sk_normal {b : ACode} (h : aexec P b Q E H) : seqK P b Q .normal E H := h
theorem sk_exit {b : ACode} {id : Nat} (h : Q (.exit id) E H) : seqK P b Q (.exit id) E H := h
theorem sk_ret {b : ACode} (h : Q .ret E H) : seqK P b Q .ret E H := h
theorem ax_cond {c : Opd} {a b : ACode} {t : Bool} (hc : c.ev E = .bool t) (h₁ : t = true → aexec P a Q E H) (h₂ : t = false → aexec P b Q E H) : aexec P (.cond c a b) Q E H := by
  simp only [aexec, hc]
  cases t with
  | true => exact h₁ rfl
  | false => exact h₂ rfl
theorem ax_condT {c : Opd} {a b : ACode} (hc : c.ev E = .bool true) (h : aexec P a Q E H) : aexec P (.cond c a b) Q E H := ax_cond hc (fun _ => h) (fun h => by cases h)
theorem ax_condF {c : Opd} {a b : ACode} (hc : c.ev E = .bool false) (h : aexec P b Q E H) : aexec P (.cond c a b) Q E H := ax_cond hc (fun h => by cases h) (fun _ => h)
theorem ax_block {id : Nat} {a : ACode} (h : aexec P a (blockK id Q) E H) : aexec P (.block id a) Q E H := h
theorem bk_normal {id : Nat} (h : Q .normal E H) : blockK id Q .normal E H := h
theorem bk_exit {id : Nat} (h : Q .normal E H) : blockK id Q (.exit id) E H := by show if id = id then _ else _; rw [if_pos rfl]; exact h
theorem bk_other {id i : Nat} (hi : i ≠ id) (h : Q (.exit i) E H) : blockK id Q (.exit i) E H := by show if i = id then _ else _; rw [if_neg hi]; exact h
theorem bk_ret {id : Nat} (h : Q .ret E H) : blockK id Q .ret E H := h
theorem ax_exit {id : Nat} (h : Q (.exit id) E H) : aexec P (.exit id) Q E H := h
theorem ax_ret (h : Q .ret E H) : aexec P .ret Q E H := h
theorem ax_step {a : ACode} (h : aexec P a (loopK (aexec P (.loop a) Q) Q) E H) : aexec P (.loop a) Q E H := aloop_step h
theorem lk_normal {X : Env → AHeap → Prop} (h : X E H) : loopK X Q .normal E H := h
theorem lk_exit {X : Env → AHeap → Prop} {id : Nat} (h : Q (.exit id) E H) : loopK X Q (.exit id) E H := h
theorem lk_ret {X : Env → AHeap → Prop} (h : Q .ret E H) : loopK X Q .ret E H := h
theorem ax_loop {a : ACode} (I : Nat → Env → AHeap → Prop) (n : Nat) (h : I n E H) (hr : ∀ n E H, I n E H → aexec P a (loopK (fun E' H' => ∃ m, m < n ∧ I m E' H') Q) E H) : aexec P (.loop a) Q E H := aloop_inv I n h hr
theorem ax_cut {a b : ACode} {M : Env → AHeap → Prop} (h : aexec P a (fun e E H => match e with | .normal => M E H | .exit id => Q (.exit id) E H | .ret => Q .ret E H) E H) (hm : ∀ E H, M E H → aexec P b Q E H) : aexec P (.seq a b) Q E H := by
  refine ax_seq (aexec_mono (fun e E H h => ?_) h)
  cases e with
  | normal => exact hm E H h
  | exit id => exact h
  | ret => exact h

def mixK (P : Program) (kids : AKids) (k : Env → AHeap → Prop) : Env → AHeap → Prop := fun E H => (kids.isNil = true → k E H) ∧ akids P kids E H k
def kidK (P : Program) (free : Bool) (H : AHeap) (t : ATree) (k : Env → AHeap → Prop) : Env → AHeap → Prop := fun E' H' => (free = true ∨ Grew H H') ∧ amix P t E' H' k
theorem ax_mix {t : ATree} (h : amix P t E H (Q .normal)) : aexec P (.mix t) Q E H := h
theorem am_node {qs : List AOper} {kids : AKids} (h : arun P qs E H (mixK P kids k)) : amix P (.node qs kids) E H k := by simp only [amix]; exact h
theorem mk_nil (h : k E H) : mixK P .nil k E H := ⟨fun _ => h, by simp only [akids]⟩
theorem mk_one {free : Bool} {o : AOper} {t : ATree} (h : arun P [o] E H (kidK P free H t k)) : mixK P (.cons free o t .nil) k E H := ⟨fun h => (by cases h), by simp only [akids]; exact ⟨h, trivial⟩⟩
theorem mk_two {free free' : Bool} {o o' : AOper} {t t' : ATree} (h : arun P [o] E H (kidK P free H t k)) (h' : arun P [o'] E H (kidK P free' H t' k)) : mixK P (.cons free o t (.cons free' o' t' .nil)) k E H := ⟨fun h => (by cases h), by simp only [akids]; exact ⟨h, h', trivial⟩⟩
theorem kd_free {t : ATree} {H0 : AHeap} (h : amix P t E H k) : kidK P true H0 t k E H := ⟨.inl rfl, h⟩
theorem kd_grew {t : ATree} {H0 : AHeap} (hg : Grew H0 H) (h : amix P t E H k) : kidK P false H0 t k E H := ⟨.inr hg, h⟩

theorem ek_normal {rs : List ARes} {H0 : AHeap} {R : AV → AHeap → Prop} {r : AV} (h : aresults rs E H = some r) (hf : Fin H0 H r R) : endK rs H0 R .normal E H := ⟨r, h, hf⟩
theorem ek_ret {rs : List ARes} {H0 : AHeap} {R : AV → AHeap → Prop} {r : AV} (h : aresults rs E H = some r) (hf : Fin H0 H r R) : endK rs H0 R .ret E H := ⟨r, h, hf⟩

theorem acalls {f : FuncId} {n : Nat} {rs : List ARes} {body : ACode} (hf : cFun P f = some ⟨n, rs, body⟩) {args : List AV} {R : AV → AHeap → Prop} (hargs : args.length ≤ n)
    (h : aexec P body (endK rs H R) (Env.start args) H) : ACalls P f args H R := acalls_of hf hargs h

theorem ar_nil (h : k E H) : arun P [] E H k := h
theorem ar_q {op : AOp} {r : AV} (hq : op.quiet = true) (hv : aval E H.get op = some r) (h : arun P rest (E.put d r) H k) : arun P (⟨d, op, none⟩ :: rest) E H k := by
  simp only [arun]
  cases op <;> first | (cases hq; done) | (simp only [aeff]; rw [hv]; exact h)
theorem ar_move {x : Opd} {r : AV} (hv : x.ev E = r) (h : arun P rest (E.put d r) H k) : arun P (⟨d, .move x, none⟩ :: rest) E H k := ar_q rfl (by simp only [aval]; rw [hv]) h
theorem ar_alloc {zs : List AV} {n : Nat} (hn : H.next = n) (h : arun P rest (E.put d (.ptr n 0)) (H.new (.row zs true)) k) : arun P (⟨d, .alloc zs, none⟩ :: rest) E H k := by subst hn; exact h
theorem ar_box {x : Opd} {cs : List AV} {n : Nat} (hx : (x.ev E).cells = some cs) (hn : H.next = n) (h : arun P rest (E.put d (.ptr n 0)) (H.new (.row cs true)) k) : arun P (⟨d, .box x, none⟩ :: rest) E H k := by
  subst hn
  simp only [arun, aeff, hx]; exact h
theorem ar_bslice {sz len : Nat} {zs cs : List AV} {parts : List (Nat × Nat × Opd)} {n : Nat} (hx : fillA E zs parts = some cs) (hn : H.next = n) (h : arun P rest (E.put d (.slice n 0 len len sz)) (H.new (.row cs true)) k) : arun P (⟨d, .bslice sz len zs parts, none⟩ :: rest) E H k := by
  subst hn
  simp only [arun, aeff, hx]; exact h
theorem ar_store {n l off : Nat} {x y : Opd} {cs vs : List AV} (hx : x.ev E = .ptr l off) (hg : H.get l = some (.row cs true)) (hy : (y.ev E).cells = some vs) (hn : vs.length = n) (ho : off + n ≤ cs.length) (h1 : vs.all AV.one = true) {ds : List AV} (hd : laid cs off vs = ds)
    (h : arun P rest (E.put d .undef) (H.put l (.row ds true)) k) : arun P (⟨d, .store n x y, none⟩ :: rest) E H k := by
  subst hd
  simp only [arun, aeff, hx, hg, hy]
  rw [if_pos ⟨hn, ho, h1⟩]; exact h
theorem ar_mk {sz bytes : Nat} {zs : List AV} {x y : Opd} {k1 k2 : IntKind} {n c : Int} (hx : x.ev E = .int k1 n) (hy : y.ev E = .int k2 c) (h1 : 0 ≤ n) (h2 : n ≤ c) (h3 : (bytes : Int) * c ≤ 2 ^ 48) (h4 : c ≤ 9223372036854775807)
    {l : Nat} (hn : H.next = l) (h : arun P rest (E.put d (.slice l 0 n.toNat c.toNat sz)) (H.new (.row (List.replicate c.toNat zs).flatten true)) k) : arun P (⟨d, .mkSlice sz bytes zs x y, none⟩ :: rest) E H k := by
  subst hn
  simp only [arun, aeff, hx, hy]
  rw [if_pos ⟨h1, h2, h3, h4⟩]; exact h
theorem ar_mkN {sz bytes : Nat} {zs : List AV} {x y : Opd} {k1 k2 : IntKind} {n c : Nat} (hx : x.ev E = .int k1 (n : Nat)) (hy : y.ev E = .int k2 (c : Nat)) (h2 : n ≤ c) (h3 : bytes * c ≤ 281474976710656) (h4 : c ≤ 9223372036854775807)
    {l : Nat} (hn : H.next = l) (h : arun P rest (E.put d (.slice l 0 n c sz)) (H.new (.row (List.replicate c zs).flatten true)) k) : arun P (⟨d, .mkSlice sz bytes zs x y, none⟩ :: rest) E H k := by
  refine ar_mk hx hy (by omega) (by omega) ?_ (by omega) hn ?_
  · have : ((bytes * c : Nat) : Int) ≤ ((281474976710656 : Nat) : Int) := Int.ofNat_le.2 h3
    rw [Int.natCast_mul] at this
    exact this
  · simpa using h
theorem ar_mk0 {sz bytes : Nat} {zs : List AV} {x y : Opd} {k1 k2 : IntKind} (hx : x.ev E = .int k1 0) (hy : y.ev E = .int k2 0) {l : Nat} (hn : H.next = l) (h : arun P rest (E.put d (.slice l 0 0 0 sz)) (H.new (.row [] true)) k) : arun P (⟨d, .mkSlice sz bytes zs x y, none⟩ :: rest) E H k := by
  refine ar_mk hx hy (by omega) (by omega) (by simp) (by omega) hn ?_
  simpa using h
theorem ar_call {f : FuncId} {args : List Opd} {R : AV → AHeap → Prop} (hc : ACalls P f (args.map (·.ev E)) H R) (h : ∀ r H', R r H' → arun P rest (E.put d r) H' k) : arun P (⟨d, .call f args, none⟩ :: rest) E H k := by
  simp only [arun, aeff]
  exact hc.mono h
theorem ar_callV {g : Opd} {f : FuncId} {first cap : List AV} {args : List Opd} {R : AV → AHeap → Prop} (hg : g.ev E = .func f first cap) (hc : ACalls P f (first ++ args.map (·.ev E) ++ cap) H R) (h : ∀ r H', R r H' → arun P rest (E.put d r) H' k) : arun P (⟨d, .callV g args, none⟩ :: rest) E H k := by
  simp only [arun, aeff, hg]
  exact hc.mono h
/-- Behind a call that turns nothing and gives just this. -/
theorem ar_pure {f : FuncId} {args : List Opd} {r : AV} (hc : APure P f (args.map (·.ev E)) H r) (h : arun P rest (E.put d r) H k) : arun P (⟨d, .call f args, none⟩ :: rest) E H k :=
  ar_call hc (by rintro r' H' ⟨rfl, rfl⟩; exact h)
theorem ar_pureV {g : Opd} {f : FuncId} {first cap : List AV} {args : List Opd} {r : AV} (hg : g.ev E = .func f first cap) (hc : APure P f (first ++ args.map (·.ev E) ++ cap) H r) (h : arun P rest (E.put d r) H k) : arun P (⟨d, .callV g args, none⟩ :: rest) E H k :=
  ar_callV hg hc (by rintro r' H' ⟨rfl, rfl⟩; exact h)

theorem ar_iaArr {len sz l o m a : Nat} {x i : Opd} {kk : IntKind} {n : Int} (hx : x.ev E = .ptr l o) (hi : i.ev E = .int kk n) (hm : n = (m : Int)) (hlt : m < len) (ha : o + m * sz = a) (h : arun P rest (E.put d (.ptr l a)) H k) : arun P (⟨d, .iaArr len sz x i, none⟩ :: rest) E H k := by
  subst hm; subst ha
  exact ar_q rfl (by simp only [aval, hx, hi]; rw [if_pos ⟨by omega, by omega⟩, Int.toNat_natCast]) h
theorem ar_iaSl {sz l o len cap m a : Nat} {x i : Opd} {kk : IntKind} {n : Int} (hx : x.ev E = .slice l o len cap sz) (hi : i.ev E = .int kk n) (hm : n = (m : Int)) (hlt : m < len) (ha : o + m * sz = a) (h : arun P rest (E.put d (.ptr l a)) H k) : arun P (⟨d, .iaSl sz x i, none⟩ :: rest) E H k := by
  subst hm; subst ha
  exact ar_q rfl (by simp only [aval, hx, hi]; rw [if_pos ⟨trivial, by omega, by omega⟩, Int.toNat_natCast]) h
theorem ar_load {ag : Bool} {n l off : Nat} {x : Opd} {cs : List AV} {wr : Bool} {r : AV} (hx : x.ev E = .ptr l off) (hg : H.get l = some (.row cs wr)) (hp : part ag n off cs = some r) (h : arun P rest (E.put d r) H k) : arun P (⟨d, .load ag n x, none⟩ :: rest) E H k :=
  ar_q rfl (by simp only [aval, hx, hg, hp]) h
theorem ar_faddr {off l o a : Nat} {x : Opd} (hx : x.ev E = .ptr l o) (ha : o + off = a) (h : arun P rest (E.put d (.ptr l a)) H k) : arun P (⟨d, .faddr off x, none⟩ :: rest) E H k := by
  subst ha; exact ar_q rfl (by simp only [aval, hx]) h
theorem ar_add {x y : Opd} {a b c : Int} (hx : x.ev E = .int .i64 a) (hy : y.ev E = .int .i64 b) (hc : a + b = c) (h1 : -9223372036854775808 ≤ c) (h2 : c ≤ 9223372036854775807) (h : arun P rest (E.put d (.int .i64 c)) H k) : arun P (⟨d, .bin .add x y, none⟩ :: rest) E H k := by
  subst hc
  refine ar_q rfl (by simp only [aval, hx, hy, binA, if_true]; rw [wrap_i64 h1 h2]) h
theorem ar_sub {x y : Opd} {a b c : Int} (hx : x.ev E = .int .i64 a) (hy : y.ev E = .int .i64 b) (hc : a - b = c) (h1 : -9223372036854775808 ≤ c) (h2 : c ≤ 9223372036854775807) (h : arun P rest (E.put d (.int .i64 c)) H k) : arun P (⟨d, .bin .sub x y, none⟩ :: rest) E H k := by
  subst hc
  refine ar_q rfl (by simp only [aval, hx, hy, binA, if_true]; rw [wrap_i64 h1 h2]) h
theorem ar_mul {x y : Opd} {a b c : Int} (hx : x.ev E = .int .i64 a) (hy : y.ev E = .int .i64 b) (hc : a * b = c) (h1 : -9223372036854775808 ≤ c) (h2 : c ≤ 9223372036854775807) (h : arun P rest (E.put d (.int .i64 c)) H k) : arun P (⟨d, .bin .mul x y, none⟩ :: rest) E H k := by
  subst hc
  refine ar_q rfl (by simp only [aval, hx, hy, binA, if_true]; rw [wrap_i64 h1 h2]) h
/-- A test of integers, decided. -/
theorem ar_lssT {x y : Opd} {kk : IntKind} {a b : Int} (hx : x.ev E = .int kk a) (hy : y.ev E = .int kk b) (hc : a < b) (h : arun P rest (E.put d (.bool true)) H k) : arun P (⟨d, .bin .lss x y, none⟩ :: rest) E H k :=
  ar_q rfl (by simp only [aval, hx, hy, binA, if_true, decide_eq_true hc]) h
theorem ar_lssF {x y : Opd} {kk : IntKind} {a b : Int} (hx : x.ev E = .int kk a) (hy : y.ev E = .int kk b) (hc : b ≤ a) (h : arun P rest (E.put d (.bool false)) H k) : arun P (⟨d, .bin .lss x y, none⟩ :: rest) E H k :=
  ar_q rfl (by simp only [aval, hx, hy, binA, if_true, decide_eq_false (Int.not_lt.2 hc)]) h

-- under a guard
theorem ar_gT {t : Nat} {want : Bool} {op : AOp} {r : AV} (hg : E t = .bool want) (hq : op.quiet = true) (hv : aval E H.get op = some r) (h : arun P rest (E.put d r) H k) : arun P (⟨d, op, some (t, want)⟩ :: rest) E H k := by
  simp only [arun]
  refine ⟨by rw [hg]; trivial, ?_⟩
  unfold gstep
  cases op <;> first | (cases hq; done) | (simp only []; rw [hv, hg]; simp only [AV.yb, if_true]; exact h)
theorem ar_gF {t : Nat} {want : Bool} {op : AOp} {b : AV} (hg : E t = b) (hb : b.det) (hn : b.yb ≠ some want) (hq : op.quiet = true) (h : arun P rest (E.put d .undef) H k) : arun P (⟨d, op, some (t, want)⟩ :: rest) E H k := by
  simp only [arun]
  refine ⟨by rw [hg]; exact hb, ?_⟩
  unfold gstep
  cases op <;> first | (cases hq; done) | (simp only []; rw [hg]; split <;> first | (rw [if_neg hn]; exact h) | exact ⟨hn, h⟩)
theorem ar_gcT {t : Nat} {want : Bool} {f : FuncId} {args : List Opd} {r : AV} (hg : E t = .bool want) (hc : APure P f (args.map (·.ev E)) H r) (h : arun P rest (E.put d r) H k) : arun P (⟨d, .call f args, some (t, want)⟩ :: rest) E H k := by
  simp only [arun]
  refine ⟨by rw [hg]; trivial, ?_⟩
  unfold gstep
  simp only []
  exact ⟨r, fun _ => hc, by rw [hg]; simp only [AV.yb, if_true]; exact h⟩
theorem ar_gcF {t : Nat} {want : Bool} {f : FuncId} {args : List Opd} {b : AV} (hg : E t = b) (hb : b.det) (hn : b.yb ≠ some want) (h : arun P rest (E.put d .undef) H k) : arun P (⟨d, .call f args, some (t, want)⟩ :: rest) E H k := by
  simp only [arun]
  refine ⟨by rw [hg]; exact hb, ?_⟩
  unfold gstep
  simp only []
  exact ⟨.undef, fun hc => by rw [hg] at hc; exact absurd hc hn, by rw [hg, if_neg hn]; exact h⟩
theorem ar_gsplit {t : Nat} {want : Bool} {op : AOp} {b : Bool} (hg : E t = .bool b) (h₁ : b = true → arun P (⟨d, op, some (t, want)⟩ :: rest) E H k) (h₂ : b = false → arun P (⟨d, op, some (t, want)⟩ :: rest) E H k) : arun P (⟨d, op, some (t, want)⟩ :: rest) E H k := by
  cases b with
  | true => exact h₁ rfl
  | false => exact h₂ rfl

def tup : List AV → AV
  | [x] => x
  | xs => .tuple xs
theorem al_nil : aresL E H [] = some [] := rfl
theorem al_tmp {t : Nat} {x : AV} {rs : List ARes} {xs : List AV} (hE : E t = x) (h : aresL E H rs = some xs) : aresL E H (.tmp t :: rs) = some (x :: xs) := by
  simp only [aresL, ARes.val, hE, h]
theorem al_cell {t n l off : Nat} {ag wr : Bool} {cs : List AV} {x : AV} {rs : List ARes} {xs : List AV} (hE : E t = .ptr l off) (hg : H.get l = some (.row cs wr)) (hp : part ag n off cs = some x) (h : aresL E H rs = some xs) : aresL E H (.cell t ag n :: rs) = some (x :: xs) := by
  simp only [aresL, ARes.val, hE, hg, hp, h]
theorem ares_of {rs : List ARes} {xs : List AV} (h : aresL E H rs = some xs) : aresults rs E H = some (tup xs) := by
  unfold aresults
  rw [h]
  cases xs with
  | nil => rfl
  | cons x xs => cases xs <;> rfl
theorem ek_retL {rs : List ARes} {H0 : AHeap} {R : AV → AHeap → Prop} {xs : List AV} {r : AV} (h : aresL E H rs = some xs) (hr : tup xs = r) (hf : Fin H0 H r R) : endK rs H0 R .ret E H := ⟨_, ares_of h, by rw [hr]; exact hf⟩
theorem ek_normalL {rs : List ARes} {H0 : AHeap} {R : AV → AHeap → Prop} {xs : List AV} {r : AV} (h : aresL E H rs = some xs) (hr : tup xs = r) (hf : Fin H0 H r R) : endK rs H0 R .normal E H := ⟨_, ares_of h, by rw [hr]; exact hf⟩
end
end Go.Ab
