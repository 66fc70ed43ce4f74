/- The arguments of a law, read as abstract values; what is left to show of a law. -/
import Derived.Test.YtgjhjemmddojfaaAb15
import Derived.ProofKit
import Derived.Carry
import Derived.JoinedOf
import Derived.Handed
import Derived.ChangeSame
set_option linter.unusedVariables false
set_option linter.unusedSimpArgs false
namespace Go.Ab
open Go.RowKit

/-- The shape of a cell. -/
inductive Sh where
  | bool
  | int (k : IntKind)
  | flt (k : FloatKind)
  | str
  | sl (es : List Sh)
  deriving Inhabited

section
variable (P : Program)
def runsOn : Nat → List (Nat × List Sh) → Bool
  | _, [] => true
  | n, (o, s) :: rest => o == n && runsOn (n + s.length) rest
def shapeT : Nat → TypeId → Option (List Sh)
  | 0, _ => none
  | n + 1, t =>
    match P.underlying t with
    | some .bool => some [.bool]
    | some (.int k) => some [.int k]
    | some (.float k) => some [.flt k]
    | some .string => some [.str]
    | some (.slice e) => do
      let s ← shapeT n e
      if P.cellsOf e = s.length ∧ 0 < s.length then some [.sl s] else none
    | some (.struct fs) => do
      let xs ← fs.toList.mapM fun f => do
        let s ← shapeT n f.type
        if P.cellsOf f.type = s.length then some (f.offset, s) else none
      if runsOn 0 xs = true ∧ P.cellsOf t = (xs.map (·.2)).flatten.length then some (xs.map (·.2)).flatten else none
    | some (.array m e) => do
      let s ← shapeT n e
      if P.cellsOf e = s.length ∧ P.cellsOf t = m * s.length then some (List.replicate m s).flatten else none
    | _ => none
end

/-- A value of such a shape. -/
inductive Fits (H : AHeap) : Sh → AV → Prop where
  | bool (b) : Fits H .bool (.bool b)
  | int {k n} (h : (Lit.int k n).wf = true) : Fits H (.int k) (.int k n)
  | flt {k x} (h : ∀ b, x = some b → b < 2 ^ k.format.width ∧ (k.decode b).isNaN = false) : Fits H (.flt k) (.flt k x)
  | str {s} (h : s.length ≤ maxLen) : Fits H .str (.str s)
  | nil {es} : Fits H (.sl es) .nilslice
  | sl {l len cap es cs} (hg : H.get l = some (.row cs false)) (hl : cs.length = len * es.length) (hc : len ≤ cap) (hm : cap ≤ maxLen)
      (h : ∀ i j s a, i < len → es[j]? = some s → cs[i * es.length + j]? = some a → Fits H s a) : Fits H (.sl es) (.slice l 0 len cap es.length)

theorem Fits.grew {H H' : AHeap} (g : Grew H H') {s : Sh} {a : AV} (h : Fits H s a) : Fits H' s a := by
  induction h with
  | bool b => exact .bool b
  | int h => exact .int h
  | flt h => exact .flt h
  | str h => exact .str h
  | nil => exact .nil
  | sl hg hl hc hm _ ih => exact .sl (by rw [g.get _ (H.lt_of_get hg)]; exact hg) hl hc hm ih

def FitsL (H : AHeap) (ss : List Sh) (as : List AV) : Prop := as.length = ss.length ∧ ∀ (i : Nat) (s : Sh) (a : AV), ss[i]? = some s → as[i]? = some a → Fits H s a

theorem FitsL.grew {H H' : AHeap} (g : Grew H H') {ss : List Sh} {as : List AV} (h : FitsL H ss as) : FitsL H' ss as := ⟨h.1, fun i s a x y => (h.2 i s a x y).grew g⟩
theorem FitsL.nil (H : AHeap) : FitsL H [] [] := ⟨rfl, fun i s a x => by simp at x⟩
theorem FitsL.one {H : AHeap} {s : Sh} {a : AV} (h : Fits H s a) : FitsL H [s] [a] := ⟨rfl, fun i s' a' x y => by
  cases i with
  | zero => simp at x y; subst x; subst y; exact h
  | succ i => simp at x⟩
theorem FitsL.append {H : AHeap} {ss ts : List Sh} {as bs : List AV} (h : FitsL H ss as) (h' : FitsL H ts bs) : FitsL H (ss ++ ts) (as ++ bs) := by
  refine ⟨by simp [h.1, h'.1], fun i s a x y => ?_⟩
  rw [List.getElem?_append] at x y
  rw [← h.1] at x
  split at x
  · rename_i hi; rw [if_pos hi] at y; exact h.2 i s a x y
  · rename_i hi; rw [if_neg hi] at y; exact h'.2 _ s a x y

/-- No row is to be written. -/
def Calm (H : AHeap) : Prop := ∀ l b, H.get l = some b → b.wr = false

section
variable {F : Nat → Prop} {μ : Mu} {H : AHeap} {w : World} {P : Program}

theorem Calm.new (h : Calm H) {cs : List AV} : Calm (H.new (.row cs false)) := fun l b hg => by
  rw [AHeap.new_get] at hg
  split at hg
  · cases hg; rfl
  · exact h l b hg

/-- A row that is only read, wherever it lies. -/
theorem Sim.view (hs : Sim F μ H w) (hcalm : Calm H) {b o lim : Nat} {c : Array Value} {e : TypeId} {lo hi : Nat} {cs : List AV} (hb : w.heap[b]? = some (.cells c e (lo, hi))) (hsz : o + lim ≤ c.size) (hl : cs.length ≤ lim)
    (hr : ∀ (i : Nat) (a : AV), cs[i]? = some a → ∃ v, c[o + i]? = some v ∧ R μ a v) :
    Sim F (μ.plus H.next ⟨b, o, lim⟩) (H.new (.row cs false)) w := by
  have lift : ∀ {a : AV} {v : Value}, R μ a v → R (μ.plus H.next ⟨b, o, lim⟩) a v := fun h => hs.lift (Mu.plus_ext _ _ _) h
  have hnew : ∀ l, l ≠ H.next → μ.plus H.next ⟨b, o, lim⟩ l = μ l := fun l h => by unfold Mu.plus; rw [if_neg h]
  have hat : μ.plus H.next ⟨b, o, lim⟩ H.next = some ⟨b, o, lim⟩ := by unfold Mu.plus; rw [if_pos rfl]
  have hlt : b < w.heap.size := by
    rcases Nat.lt_or_ge b w.heap.size with h | h
    · exact h
    · rw [Array.getElem?_eq_none h] at hb; cases hb
  refine ⟨?_, ?_, ?_, ?_, ?_, hs.fresh⟩
  · intro l li h
    by_cases hl' : l = H.next
    · subst hl'
      rw [hat] at h
      cases h
      exact ⟨by rw [AHeap.new_next]; omega, hlt⟩
    · rw [hnew l hl'] at h
      obtain ⟨h1, h2⟩ := hs.dom l li h
      exact ⟨by rw [AHeap.new_next]; omega, h2⟩
  · intro l li cs' wr hg hm
    rw [AHeap.new_get] at hg
    by_cases hl' : l = H.next
    · subst hl'
      rw [if_pos rfl] at hg
      cases hg
      rw [hat] at hm
      cases hm
      refine ⟨c, e, lo, hi, hb, hsz, hl, ?_, fun h => by cases h⟩
      intro i a hi
      obtain ⟨v, hv, hR⟩ := hr i a hi
      exact ⟨v, hv, lift hR⟩
    · rw [if_neg hl'] at hg
      rw [hnew l hl'] at hm
      obtain ⟨c', e', lo, hi, h1, h2, h3, h4, h5⟩ := hs.row l li cs' wr hg hm
      refine ⟨c', e', lo, hi, h1, h2, h3, ?_, h5⟩
      intro i a hi'
      obtain ⟨v, hv, hR⟩ := h4 i a hi'
      exact ⟨v, hv, lift hR⟩
  · intro l li es hg hm
    rw [AHeap.new_get] at hg
    by_cases hl' : l = H.next
    · subst hl'; rw [if_pos rfl] at hg; cases hg
    · rw [if_neg hl'] at hg
      have := hcalm l _ hg
      cases this
  · intro l l' b1 b2 li li' hne hg hw
    have := hcalm.new l b1 hg
    rw [hw] at this; cases this
  · intro l b1 li hg hw
    have := hcalm.new l b1 hg
    rw [hw] at this; cases this

/-- What reading some cells gives. -/
def Opens (F : Nat → Prop) (w : World) (ss : List Sh) (vs : List Value) : Prop :=
  ∀ (μ : Mu) (H : AHeap), Sim F μ H w → Calm H → ∃ (μ' : Mu) (H' : AHeap) (as : List AV), Sim F μ' H' w ∧ Calm H' ∧ Mu.ext H.next μ μ' ∧ Grew H H' ∧ RL μ' as vs ∧ FitsL H' ss as

theorem Opens.nil : Opens F w [] [] := fun μ H hs hc => ⟨μ, H, [], hs, hc, Mu.ext_refl _ _, Grew.refl _, RL.nil, FitsL.nil _⟩
theorem Opens.append {ss ts : List Sh} {vs us : List Value} (h : Opens F w ss vs) (h' : Opens F w ts us) : Opens F w (ss ++ ts) (vs ++ us) := by
  intro μ H hs hc
  obtain ⟨μ1, H1, as, a1, a2, a3, a4, a5, a6⟩ := h μ H hs hc
  obtain ⟨μ2, H2, bs, b1, b2, b3, b4, b5, b6⟩ := h' μ1 H1 a1 a2
  exact ⟨μ2, H2, as ++ bs, b1, b2, Mu.ext_trans a3 b3 a4.next, a4.trans b4, (a1.liftL b3 a5).append b5, (a6.grew b4).append b6⟩
theorem Opens.pure {s : Sh} {v : Value} (h : ∀ μ H, ∃ a, R μ a v ∧ Fits H s a) : Opens F w [s] [v] := fun μ H hs hc => by
  obtain ⟨a, h1, h2⟩ := h μ H
  exact ⟨μ, H, [a], hs, hc, Mu.ext_refl _ _, Grew.refl _, RL.cons h1 RL.nil, FitsL.one h2⟩

theorem Opens.flatten : ∀ {n : Nat} {ss : List Sh} {vs : List Value}, vs.length = n * ss.length → (∀ i, i < n → Opens F w ss ((vs.drop (i * ss.length)).take ss.length)) → Opens F w (List.replicate n ss).flatten vs
  | 0, ss, vs, hl, _ => by
    obtain rfl : vs = [] := List.length_eq_zero_iff.1 (by simpa using hl)
    exact Opens.nil
  | n + 1, ss, vs, hl, h => by
    have h0 := h 0 (by omega)
    have hrest : Opens F w (List.replicate n ss).flatten (vs.drop ss.length) := Opens.flatten (by rw [List.length_drop, hl, Nat.succ_mul]; omega) (fun i hi => by
      have := h (i + 1) (by omega)
      rw [List.drop_drop, show ss.length + i * ss.length = (i + 1) * ss.length by rw [Nat.succ_mul]; omega]
      exact this)
    have := h0.append hrest
    rw [Nat.zero_mul, List.drop_zero, List.take_append_drop] at this
    rw [List.replicate_succ, List.flatten_cons]
    exact this

theorem mapM_range {β : Type} {f : Nat → Option β} : ∀ {l : List Nat} {xs : List β}, l.mapM f = some xs → xs.length = l.length ∧ ∀ (i j : Nat), l[i]? = some j → ∃ x, xs[i]? = some x ∧ f j = some x
  | [], xs, h => by simp at h; subst h; simp
  | a :: l, xs, h => by
    simp only [List.mapM_cons, Option.bind_eq_bind, Option.bind_eq_some_iff, Option.pure_def, Option.some.injEq] at h
    obtain ⟨x, hx, ys, hys, rfl⟩ := h
    obtain ⟨h1, h2⟩ := mapM_range hys
    refine ⟨by simp [h1], fun i j hj => ?_⟩
    cases i with
    | zero => simp at hj; subst hj; exact ⟨x, by simp, hx⟩
    | succ i => simpa using h2 i j (by simpa using hj)

theorem cells_of {base n : Nat} {a : Addr} {vs : List Value} (h : w.cells? base a n = some vs) : vs.length = n ∧ ∀ i, i < n → ∃ v, vs[i]? = some v ∧ w.cell? (a.add i) = some v := by
  unfold World.cells? at h
  split at h
  · obtain ⟨h1, h2⟩ := mapM_range h
    refine ⟨by simpa using h1, fun i hi => ?_⟩
    exact h2 i i (by simp [hi])
  · cases h

theorem cell_some {a : Addr} {v : Value} (h : w.cell? a = some v) : a.spot = none ∧ ∃ c e lo hi, w.heap[a.block]? = some (.cells c e (lo, hi)) ∧ c[a.off]? = some v := by
  unfold World.cell? at h
  split at h
  · rename_i c e fr hb
    split at h
    · cases h
    · rename_i hsp
      exact ⟨by simpa using hsp, c, e, fr.1, fr.2, hb, h⟩
  · cases h


theorem nrm_ok {k : FloatKind} {b : Nat} (hb : b < 2 ^ k.format.width) : ∀ c, nrm k b = some c → c < 2 ^ k.format.width ∧ (k.decode c).isNaN = false := by
  intro c hc
  unfold nrm at hc
  split at hc
  · cases hc
  · rename_i h; cases hc; exact ⟨hb, by simpa using h⟩

theorem Opens.cell {s : Sh} {v : Value} {P : Program} {t : TypeId} {H : Type} {enc : TypeId × Value → H} {fuel : Nat} {x : DataW H × List MemPlace} (h : DataW.trod enc P w 0 (fun _ => true) true fuel t [v] = some x)
    (hd : P.underlying t = some .bool ∧ s = .bool ∨ (∃ k, P.underlying t = some (.int k) ∧ s = .int k) ∨ (∃ k, P.underlying t = some (.float k) ∧ s = .flt k) ∨ P.underlying t = some .string ∧ s = .str) : Opens F w [s] [v] := by
  cases fuel with
  | zero => simp [DataW.trod] at h
  | succ n =>
    unfold DataW.trod at h
    refine Opens.pure fun μ H => ?_
    rcases hd with ⟨ht, rfl⟩ | ⟨k, ht, rfl⟩ | ⟨k, ht, rfl⟩ | ⟨ht, rfl⟩ <;> rw [ht] at h
    · cases v <;> simp at h
      exact ⟨_, .bool _, .bool _⟩
    · cases v <;> simp at h
      obtain ⟨⟨rfl, hw⟩, _⟩ := h
      exact ⟨_, .int _ _, .int hw⟩
    · cases v <;> simp at h
      rename_i k' b
      obtain ⟨⟨rfl, hw⟩, _⟩ := h
      have hb : b < 2 ^ k'.format.width := by cases k' <;> (simp only [Lit.wf, decide_eq_true_eq] at hw; exact hw)
      exact ⟨_, .flt rfl hb, .flt (nrm_ok hb)⟩
    · cases v <;> simp at h
      rename_i b
      exact ⟨_, .str rfl, .str (by simpa using h.1)⟩

theorem cell_one {P : Program} {t : TypeId} {H : Type} {enc : TypeId × Value → H} {fuel : Nat} {cs : List Value} {x : DataW H × List MemPlace} (h : DataW.trod enc P w 0 (fun _ => true) true fuel t cs = some x)
    (hd : P.underlying t = some .bool ∨ (∃ k, P.underlying t = some (.int k)) ∨ (∃ k, P.underlying t = some (.float k)) ∨ P.underlying t = some .string ∨ ∃ e, P.underlying t = some (.slice e)) : ∃ v, cs = [v] := by
  cases fuel with
  | zero => simp [DataW.trod] at h
  | succ n =>
    unfold DataW.trod at h
    rcases hd with ht | ⟨k, ht⟩ | ⟨k, ht⟩ | ht | ⟨e, ht⟩ <;> rw [ht] at h <;> (split at h <;> first | exact ⟨_, rfl⟩ | (simp_all; done) | cases h)

/-- READING CELLS OF A TYPE GIVES ABSTRACT VALUES OF ITS SHAPE. -/
theorem opens {P : Program} {H : Type} {enc : TypeId × Value → H} : ∀ (n : Nat) (t : TypeId) (ss : List Sh), shapeT P n t = some ss → ∀ (fuel : Nat) (cs : List Value) (x : DataW H × List MemPlace),
    DataW.trod enc P w 0 (fun _ => true) true fuel t cs = some x → Opens F w ss cs
  | 0, t, ss, hs, _, _, _, _ => by simp [shapeT] at hs
  | n + 1, t, ss, hs, fuel, cs, x, h => by
    have ih := opens (P := P) (enc := enc) n
    unfold shapeT at hs
    split at hs
    · rename_i ht
      obtain ⟨v, rfl⟩ := cell_one h (.inl ht)
      cases hs
      exact Opens.cell h (.inl ⟨ht, rfl⟩)
    · rename_i k ht
      obtain ⟨v, rfl⟩ := cell_one h (.inr (.inl ⟨_, ht⟩))
      cases hs
      exact Opens.cell h (.inr (.inl ⟨_, ht, rfl⟩))
    · rename_i k ht
      obtain ⟨v, rfl⟩ := cell_one h (.inr (.inr (.inl ⟨_, ht⟩)))
      cases hs
      exact Opens.cell h (.inr (.inr (.inl ⟨_, ht, rfl⟩)))
    · rename_i ht
      obtain ⟨v, rfl⟩ := cell_one h (.inr (.inr (.inr (.inl ht))))
      cases hs
      exact Opens.cell h (.inr (.inr (.inr ⟨ht, rfl⟩)))
    · -- a slice
      rename_i e ht
      simp only [Option.bind_eq_bind, Option.bind_eq_some_iff] at hs
      obtain ⟨s, hse, hs⟩ := hs
      split at hs
      · rename_i hsz
        obtain ⟨hsz, hpos⟩ := hsz
        cases hs
        cases fuel with
        | zero => simp [DataW.trod] at h
        | succ m =>
          unfold DataW.trod at h
          rw [ht] at h
          split at h <;> first | (simp_all; done) | skip
          · exact Opens.pure fun μ H => ⟨_, .nilslice, .nil⟩
          · rename_i e' a len cap he'
            obtain rfl : e = e' := by cases he'; rfl
            simp only [] at h
            split at h
            · rename_i hb
              obtain ⟨_, hlc, hcm⟩ := hb
              simp only [Option.bind_eq_some_iff, Option.map_eq_some_iff, if_true] at h
              obtain ⟨elems, hel, rest, hrest, _⟩ := h
              obtain ⟨l1, k1⟩ := mapM_range hel
              obtain ⟨l2, k2⟩ := mapM_range hrest
              rw [hsz] at k1 k2
              have all : ∀ i, i < cap → ∃ vs y, w.cells? 0 (a.add (i * s.length)) s.length = some vs ∧ DataW.trod enc P w 0 (fun _ => true) true m e vs = some y := by
                intro i hi
                by_cases hil : i < len
                · obtain ⟨y, _, hy⟩ := k1 i i (by simp [hil])
                  rw [Option.bind_eq_some_iff] at hy
                  obtain ⟨vs, h1, h2⟩ := hy
                  exact ⟨vs, y, h1, h2⟩
                · obtain ⟨y, _, hy⟩ := k2 (i - len) (i - len) (by rw [List.getElem?_range (by omega)])
                  rw [show len + (i - len) = i by omega, Option.bind_eq_some_iff] at hy
                  obtain ⟨vs, h1, h2⟩ := hy
                  exact ⟨vs, y, h1, h2⟩
              clear hel hrest k1 k2 l1 l2
              by_cases hc0 : cap = 0
              · subst hc0
                obtain rfl : len = 0 := by omega
                intro μ H hsim hcalm
                refine ⟨μ, H.new (.row [] false), [.slice H.next 0 0 0 s.length], hsim.ghost _, hcalm.new, Mu.ext_refl _ _, (Grew.refl _).new _, RL.cons (.slice0 _) RL.nil, FitsL.one (.sl (cs := []) (by rw [AHeap.new_get, if_pos rfl]) (by simp) (by simp) hcm (fun i j s a hi => by omega))⟩
              · have hsp : a.spot = none := by
                  obtain ⟨vs, y, h1, _⟩ := all 0 (by omega)
                  obtain ⟨_, h2⟩ := cells_of h1
                  obtain ⟨v, _, h3⟩ := h2 0 hpos
                  rw [Nat.zero_mul] at h3
                  exact (cell_some (by simpa [Addr.add] using h3)).1
                obtain ⟨b, o, sp⟩ := a
                simp only at hsp
                subst hsp
                have place : ∀ k, k < cap * s.length → ∃ v, w.cell? ⟨b, o + k, none⟩ = some v := by
                  intro k hk
                  have hq : k / s.length < cap := Nat.div_lt_of_lt_mul (by rw [Nat.mul_comm]; exact hk)
                  obtain ⟨vs, y, h1, _⟩ := all (k / s.length) hq
                  obtain ⟨_, h2⟩ := cells_of h1
                  obtain ⟨v, _, h3⟩ := h2 (k % s.length) (Nat.mod_lt _ hpos)
                  refine ⟨v, ?_⟩
                  rw [addr_add, addr_add] at h3
                  have := Nat.div_add_mod k s.length
                  rw [Nat.mul_comm] at this
                  rwa [Nat.add_assoc, this] at h3
                have hpc : 0 < cap * s.length := Nat.mul_pos (by omega) hpos
                obtain ⟨v0, hv0⟩ := place 0 hpc
                obtain ⟨_, c, et, lo, hi, hblk, _⟩ := cell_some hv0
                have hblk' : w.heap[b]? = some (.cells c et (lo, hi)) := hblk
                have inrow : ∀ k, k < cap * s.length → ∃ v, c[o + k]? = some v ∧ w.cell? ⟨b, o + k, none⟩ = some v := by
                  intro k hk
                  obtain ⟨v, hv⟩ := place k hk
                  obtain ⟨_, c', et', lo', hi', h1, h2⟩ := cell_some hv
                  have h1' : w.heap[b]? = some (.cells c' et' (lo', hi')) := h1
                  rw [hblk'] at h1'
                  cases h1'
                  exact ⟨v, h2, hv⟩
                have hcsz : o + cap * s.length ≤ c.size := by
                  obtain ⟨v, hv, _⟩ := inrow (cap * s.length - 1) (by omega)
                  have : o + (cap * s.length - 1) < c.size := by
                    rcases Nat.lt_or_ge (o + (cap * s.length - 1)) c.size with h | h
                    · exact h
                    · rw [Array.getElem?_eq_none h] at hv; cases hv
                  omega
                -- the elements, one behind the other
                have hrow : Opens F w (List.replicate len s).flatten ((c.toList.drop o).take (len * s.length)) := by
                  have hle : len * s.length ≤ cap * s.length := Nat.mul_le_mul_right _ hlc
                  refine Opens.flatten (by simp; omega) fun i hi => ?_
                  obtain ⟨vs, y, h1, h2⟩ := all i (by omega)
                  have hop := ih e s hse m vs y h2
                  obtain ⟨g1, g2⟩ := cells_of h1
                  have hii : i * s.length + s.length ≤ len * s.length := by rw [← Nat.succ_mul]; exact Nat.mul_le_mul_right _ hi
                  have : (((c.toList.drop o).take (len * s.length)).drop (i * s.length)).take s.length = vs := by
                    apply List.ext_getElem?
                    intro j
                    rw [List.getElem?_take]
                    split
                    · rename_i hj
                      obtain ⟨v, q1, q2⟩ := g2 j hj
                      rw [q1, List.getElem?_drop, List.getElem?_take, if_pos (by rw [g1] at *; omega), List.getElem?_drop]
                      obtain ⟨v', q3, q4⟩ := inrow (i * s.length + j) (by omega)
                      rw [addr_add, addr_add, Nat.add_assoc, q4] at q2
                      cases q2
                      rw [Array.getElem?_toList, q3]
                    · rename_i hj
                      rw [List.getElem?_eq_none (by omega)]
                  rw [this]; exact hop
                intro μ H hsim hcalm
                obtain ⟨μ1, H1, as, b1, b2, b3, b4, b5, b6⟩ := hrow μ H hsim hcalm
                have hlen : as.length = len * s.length := by
                  have := b6.1
                  simpa using this
                have hle : len * s.length ≤ cap * s.length := Nat.mul_le_mul_right _ hlc
                refine ⟨_, H1.new (.row as false), [.slice H1.next 0 len cap s.length], b1.view b2 hblk' hcsz (by omega) ?_, b2.new, Mu.ext_trans b3 (Mu.plus_ext _ _ _) b4.next, b4.new _, RL.cons ?_ RL.nil, FitsL.one (.sl (cs := as) (by rw [AHeap.new_get, if_pos rfl]) hlen hlc hcm ?_)⟩
                · intro i x hx
                  obtain ⟨v, hv, hR⟩ := b5.get hx
                  refine ⟨v, ?_, hR⟩
                  rw [List.getElem?_take] at hv
                  split at hv
                  · rw [List.getElem?_drop, Array.getElem?_toList] at hv; exact hv
                  · cases hv
                · refine .slice (li := ⟨b, o, cap * s.length⟩) ?_ rfl rfl (.inr (by simp)) (by simp) hlc
                  unfold Mu.plus; rw [if_pos rfl]
                · intro i j s' x hi hj hx
                  have hjl : j < s.length := by
                    rcases Nat.lt_or_ge j s.length with h | h
                    · exact h
                    · rw [List.getElem?_eq_none h] at hj; cases hj
                  refine (b6.2 (i * s.length + j) s' x ?_ hx).grew ((Grew.refl _).new _)
                  exact flat_get hi hjl hj
            · cases h
      · cases hs
    · -- a struct
      rename_i fs ht
      simp only [Option.bind_eq_bind, Option.bind_eq_some_iff] at hs
      obtain ⟨xs, hxs, hs⟩ := hs
      split at hs
      · rename_i hok
        obtain ⟨hrun, hsz⟩ := hok
        cases hs
        cases fuel with
        | zero => simp [DataW.trod] at h
        | succ m =>
          unfold DataW.trod at h
          rw [ht] at h
          simp only [] at h
          split at h
          · rename_i hlen
            rw [Option.map_eq_some_iff] at h
            obtain ⟨ys, hys, _⟩ := h
            have key : ∀ (l : List Field) (xs : List (Nat × List Sh)) (ys : List (DataW H × List MemPlace)) (o : Nat), (l.mapM fun f => (shapeT P n f.type).bind fun s => if P.cellsOf f.type = s.length then some (f.offset, s) else none) = some xs →
                (l.mapM fun f => DataW.trod enc P w 0 (fun _ => true) true m f.type ((cs.drop f.offset).take (P.cellsOf f.type))) = some ys → runsOn o xs = true →
                Opens F w (xs.map (·.2)).flatten ((cs.drop o).take (xs.map (·.2)).flatten.length) := by
              intro l
              induction l with
              | nil =>
                intro xs ys o h1 _ _
                simp at h1
                subst h1
                simpa using Opens.nil
              | cons f l ihl =>
                intro xs ys o h1 h2 h3
                simp only [List.mapM_cons, Option.bind_eq_bind, Option.bind_eq_some_iff, Option.pure_def, Option.some.injEq] at h1 h2
                obtain ⟨p, ⟨s, hs1, hs2⟩, xs', hxs', rfl⟩ := h1
                obtain ⟨y, hy, ys', hys', rfl⟩ := h2
                split at hs2
                · rename_i hcl
                  cases hs2
                  simp only [runsOn, Bool.and_eq_true, beq_iff_eq] at h3
                  obtain ⟨rfl, h3⟩ := h3
                  have a1 := ih f.type s hs1 m _ y hy
                  have a2 := ihl xs' ys' _ hxs' hys' h3
                  rw [hcl] at a1
                  have := a1.append a2
                  simp only [List.map_cons, List.flatten_cons, List.length_append]
                  rw [← List.drop_drop, ← List.take_add] at this
                  exact this
                · cases hs2
            have := key fs.toList xs ys 0 hxs hys hrun
            rw [List.drop_zero, ← hsz, ← hlen, List.take_length] at this
            exact this
          · cases h
      · cases hs
    · -- an array
      rename_i k e ht
      simp only [Option.bind_eq_bind, Option.bind_eq_some_iff] at hs
      obtain ⟨s, hse, hs⟩ := hs
      split at hs
      · rename_i hok
        obtain ⟨hce, hct⟩ := hok
        cases hs
        cases fuel with
        | zero => simp [DataW.trod] at h
        | succ m =>
          unfold DataW.trod at h
          rw [ht] at h
          simp only [] at h
          split at h
          · rename_i hlen
            rw [Option.map_eq_some_iff] at h
            obtain ⟨ys, hys, _⟩ := h
            obtain ⟨_, k1⟩ := mapM_range hys
            refine Opens.flatten (by rw [hlen, hct]) fun i hi => ?_
            obtain ⟨y, _, hy⟩ := k1 i i (by simp [hi])
            rw [hce] at hy
            exact ih e s hse m _ y hy
          · cases h
      · cases hs
    · cases hs
  where
  flat_get {s : List Sh} {x : Sh} : ∀ {len i j : Nat}, i < len → j < s.length → s[j]? = some x → (List.replicate len s).flatten[i * s.length + j]? = some x
    | 0, i, j, hi, _, _ => by omega
    | len + 1, 0, j, hi, hj, hx => by
      rw [List.replicate_succ, List.flatten_cons, List.getElem?_append_left (by omega)]
      simpa using hx
    | len + 1, i + 1, j, hi, hj, hx => by
      rw [List.replicate_succ, List.flatten_cons, List.getElem?_append_right (by rw [Nat.succ_mul]; omega)]
      rw [show (i + 1) * s.length + j - s.length = i * s.length + j by rw [Nat.succ_mul]; omega]
      exact flat_get (by omega) hj hx

end
end Go.Ab
