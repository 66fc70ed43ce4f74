/- Ends of bodies: what a caller is told of the heap. -/
import Derived.Test.YtgjhjemmddojfaaAb15
set_option linter.unusedVariables false
set_option linter.unusedSimpArgs false
namespace Go.Ab

theorem AHeap.ext' {A B : AHeap} (h : A.next = B.next) (g : ∀ l, A.get l = B.get l) : A = B := by
  obtain ⟨n, f, p⟩ := A
  obtain ⟨m, k, q⟩ := B
  obtain rfl : n = m := h
  obtain rfl : f = k := funext g
  rfl

def AHeap.adds (H : AHeap) (bs : List HB) : AHeap where
  next := H.next + bs.length
  get := fun l => if l < H.next then H.get l else bs[l - H.next]?
  wf := fun l h => by rw [if_neg (by omega), List.getElem?_eq_none (by omega)]
theorem AHeap.adds_nil (H : AHeap) : H.adds [] = H := AHeap.ext' rfl fun l => by
  show (if l < H.next then H.get l else ([] : List HB)[l - H.next]?) = _
  split
  · rfl
  · rename_i h; rw [H.wf l (by omega)]; rfl
theorem AHeap.adds_one (H : AHeap) (b : HB) : H.adds [b] = H.new b := AHeap.ext' rfl fun l => by
  rw [AHeap.new_get]
  show (if l < H.next then H.get l else [b][l - H.next]?) = _
  by_cases h : l = H.next
  · subst h; simp
  · rw [if_neg h]
    split
    · rfl
    · rw [H.wf l (by omega), List.getElem?_eq_none (by simp; omega)]
theorem AHeap.adds_two (H : AHeap) (b c : HB) : H.adds [b, c] = (H.new b).new c := AHeap.ext' rfl fun l => by
  rw [AHeap.new_get, AHeap.new_get, AHeap.new_next]
  show (if l < H.next then H.get l else [b, c][l - H.next]?) = _
  by_cases h : l = H.next
  · subst h; simp
  · by_cases h' : l = H.next + 1
    · subst h'; rw [if_neg (by omega)]; simp
    · rw [if_neg h, if_neg h']
      split
      · rfl
      · rw [H.wf l (by omega), List.getElem?_eq_none (by simp; omega)]

/-- Values that lead nowhere. -/
def HB.plain (b : HB) : Prop := b.On fun _ => False

theorem fin_adds {H Hc : AHeap} {r : AV} {Q : AV → AHeap → Prop} (τ : List Nat) (bs : List HB) (hg : Grew H Hc) (hlen : τ.length = bs.length) (hnd : τ.Nodup) (hτ : ∀ (i t : Nat) (b : HB), τ[i]? = some t → bs[i]? = some b → H.next ≤ t ∧ Hc.get t = some b) (hpl : ∀ b ∈ bs, b.plain)
    (σ : Nat → Nat) (hσ : ∀ l, l < H.next → σ l = l) (hσ' : ∀ (i t : Nat), τ[i]? = some t → σ t = H.next + i) (hr : r.On fun l => l < H.next ∨ l ∈ τ) (hQ : Q (r.ren σ) (H.adds bs)) : Fin H Hc r Q := by
  refine ⟨r.ren σ, H.adds bs, hQ, Nat.le_add_right _ _, fun F μ w v hs hR hold => ?_⟩
  let μ' : Mu := fun l => if l < H.next then μ l else (τ[l - H.next]?).bind μ
  have low : ∀ l, l < H.next → μ' l = μ l := fun l h => if_pos h
  have high : ∀ l, ¬ l < H.next → μ' l = (τ[l - H.next]?).bind μ := fun l h => if_neg h
  have getl : ∀ l, l < H.next → (H.adds bs).get l = H.get l := fun l h => if_pos h
  have geth : ∀ l, ¬ l < H.next → (H.adds bs).get l = bs[l - H.next]? := fun l h => if_neg h
  have lift : ∀ {a : AV} {v : Value}, a.On (· < H.next) → R μ a v → R μ' a v := fun ha h => h.agree (fun l li hl hm => by rw [low l hl]; exact hm) ha
  have lift0 : ∀ {a : AV} {v : Value}, a.On (fun _ => False) → R μ a v → R μ' a v := fun ha h => h.agree (fun l li hl hm => hl.elim) ha
  -- every location of the new heap is one of the old
  have back : ∀ l b li, (H.adds bs).get l = some b → μ' l = some li → ∃ l0, Hc.get l0 = some b ∧ μ l0 = some li ∧ (l < H.next ∧ l0 = l ∨ ¬ l < H.next ∧ τ[l - H.next]? = some l0 ∧ b.plain) := by
    intro l b li hb hm
    by_cases hl : l < H.next
    · rw [getl l hl] at hb
      rw [low l hl] at hm
      exact ⟨l, by rw [hg.get l hl]; exact hb, hm, .inl ⟨hl, rfl⟩⟩
    · rw [geth l hl] at hb
      rw [high l hl, Option.bind_eq_some_iff] at hm
      obtain ⟨t, ht, hm⟩ := hm
      exact ⟨t, (hτ _ t b ht hb).2, hm, .inr ⟨hl, ht, hpl b (List.mem_of_getElem? hb)⟩⟩
  have inj : ∀ l l' l0, (l < H.next ∧ l0 = l ∨ ¬ l < H.next ∧ τ[l - H.next]? = some l0) → (l' < H.next ∧ l0 = l' ∨ ¬ l' < H.next ∧ τ[l' - H.next]? = some l0) → l = l' := by
    have big : ∀ i t, τ[i]? = some t → H.next ≤ t := fun i t h => by
      have hi : i < bs.length := by
        rw [← hlen]
        rcases Nat.lt_or_ge i τ.length with h' | h'
        · exact h'
        · rw [List.getElem?_eq_none h'] at h; cases h
      exact (hτ i t bs[i] h (List.getElem?_eq_getElem hi)).1
    rintro l l' l0 (⟨h1, rfl⟩ | ⟨h1, h2⟩) (⟨h3, rfl⟩ | ⟨h3, h4⟩)
    · rfl
    · have := big _ _ h4; omega
    · have := big _ _ h2; omega
    · have hi : l - H.next < τ.length := by
        rcases Nat.lt_or_ge (l - H.next) τ.length with h' | h'
        · exact h'
        · rw [List.getElem?_eq_none h'] at h2; cases h2
      have := (List.getElem?_inj hi hnd).1 (h2.trans h4.symm)
      omega
  refine ⟨μ', fun l hl => low l hl, ⟨?_, ?_, ?_, ?_, ?_, hs.fresh⟩, ?_⟩
  · intro l li hm
    by_cases hl : l < H.next
    · rw [low l hl] at hm
      exact ⟨Nat.lt_of_lt_of_le hl (Nat.le_add_right _ _), (hs.dom l li hm).2⟩
    · rw [high l hl, Option.bind_eq_some_iff] at hm
      obtain ⟨t, ht, hm⟩ := hm
      refine ⟨?_, (hs.dom t li hm).2⟩
      have : l - H.next < τ.length := by
        rcases Nat.lt_or_ge (l - H.next) τ.length with h' | h'
        · exact h'
        · rw [List.getElem?_eq_none h'] at ht; cases ht
      show l < H.next + bs.length
      omega
  · intro l li cs wr hb hm
    obtain ⟨l0, h1, h2, h3⟩ := back l _ li hb hm
    obtain ⟨c, e, lo, hi, g1, g2, g3, g4, g5⟩ := hs.row l0 li cs wr h1 h2
    refine ⟨c, e, lo, hi, g1, g2, g3, fun i a ha => ?_, g5⟩
    obtain ⟨u, hu, hR'⟩ := g4 i a ha
    refine ⟨u, hu, ?_⟩
    rcases h3 with ⟨hl, rfl⟩ | ⟨hl, ht, hp⟩
    · rw [hg.get l0 hl] at h1
      exact lift (hold l0 _ li h1 h2 a (List.mem_of_getElem? ha)) hR'
    · exact lift0 (hp a (List.mem_of_getElem? ha)) hR'
  · intro l li es hb hm
    obtain ⟨l0, h1, h2, h3⟩ := back l _ li hb hm
    obtain ⟨ms, ck, g1, g2, g3⟩ := hs.mp l0 li es h1 h2
    refine ⟨ms, ck, g1, g2, fun i e m he hm' => ?_⟩
    obtain ⟨k1, k2⟩ := g3 i e m he hm'
    rcases h3 with ⟨hl, rfl⟩ | ⟨hl, ht, hp⟩
    · rw [hg.get l0 hl] at h1
      have := hold l0 _ li h1 h2 e (List.mem_of_getElem? he)
      exact ⟨lift this.1 k1, lift this.2 k2⟩
    · have := hp e (List.mem_of_getElem? he)
      exact ⟨lift0 this.1 k1, lift0 this.2 k2⟩
  · intro l l' b b' li li' hne hb hw hb' hm hm'
    obtain ⟨l0, h1, h2, h3⟩ := back l _ li hb hm
    obtain ⟨l1, h4, h5, h6⟩ := back l' _ li' hb' hm'
    refine hs.sep l0 l1 b b' li li' (fun h => hne ?_) h1 hw h4 h2 h5
    subst h
    exact inj l l' l0 (h3.imp id fun x => ⟨x.1, x.2.1⟩) (h6.imp id fun x => ⟨x.1, x.2.1⟩)
  · intro l b li hb hw hm
    obtain ⟨l0, h1, h2, h3⟩ := back l _ li hb hm
    exact hs.may l0 b li h1 hw h2
  · refine hR.ren (hr.mono ?_)
    rintro l (hl | hl)
    · show μ' (σ l) = μ l
      rw [hσ l hl, low l hl]
    · obtain ⟨i, hi, he⟩ := List.getElem_of_mem hl
      show μ' (σ l) = μ l
      rw [hσ' i l (by rw [List.getElem?_eq_getElem hi, he]), high _ (by omega), show H.next + i - H.next = i by omega, List.getElem?_eq_getElem hi, he]
      rfl

mutual
theorem AV.ren_id : ∀ a : AV, a.ren (fun l => l) = a
  | .any => rfl
  | .undef => rfl
  | .bool _ => rfl
  | .int _ _ => rfl
  | .flt _ _ => rfl
  | .nanbits => rfl
  | .str _ => rfl
  | .ptr _ _ => rfl
  | .nilptr => rfl
  | .slice _ _ _ _ _ => rfl
  | .nilslice => rfl
  | .map _ => rfl
  | .func f as bs => by simp only [AV.ren]; rw [renL_id as, renL_id bs]
  | .nilfunc => rfl
  | .iface t a => by simp only [AV.ren]; rw [AV.ren_id a]
  | .niliface => rfl
  | .glob _ => rfl
  | .agg cs => by simp only [AV.ren]; rw [renL_id cs]
  | .tuple cs => by simp only [AV.ren]; rw [renL_id cs]
theorem renL_id : ∀ as : List AV, renL (fun l => l) as = as
  | [] => rfl
  | a :: as => by simp only [renL]; rw [AV.ren_id a, renL_id as]
end

/-- Nothing new is handed out. -/
theorem fin_plain {H Hc : AHeap} {r : AV} {Q : AV → AHeap → Prop} (hg : Grew H Hc) (hr : r.On (· < H.next)) (hQ : Q r H) : Fin H Hc r Q :=
  fin_adds [] [] hg rfl List.nodup_nil (fun i t b h => by simp at h) (fun b h => by simp at h) (fun l => l) (fun _ _ => rfl) (fun i t h => by simp at h) (hr.mono fun l h => .inl h) (by
    rw [AHeap.adds_nil, AV.ren_id]; exact hQ)
/-- One new row is handed out. -/
theorem fin_one {H Hc : AHeap} {r : AV} {Q : AV → AHeap → Prop} (t : Nat) (b : HB) (hg : Grew H Hc) (ht : H.next ≤ t) (hb : Hc.get t = some b) (hp : b.plain) (hr : r.On fun l => l < H.next ∨ l = t)
    (hQ : Q (r.ren fun l => if l = t then H.next else l) (H.new b)) : Fin H Hc r Q :=
  fin_adds [t] [b] hg rfl (by simp) (fun i t' b' h h' => by
    cases i with
    | zero => simp at h h'; subst h; subst h'; exact ⟨ht, hb⟩
    | succ i => simp at h) (by simpa using hp) (fun l => if l = t then H.next else l) (fun l h => by rw [if_neg (by omega)]) (fun i t' h => by
    cases i with
    | zero => simp at h; subst h; simp
    | succ i => simp at h) (hr.mono fun l h => by simpa using h) (by rw [AHeap.adds_one]; exact hQ)
/-- Two new rows are handed out. -/
theorem fin_two {H Hc : AHeap} {r : AV} {Q : AV → AHeap → Prop} (t u : Nat) (b c : HB) (hg : Grew H Hc) (ht : H.next ≤ t) (hu : H.next ≤ u) (hne : t ≠ u) (hb : Hc.get t = some b) (hc : Hc.get u = some c) (hp : b.plain) (hp' : c.plain) (hr : r.On fun l => l < H.next ∨ l = t ∨ l = u)
    (hQ : Q (r.ren fun l => if l = t then H.next else if l = u then H.next + 1 else l) ((H.new b).new c)) : Fin H Hc r Q :=
  fin_adds [t, u] [b, c] hg rfl (by simpa using hne) (fun i t' b' h h' => by
    cases i with
    | zero => simp at h h'; subst h; subst h'; exact ⟨ht, hb⟩
    | succ i => cases i with
      | zero => simp at h h'; subst h; subst h'; exact ⟨hu, hc⟩
      | succ i => simp at h) (by simpa using ⟨hp, hp'⟩) (fun l => if l = t then H.next else if l = u then H.next + 1 else l) (fun l h => by rw [if_neg (by omega), if_neg (by omega)]) (fun i t' h => by
    cases i with
    | zero => simp at h; subst h; simp
    | succ i => cases i with
      | zero => simp at h; subst h; simp [Ne.symm hne]
      | succ i => simp at h) (hr.mono fun l h => by simpa using h) (by rw [AHeap.adds_two]; exact hQ)
end Go.Ab
