/- Every operation is sound. -/
import Derived.Test.YtgjhjemmddojfaaAb10
set_option linter.unusedVariables false
set_option linter.unusedSimpArgs false
namespace Go.Ab

section
variable {P : Program} {μ : Mu} {E : Env} {a : Act} {F : Nat → Prop} {H : AHeap} {w : World} {k : AV → AHeap → Prop}

theorem put_del (H : AHeap) (l : Nat) (b : HB) : (H.put l b).del l = H.del l :=
  AHeap.ext rfl fun l' => by
    rw [AHeap.del_get, AHeap.del_get, AHeap.put_get]
    by_cases h : l' = l
    · simp [h]
    · simp [h]

theorem slice_some {l o len cap sz : Nat} {v : Value} (h : R μ (.slice l o len cap sz) v) (hc : cap ≠ 0) : ∃ li, μ l = some li ∧ v = .slice (some ⟨li.blk, li.base + o, none⟩) len cap ∧ o + cap * sz ≤ li.lim ∧ len ≤ cap := by
  generalize hs : AV.slice l o len cap sz = s at h
  cases h with
  | @slice l' o' len' cap' sz' li ad hm hb hsp ho hl hc' =>
    cases hs
    have ho' := ho.resolve_left hc
    exact ⟨li, hm, by cases ad; simp at *; simp [hb, ho', hsp], hl, hc'⟩
  | slice0 p => cases hs; exact absurd rfl hc
  | _ => cases hs

theorem append_sound (hs : Sim F μ H w) {t tx ty e : TypeId} {i : TypeInfo} {z : Value} {zs : List AV} (ht : P.underlying t = some (.slice e)) (hi : P.info? e = some i) (hz : i.zero = some z) (hzs : z.cells.toList.mapM absCell = some zs) (hzl : zs.length = i.size)
    (hb : 0 < i.bytes) (hk : (∃ e', P.underlying tx = some (.slice e')) ∨ P.underlying tx = some .string) {x y : AV} {v u : Value} (hx : R μ x v) (hy : R μ y u) (h : appendA H i.size i.bytes x y k) :
    ∃ v' w', (Builtin.append_ #[t, tx] ty #[v, u]).run P w = .ok v' w' ∧ Out F μ H w k v' w' := by
  have hzs' : z.cells.size = i.size := by
    have := (mapM_RL (μ := μ) (fun v x => absCell_R) hzs).1
    simp at this; omega
  unfold appendA at h
  split at h
  · exact h.elim
  · rename_i ys n hsrc
    have hsl := (src_run (P := P) hs hsrc hy).2.1
    -- a slice of no capacity
    have empty : ∀ {p : Option Addr}, growA H [] ys n i.bytes i.size k → v = .slice p 0 0 → ∃ v' w', (Builtin.append_ #[t, tx] ty #[v, u]).run P w = .ok v' w' ∧ Out F μ H w k v' w' := by
      intro p hg hv
      subst hv
      obtain ⟨hfit, hone, hk'⟩ := hg
      obtain ⟨us, hS, hyR⟩ := src_of (P := P) (tx := tx) hs hsrc hy hone hk
      by_cases hn : n = 0
      · subst hn
        have hus : us = [] := by have := hS.newsLen; simp at this; exact this
        subst hus
        have hys : ys = [] := by have := hyR.1; simp at this; exact this
        subst hys
        refine ⟨_, w, append_nothing t tx ty e ht hi hS, ?_⟩
        exact ⟨μ, _, _, hk' 0 (Nat.le_refl _), by rw [AHeap.new_next]; omega, Mu.ext_refl _ _, hs.ghost _, .slice0 p, Keeps.refl _ _⟩
      · have hold : ∀ dn, (Builtin.firstCells i.size 0 (.slice p 0 0)).run P { w with drawn := dn } = .ok ([] : List Value).toArray { w with drawn := dn } := by
          intro dn
          cases p with
          | none => rfl
          | some ad => simp only [Builtin.firstCells, Nat.zero_mul]; rfl
        refine grow_sound hs ht hi hz hzs' hs rfl hold (os := []) RL.nil (by simp) hS hyR (by omega) hb (by simpa using hfit) ?_
        intro c hc
        have := hk' c (by omega)
        simpa using this
    split at h
    · exact empty h (nilSlice_inv hx)
    · rename_i l o len cap sz'
      split at h
      · rename_i hsz
        subst hsz
        split at h
        · rename_i hc0
          subst hc0
          obtain ⟨p, hv, hl0⟩ := slice_form hx
          obtain rfl : len = 0 := by omega
          exact empty h hv
        · rename_i hc0
          obtain ⟨li, hm, hv, hlim, hlc⟩ := slice_some hx hc0
          subst hv
          split at h
          · rename_i cs hg
            obtain ⟨c, ce, lo, hi', g1, g2, g3, g4, g5⟩ := hs.row l li cs true hg hm
            split at h
            · rename_i htail
              obtain ⟨hfit, hone, hk'⟩ := h
              obtain ⟨us, hS, hyR⟩ := src_of (P := P) (tx := tx) hs hsrc hy hone hk
              by_cases hroom : len + n ≤ cap
              · have hmul : (len + n) * i.size ≤ cap * i.size := Nat.mul_le_mul_right _ hroom
                rw [Nat.add_mul] at hmul
                obtain ⟨w', hst, hsim, hkeep⟩ := store_sound (P := P) (o := cs.length) hs hg hm hyR hone (Nat.le_refl _) (by omega)
                have hst' : (storeCells ((⟨li.blk, li.base + o, none⟩ : Addr).add (len * i.size)) us).run P w = .ok () w' := by
                  rw [addr_add, show li.base + o + len * i.size = li.base + cs.length by omega]; exact hst
                refine ⟨_, w', append_room t tx ty e ht hi hS hroom hst', ?_⟩
                have hgp : (H.put l (.row (laid cs cs.length ys) true)).get l = some (.row (cs ++ ys) true) := by
                  rw [AHeap.put_get, if_pos ⟨rfl, H.lt_of_get hg⟩, laid_end]
                have hre := hsim.retail hgp hm (o := o) (by simp; omega)
                rw [AHeap.put_next, put_del, List.drop_append_of_le_length (by omega)] at hre
                refine ⟨_, _, _, hk' cap hroom, by rw [AHeap.new_next, AHeap.del_next]; omega, Mu.plus_ext _ _ _, hre, ?_, hkeep⟩
                exact .slice (plus_self _ _ _) rfl rfl (.inr rfl) (by simp only [Nat.zero_add]; omega) hroom
              · obtain ⟨olds, hol, hor, hoc⟩ := row_cells (off := o) (n := len * i.size) hs hg hm (by omega)
                have e1 : (cs.drop o).take (len * i.size) = cs.drop o := List.take_of_length_le (by simp; omega)
                rw [e1] at hor
                have hold : ∀ dn, (Builtin.firstCells i.size len (.slice (some ⟨li.blk, li.base + o, none⟩) len cap)).run P { w with drawn := dn } = .ok olds.toArray { w with drawn := dn } := by
                  intro dn
                  simp only [Builtin.firstCells]
                  rw [← hol]
                  exact run_loadCells_at (w := { w with drawn := dn }) hoc
                exact grow_sound hs ht hi hz hzs' (hs.forget l) rfl hold hor (by simp; omega) hS hyR (by omega) hb hfit hk'
            · rename_i htail
              split at h
              · rename_i hin
                obtain ⟨h1, h2, hone⟩ := hin
                obtain ⟨us, hS, hyR⟩ := src_of (P := P) (tx := tx) hs hsrc hy hone hk
                have e2 : (len + n) * i.size = len * i.size + n * i.size := Nat.add_mul _ _ _
                obtain ⟨w', hst, hsim, hkeep⟩ := store_sound (P := P) (o := o + len * i.size) hs hg hm hyR hone (by omega) (by omega)
                have hst' : (storeCells ((⟨li.blk, li.base + o, none⟩ : Addr).add (len * i.size)) us).run P w = .ok () w' := by
                  rw [addr_add, Nat.add_assoc]; exact hst
                refine ⟨_, w', append_room t tx ty e ht hi hS h2 hst', ?_⟩
                exact ⟨μ, _, _, h, by rw [AHeap.put_next]; exact Nat.le_refl _, Mu.ext_refl _ _, hsim, .slice hm rfl rfl (.inr rfl) hlim h2, hkeep⟩
              · exact h.elim
          · rename_i cs hg
            split at h
            · rename_i hh
              obtain ⟨hcap, hle⟩ := hh
              obtain ⟨hfit, hone, hk'⟩ := h
              obtain ⟨us, hS, hyR⟩ := src_of (P := P) (tx := tx) hs hsrc hy hone hk
              obtain ⟨olds, hol, hor, hoc⟩ := row_cells (off := o) (n := len * i.size) hs hg hm hle
              have hold : ∀ dn, (Builtin.firstCells i.size len (.slice (some ⟨li.blk, li.base + o, none⟩) len cap)).run P { w with drawn := dn } = .ok olds.toArray { w with drawn := dn } := by
                intro dn
                simp only [Builtin.firstCells]
                rw [← hol]
                exact run_loadCells_at (w := { w with drawn := dn }) hoc
              exact grow_sound hs ht hi hz hzs' hs rfl hold hor (by simp; omega) hS hyR hcap hb hfit hk'
            · exact h.elim
          · exact h.elim
      · exact h.elim
    · exact h.elim

theorem map_put {l : Nat} {li : LI} {es es' : List (AV × AV)} {ms ms' : Array MapEntry} {ck ck' : Nat} (hs : Sim F μ H w) (hg : H.get l = some (.mp es)) (hm : μ l = some li) (hsz : ms'.size = es'.length)
    (hr : ∀ (i : Nat) (e : AV × AV) (m : MapEntry), es'[i]? = some e → ms'[i]? = some m → R μ e.1 m.key ∧ R μ e.2 m.val) (hh : w.heap[li.blk]? = some (.map ms ck)) :
    Sim F μ (H.put l (.mp es')) { w with heap := w.heap.setIfInBounds li.blk (.map ms' ck') } ∧ Keeps F w { w with heap := w.heap.setIfInBounds li.blk (.map ms' ck') } := by
  have hln : l < H.next := H.lt_of_get hg
  have hblk := (hs.dom l li hm).2
  have hother : ∀ b, b ≠ li.blk → (w.heap.setIfInBounds li.blk (.map ms' ck'))[b]? = w.heap[b]? := fun b h => by
    rw [Array.getElem?_setIfInBounds, if_neg (Ne.symm h)]
  have hself : (w.heap.setIfInBounds li.blk (.map ms' ck'))[li.blk]? = some (.map ms' ck') := by simp [hblk]
  have hget : ∀ l', l' ≠ l → (H.put l (.mp es')).get l' = H.get l' := fun l' h => by rw [AHeap.put_get, if_neg (by omega)]
  have hgets : (H.put l (.mp es')).get l = some (.mp es') := by rw [AHeap.put_get, if_pos ⟨rfl, hln⟩]
  refine ⟨⟨?_, ?_, ?_, ?_, ?_, ?_⟩, ?_⟩
  · intro l' li' h
    have := hs.dom l' li' h
    exact ⟨this.1, by simpa using this.2⟩
  · intro l' li' cs' wr hg' hm'
    by_cases h : l' = l
    · subst h; rw [hgets] at hg'; cases hg'
    · rw [hget l' h] at hg'
      obtain ⟨c1, e1, lo1, hi1, k1, k2, k3, k4, k5⟩ := hs.row l' li' cs' wr hg' hm'
      have hne : li.blk ≠ li'.blk := hs.sep l l' _ _ li li' (Ne.symm h) hg rfl hg' hm hm'
      exact ⟨c1, e1, lo1, hi1, by show (w.heap.setIfInBounds li.blk _)[li'.blk]? = _; rw [hother _ (Ne.symm hne)]; exact k1, k2, k3, k4, k5⟩
  · intro l' li' es1 hg' hm'
    by_cases h : l' = l
    · subst h
      rw [hgets] at hg'; cases hg'
      rw [hm] at hm'; cases hm'
      exact ⟨ms', ck', hself, hsz, hr⟩
    · rw [hget l' h] at hg'
      obtain ⟨ms1, ck1, k1, k2, k3⟩ := hs.mp l' li' es1 hg' hm'
      have hne : li.blk ≠ li'.blk := hs.sep l l' _ _ li li' (Ne.symm h) hg rfl hg' hm hm'
      exact ⟨ms1, ck1, by show (w.heap.setIfInBounds li.blk _)[li'.blk]? = _; rw [hother _ (Ne.symm hne)]; exact k1, k2, k3⟩
  · intro l1 l2 b1 b2 li1 li2 hne h1 hw h2 hm1 hm2
    have key : ∀ l' b', (H.put l (.mp es')).get l' = some b' → ∃ b'', H.get l' = some b'' ∧ (b'.wr = true → b''.wr = true) := by
      intro l' b' h'
      by_cases h : l' = l
      · subst h
        exact ⟨_, hg, fun _ => rfl⟩
      · rw [hget l' h] at h'
        exact ⟨b', h', id⟩
    obtain ⟨c1, k1, k2⟩ := key l1 b1 h1
    obtain ⟨c2, k3, _⟩ := key l2 b2 h2
    exact hs.sep l1 l2 c1 c2 li1 li2 hne k1 (k2 hw) k3 hm1 hm2
  · intro l1 b1 li1 h1 hw hm1
    by_cases h : l1 = l
    · subst h
      exact hs.may l1 _ li1 hg rfl hm1
    · rw [hget l1 h] at h1
      exact hs.may l1 b1 li1 h1 hw hm1
  · intro b hb'
    exact hs.fresh b (by simpa using hb')
  · exact ⟨rfl, rfl, rfl, by simp, fun b _ hF => hother b (fun h => hF (h ▸ hs.may l _ li hg rfl hm))⟩

theorem lookA_of_mpSet : ∀ {es : List (AV × AV)} {k v : AV} {es' : List (AV × AV)}, mpSet es k v = some es' → ∃ r, lookA es k = some r ∧ match r with
    | none => es' = es ++ [(k, v)]
    | some x => ∃ j a, es[j]? = some (a, x) ∧ cellEq 0 k a = some true ∧ es' = es.set j (k, v) ∧ (∀ i b, i < j → es[i]? = some b → cellEq 0 k b.1 = some false)
  | [], k, v, es', h => by simp [mpSet] at h; subst h; exact ⟨none, rfl, rfl⟩
  | (a, b) :: es, k, v, es', h => by
    simp only [mpSet] at h
    split at h
    · rename_i hc
      cases h
      exact ⟨some b, by simp [lookA, hc], 0, a, rfl, hc, rfl, fun i b hi => by omega⟩
    · rename_i hc
      simp only [Option.map_eq_some_iff] at h
      obtain ⟨es1, h1, rfl⟩ := h
      obtain ⟨r, hr, hm⟩ := lookA_of_mpSet h1
      refine ⟨r, by simp [lookA, hc, hr], ?_⟩
      cases r with
      | none => simp only at hm ⊢; rw [hm]; rfl
      | some x =>
        obtain ⟨j, a', g1, g2, g3, g4⟩ := hm
        refine ⟨j + 1, a', by simpa using g1, g2, by rw [g3]; rfl, ?_⟩
        intro i b' hi hb'
        cases i with
        | zero => simp at hb'; subst hb'; exact hc
        | succ i => exact g4 i b' (by omega) (by simpa using hb')
    · cases h
end
end Go.Ab
