/- Operations with effects are sound. -/
import Derived.Test.YtgjhjemmddojfaaAb8
import Derived.Deep.AppendSrc
set_option linter.unusedVariables false
set_option linter.unusedSimpArgs false
namespace Go.Ab

theorem AHeap.ext {H H' : AHeap} (h : H.next = H'.next) (g : ∀ l, H.get l = H'.get l) : H = H' := by
  cases H; cases H'
  simp only at h g
  subst h
  have := funext g
  subst this
  rfl

section
variable {P : Program} {μ : Mu} {E : Env} {a : Act} {F : Nat → Prop} {H : AHeap} {w : World} {k : AV → AHeap → Prop}

/-- The same row under another name, from its cell 'o' on. -/
theorem Sim.retail (hs : Sim F μ H w) {l : Nat} {li : LI} {cs : List AV} (hg : H.get l = some (.row cs true)) (hm : μ l = some li) {o : Nat} (ho : o ≤ cs.length) :
    Sim F (μ.plus H.next ⟨li.blk, li.base + o, li.lim - o⟩) ((H.del l).new (.row (cs.drop o) true)) w := by
  have hln : l < H.next := H.lt_of_get hg
  have lift : ∀ {a : AV} {v : Value}, R μ a v → R (μ.plus H.next ⟨li.blk, li.base + o, li.lim - o⟩) a v := fun h => hs.lift (Mu.plus_ext _ _ _) h
  have hnew : ∀ l', l' ≠ H.next → μ.plus H.next ⟨li.blk, li.base + o, li.lim - o⟩ l' = μ l' := fun l' h => by unfold Mu.plus; rw [if_neg h]
  have hat : μ.plus H.next ⟨li.blk, li.base + o, li.lim - o⟩ H.next = some ⟨li.blk, li.base + o, li.lim - o⟩ := by unfold Mu.plus; rw [if_pos rfl]
  obtain ⟨c, e, lo, hi, g1, g2, g3, g4, g5⟩ := hs.row l li cs true hg hm
  have hget : ∀ l', l' ≠ H.next → ((H.del l).new (.row (cs.drop o) true)).get l' = if l' = l then none else H.get l' := fun l' h => by
    rw [AHeap.new_get, AHeap.del_next, if_neg h, AHeap.del_get]
  have hgat : ((H.del l).new (.row (cs.drop o) true)).get H.next = some (.row (cs.drop o) true) := by rw [AHeap.new_get, AHeap.del_next, if_pos rfl]
  refine ⟨?_, ?_, ?_, ?_, ?_, hs.fresh⟩
  · intro l' li' h
    by_cases hl' : l' = H.next
    · subst hl'; rw [hat] at h; cases h
      exact ⟨by rw [AHeap.new_next, AHeap.del_next]; omega, (hs.dom l li hm).2⟩
    · rw [hnew l' hl'] at h
      obtain ⟨h1, h2⟩ := hs.dom l' li' h
      exact ⟨by rw [AHeap.new_next, AHeap.del_next]; omega, h2⟩
  · intro l' li' cs' wr hg' hm'
    by_cases hl' : l' = H.next
    · subst hl'
      rw [hgat] at hg'; cases hg'
      rw [hat] at hm'; cases hm'
      refine ⟨c, e, lo, hi, g1, by simp only; omega, by simp; omega, ?_, fun _ j h1 h2 => g5 rfl j (by simp only at h1; omega) (by simp only at h2; omega)⟩
      intro i x hi'
      rw [List.getElem?_drop] at hi'
      obtain ⟨v, hv, hR⟩ := g4 (o + i) x hi'
      exact ⟨v, by simp only [Nat.add_assoc] at hv ⊢; exact hv, lift hR⟩
    · rw [hget l' hl'] at hg'
      rw [hnew l' hl'] at hm'
      split at hg'
      · cases hg'
      · obtain ⟨c', e', lo', hi', h1, h2, h3, h4, h5⟩ := hs.row l' li' cs' wr hg' hm'
        exact ⟨c', e', lo', hi', h1, h2, h3, fun i x hx => by obtain ⟨v, hv, hR⟩ := h4 i x hx; exact ⟨v, hv, lift hR⟩, h5⟩
  · intro l' li' es hg' hm'
    by_cases hl' : l' = H.next
    · subst hl'; rw [hgat] at hg'; cases hg'
    · rw [hget l' hl'] at hg'
      rw [hnew l' hl'] at hm'
      split at hg'
      · cases hg'
      · obtain ⟨ms, ck, h1, h2, h3⟩ := hs.mp l' li' es hg' hm'
        exact ⟨ms, ck, h1, h2, fun i e m he hm' => ⟨lift (h3 i e m he hm').1, lift (h3 i e m he hm').2⟩⟩
  · intro l1 l2 b1 b2 li1 li2 hne h1 hw h2 hm1 hm2
    by_cases e1 : l1 = H.next
    · subst e1
      rw [hat] at hm1; cases hm1
      rw [hget l2 (Ne.symm hne)] at h2
      rw [hnew l2 (Ne.symm hne)] at hm2
      split at h2
      · cases h2
      · rename_i hl2
        exact hs.sep l l2 _ b2 li li2 (Ne.symm hl2) hg rfl h2 hm hm2
    · rw [hget l1 e1] at h1
      rw [hnew l1 e1] at hm1
      split at h1
      · cases h1
      · rename_i hl1
        by_cases e2 : l2 = H.next
        · subst e2
          rw [hat] at hm2; cases hm2
          exact hs.sep l1 l b1 _ li1 li hl1 h1 hw hg hm1 hm
        · rw [hget l2 e2] at h2
          rw [hnew l2 e2] at hm2
          split at h2
          · cases h2
          · exact hs.sep l1 l2 b1 b2 li1 li2 hne h1 hw h2 hm1 hm2
  · intro l1 b1 li1 h1 hw hm1
    by_cases e1 : l1 = H.next
    · subst e1
      rw [hat] at hm1; cases hm1
      exact hs.may l _ li hg rfl hm
    · rw [hget l1 e1] at h1
      rw [hnew l1 e1] at hm1
      split at h1
      · cases h1
      · exact hs.may l1 b1 li1 h1 hw hm1

/-- A row that lies nowhere yet. -/
theorem Sim.ghost (hs : Sim F μ H w) (b : HB) : Sim F μ (H.new b) w := by
  have hne : ∀ l li, μ l = some li → l ≠ H.next := fun l li h => by have := (hs.dom l li h).1; omega
  refine ⟨fun l li h => ⟨by rw [AHeap.new_next]; have := (hs.dom l li h).1; omega, (hs.dom l li h).2⟩, ?_, ?_, ?_, ?_, hs.fresh⟩
  · intro l li cs wr hg hm
    rw [AHeap.new_get, if_neg (hne l li hm)] at hg
    exact hs.row l li cs wr hg hm
  · intro l li es hg hm
    rw [AHeap.new_get, if_neg (hne l li hm)] at hg
    exact hs.mp l li es hg hm
  · intro l l' b b' li li' h hg hw hg' hm hm'
    rw [AHeap.new_get, if_neg (hne l li hm)] at hg
    rw [AHeap.new_get, if_neg (hne l' li' hm')] at hg'
    exact hs.sep l l' b b' li li' h hg hw hg' hm hm'
  · intro l b li hg hw hm
    rw [AHeap.new_get, if_neg (hne l li hm)] at hg
    exact hs.may l b li hg hw hm

/-- Less is known. -/
theorem Sim.forget (hs : Sim F μ H w) (l : Nat) : Sim F μ (H.del l) w := by
  have hg : ∀ l' b, (H.del l).get l' = some b → H.get l' = some b := fun l' b h => by
    rw [AHeap.del_get] at h
    split at h
    · cases h
    · exact h
  exact ⟨hs.dom, fun l' li cs wr h => hs.row l' li cs wr (hg _ _ h), fun l' li es h => hs.mp l' li es (hg _ _ h),
    fun l1 l2 b1 b2 li1 li2 h h1 hw h2 => hs.sep l1 l2 b1 b2 li1 li2 h (hg _ _ h1) hw (hg _ _ h2), fun l1 b1 li1 h1 => hs.may l1 b1 li1 (hg _ _ h1), hs.fresh⟩

theorem Out.same {r : AV} {v : Value} (hk : k r H) (hs : Sim F μ H w) (hr : R μ r v) : Out F μ H w k v w := ⟨μ, r, H, hk, Nat.le_refl _, Mu.ext_refl _ _, hs, hr, Keeps.refl _ _⟩

theorem Out.drew {r : AV} {v : Value} {w' : World} (hk : k r H) (hs : Sim F μ H w) (hr : R μ r v) (hd : Drew w w') : Out F μ H w k v w' := by
  rcases hd with rfl | ⟨n, rfl⟩
  · exact Out.same hk hs hr
  · exact ⟨μ, r, H, hk, Nat.le_refl _, Mu.ext_refl _ _, hs.drew n, hr, Keeps.drew _ _⟩

theorem newRow_run {e : TypeId} {c : Array Value} : (newRow e c).run P w = .ok ⟨w.heap.size, 0, none⟩ { w with heap := w.heap.push (.cells c e) } := rfl

/-- A new row, and a pointer or a slice to it. -/
theorem out_new (hs : Sim F μ H w) {cs : List AV} {c : Array Value} {e : TypeId} {r : AV} {v : Value} (n : Nat) (hl : cs.length ≤ c.size) (hr : ∀ (i : Nat) (a : AV), cs[i]? = some a → ∃ v, c[i]? = some v ∧ R μ a v)
    (hk : k r (H.new (.row cs true))) (hR : R (μ.plus H.next ⟨w.heap.size, 0, c.size⟩) r v) : Out F μ H w k v { w with heap := w.heap.push (.cells c e), drawn := n } :=
  ⟨_, r, _, hk, by rw [AHeap.new_next]; omega, Mu.plus_ext _ _ _, hs.push hl hr n, hR, keeps_push hs.fresh _ n⟩

theorem RL.full {cs : List AV} {c : Array Value} (h : RL μ cs c.toList) : cs.length ≤ c.size ∧ ∀ (i : Nat) (a : AV), cs[i]? = some a → ∃ v, c[i]? = some v ∧ R μ a v :=
  ⟨by rw [h.1]; simp, fun i a ha => by obtain ⟨v, hv, hR⟩ := h.get ha; exact ⟨v, by rw [← Array.getElem?_toList]; exact hv, hR⟩⟩

theorem plus_self (μ : Mu) (n : Nat) (li : LI) : μ.plus n li n = some li := by unfold Mu.plus; rw [if_pos rfl]

theorem range_zero (z : Array Value) (n : Nat) : ((Array.range (n * z.size)).map fun i => z[i % z.size]!).toList = (List.replicate n z.toList).flatten := by
  rw [Array.toList_map, Array.toList_range]
  induction n with
  | zero => simp
  | succ n ih =>
    rw [Nat.succ_mul, List.range_add, List.map_append, ih, List.replicate_succ', List.flatten_append, List.map_map]
    congr 1
    simp only [List.flatten_cons, List.flatten_nil, List.append_nil]
    apply List.ext_getElem
    · simp
    · intro i h1 h2
      simp only [List.length_map, List.length_range] at h1
      have e : (n * z.size + i) % z.size = i := by rw [Nat.mul_comm, Nat.mul_add_mod, Nat.mod_eq_of_lt h1]
      simp only [List.getElem_map, List.getElem_range, Function.comp_apply, e]
      rw [getElem!_pos z i h1]
      rfl

theorem RL.replicate {zs : List AV} {us : List Value} (h : RL μ zs us) (n : Nat) : RL μ (List.replicate n zs).flatten (List.replicate n us).flatten := by
  induction n with
  | zero => exact RL.nil
  | succ n ih => rw [List.replicate_succ, List.replicate_succ]; exact RL.append h ih

theorem zeroRow_RL {zs : List AV} {z : Array Value} (h : RL μ zs z.toList) {sz : Nat} (hz : zs.length = sz) (n : Nat) :
    RL μ (List.replicate n zs).flatten ((Array.range (n * sz)).map fun i => z[i % z.size]!).toList := by
  have : z.size = sz := by rw [← hz, h.1]; simp
  rw [← this, range_zero]
  exact h.replicate n

theorem nextslicecap_le {need cap : Nat} (h : cap < need) : Builtin.nextslicecap need cap ≤ 2 * need + 192 := by
  have grow : ∀ r c, c ≤ need + (need + 768) / 4 → Builtin.growBy need r c ≤ need + (need + 768) / 4 := by
    intro r
    induction r with
    | zero => intro c hc; exact hc
    | succ r ih =>
      intro c hc
      simp only [Builtin.growBy]
      split
      · exact hc
      · rename_i hlt
        refine ih _ ?_
        have : (c + 768) / 4 ≤ (need + 768) / 4 := Nat.div_le_div_right (by omega)
        omega
  unfold Builtin.nextslicecap
  split
  · omega
  · split
    · omega
    · have := grow 4 cap (by omega)
      omega

/-- What is appended or copied. -/
theorem src_run (hs : Sim F μ H w) {sz n : Nat} {y : AV} {ys : List AV} {v : Value} (h : srcCells H.get sz y = some (ys, n)) (hr : R μ y v) :
    (Builtin.lenOf v).run P w = .ok n w ∧ ys.length = n * sz ∧ ∀ m, m ≤ n → ∃ us : List Value, (∀ dn, (Builtin.firstCells sz m v).run P { w with drawn := dn } = .ok us.toArray { w with drawn := dn }) ∧ RL μ (ys.take (m * sz)) us := by
  unfold srcCells at h
  split at h
  · cases h
    obtain rfl := nilSlice_inv hr
    exact ⟨rfl, by simp, fun m hm => ⟨[], fun _ => rfl, by simpa using RL.nil⟩⟩
  · rename_i l o nn cap sz'
    split at h
    · rename_i hsz
      subst hsz
      split at h
      · rename_i hn
        subst hn
        cases h
        obtain ⟨p, rfl, _⟩ := slice_form hr
        refine ⟨rfl, by simp, fun m hm => ⟨[], ?_, by simpa using RL.nil⟩⟩
        obtain rfl : m = 0 := by omega
        intro dn
        cases p with
        | none => rfl
        | some ad => simp only [Builtin.firstCells, Nat.zero_mul]; rfl
      · rename_i hn
        split at h
        · rename_i cs wr hg
          split at h
          · rename_i hl
            cases h
            generalize hsl : AV.slice l o n cap sz = s at hr
            cases hr with
            | @slice l' o' n'' cap' sz'' li ad hm hb hsp ho hlim hc =>
              cases hsl
              have ho' : ad.off = li.base + o := ho.resolve_left (by omega)
              have had : ad = ⟨li.blk, li.base + o, none⟩ := by cases ad; simp at *; simp [hb, ho', hsp]
              subst had
              refine ⟨rfl, by simp; omega, fun m hmn => ?_⟩
              have hle : m * sz ≤ n * sz := Nat.mul_le_mul_right sz hmn
              obtain ⟨us, hul, hur, huc⟩ := row_cells (off := o) (n := m * sz) hs hg hm (Nat.le_trans (Nat.add_le_add_left hle o) hl)
              refine ⟨us, ?_, ?_⟩
              · intro dn
                simp only [Builtin.firstCells]
                rw [← hul]
                exact run_loadCells_at (w := { w with drawn := dn }) huc
              · rw [List.take_take, Nat.min_eq_left hle]; exact hur
            | slice0 p => cases hsl; omega
            | _ => cases hsl
          · cases h
        · cases h
    · cases h
  · rename_i s
    split at h
    · rename_i hsz
      subst hsz
      cases h
      obtain ⟨b, rfl, rfl⟩ := str_inv hr
      refine ⟨rfl, by simp [byteCells], fun m hm => ⟨((b.extract 0 m).data.map fun b => Value.int .u8 b.toNat).toList, fun dn => by rw [Array.toArray_toList]; rfl, ?_⟩⟩
      have : ∀ l : List UInt8, RL μ (byteCells l) (l.map fun b => Value.int .u8 b.toNat) := by
        intro l
        induction l with
        | nil => exact RL.nil
        | cons c l ih => exact RL.cons (.int _ _) ih
      have h2 := this (b.data.toList.take m)
      have e1 : byteCells (b.data.toList.take m) = (byteCells b.data.toList).take (m * 1) := by simp [byteCells, List.map_take]
      rw [← e1]
      have e2 : ((b.extract 0 m).data.map fun b => Value.int .u8 b.toNat).toList = (b.data.toList.take m).map fun b => Value.int .u8 b.toNat := by
        simp [ByteArray.data_extract, List.extract]
      rw [e2]
      exact h2
    · cases h
  · cases h

theorem askRoom_run (n : Nat) : (askRoom n).run P w = .ok () w := by
  unfold askRoom
  split <;> rfl

end
end Go.Ab
