/- Quiet operations: what the model's operation does is what 'aval' says. -/
import Derived.Test.YtgjhjemmddojfaaAb3
import Derived.Laws.Cells
import Derived.Laws.IdiomCopy
import Derived.Laws.Strings
set_option linter.unusedVariables false
set_option linter.unusedSimpArgs false
namespace Go.Ab

def RE (μ : Mu) (E : Env) (a : Act) : Prop := ∀ t, R μ (E t) (a.tmps.getD t Go.undef)

section
variable {P : Program} {μ : Mu} {E : Env} {a : Act} {F : Nat → Prop} {H : AHeap} {w : World}

theorem absCell_R {v : Value} {x : AV} (h : absCell v = some x) : R μ x v := by
  unfold absCell at h
  split at h
  · cases h; exact .bool _
  · cases h; exact .int _ _
  · split at h
    · rename_i hb; cases h; exact .flt rfl hb
    · cases h
  · cases h; exact .str rfl
  · cases h; exact .nilptr
  · cases h; exact .nilslice
  · cases h; exact .nilfunc
  · cases h; exact .niliface
  · cases h

theorem mapM_RL {f : Value → Option AV} (hf : ∀ v x, f v = some x → R μ x v) : ∀ {vs : List Value} {as : List AV}, vs.mapM f = some as → RL μ as vs
  | [], as, h => by simp at h; subst h; exact RL.nil
  | v :: vs, as, h => by
    simp only [List.mapM_cons, Option.bind_eq_bind, Option.bind_eq_some_iff, Option.pure_def, Option.some.injEq] at h
    obtain ⟨x, hx, xs, hxs, rfl⟩ := h
    exact RL.cons (hf v x hx) (mapM_RL hf hxs)

theorem absV_R {v : Value} {x : AV} (h : absV v = some x) : R μ x v := by
  unfold absV at h
  split at h
  · rename_i cs
    cases hm : cs.toList.mapM absCell with
    | none => rw [hm] at h; cases h
    | some as =>
      rw [hm] at h; cases h
      exact R.aggL.2 (mapM_RL (fun v x => absCell_R) hm)
  · rename_i vs
    split at h
    · rename_i he
      cases h
      have : vs = #[] := by simpa using he
      subst this
      exact .undef
    · cases h
  · exact absCell_R h

theorem cOpd_R {x : Operand} {y : Opd} (h : cOpd x = some y) (he : RE μ E a) : R μ (y.ev E) (a.eval x) := by
  cases x with
  | tmp t => simp [cOpd] at h; subst h; exact he t
  | const v =>
    simp only [cOpd, Option.map_eq_some_iff] at h
    obtain ⟨x, hx, rfl⟩ := h
    exact absV_R hx
  | global g => simp [cOpd] at h; subst h; exact .glob
  | func f => simp [cOpd] at h; subst h; exact .func rfl (fun i a v h => by simp at h) rfl (fun i a v h => by simp at h)

theorem cOpds_RL {xs : Array Operand} {ys : List Opd} (h : cOpds xs = some ys) (he : RE μ E a) : RL μ (ys.map (·.ev E)) (xs.map a.eval).toList := by
  unfold cOpds at h
  rw [Array.toList_map]
  generalize xs.toList = l at h
  clear xs
  induction l generalizing ys with
  | nil => simp at h; subst h; exact RL.nil
  | cons x l ih =>
    simp only [List.mapM_cons, Option.bind_eq_bind, Option.bind_eq_some_iff, Option.pure_def, Option.some.injEq] at h
    obtain ⟨y, hy, ys', hys, rfl⟩ := h
    exact RL.cons (cOpd_R hy he) (ih hys)

theorem run_pure {α : Type} (x : α) : (pure x : Sem α).run P w = .ok x w := rfl

/-- What a quiet step gives. -/
def Gets (P : Program) (μ : Mu) (w : World) (s : Sem Value) (r : AV) : Prop := ∃ v w', s.run P w = .ok v w' ∧ Drew w w' ∧ R μ r v

theorem Gets.pure {r : AV} {v : Value} (h : R μ r v) : Gets P μ w (Pure.pure v) r := ⟨v, w, rfl, .inl rfl, h⟩
theorem Gets.bind {α : Type} {s : Sem α} {f : α → Sem Value} {x : α} {r : AV} (h : s.run P w = .ok x w) (g : Gets P μ w (f x) r) : Gets P μ w (s >>= f) r := by
  obtain ⟨v, w', h1, h2, h3⟩ := g
  exact ⟨v, w', by rw [bind_ok h, h1], h2, h3⟩

theorem run_under {t : TypeId} {d : TypeDesc} (h : P.underlying t = some d) : (underlying t).run P w = .ok d w := run_underlying h w
theorem run_info {t : TypeId} {i : TypeInfo} (h : P.info? t = some i) : (typeInfo t).run P w = .ok i w := by
  simp [typeInfo, program, Sem.run, h]
theorem run_size {t : TypeId} {n : Nat} (h : tySize P t = some n) : (sizeOf t).run P w = .ok n w := by
  unfold tySize at h
  cases hi : P.info? t with
  | none => rw [hi] at h; cases h
  | some i =>
    rw [hi] at h; cases h
    simp only [sizeOf]
    rw [bind_ok (run_info hi)]; rfl
theorem run_agg {t : TypeId} {b : Bool} {n : Nat} (h : tyAgg P t = some (b, n)) : (isAgg t).run P w = .ok b w ∧ (sizeOf t).run P w = .ok n w := by
  unfold tyAgg at h
  cases hd : P.underlying t with
  | none => rw [hd] at h; cases h
  | some d =>
    cases hi : P.info? t with
    | none => rw [hd, hi] at h; cases h
    | some i =>
      rw [hd, hi] at h
      simp only [Option.some.injEq, Prod.mk.injEq] at h
      obtain ⟨h1, h2⟩ := h
      refine ⟨?_, run_size (by unfold tySize; rw [hi, ← h2]; rfl)⟩
      simp only [isAgg]
      rw [bind_ok (run_under hd)]
      split at h1 <;> (subst h1; first | rfl | (split <;> simp_all))

theorem addr_add (b o n : Nat) : (⟨b, o, none⟩ : Addr).add n = ⟨b, o + n, none⟩ := by unfold Addr.add; split <;> simp_all
theorem cell_of {b o : Nat} {c : Array Value} {e : TypeId} {f : Nat × Nat} (h : w.heap[b]? = some (.cells c e f)) : w.cell? ⟨b, o, none⟩ = c[o]? := by
  simp [World.cell?, h]
theorem frozen_of {b o : Nat} {c : Array Value} {e : TypeId} {lo hi : Nat} (h : w.heap[b]? = some (.cells c e (lo, hi))) : w.frozen? ⟨b, o, none⟩ = (decide (lo ≤ o) && decide (o < hi)) := by
  simp [World.frozen?, h]

/-- Cells of a row, read. -/
theorem row_cells (hs : Sim F μ H w) {l : Nat} {li : LI} {cs : List AV} {wr : Bool} (hg : H.get l = some (.row cs wr)) (hm : μ l = some li) {off n : Nat} (hn : off + n ≤ cs.length) :
    ∃ us : List Value, us.length = n ∧ RL μ ((cs.drop off).take n) us ∧ ∀ (j : Nat) (v : Value), us[j]? = some v → w.cell? ⟨li.blk, li.base + off + j, none⟩ = some v := by
  obtain ⟨c, e, lo, hi, hb, hsz, hlim, hc, _⟩ := hs.row l li cs wr hg hm
  refine ⟨(c.toList.drop (li.base + off)).take n, ?_, ⟨?_, ?_⟩, ?_⟩
  · simp; omega
  · simp; omega
  · intro i a v ha hv
    simp only [List.getElem?_take, List.getElem?_drop] at ha hv
    split at ha
    · rename_i hi'
      rw [if_pos hi'] at hv
      obtain ⟨v', hv', hr⟩ := hc (off + i) a ha
      rw [Array.getElem?_toList] at hv
      rw [Nat.add_assoc] at hv
      rw [hv] at hv'
      cases hv'
      exact hr
    · cases ha
  · intro j v hv
    simp only [List.getElem?_take, List.getElem?_drop] at hv
    split at hv
    · rw [cell_of hb, ← hv, Array.getElem?_toList]
    · cases hv

theorem run_loadCells_at {b o : Nat} {us : List Value} (h : ∀ (j : Nat) (v : Value), us[j]? = some v → w.cell? ⟨b, o + j, none⟩ = some v) : (loadCells ⟨b, o, none⟩ us.length).run P w = .ok us.toArray w :=
  run_loadCells_list w ⟨b, o, none⟩ us (fun j v hj => by rw [addr_add]; exact h j v hj)

theorem ptr_inv {l off : Nat} {v : Value} (h : R μ (.ptr l off) v) : ∃ li, μ l = some li ∧ v = .pointer (some ⟨li.blk, li.base + off, none⟩) := by
  cases h with
  | ptr h ha => exact ⟨_, h, by rw [ha]⟩

theorem load_sound (hs : Sim F μ H w) {t : TypeId} {ag : Bool} {n : Nat} (ht : tyAgg P t = some (ag, n)) {l off : Nat} {v : Value} (hv : R μ (.ptr l off) v) {cs : List AV} {wr : Bool}
    (hg : H.get l = some (.row cs wr)) {r : AV} (hp : part ag n off cs = some r) : Gets P μ w (Instr.loadAt t v) r := by
  obtain ⟨li, hm, rfl⟩ := ptr_inv hv
  obtain ⟨hA, hN⟩ := run_agg (w := w) ht
  unfold Instr.loadAt
  refine Gets.bind (x := ⟨li.blk, li.base + off, none⟩) rfl ?_
  unfold loadVar
  refine Gets.bind hA ?_
  unfold part at hp
  cases ag with
  | true =>
    simp only [if_true] at hp
    split at hp
    · rename_i hn
      cases hp
      obtain ⟨us, hl, hr, hc⟩ := row_cells hs hg hm hn
      simp only [if_true]
      refine Gets.bind hN ?_
      subst hl
      refine Gets.bind (run_loadCells_at hc) (Gets.pure (R.aggL.2 (by simpa using hr)))
    · cases hp
  | false =>
    simp only [Bool.false_eq_true, if_false] at hp ⊢
    obtain ⟨c, e, lo, hi, hb, hsz, hlim, hc, _⟩ := hs.row l li cs wr hg hm
    obtain ⟨u, hu, hr⟩ := hc off r hp
    refine ⟨u, w, ?_, .inl rfl, hr⟩
    rw [run_load, cell_of hb, hu]

theorem part_sound {t : TypeId} {ag : Bool} {n : Nat} (ht : tyAgg P t = some (ag, n)) {cs : List AV} {vs : Array Value} (hr : RL μ cs vs.toList) {off : Nat} {r : AV} (hp : part ag n off cs = some r) :
    Gets P μ w (Go.part t vs off) r := by
  obtain ⟨hA, hN⟩ := run_agg (w := w) ht
  unfold Go.part
  refine Gets.bind hA ?_
  unfold part at hp
  cases ag with
  | true =>
    simp only [if_true] at hp
    split at hp
    · rename_i hn
      cases hp
      simp only [if_true]
      refine Gets.bind hN (Gets.pure (R.aggL.2 ?_))
      have := (hr.drop off).take n
      simpa [Array.toList_extract, List.extract] using this
    · cases hp
  | false =>
    simp only [Bool.false_eq_true, if_false] at hp ⊢
    obtain ⟨v, hv, hR⟩ := hr.get hp
    rw [Array.getElem?_toList] at hv
    rw [hv]
    exact Gets.pure hR

/-! scalars, inverted -/
theorem bool_inv {b : Bool} {v : Value} (h : R μ (.bool b) v) : v = .bool b := by cases h; rfl
theorem int_inv {k : IntKind} {n : Int} {v : Value} (h : R μ (.int k n) v) : v = .int k n := by cases h; rfl
theorem flt_inv {k : FloatKind} {x : Option Nat} {v : Value} (h : R μ (.flt k x) v) : ∃ b, v = .float k b ∧ nrm k b = x ∧ b < 2 ^ k.format.width := by
  cases h with
  | flt h hb => exact ⟨_, rfl, h, hb⟩
theorem str_inv {s : List UInt8} {v : Value} (h : R μ (.str s) v) : ∃ b : ByteArray, v = .string b ∧ b.data.toList = s := by
  cases h with
  | str h => exact ⟨_, rfl, h⟩
theorem nanbits_inv {v : Value} (h : R μ .nanbits v) : ∃ n : Nat, v = .int .u32 n ∧ nrm .f32 n = none ∧ n < 2 ^ 32 := by
  cases h with
  | nanbits h hb => exact ⟨_, rfl, h, hb⟩


theorem guard_skip {op : BinOp} {t : TypeId} {X Y : Operand} {v u : Value} (h : ¬ (∃ xs ys, v = .agg xs ∧ u = .agg ys)) (h' : ¬ (v = .nilIface ∧ u = .nilIface)) :
    (eqGuard op t X Y v u).run P w = .ok () w := by
  unfold eqGuard
  split
  · simp only [Bool.not_true, Bool.false_eq_true, if_false]
    split
    · exact absurd ⟨rfl, rfl⟩ h'
    · exact absurd ⟨_, _, rfl, rfl⟩ h
    · rfl
  · simp only [Bool.not_true, Bool.false_eq_true, if_false]
    split
    · exact absurd ⟨rfl, rfl⟩ h'
    · exact absurd ⟨_, _, rfl, rfl⟩ h
    · rfl
  · rfl

theorem drewGets {s : Sem Value} {k : FloatKind} {x y : Nat} {op : BinOp} (hop : op = .add ∨ op = .sub ∨ op = .mul ∨ op = .quo) (hs : s = Op.floatArith op k x y) :
    Gets P μ w s (.flt k (fop op k (nrm k x) (nrm k y))) := by
  subst hs
  obtain ⟨r, w', h1, h2, h3, h4⟩ := run_floatArith (P := P) (w := w) op k x y hop
  exact ⟨_, w', h1, h2, .flt h3 h4⟩

theorem beq_dec (a b : Int) : (a == b) = decide (a = b) := by
  by_cases h : a = b <;> simp [h]
theorem bne_dec (a b : Int) : (a != b) = decide (a ≠ b) := by
  by_cases h : a = b <;> simp [h]

theorem bin_sound {op : BinOp} {t : TypeId} {X Y : Operand} {x y r : AV} {v u : Value} (h : binA op x y = some r) (hx : R μ x v) (hy : R μ y u) :
    Gets P μ w (do eqGuard op t X Y v u; binOp op t v u) r := by
  have hg : (eqGuard op t X Y v u).run P w = .ok () w := by
    refine guard_skip ?_ ?_
    · rintro ⟨xs, ys, rfl, rfl⟩
      unfold binA at h
      split at h <;> first | cases h; done | cases hx
    · rintro ⟨rfl, rfl⟩
      unfold binA at h
      split at h <;> first | cases h; done | cases hx
  refine Gets.bind hg ?_
  clear hg
  unfold binA at h
  split at h
  -- integers
  iterate 9
    · obtain rfl := int_inv hx
      obtain rfl := int_inv hy
      split at h
      · rename_i hk
        first
          | (subst hk; cases h; simp only [binOp, Op.intArith, Op.intBits, ne_eq, not_true_eq_false, if_false]; exact Gets.pure (.int _ _))
          | (obtain ⟨rfl, hb⟩ := hk; cases h; simp only [binOp, Op.intDiv, ne_eq, not_true_eq_false, if_false, hb]; exact Gets.pure (.int _ _))
      · cases h
  iterate 2
    · obtain rfl := int_inv hx
      obtain rfl := int_inv hy
      split at h
      · rename_i hk
        cases h
        simp only [binOp, Op.shift]
        rw [if_neg (by omega)]
        exact Gets.pure (.int _ _)
      · cases h
  iterate 6
    · obtain rfl := int_inv hx
      obtain rfl := int_inv hy
      split at h
      · rename_i hk
        subst hk
        cases h
        simp only [binOp, Op.intCmp, ne_eq, not_true_eq_false, if_false, beq_dec, bne_dec]
        exact Gets.pure (.bool _)
      · cases h
  -- what Float32bits leaves of a NaN
  · obtain ⟨n, rfl, hn, hl⟩ := nanbits_inv hx
    obtain rfl := int_inv hy
    split at h
    · rename_i b hb
      cases h
      simp only [binOp, Op.intCmp, ne_eq, not_true_eq_false, if_false]
      have : ((n : Int) == b) = false := by
        rw [beq_eq_false_iff_ne]
        rintro rfl
        exact hb.1 (by simpa using hn)
      rw [this]
      exact Gets.pure (.bool _)
    · cases h
  · obtain ⟨n, rfl, hn, hl⟩ := nanbits_inv hy
    obtain rfl := int_inv hx
    split at h
    · rename_i b hb
      cases h
      simp only [binOp, Op.intCmp, ne_eq, not_true_eq_false, if_false]
      have : (b == (n : Int)) = false := by
        rw [beq_eq_false_iff_ne]
        rintro rfl
        exact hb.1 (by simpa using hn)
      rw [this]
      exact Gets.pure (.bool _)
    · cases h
  · obtain ⟨n, rfl, hn, hl⟩ := nanbits_inv hx
    obtain ⟨m, rfl, hm, hl'⟩ := nanbits_inv hy
    cases h
    simp only [binOp, Op.intCmp, ne_eq, not_true_eq_false, if_false]
    exact Gets.pure (.any _)
  -- floats
  iterate 4
    · obtain ⟨b, rfl, rfl, hb⟩ := flt_inv hx
      obtain ⟨c, rfl, rfl, hc⟩ := flt_inv hy
      split at h
      · rename_i hk
        subst hk
        cases h
        exact drewGets (by simp) (by simp [binOp])
      · cases h
  iterate 6
    · obtain ⟨b, rfl, rfl, hb⟩ := flt_inv hx
      obtain ⟨c, rfl, rfl, hc⟩ := flt_inv hy
      split at h
      · rename_i hk
        subst hk
        cases h
        simp only [binOp, Op.floatCmp, ne_eq, not_true_eq_false, if_false, ford_nrm]
        exact Gets.pure (.bool _)
      · cases h
  -- strings
  · obtain ⟨b, rfl, rfl⟩ := str_inv hx
    obtain ⟨c, rfl, rfl⟩ := str_inv hy
    split at h
    · rename_i hl
      cases h
      simp only [binOp, Op.stringOp]
      rw [if_neg (by
        have e1 : b.size = b.data.toList.length := rfl
        have e2 : c.size = c.data.toList.length := rfl
        have e3 : IntKind.i64.max = 9223372036854775807 := rfl
        rw [e1, e2, e3]; omega)]
      exact Gets.pure (.str (by simp))
    · cases h
  iterate 6
    · obtain ⟨b, rfl, rfl⟩ := str_inv hx
      obtain ⟨c, rfl, rfl⟩ := str_inv hy
      cases h
      simp only [binOp, Op.stringOp, ByteArray.toList_eq]
      refine Gets.pure ?_
      first
        | exact .bool _
        | (have e : ∀ (p q : List UInt8), (p == q) = decide (p = q) := fun p q => by by_cases hpq : p = q <;> simp [hpq]
           simp only [e, decide_not]
           exact .bool _)
  · cases h
end
end Go.Ab
