/- The other quiet operations; all of them together. -/
import Derived.Test.YtgjhjemmddojfaaAb4
import Derived.ChangeKeysEq
import Derived.Laws.BytesString
import Derived.Laws.StructEq
set_option linter.unusedVariables false
set_option linter.unusedSimpArgs false
namespace Go.Ab

section
variable {P : Program} {μ : Mu} {E : Env} {a : Act} {F : Nat → Prop} {H : AHeap} {w : World}

theorem agg_inv {as : List AV} {v : Value} (h : R μ (.agg as) v) : ∃ vs : Array Value, v = .agg vs ∧ RL μ as vs.toList := R.agg_inv h

theorem scalarTy_spec {e : TypeId} {kind : Nat} (h : scalarTy P e = some kind) : (∃ i, P.info? e = some i ∧ i.size = 1) ∧
    ((kind = 0 ∧ ∃ k, P.underlying e = some (.int k)) ∨ (kind = 1 ∧ ∃ k, P.underlying e = some (.float k)) ∨ (kind = 2 ∧ P.underlying e = some .bool) ∨ (kind = 3 ∧ P.underlying e = some .string)) := by
  unfold scalarTy at h
  split at h
  · rename_i hs
    refine ⟨?_, ?_⟩
    · unfold tySize at hs
      cases hi : P.info? e with
      | none => rw [hi] at hs; cases hs
      | some i => rw [hi] at hs; exact ⟨i, rfl, by simpa using hs⟩
    · split at h <;> first | cases h; done | skip
      all_goals (cases h; simp_all)
  · cases h

theorem cell_eq_run {e : TypeId} {kind : Nat} (h : scalarTy P e = some kind) {x y : AV} {v u : Value} {b : Bool} (hc : cellEq kind x y = some b) (hx : R μ x v) (hy : R μ y u) (d : Nat) :
    (Op.equalIn (d + 1) e v u).run P w = .ok b w := by
  obtain ⟨_, hk⟩ := scalarTy_spec h
  unfold cellEq at hc
  split at hc
  · obtain rfl := int_inv hx
    obtain rfl := int_inv hy
    split at hc
    · rename_i hh
      obtain ⟨rfl, rfl⟩ := hh
      cases hc
      obtain ⟨k', hu⟩ : ∃ k, P.underlying e = some (.int k) := by
        rcases hk with ⟨_, h⟩ | ⟨h, _⟩ | ⟨h, _⟩ | ⟨h, _⟩
        · exact h
        all_goals cases h
      simp only [Op.equalIn]
      rw [bind_ok (run_under hu)]
      simp [Sem.run_pure, beq_dec]
    · cases hc
  · obtain ⟨b1, rfl, rfl, hb1⟩ := flt_inv hx
    obtain ⟨b2, rfl, rfl, hb2⟩ := flt_inv hy
    split at hc
    · rename_i hh
      obtain ⟨rfl, rfl⟩ := hh
      cases hc
      obtain ⟨k', hu⟩ : ∃ k, P.underlying e = some (.float k) := by
        rcases hk with ⟨h, _⟩ | ⟨_, h⟩ | ⟨h, _⟩ | ⟨h, _⟩
        · cases h
        · exact h
        all_goals cases h
      simp only [Op.equalIn]
      rw [bind_ok (run_under hu)]
      simp [Sem.run_pure, Op.floatEq, ford_nrm]
    · cases hc
  · obtain rfl := bool_inv hx
    obtain rfl := bool_inv hy
    split at hc
    · rename_i hh
      subst hh
      cases hc
      have hu : P.underlying e = some .bool := by
        rcases hk with ⟨h, _⟩ | ⟨h, _⟩ | ⟨_, h⟩ | ⟨h, _⟩
        · cases h
        · cases h
        · exact h
        · cases h
      simp only [Op.equalIn]
      rw [bind_ok (run_under hu)]
      simp [Sem.run_pure]
    · cases hc
  · obtain ⟨b1, rfl, rfl⟩ := str_inv hx
    obtain ⟨b2, rfl, rfl⟩ := str_inv hy
    split at hc
    · rename_i hh
      subst hh
      cases hc
      have hu : P.underlying e = some .string := by
        rcases hk with ⟨h, _⟩ | ⟨h, _⟩ | ⟨h, _⟩ | ⟨_, h⟩
        · cases h
        · cases h
        · cases h
        · exact h
      rw [run_equalIn_string w d e b1 b2 hu, ByteArray.toList_eq, ByteArray.toList_eq]
      have : ∀ p q : List UInt8, (p == q) = decide (p = q) := fun p q => by by_cases hpq : p = q <;> simp [hpq]
      rw [this]
    · cases hc
  · cases hc

theorem eqItems_run {e : TypeId} {kind : Nat} (h : scalarTy P e = some kind) (d : Nat) {xs ys : Array Value} : ∀ (as bs : List AV) (off : Nat) (b : Bool), cellsEq kind as bs = some b →
    RL μ as (xs.toList.drop off) → RL μ bs (ys.toList.drop off) → (Op.eqItems (d + 1) e (P.cellsOf e) xs ys (List.range' off as.length)).run P w = .ok b w
  | [], bs, off, b, hc, hx, hy => by
    cases bs with
    | nil => simp [cellsEq] at hc; subst hc; rfl
    | cons _ _ => simp [cellsEq] at hc
  | x :: as, bs, off, b, hc, hx, hy => by
    cases bs with
    | nil => simp [cellsEq] at hc
    | cons y bs =>
      obtain ⟨⟨i, hi, hsz⟩, hk⟩ := scalarTy_spec h
      have hcells : P.cellsOf e = 1 := by unfold Program.cellsOf; rw [hi]; simpa using hsz
      have hag : tyAgg P e = some (false, 1) := by
        unfold tyAgg
        rcases hk with ⟨_, k, hu⟩ | ⟨_, k, hu⟩ | ⟨_, hu⟩ | ⟨_, hu⟩ <;> (rw [hu, hi]; simp [hsz])
      simp only [cellsEq] at hc
      split at hc
      · rename_i b1 b2 h1 h2
        cases hc
        obtain ⟨v, us, hv, hR, hxt⟩ := hx.cons_inv
        obtain ⟨u, us', hu, hR', hyt⟩ := hy.cons_inv
        have gv : xs[off]? = some v := by
          have := congrArg List.head? hv
          rw [List.head?_drop] at this
          simpa using this
        have gu : ys[off]? = some u := by
          have := congrArg List.head? hu
          rw [List.head?_drop] at this
          simpa using this
        have p1 : (Go.part e xs (off * P.cellsOf e)).run P w = .ok v w := by
          unfold Go.part
          rw [bind_ok (run_agg hag).1, hcells, Nat.mul_one]
          simp [gv, Sem.run_pure]
        have p2 : (Go.part e ys (off * P.cellsOf e)).run P w = .ok u w := by
          unfold Go.part
          rw [bind_ok (run_agg hag).1, hcells, Nat.mul_one]
          simp [gu, Sem.run_pure]
        have hxt' : RL μ as (xs.toList.drop (off + 1)) := by
          have : xs.toList.drop (off + 1) = us := by
            rw [← List.drop_drop, hv]; rfl
          rw [this]; exact hxt
        have hyt' : RL μ bs (ys.toList.drop (off + 1)) := by
          have : ys.toList.drop (off + 1) = us' := by
            rw [← List.drop_drop, hu]; rfl
          rw [this]; exact hyt
        have ih := eqItems_run h d as bs (off + 1) b2 h2 hxt' hyt'
        simp only [List.length_cons, List.range'_succ, Op.eqItems]
        rw [bind_ok p1, bind_ok p2, bind_ok (cell_eq_run h h1 hR hR' d)]
        cases b1
        · rfl
        · simpa using ih
      · cases hc

theorem eqAgg_run {t e : TypeId} {n kind : Nat} (hu : P.underlying t = some (.array n e)) (h : scalarTy P e = some kind) {as bs : List AV} {xs ys : Array Value} (hn : as.length = n) {b : Bool}
    (hc : cellsEq kind as bs = some b) (hx : RL μ as xs.toList) (hy : RL μ bs ys.toList) : (Op.equal t (.agg xs) (.agg ys)).run P w = .ok b w := by
  obtain ⟨⟨i, hi, _⟩, _⟩ := scalarTy_spec h
  have e1 : Op.equal t (.agg xs) (.agg ys) = Op.equalIn (9999 + 1) t (.agg xs) (.agg ys) := rfl
  rw [e1, run_equalIn_array w 9999 xs ys hu hi, List.range_eq_range']
  subst hn
  exact eqItems_run h 9998 as bs 0 b hc (by simpa using hx) (by simpa using hy)

/-! bounds of a slice expression -/
theorem bound_run {x : Option AV} {v : Option Value} {d y n : Nat} {code : BoundsCode} (h : bnd x d y = some n) (hx : ∀ a, x = some a → ∃ u, v = some u ∧ R μ a u) (hn : x = none → v = none) :
    (v = none ∧ n = d) ∨ ∃ u, v = some u ∧ (Instr.sliceBound u y code).run P w = .ok n w ∧ n ≤ y := by
  unfold bnd at h
  split at h
  · cases h; exact .inl ⟨hn rfl, rfl⟩
  · rename_i k m
    split at h
    · rename_i hb
      cases h
      obtain ⟨u, hu, hr⟩ := hx _ rfl
      obtain rfl := int_inv hr
      refine .inr ⟨_, hu, ?_, by omega⟩
      unfold Instr.sliceBound
      rw [bind_ok (show (asIntOf (.int k m)).run P w = .ok (k, m) w from rfl)]
      simp only [hb, and_self, if_true]
      rfl
    · cases h
  · cases h

structure OptR (μ : Mu) (x : Option AV) (v : Option Value) : Prop where
  some : ∀ a, x = some a → ∃ u, v = some u ∧ R μ a u
  none : x = none → v = none

theorem cOpt_R {x : Option Operand} {y : Option Opd} (h : cOpt x = some y) (he : RE μ E a) : OptR μ (y.map (·.ev E)) (x.map a.eval) := by
  cases x with
  | none => simp [cOpt] at h; subst h; exact ⟨fun _ h => by simp at h, fun _ => rfl⟩
  | some x =>
    simp only [cOpt, Option.map_eq_some_iff] at h
    obtain ⟨z, hz, rfl⟩ := h
    exact ⟨fun b hb => by simp at hb; subst hb; exact ⟨_, rfl, cOpd_R hz he⟩, fun h => by simp at h⟩

theorem bounds_run {isSlice : Bool} {len cap : Nat} {lo hi mx : Option AV} {l h m : Nat} {vlo vhi vmx : Option Value} (hb : bnds len cap lo hi mx = some (l, h, m)) (hlc : len ≤ cap)
    (hlo : OptR μ lo vlo) (hhi : OptR μ hi vhi) (hmx : OptR μ mx vmx) :
    (Instr.sliceBounds isSlice len cap vlo vhi vmx).run P w = .ok (l, h, m) w ∧ l ≤ h ∧ h ≤ m ∧ m ≤ cap := by
  unfold bnds at hb
  split at hb
  · cases hb
  · rename_i hne
    split at hb
    · cases hb
    · rename_i m' hm
      split at hb
      · cases hb
      · rename_i h' hh
        split at hb
        · cases hb
        · rename_i l' hl
          cases hb
          unfold Instr.sliceBounds
          cases vmx with
          | none =>
            have mx0 : mx = none := by
              cases mx with
              | none => rfl
              | some a => obtain ⟨u, hu, _⟩ := hmx.some a rfl; cases hu
            subst mx0
            simp only [bnd, Option.some.injEq] at hm
            subst hm
            rw [bind_ok (show (pure cap : Sem Nat).run P w = .ok cap w from rfl)]
            rcases bound_run (P := P) (w := w) (code := if isSlice then .sliceAcap else .sliceAlen) hh hhi.some hhi.none with ⟨rfl, rfl⟩ | ⟨u, rfl, hr, hle⟩
            · rw [bind_ok (show (pure h : Sem Nat).run P w = .ok h w from rfl)]
              rcases bound_run (P := P) (w := w) (code := .sliceB) hl hlo.some hlo.none with ⟨rfl, rfl⟩ | ⟨u, rfl, hr, hle⟩
              · exact ⟨by rw [bind_ok (show (pure 0 : Sem Nat).run P w = .ok 0 w from rfl)]; rfl, Nat.zero_le _, hlc, Nat.le_refl _⟩
              · refine ⟨?_, hle, hlc, Nat.le_refl _⟩
                simp only [Option.isSome_none, Bool.false_eq_true, if_false]
                rw [bind_ok hr]; rfl
            · simp only []
              rw [bind_ok hr]
              rcases bound_run (P := P) (w := w) (code := .sliceB) hl hlo.some hlo.none with ⟨rfl, rfl⟩ | ⟨u', rfl, hr', hle'⟩
              · exact ⟨by rw [bind_ok (show (pure 0 : Sem Nat).run P w = .ok 0 w from rfl)]; rfl, Nat.zero_le _, hle, Nat.le_refl _⟩
              · refine ⟨?_, hle', hle, Nat.le_refl _⟩
                simp only [Option.isSome_none, Bool.false_eq_true, if_false]
                rw [bind_ok hr']; rfl
          | some um =>
            cases mx with
            | none => have := hmx.none rfl; cases this
            | some am =>
              cases hi with
              | none => exact absurd rfl (hne am rfl)
              | some ah =>
                obtain ⟨uh, hvh, _⟩ := hhi.some ah rfl
                subst hvh
                rcases bound_run (P := P) (w := w) (code := if isSlice then .slice3Acap else .slice3Alen) hm hmx.some hmx.none with ⟨h0, _⟩ | ⟨u, hu, hr, hle⟩
                · cases h0
                cases hu
                simp only []
                rw [bind_ok hr]
                rcases bound_run (P := P) (w := w) (code := .slice3B) hh hhi.some hhi.none with ⟨h0, _⟩ | ⟨u', hu', hr', hle'⟩
                · cases h0
                cases hu'
                rw [bind_ok hr']
                rcases bound_run (P := P) (w := w) (code := .slice3C) hl hlo.some hlo.none with ⟨rfl, rfl⟩ | ⟨u'', rfl, hr'', hle''⟩
                · exact ⟨by rw [bind_ok (show (pure 0 : Sem Nat).run P w = .ok 0 w from rfl)]; rfl, Nat.zero_le _, hle', hle⟩
                · refine ⟨?_, hle'', hle', hle⟩
                  simp only [Option.isSome_some, if_true]
                  rw [bind_ok hr'']; rfl

theorem addr_add' {b : Addr} (h : b.spot = none) (n : Nat) : b.add n = ⟨b.block, b.off + n, none⟩ := by
  cases b with
  | mk bl o s => simp at h; subst h; exact addr_add bl o n

/-- A slice cut out of a slice. -/
theorem cut_R {l o len cap sz x y m : Nat} {p : Option Addr} {n c : Nat} (h : R μ (.slice l o len cap sz) (.slice p n c)) (hxy : x ≤ y) (hym : y ≤ m) (hm : m ≤ cap) :
    R μ (.slice l (o + x * sz) (y - x) (m - x) sz) (.slice (if m = x then p else p.map (·.add (x * sz))) (y - x) (m - x)) := by
  by_cases hmx : m = x
  · subst hmx
    obtain rfl : y = m := by omega
    simp only [if_true, Nat.sub_self]
    exact .slice0 _
  · rw [if_neg hmx]
    generalize hs : AV.slice l o len cap sz = s at h
    cases h with
    | @slice l' o' len' cap' sz' li a hμ hb hsp ho hl hc =>
      cases hs
      have hc0 : cap ≠ 0 := by omega
      have ho' : a.off = li.base + o := ho.resolve_left hc0
      have e1 : o + x * sz + (m - x) * sz = o + m * sz := by
        have e2 : m = x + (m - x) := by omega
        have : m * sz = x * sz + (m - x) * sz := by rw [← Nat.add_mul, ← e2]
        omega
      have e3 : m * sz ≤ cap * sz := Nat.mul_le_mul_right sz hm
      exact .slice hμ (by simp [addr_add' hsp, hb]) (by simp [addr_add' hsp]) (.inr (by simp [addr_add' hsp]; omega)) (by omega) (by omega)
    | slice0 p =>
      cases hs
      omega
    | _ => cases hs

/-! parts of a struct or an array put together -/
theorem laid_foldl : ∀ (us : List Value) (j off : Nat) (cs : Array Value), (us.zipIdx j).foldl (fun cs (c, j) => cs.setIfInBounds (off + j) c) cs =
    ((cs.toList.take (off + j) ++ us ++ cs.toList.drop (off + j + us.length)).take cs.size).toArray
  | [], j, off, cs => by
    apply Array.ext'
    simp [List.take_of_length_le]
  | u :: us, j, off, cs => by
    rw [List.zipIdx_cons, List.foldl_cons, laid_foldl us (j + 1) off]
    apply Array.ext'
    simp only [Array.size_setIfInBounds, Array.toList_setIfInBounds]
    apply List.ext_getElem?
    intro i
    simp only [List.getElem?_take, List.getElem?_append, List.getElem?_drop, List.length_append, List.length_take, List.length_set, List.getElem?_set, Array.length_toList, List.length_cons]
    by_cases hi : i < cs.size
    · simp only [hi, if_true]
      by_cases h1 : i < off + j
      · simp only [show i < off + (j + 1) by omega, show ¬ (off + j = i) by omega, if_true, if_false]
        have a1 : i < min (off + (j + 1)) cs.size + us.length := by omega
        have a2 : i < min (off + (j + 1)) cs.size := by omega
        have a3 : i < min (off + j) cs.size + (us.length + 1) := by omega
        have a4 : i < min (off + j) cs.size := by omega
        simp [a1, a2, a3, a4, h1]
      · by_cases h2 : i = off + j
        · subst h2
          have a1 : off + j < min (off + (j + 1)) cs.size + us.length := by omega
          have a2 : off + j < min (off + (j + 1)) cs.size := by omega
          have a3 : off + j < min (off + j) cs.size + (us.length + 1) := by omega
          have a4 : ¬ off + j < min (off + j) cs.size := by omega
          have a5 : off + j - min (off + j) cs.size = 0 := by omega
          simp [a1, a2, a3, a4, a5, hi]
        · by_cases h3 : i < off + j + us.length + 1
          · have a1 : i < min (off + (j + 1)) cs.size + us.length := by omega
            have a2 : ¬ i < min (off + (j + 1)) cs.size := by omega
            have a3 : i < min (off + j) cs.size + (us.length + 1) := by omega
            have a4 : ¬ i < min (off + j) cs.size := by omega
            have a5 : i - min (off + j) cs.size = (i - min (off + (j + 1)) cs.size) + 1 := by omega
            simp [a1, a2, a3, a4, a5]
          · have a1 : ¬ i < min (off + (j + 1)) cs.size + us.length := by omega
            have a3 : ¬ i < min (off + j) cs.size + (us.length + 1) := by omega
            have a6 : off + (j + 1) + us.length + (i - (min (off + (j + 1)) cs.size + us.length)) = i := by omega
            have a7 : off + j + (us.length + 1) + (i - (min (off + j) cs.size + (us.length + 1))) = i := by omega
            simp [a1, a3, a6, a7, show ¬ (off + j = i) by omega]
    · simp [hi]

theorem laid_RL {cs vs : List AV} {ds us : List Value} (h : RL μ cs ds) (hv : RL μ vs us) {off : Nat} : RL μ (laid cs off vs) (ds.take off ++ us ++ ds.drop (off + us.length)) := by
  unfold laid
  rw [← hv.1]
  exact RL.append (RL.append (h.take off) hv) (h.drop _)

theorem cells_R {x : AV} {v : Value} {vs : List AV} (hr : R μ x v) (hc : x.cells = some vs) : RL μ vs v.cells.toList := by
  have one : ∀ {v : Value}, R μ x v → x.cells = some [x] → v.cells = #[v] → RL μ [x] v.cells.toList := fun h _ e => by rw [e]; exact RL.cons h RL.nil
  cases hr <;> simp only [AV.cells, Option.some.injEq, reduceCtorEq] at hc <;> subst hc <;>
    first
      | (refine RL.cons ?_ RL.nil; first | (exact .bool _) | (exact .int _ _) | (exact .flt ‹_› ‹_›) | (exact .nanbits ‹_› ‹_›) | (exact .str ‹_›) | (exact .ptr ‹_› ‹_›) | (exact .nilptr) | (exact .slice ‹_› ‹_› ‹_› ‹_› ‹_› ‹_›) | (exact .slice0 _) | (exact .nilslice) | (exact .map ‹_› ‹_›) | (exact .func ‹_› ‹_› ‹_› ‹_›) | (exact .nilfunc) | (exact .iface ‹_›) | (exact .niliface) | (exact .glob))
      | (exact R.aggL.1 (.agg ‹_› ‹_›))
end
end Go.Ab
