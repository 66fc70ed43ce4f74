/- Walks of functions of the given program, by the theory of the texts Ab. -/
import Derived.Test.YtgjhjemmddojfaaAb11
set_option linter.unusedVariables false
set_option linter.unusedSimpArgs false
namespace Go.Ab
section
variable {P : Program}
theorem comp_alloc {op : Op} {zs : List AV} (h : comp P op = some (.alloc zs)) : ∃ t, op = .alloc t ∧ tyZero P t = some zs := by
  cases op
  case alloc t =>
    simp only [comp, Option.bind_eq_bind, Option.bind_eq_some_iff, Option.some.injEq, AOp.alloc.injEq] at h
    obtain ⟨z, hz, rfl⟩ := h; exact ⟨t, rfl, hz⟩
  all_goals exfalso
  all_goals simp only [comp, cAppend] at h
  all_goals repeat' split at h
  all_goals first | contradiction | (simp [Option.bind_eq_some_iff] at h; done) | (simp [Option.bind_eq_some_iff] at h; contradiction)

theorem comp_box {op : Op} {y : Opd} (h : comp P op = some (.box y)) : ∃ t x, op = .box t x ∧ cOpd x = some y := by
  cases op
  case box t x =>
    simp only [comp, Option.bind_eq_bind, Option.bind_eq_some_iff, Option.some.injEq, AOp.box.injEq] at h
    obtain ⟨z, hz, rfl⟩ := h; exact ⟨t, x, rfl, hz⟩
  all_goals exfalso
  all_goals simp only [comp, cAppend] at h
  all_goals repeat' split at h
  all_goals first | contradiction | (simp [Option.bind_eq_some_iff] at h; done) | (simp [Option.bind_eq_some_iff] at h; contradiction)

theorem comp_bslice {op : Op} {sz len : Nat} {zs : List AV} {ps : List (Nat × Nat × Opd)} (h : comp P op = some (.bslice sz len zs ps)) :
    ∃ t parts elem zs0, op = .buildSlice t len parts ∧ P.underlying t = some (.slice elem) ∧ tySize P elem = some sz ∧ tyZero P elem = some zs0 ∧ zs0.length = sz ∧ len * sz ≤ 2 ^ 24 ∧ zs = (List.replicate len zs0).flatten ∧
      parts.toList.mapM (fun (i, x) => do some (i * sz, sz, ← cOpd x)) = some ps := by
  cases op
  case buildSlice t len' parts =>
    simp only [comp] at h
    split at h
    · rename_i elem hu
      simp only [Option.bind_eq_bind, Option.bind_eq_some_iff] at h
      obtain ⟨sz', hsz, zs0, hzs, ps', hps, h⟩ := h
      split at h
      · rename_i hh
        simp only [Option.some.injEq, AOp.bslice.injEq] at h
        obtain ⟨rfl, rfl, rfl, rfl⟩ := h
        exact ⟨t, parts, elem, zs0, rfl, hu, hsz, hzs, hh.2, hh.1, rfl, hps⟩
      · cases h
    · cases h
  all_goals exfalso
  all_goals simp only [comp, cAppend] at h
  all_goals repeat' split at h
  all_goals first | contradiction | (simp [Option.bind_eq_some_iff] at h; done) | (simp [Option.bind_eq_some_iff] at h; contradiction)

theorem comp_store {op : Op} {n : Nat} {x y : Opd} (h : comp P op = some (.store n x y)) : ∃ t p q, op = .store t p q ∧ tySize P t = some n ∧ cOpd p = some x ∧ cOpd q = some y := by
  cases op
  case store t p q =>
    simp only [comp, Option.bind_eq_bind, Option.bind_eq_some_iff, Option.some.injEq, AOp.store.injEq] at h
    obtain ⟨n', hn, x', hx, y', hy, rfl, rfl, rfl⟩ := h; exact ⟨t, p, q, rfl, hn, hx, hy⟩
  all_goals exfalso
  all_goals simp only [comp, cAppend] at h
  all_goals repeat' split at h
  all_goals first | contradiction | (simp [Option.bind_eq_some_iff] at h; done) | (simp [Option.bind_eq_some_iff] at h; contradiction)

theorem comp_mkSlice {op : Op} {sz bytes : Nat} {zs : List AV} {x y : Opd} (h : comp P op = some (.mkSlice sz bytes zs x y)) :
    ∃ t l c elem, op = .makeSlice t l c ∧ P.underlying t = some (.slice elem) ∧ tySize P elem = some sz ∧ tyBytes P elem = some bytes ∧ tyZero P elem = some zs ∧ zs.length = sz ∧ cOpd l = some x ∧ cOpd c = some y := by
  cases op
  case makeSlice t l c =>
    simp only [comp] at h
    split at h
    · rename_i elem hu
      simp only [Option.bind_eq_bind, Option.bind_eq_some_iff] at h
      obtain ⟨sz', hsz, zs0, hzs, b', hb, h⟩ := h
      split at h
      · rename_i hh
        simp only [Option.bind_eq_some_iff, Option.some.injEq, AOp.mkSlice.injEq] at h
        obtain ⟨l', hl, c', hc, rfl, rfl, rfl, rfl, rfl⟩ := h
        exact ⟨t, l, c, elem, rfl, hu, hsz, hb, hzs, hh, hl, hc⟩
      · cases h
    · cases h
  all_goals exfalso
  all_goals simp only [comp, cAppend] at h
  all_goals repeat' split at h
  all_goals first | contradiction | (simp [Option.bind_eq_some_iff] at h; done) | (simp [Option.bind_eq_some_iff] at h; contradiction)

theorem comp_makeMap {op : Op} (h : comp P op = some .makeMap) : ∃ t, op = .makeMap t none := by
  cases op
  case makeMap t r => cases r with
    | none => exact ⟨t, rfl⟩
    | some r => simp [comp] at h
  all_goals exfalso
  all_goals simp only [comp, cAppend] at h
  all_goals repeat' split at h
  all_goals first | contradiction | (simp [Option.bind_eq_some_iff] at h; done) | (simp [Option.bind_eq_some_iff] at h; contradiction)

theorem comp_mapUpdate {op : Op} {x y z : Opd} (h : comp P op = some (.mapUpdate x y z)) :
    ∃ t m k v key elem k0, (op = .mapUpdate t m k v ∨ op = .insert t m k v) ∧ P.underlying t = some (.map key elem) ∧ P.underlying key = some (.int k0) ∧ cOpd m = some x ∧ cOpd k = some y ∧ cOpd v = some z := by
  cases op
  case mapUpdate t m k v =>
    simp only [comp] at h
    split at h
    · rename_i key elem hu
      split at h
      · rename_i k0 hk
        simp only [Option.bind_eq_bind, Option.bind_eq_some_iff, Option.some.injEq, AOp.mapUpdate.injEq] at h
        obtain ⟨m', hm, k', hk', v', hv, rfl, rfl, rfl⟩ := h
        exact ⟨t, m, k, v, key, elem, k0, .inl rfl, hu, hk, hm, hk', hv⟩
      · cases h
    · cases h
  case insert t m k v =>
    simp only [comp] at h
    split at h
    · rename_i key elem hu
      split at h
      · rename_i k0 hk
        simp only [Option.bind_eq_bind, Option.bind_eq_some_iff, Option.some.injEq, AOp.mapUpdate.injEq] at h
        obtain ⟨m', hm, k', hk', v', hv, rfl, rfl, rfl⟩ := h
        exact ⟨t, m, k, v, key, elem, k0, .inr rfl, hu, hk, hm, hk', hv⟩
      · cases h
    · cases h
  all_goals exfalso
  all_goals simp only [comp, cAppend] at h
  all_goals repeat' split at h
  all_goals first | contradiction | (simp [Option.bind_eq_some_iff] at h; done) | (simp [Option.bind_eq_some_iff] at h; contradiction)

theorem comp_call {op : Op} {f : FuncId} {as : List Opd} (h : comp P op = some (.call f as)) : ∃ c, op = .call c ∧ c.callee = .value (.func f) ∧ cOpds c.args = some as := by
  cases op
  case call c =>
    obtain ⟨callee, args, ts⟩ := c
    cases callee with
    | value g =>
      cases g <;> simp only [comp, Option.bind_eq_bind, Option.bind_eq_some_iff, Option.some.injEq, AOp.call.injEq, reduceCtorEq, and_false, exists_false] at h
      obtain ⟨as', has, rfl, rfl⟩ := h
      exact ⟨_, rfl, rfl, has⟩
    | invoke => simp [comp] at h
    | builtin b =>
      exfalso
      simp only [comp, cAppend] at h
      repeat' split at h
      all_goals first | contradiction | (simp [Option.bind_eq_some_iff] at h; done) | (simp [Option.bind_eq_some_iff] at h; contradiction)
  all_goals exfalso
  all_goals simp only [comp, cAppend] at h
  all_goals repeat' split at h
  all_goals first | contradiction | (simp [Option.bind_eq_some_iff] at h; done) | (simp [Option.bind_eq_some_iff] at h; contradiction)

theorem comp_callV {op : Op} {g : Opd} {as : List Opd} (h : comp P op = some (.callV g as)) : ∃ c g', op = .call c ∧ c.callee = .value g' ∧ cOpd g' = some g ∧ cOpds c.args = some as := by
  cases op
  case call c =>
    obtain ⟨callee, args, ts⟩ := c
    cases callee with
    | value g =>
      cases g <;> simp only [comp, Option.bind_eq_bind, Option.bind_eq_some_iff, Option.some.injEq, AOp.callV.injEq, reduceCtorEq, and_false, exists_false] at h
      all_goals (obtain ⟨g', hg, as', has, rfl, rfl⟩ := h; exact ⟨_, _, rfl, rfl, hg, has⟩)
    | invoke => simp [comp] at h
    | builtin b =>
      exfalso
      simp only [comp, cAppend] at h
      repeat' split at h
      all_goals first | contradiction | (simp [Option.bind_eq_some_iff] at h; done) | (simp [Option.bind_eq_some_iff] at h; contradiction)
  all_goals exfalso
  all_goals simp only [comp, cAppend] at h
  all_goals repeat' split at h
  all_goals first | contradiction | (simp [Option.bind_eq_some_iff] at h; done) | (simp [Option.bind_eq_some_iff] at h; contradiction)

theorem comp_append {op : Op} {sz bytes : Nat} {p q : Opd} (h : comp P op = some (.append sz bytes p q)) : ∃ c t u x y elem i z zs, (op = .call c ∧ c = ⟨.builtin .append, #[x, y], #[t, u]⟩) ∧ P.underlying t = some (.slice elem) ∧ ((∃ e', P.underlying u = some (.slice e')) ∨ P.underlying u = some .string) ∧ P.info? elem = some i ∧ i.zero = some z ∧ z.cells.toList.mapM absCell = some zs ∧ zs.length = i.size ∧ 0 < i.bytes ∧ sz = i.size ∧ bytes = i.bytes ∧ cOpd x = some p ∧ cOpd y = some q := by
  cases op
  case call c =>
    obtain ⟨callee, args, ts⟩ := c
    cases callee with
    | value g =>
      exfalso
      cases g <;> simp [comp, Option.bind_eq_some_iff] at h
    | invoke => simp [comp] at h
    | builtin b =>
      simp only [comp] at h
      split at h
      · exfalso
        repeat' split at h
        all_goals first | contradiction | (simp [cAppend, Option.bind_eq_some_iff] at h; done) | (simp [cAppend, Option.bind_eq_some_iff] at h; contradiction)
      · exfalso
        repeat' split at h
        all_goals first | contradiction | (simp [cAppend, Option.bind_eq_some_iff] at h; done) | (simp [cAppend, Option.bind_eq_some_iff] at h; contradiction)
      · exfalso
        repeat' split at h
        all_goals first | contradiction | (simp [cAppend, Option.bind_eq_some_iff] at h; done) | (simp [cAppend, Option.bind_eq_some_iff] at h; contradiction)
      · exfalso
        repeat' split at h
        all_goals first | contradiction | (simp [cAppend, Option.bind_eq_some_iff] at h; done) | (simp [cAppend, Option.bind_eq_some_iff] at h; contradiction)
      · rename_i x y t u hat hay
        obtain rfl : args = #[x, y] := by cases args; simpa using hat
        obtain rfl : ts = #[t, u] := by cases ts; simpa using hay
        split at h
        · rename_i elem e' hu hu'
          obtain ⟨i, z, zs, x', y', h1, h2, h3, h4, h5, h6, h7, h8⟩ := cAppend_spec h
          cases h8
          exact ⟨_, t, u, x, y, elem, i, z, zs, ⟨rfl, rfl⟩, hu, .inl ⟨e', hu'⟩, h1, h2, h3, h4, h5, rfl, rfl, h6, h7⟩
        · rename_i elem hu hu'
          obtain ⟨i, z, zs, x', y', h1, h2, h3, h4, h5, h6, h7, h8⟩ := cAppend_spec h
          cases h8
          exact ⟨_, t, u, x, y, elem, i, z, zs, ⟨rfl, rfl⟩, hu, .inr hu', h1, h2, h3, h4, h5, rfl, rfl, h6, h7⟩
        · cases h
      · exfalso
        repeat' split at h
        all_goals first | contradiction | (simp [cAppend, Option.bind_eq_some_iff] at h; done) | (simp [cAppend, Option.bind_eq_some_iff] at h; contradiction)
      · exfalso
        repeat' split at h
        all_goals first | contradiction | (simp [cAppend, Option.bind_eq_some_iff] at h; done) | (simp [cAppend, Option.bind_eq_some_iff] at h; contradiction)
      · exfalso
        repeat' split at h
        all_goals first | contradiction | (simp [cAppend, Option.bind_eq_some_iff] at h; done) | (simp [cAppend, Option.bind_eq_some_iff] at h; contradiction)

  all_goals exfalso
  all_goals simp only [comp, cAppend] at h
  all_goals repeat' split at h
  all_goals first | contradiction | (simp [Option.bind_eq_some_iff] at h; done) | (simp [Option.bind_eq_some_iff] at h; contradiction)

theorem comp_copy {op : Op} {sz : Nat} {p q : Opd} (h : comp P op = some (.copy sz p q)) : ∃ c t u x y elem, (op = .call c ∧ c = ⟨.builtin .copy, #[x, y], #[t, u]⟩) ∧ P.underlying t = some (.slice elem) ∧ tySize P elem = some sz ∧ cOpd x = some p ∧ cOpd y = some q := by
  cases op
  case call c =>
    obtain ⟨callee, args, ts⟩ := c
    cases callee with
    | value g =>
      exfalso
      cases g <;> simp [comp, Option.bind_eq_some_iff] at h
    | invoke => simp [comp] at h
    | builtin b =>
      simp only [comp] at h
      split at h
      · exfalso
        repeat' split at h
        all_goals first | contradiction | (simp [cAppend, Option.bind_eq_some_iff] at h; done) | (simp [cAppend, Option.bind_eq_some_iff] at h; contradiction)
      · exfalso
        repeat' split at h
        all_goals first | contradiction | (simp [cAppend, Option.bind_eq_some_iff] at h; done) | (simp [cAppend, Option.bind_eq_some_iff] at h; contradiction)
      · exfalso
        repeat' split at h
        all_goals first | contradiction | (simp [cAppend, Option.bind_eq_some_iff] at h; done) | (simp [cAppend, Option.bind_eq_some_iff] at h; contradiction)
      · exfalso
        repeat' split at h
        all_goals first | contradiction | (simp [cAppend, Option.bind_eq_some_iff] at h; done) | (simp [cAppend, Option.bind_eq_some_iff] at h; contradiction)
      · exfalso
        repeat' split at h
        all_goals first | contradiction | (simp [cAppend, Option.bind_eq_some_iff] at h; done) | (simp [cAppend, Option.bind_eq_some_iff] at h; contradiction)
      · rename_i x y t u hat hay
        obtain rfl : args = #[x, y] := by cases args; simpa using hat
        obtain rfl : ts = #[t, u] := by cases ts; simpa using hay
        split at h
        · rename_i elem e' hu hu'
          simp only [Option.bind_eq_bind, Option.bind_eq_some_iff, Option.some.injEq, AOp.copy.injEq] at h
          obtain ⟨sz', hsz, x', hx, y', hy, rfl, rfl, rfl⟩ := h
          exact ⟨_, t, u, x, y, elem, ⟨rfl, rfl⟩, hu, hsz, hx, hy⟩
        · cases h
      · exfalso
        repeat' split at h
        all_goals first | contradiction | (simp [cAppend, Option.bind_eq_some_iff] at h; done) | (simp [cAppend, Option.bind_eq_some_iff] at h; contradiction)
      · exfalso
        repeat' split at h
        all_goals first | contradiction | (simp [cAppend, Option.bind_eq_some_iff] at h; done) | (simp [cAppend, Option.bind_eq_some_iff] at h; contradiction)

  all_goals exfalso
  all_goals simp only [comp, cAppend] at h
  all_goals repeat' split at h
  all_goals first | contradiction | (simp [Option.bind_eq_some_iff] at h; done) | (simp [Option.bind_eq_some_iff] at h; contradiction)

theorem comp_clear {op : Op} {sz : Nat} {zs : List AV} {p : Opd} (h : comp P op = some (.clear sz zs p)) : ∃ c t x elem, (op = .call c ∧ c = ⟨.builtin .clear, #[x], #[t]⟩) ∧ P.underlying t = some (.slice elem) ∧ tySize P elem = some sz ∧ tyZero P elem = some zs ∧ cOpd x = some p := by
  cases op
  case call c =>
    obtain ⟨callee, args, ts⟩ := c
    cases callee with
    | value g =>
      exfalso
      cases g <;> simp [comp, Option.bind_eq_some_iff] at h
    | invoke => simp [comp] at h
    | builtin b =>
      simp only [comp] at h
      split at h
      · exfalso
        repeat' split at h
        all_goals first | contradiction | (simp [cAppend, Option.bind_eq_some_iff] at h; done) | (simp [cAppend, Option.bind_eq_some_iff] at h; contradiction)
      · exfalso
        repeat' split at h
        all_goals first | contradiction | (simp [cAppend, Option.bind_eq_some_iff] at h; done) | (simp [cAppend, Option.bind_eq_some_iff] at h; contradiction)
      · exfalso
        repeat' split at h
        all_goals first | contradiction | (simp [cAppend, Option.bind_eq_some_iff] at h; done) | (simp [cAppend, Option.bind_eq_some_iff] at h; contradiction)
      · exfalso
        repeat' split at h
        all_goals first | contradiction | (simp [cAppend, Option.bind_eq_some_iff] at h; done) | (simp [cAppend, Option.bind_eq_some_iff] at h; contradiction)
      · exfalso
        repeat' split at h
        all_goals first | contradiction | (simp [cAppend, Option.bind_eq_some_iff] at h; done) | (simp [cAppend, Option.bind_eq_some_iff] at h; contradiction)
      · exfalso
        repeat' split at h
        all_goals first | contradiction | (simp [cAppend, Option.bind_eq_some_iff] at h; done) | (simp [cAppend, Option.bind_eq_some_iff] at h; contradiction)
      · rename_i x t hat hay
        obtain rfl : args = #[x] := by cases args; simpa using hat
        obtain rfl : ts = #[t] := by cases ts; simpa using hay
        split at h
        · rename_i elem hu
          simp only [Option.bind_eq_bind, Option.bind_eq_some_iff, Option.some.injEq, AOp.clear.injEq] at h
          obtain ⟨sz', hsz, zs', hzs, x', hx, rfl, rfl, rfl⟩ := h
          exact ⟨_, t, x, elem, ⟨rfl, rfl⟩, hu, hsz, hzs, hx⟩
        · cases h
      · exfalso
        repeat' split at h
        all_goals first | contradiction | (simp [cAppend, Option.bind_eq_some_iff] at h; done) | (simp [cAppend, Option.bind_eq_some_iff] at h; contradiction)

  all_goals exfalso
  all_goals simp only [comp, cAppend] at h
  all_goals repeat' split at h
  all_goals first | contradiction | (simp [Option.bind_eq_some_iff] at h; done) | (simp [Option.bind_eq_some_iff] at h; contradiction)
end
end Go.Ab
