/- Every operation is sound: maps, and all of them together. -/
import Derived.Test.YtgjhjemmddojfaaAb11
import Derived.Test.YtgjhjemmddojfaaAb11b
set_option linter.unusedVariables false
set_option linter.unusedSimpArgs false
namespace Go.Ab

section
variable {P : Program} {μ : Mu} {E : Env} {a : Act} {F : Nat → Prop} {H : AHeap} {w : World} {k : AV → AHeap → Prop}

theorem key_of_cellEq {x y : AV} {u v : Value} (h : cellEq 0 x y = some true) (hx : R μ x u) (hy : R μ y v) : ∃ kk n, u = .int kk n ∧ v = .int kk n := by
  unfold cellEq at h
  split at h
  · split at h
    · rename_i hh
      obtain ⟨rfl, _⟩ := hh
      simp only [Option.some.injEq, decide_eq_true_eq] at h
      subst h
      exact ⟨_, _, int_inv hx, int_inv hy⟩
    · cases h
  · split at h
    · rename_i hh; cases hh.2
    · cases h
  · cases h
  · cases h
  · cases h

theorem mpSet_find {k0 : IntKind} : ∀ {es : List (AV × AV)} {ms : List MapEntry} {x v : AV} {u : Value} {es' : List (AV × AV)} (i : Nat), mpSet es x v = some es' → R μ x u → es.length = ms.length →
    (∀ (j : Nat) (e : AV × AV) (m : MapEntry), es[j]? = some e → ms[j]? = some m → R μ e.1 m.key ∧ R μ e.2 m.val) →
    (Instr.findNow (.int k0) u ms i = some none ∧ es' = es ++ [(x, v)]) ∨
      (∃ j m kk n, Instr.findNow (.int k0) u ms i = some (some (i + j, m.val)) ∧ ms[j]? = some m ∧ es' = es.set j (x, v) ∧ m.key = .int kk n ∧ u = .int kk n)
  | [], ms, x, v, u, es', i, h, hk, hl, hr => by
    cases ms with
    | nil => simp [mpSet] at h; subst h; exact .inl ⟨rfl, rfl⟩
    | cons _ _ => cases hl
  | (p, q) :: es, ms, x, v, u, es', i, h, hk, hl, hr => by
    cases ms with
    | nil => cases hl
    | cons m ms =>
      obtain ⟨h1, h2⟩ := hr 0 (p, q) m rfl rfl
      simp only at h1 h2
      simp only [mpSet] at h
      split at h
      · rename_i hc
        cases h
        obtain ⟨kk, n, e1, e2⟩ := key_of_cellEq hc hk h1
        exact .inr ⟨0, m, kk, n, findNow_hit (same_of_cellEq hc hk h1), rfl, rfl, e2, e1⟩
      · rename_i hc
        simp only [Option.map_eq_some_iff] at h
        obtain ⟨es1, g1, rfl⟩ := h
        have ih := mpSet_find (k0 := k0) (i + 1) g1 hk (by simpa using hl) (fun j e m' he hm => hr (j + 1) e m' (by simpa using he) (by simpa using hm))
        rw [findNow_miss (same_of_cellEq hc hk h1)]
        rcases ih with ⟨a1, a2⟩ | ⟨j, m', kk, n, a1, a2, a3, a4, a5⟩
        · exact .inl ⟨a1, by rw [a2]; rfl⟩
        · exact .inr ⟨j + 1, m', kk, n, by rw [a1, show i + 1 + j = i + (j + 1) by omega], by simpa using a2, by rw [a3]; rfl, a4, a5⟩
      · cases h

theorem mapUpdate_sound (hs : Sim F μ H w) {t key elem : TypeId} {k0 : IntKind} (hu : P.underlying t = some (.map key elem)) (hk : P.underlying key = some (.int k0)) {l : Nat} {es es' : List (AV × AV)} (hg : H.get l = some (.mp es))
    {v u z : Value} {x y : AV} (hv : R μ (.map l) v) (hx : R μ x u) (hy : R μ y z) (hset : mpSet es x y = some es') :
    ∃ w', (Instr.mapUpdate t v u z).run P w = .ok () w' ∧ Sim F μ (H.put l (.mp es')) w' ∧ Keeps F w w' := by
  cases hv with
  | map hm hb =>
    rename_i li b
    subst hb
    obtain ⟨ms, ck, hh, hsz, hes⟩ := hs.mp l li es hg hm
    have hget : (getObj li.blk).run P w = .ok (.map ms ck) w := by simp [getObj, Sem.run, hh]
    have hck : (Instr.checkKey false 10000 key u).run P w = .ok () w := checkKey_int hk 9999
    have hset' : ∀ o : Obj, (setObj li.blk o).run P w = .ok () { w with heap := w.heap.setIfInBounds li.blk o } := fun o => by simp [setObj, Sem.run, hh]
    rcases mpSet_find (k0 := k0) (ms := ms.toList) 0 hset hx (by simp [hsz]) (fun j e m he hm => hes j e m he (by simpa using hm)) with ⟨a1, a2⟩ | ⟨j, m, kk, n, a1, a2, a3, a4, a5⟩
    · have hfk : (Instr.findKey key u ms.toList).run P w = .ok none w := by
        unfold Instr.findKey
        rw [bind_ok (run_under hk), a1]; rfl
      obtain ⟨s1, s2⟩ := map_put (ms' := ms.push { key := u, val := z, born := ck }) (ck' := ck + 1) (es' := es') hs hg hm (by rw [a2]; simp [hsz]) (by
        intro i e m' he hm'
        rw [a2] at he
        rw [Array.getElem?_push] at hm'
        split at hm'
        · cases hm'
          rw [List.getElem?_append_right (by omega)] at he
          have : i - es.length = 0 := by omega
          rw [this] at he
          simp at he
          subst he
          exact ⟨hx, hy⟩
        · rename_i hne
          have hlt : i < ms.size := by
            rcases Nat.lt_or_ge i ms.size with h | h
            · exact h
            · rw [Array.getElem?_eq_none h] at hm'; cases hm'
          rw [List.getElem?_append_left (by omega)] at he
          exact hes i e m' he hm') hh
      refine ⟨_, ?_, s1, s2⟩
      unfold Instr.mapUpdate
      rw [bind_ok (run_under hu)]
      simp only []
      rw [bind_ok hget]
      simp only []
      rw [bind_ok hck, bind_ok hfk]
      exact hset' _
    · have hfk : (Instr.findKey key u ms.toList).run P w = .ok (some (0 + j, m.val)) w := by
        unfold Instr.findKey
        rw [bind_ok (run_under hk), a1]; rfl
      have hj : j < ms.size := by
        rcases Nat.lt_or_ge j ms.size with h | h
        · exact h
        · rw [List.getElem?_eq_none (by simpa using h)] at a2; cases a2
      have hmj : ms[j]? = some m := by simpa using a2
      obtain ⟨s1, s2⟩ := map_put (ms' := ms.modify (0 + j) fun e => { e with key := u, val := z }) (ck' := ck) (es' := es') hs hg hm (by rw [a3]; simp [hsz]) (by
        intro i e m' he hm'
        rw [a3] at he
        rw [Nat.zero_add, Array.getElem?_modify] at hm'
        rw [List.getElem?_set] at he
        split at hm'
        · rename_i hij
          subst hij
          rw [if_pos rfl, if_pos (by omega)] at he
          cases he
          rw [hmj] at hm'
          cases hm'
          exact ⟨hx, hy⟩
        · rename_i hij
          rw [if_neg hij] at he
          exact hes i e m' he hm') hh
      refine ⟨_, ?_, s1, s2⟩
      unfold Instr.mapUpdate
      rw [bind_ok (run_under hu)]
      simp only []
      rw [bind_ok hget]
      simp only []
      rw [bind_ok hck, bind_ok hfk]
      simp only []
      have hkeep : (Instr.keyThatStays (((ms[0 + j]?).map (·.key)).getD u) u).run P w = .ok u w := by
        rw [Nat.zero_add, hmj]
        simp only [Option.map_some, Option.getD_some, a4, a5]
        unfold Instr.keyThatStays
        simp [Instr.sameBits, Sem.run_pure]
      rw [bind_ok hkeep]
      exact hset' _

theorem fillA_length {E : Env} : ∀ {ps : List (Nat × Nat × Opd)} {cs ds : List AV}, fillA E cs ps = some ds → ds.length = cs.length
  | [], cs, ds, h => by simp [fillA] at h; rw [h]
  | (off, size, x) :: ps, cs, ds, h => by
    simp only [fillA] at h
    split at h
    · split at h
      · rename_i hh
        rw [fillA_length h]
        unfold laid
        simp
        omega
      · cases h
    · cases h

/-- ONE OPERATION. -/
theorem aeff_sound {o : Oper} {ao : AOp} (hc : comp P o.op = some ao) (h : aeff P E H k ao) (hs : Sim F μ H w) (he : RE μ E a) : NextOk P (Out F μ H w k) ((execOp a.eval o).run P w) := by
  have quiet : ∀ {r : AV}, aval E H.get ao = some r → k r H → NextOk P (Out F μ H w k) ((execOp a.eval o).run P w) := by
    intro r hv hk
    obtain ⟨v, w', h1, h2, h3⟩ := aval_sound hc hv hs he
    rw [h1]
    exact Out.drew hk hs h3 h2
  have dflt : (match aval E H.get ao with | some r => k r H | none => False) → NextOk P (Out F μ H w k) ((execOp a.eval o).run P w) := by
    intro hd
    split at hd
    · rename_i r hr; exact quiet hr hd
    · exact hd.elim
  cases ao
  case move => exact dflt h
  case pick => exact dflt h
  case load => exact dflt h
  case nilCheck => exact dflt h
  case bin => exact dflt h
  case eqAgg => exact dflt h
  case eqBool => exact dflt h
  case eqNilI => exact dflt h
  case eqNilS => exact dflt h
  case un => exact dflt h
  case conv => exact dflt h
  case fn => exact dflt h
  case build => exact dflt h
  case slArr => exact dflt h
  case slSl => exact dflt h
  case slStr => exact dflt h
  case faddr => exact dflt h
  case field => exact dflt h
  case iaArr => exact dflt h
  case iaSl => exact dflt h
  case ixArr => exact dflt h
  case ixStr => exact dflt h
  case extract => exact dflt h
  case len => exact dflt h
  case lenStr => exact dflt h
  case lenC => exact dflt h
  case cap => exact dflt h
  case min2 => exact dflt h
  case max2 => exact dflt h
  case lookup => exact dflt h
  case iface => exact dflt h
  all_goals clear quiet dflt
  all_goals obtain ⟨dst, op, type, pos, after, guard⟩ := o
  all_goals simp only at hc
  case alloc zs =>
    obtain ⟨t, rfl, hz⟩ := comp_alloc hc
    obtain ⟨z, hz1, hz2⟩ := zero_run (μ := μ) (w := w) hz
    have hrun : (execOp a.eval ⟨dst, .alloc t, type, pos, after, guard⟩).run P w = .ok (.value (.pointer (some ⟨w.heap.size, 0, none⟩))) { w with heap := w.heap.push (.cells z.cells t) } := by
      simp only [execOp, Instr.alloc]
      rw [bind_ok (s := zeroValue t >>= _) (a := .pointer (some ⟨w.heap.size, 0, none⟩)) (w' := { w with heap := w.heap.push (.cells z.cells t) })]
      · rfl
      · rw [bind_ok hz1]; rfl
    rw [hrun]
    obtain ⟨h1, h2⟩ := RL.full hz2
    exact out_new hs w.drawn h1 h2 h (.ptr (plus_self _ _ _) rfl)
  case box y =>
    obtain ⟨t, x, rfl, hy⟩ := comp_box hc
    simp only [aeff] at h
    split at h
    · rename_i cs hcs
      obtain ⟨h1, h2⟩ := RL.full (cells_R (cOpd_R hy he) hcs)
      exact out_new hs w.drawn h1 h2 h (.ptr (plus_self _ _ _) rfl)
    · exact h.elim
  case bslice sz len zs ps =>
    obtain ⟨t, parts, elem, zs0, rfl, hu, hsz, hz, hzl, hlim, rfl, hps⟩ := comp_bslice hc
    simp only [aeff] at h
    split at h
    · rename_i cs hcs
      obtain ⟨z, hz1, hz2⟩ := zero_run (μ := μ) (w := w) hz
      have hps' : parts.toList.mapM (fun (i, x) => do let y ← cOpd x; let p ← (fun i : Nat => some (i * sz, sz)) i; some (p.1, p.2, y)) = some ps := by
        refine mapM_two ?_ hps
        rintro ⟨i, x⟩ y hy
        simp only [Option.bind_eq_bind, Option.bind_eq_some_iff, Option.some.injEq] at hy ⊢
        obtain ⟨x', hx', rfl⟩ := hy
        exact ⟨x', hx', (i * sz, sz), rfl, rfl⟩
      have hcl : cs.length = len * sz := by
        rw [fillA_length hcs]
        simp [hzl]
      have fin : ∀ (zr : Array Value), RL μ (List.replicate len zs0).flatten ((Array.range (len * sz)).map fun i => zr[i % zr.size]!).toList →
          (Instr.buildSlice t len (parts.map fun (i, x) => (i, a.eval x))).run P w = (match Instr.fill (fun i => some (i * sz, sz)) ((Array.range (len * sz)).map fun i => zr[i % zr.size]!) (parts.map fun (i, x) => (i, a.eval x)).toList with
            | some cells => do pure (Value.slice (some (← newRow elem cells)) len len)
            | _ => stuck "buildSlice: a part of the wrong size" : Sem Value).run P w →
          NextOk P (Out F μ H w k) ((execOp a.eval ⟨dst, .buildSlice t len parts, type, pos, after, guard⟩).run P w) := by
        intro zr hzr hrun
        obtain ⟨us, h1, h2⟩ := fill_sound (place := fun i : Nat => some (i * sz, sz)) hps' he hzr hcs
        have e : (parts.map fun (i, x) => (i, a.eval x)).toList = parts.toList.map fun (i, x) => (i, a.eval x) := by simp
        rw [e, h1] at hrun
        have hb : (Instr.buildSlice t len (parts.map fun (i, x) => (i, a.eval x))).run P w = .ok (.slice (some ⟨w.heap.size, 0, none⟩) len len) { w with heap := w.heap.push (.cells us elem) } := hrun
        simp only [execOp]
        rw [bind_ok hb]
        obtain ⟨g1, g2⟩ := RL.full h2
        exact out_new hs w.drawn g1 g2 h (.slice (plus_self _ _ _) rfl rfl (.inr rfl) (by simp only [Nat.zero_add]; rw [← hcl]; exact g1) (Nat.le_refl _))
      by_cases h0 : len * sz = 0
      · refine fin #[] ?_ ?_
        · have : (List.replicate len zs0).flatten = [] := by
            apply List.eq_nil_of_length_eq_zero
            simp [hzl, h0]
          rw [this, h0]
          simpa using RL.nil
        · unfold Instr.buildSlice
          rw [bind_ok (run_under hu)]
          simp only []
          rw [bind_ok (run_size hsz), if_neg (by omega), if_pos h0]; rfl
      · refine fin z.cells (zeroRow_RL hz2 hzl len) ?_
        unfold Instr.buildSlice
        rw [bind_ok (run_under hu)]
        simp only []
        rw [bind_ok (run_size hsz), if_neg (by omega), if_neg h0, bind_ok hz1]; rfl
    · exact h.elim
  case store n x y =>
    obtain ⟨t, p, q, rfl, hn, hx, hy⟩ := comp_store hc
    simp only [aeff] at h
    have hR := cOpd_R hx he
    split at h
    · rename_i l off hl
      rw [hl] at hR
      obtain ⟨li, hm, e2⟩ := ptr_inv hR
      split at h
      · rename_i cs hg
        split at h
        · rename_i vs hvs
          split at h
          · rename_i hh
            obtain ⟨hlen, hle, hone⟩ := hh
            have hcr := cells_R (cOpd_R hy he) hvs
            obtain ⟨c, e, lo, hi, g1, g2, g3, g4, g5⟩ := hs.row l li cs true hg hm
            obtain ⟨w', hst, hsim, hkeep⟩ := store_sound (P := P) (o := off) hs hg hm hcr hone (by omega) (by omega)
            have hsz : (a.eval q).cells.size = n := by rw [← hlen, hcr.1]; simp
            have hrun : (Instr.storeAt t (a.eval p) (a.eval q)).run P w = .ok () w' := by
              unfold Instr.storeAt
              rw [e2, bind_ok (show (Instr.sureAddr (.pointer (some ⟨li.blk, li.base + off, none⟩))).run P w = .ok ⟨li.blk, li.base + off, none⟩ w from rfl)]
              unfold storeVar
              rw [bind_ok (run_size hn), if_neg (by omega)]
              exact hst
            simp only [execOp]
            rw [bind_ok hrun]
            exact ⟨μ, _, _, h, by rw [AHeap.put_next]; exact Nat.le_refl _, Mu.ext_refl _ _, hsim, .undef, hkeep⟩
          · exact h.elim
        · exact h.elim
      · exact h.elim
    · exact h.elim
  case mkSlice sz bytes zs x y =>
    obtain ⟨t, l, c, elem, rfl, hu, hsz, hb, hz, hzl, hx, hy⟩ := comp_mkSlice hc
    simp only [aeff] at h
    have h1 := cOpd_R hx he
    have h2 := cOpd_R hy he
    split at h
    · rename_i k1 n k2 m e1 e2
      rw [e1] at h1
      rw [e2] at h2
      split at h
      · rename_i hh
        obtain ⟨hn0, hnm, hbm, hmx⟩ := hh
        obtain ⟨z, hz1, hz2⟩ := zero_run (μ := μ) (w := w) hz
        have w1 : IntKind.i64.wrap n = n := by unfold IntKind.wrap IntKind.bits IntKind.signed; simp; omega
        have w2 : IntKind.i64.wrap m = m := by unfold IntKind.wrap IntKind.bits IntKind.signed; simp; omega
        obtain ⟨i, hi, rfl⟩ : ∃ i, P.info? elem = some i ∧ i.bytes = bytes := by
          unfold tyBytes at hb
          cases hi : P.info? elem with
          | none => rw [hi] at hb; cases hb
          | some i => rw [hi] at hb; exact ⟨i, rfl, by simpa using hb⟩
        have fin : ∀ (zr : Array Value), RL μ (List.replicate m.toNat zs).flatten ((Array.range (m.toNat * sz)).map fun i => zr[i % zr.size]!).toList →
            (Instr.makeSlice t (a.eval l) (a.eval c)).run P w = (do
              let ad ← newRow elem ((Array.range (m.toNat * sz)).map fun i => zr[i % zr.size]!)
              pure (.slice (some ad) n.toNat m.toNat) : Sem Value).run P w →
            NextOk P (Out F μ H w k) ((execOp a.eval ⟨dst, .makeSlice t l c, type, pos, after, guard⟩).run P w) := by
          intro zr hzr hrun
          have hb : (Instr.makeSlice t (a.eval l) (a.eval c)).run P w = .ok (.slice (some ⟨w.heap.size, 0, none⟩) n.toNat m.toNat) { w with heap := w.heap.push (.cells ((Array.range (m.toNat * sz)).map fun i => zr[i % zr.size]!) elem) } := hrun
          simp only [execOp]
          rw [bind_ok hb]
          obtain ⟨g1, g2⟩ := RL.full hzr
          have hcl : (List.replicate m.toNat zs).flatten.length = m.toNat * sz := by simp [hzl]
          exact out_new hs w.drawn g1 g2 h (.slice (plus_self _ _ _) rfl rfl (.inr rfl) (by simp only [Nat.zero_add]; exact Nat.le_trans (Nat.le_of_eq hcl.symm) g1) (by omega))
        have hpre : (Instr.makeSlice t (a.eval l) (a.eval c)).run P w = (do
            let zero ← if m.toNat * sz = 0 then pure #[] else do pure (← zeroValue elem).cells
            let ad ← newRow elem ((Array.range (m.toNat * sz)).map fun i => zero[i % zero.size]!)
            pure (.slice (some ad) n.toNat m.toNat) : Sem Value).run P w := by
          unfold Instr.makeSlice
          rw [int_inv h1, int_inv h2, bind_ok (run_under hu)]
          simp only []
          rw [bind_ok (show (asInt (.int k1 n)).run P w = .ok n w from rfl), bind_ok (show (asInt (.int k2 m)).run P w = .ok m w from rfl), bind_ok (run_info hi)]
          simp only [w1, w2]
          rw [if_neg (by simp only [Bool.or_eq_true, decide_eq_true_eq, not_or]; omega)]
          rw [bind_ok (askRoom_run _), bind_ok (run_size hsz)]
        by_cases h0 : m.toNat * sz = 0
        · refine fin #[] ?_ ?_
          · have : (List.replicate m.toNat zs).flatten = [] := by
              apply List.eq_nil_of_length_eq_zero
              simp only [List.length_flatten, List.map_replicate, List.sum_replicate_nat, hzl, h0]
            rw [this, h0]
            simpa using RL.nil
          · rw [hpre, if_pos h0]; rfl
        · refine fin z.cells (zeroRow_RL hz2 hzl m.toNat) ?_
          rw [hpre, if_neg h0, bind_ok hz1]; rfl
      · exact h.elim
    · exact h.elim
  case append sz bytes x y =>
    obtain ⟨c, t, u, p, q, elem, i, z, zs, ⟨rfl, rfl⟩, hu, hk, hi, hz, hzs, hzl, hb, rfl, rfl, hx, hy⟩ := comp_append hc
    simp only [aeff] at h
    obtain ⟨v', w', hrun, hout⟩ := append_sound (ty := type) hs hu hi hz hzs hzl hb hk (cOpd_R hx he) (cOpd_R hy he) h
    rw [builtin_run (s := Builtin.append_ #[t, u] type #[a.eval p, a.eval q]) (by simp [builtin]) hrun]
    exact hout
  case copy sz x y =>
    obtain ⟨c, t, u, p, q, elem, ⟨rfl, rfl⟩, hu, hsz, hx, hy⟩ := comp_copy hc
    simp only [aeff] at h
    have h1 := cOpd_R hx he
    have h2 := cOpd_R hy he
    have run : ∀ {v' : Value} {w' : World}, (Builtin.copy_ #[t, u] type #[a.eval p, a.eval q]).run P w = .ok v' w' → Out F μ H w k v' w' → NextOk P (Out F μ H w k) ((execOp a.eval ⟨dst, .call ⟨.builtin .copy, #[p, q], #[t, u]⟩, type, pos, after, guard⟩).run P w) := by
      intro v' w' hrun hout
      rw [builtin_run (s := Builtin.copy_ #[t, u] type #[a.eval p, a.eval q]) (by simp [builtin]) hrun]
      exact hout
    split at h
    · rename_i l o n cap sz' e1
      rw [e1] at h1
      split at h
      · rename_i hss
        subst hss
        split at h
        · rename_i ys m hsrc
          obtain ⟨pp, hv, hlc⟩ := slice_form h1
          obtain ⟨g1, g2, g3⟩ := src_run (P := P) hs hsrc h2
          obtain ⟨us, g4, g5⟩ := g3 (Nat.min m n) (Nat.min_le_left _ _)
          have hmm : Nat.min (Nat.min m n) n = Nat.min m n := Nat.min_eq_left (Nat.min_le_right _ _)
          have hpre : (Builtin.copy_ #[t, u] type #[a.eval p, a.eval q]).run P w = (do
              if let some ad := pp then storeCells ad us
              pure (goInt (Nat.min m n)) : Sem Value).run P w := by
            unfold Builtin.copy_
            simp only [List.getElem?_toArray, List.getElem?_cons_zero, List.getElem?_cons_succ]
            rw [bind_ok (run_under hu)]
            simp only []
            rw [hv]
            simp only []
            rw [bind_ok g1, bind_ok (run_size hsz), bind_ok (g4 w.drawn)]
            cases pp <;> rfl
          split at h
          · rename_i hm0
            have hus : us = [] := by
              apply List.eq_nil_of_length_eq_zero
              rw [← g5.1, hm0]; simp
            subst hus
            refine run (v' := .int .i64 0) (w' := w) ?_ (Out.same h hs (.int _ _))
            rw [hpre, hm0]
            cases pp <;> rfl
          · rename_i hm0
            split at h
            · rename_i cs hg
              split at h
              · rename_i hh
                obtain ⟨hle, hone⟩ := hh
                have hn0 : n ≠ 0 := by
                  rintro rfl
                  exact hm0 (Nat.min_zero _)
                have hc0 : cap ≠ 0 := by omega
                obtain ⟨li, hm, hv', hlim, _⟩ := slice_some h1 hc0
                rw [hv] at hv'
                cases hv'
                have hmn : Nat.min m n ≤ n := Nat.min_le_right _ _
                have hmul : Nat.min m n * sz ≤ n * sz := Nat.mul_le_mul_right _ hmn
                have htl : (ys.take (Nat.min m n * sz)).length ≤ Nat.min m n * sz := List.length_take_le _ _
                obtain ⟨c, e, lo, hi, k1, k2, k3, k4, k5⟩ := hs.row l li cs true hg hm
                obtain ⟨w', hst, hsim, hkeep⟩ := store_sound (P := P) (o := o) hs hg hm g5 (List.all_eq_true.2 fun x hx => List.all_eq_true.1 hone x (List.mem_of_mem_take hx)) (by omega) (by omega)
                refine run (v' := .int .i64 (Nat.min m n)) (w' := w') ?_ ⟨μ, _, _, h, by rw [AHeap.put_next]; exact Nat.le_refl _, Mu.ext_refl _ _, hsim, .int _ _, hkeep⟩
                rw [hpre]
                simp only []
                rw [bind_ok hst]; rfl
              · exact h.elim
            · exact h.elim
        · exact h.elim
      · exact h.elim
    · exact h.elim
  case clear sz zs x =>
    obtain ⟨c, t, p, elem, ⟨rfl, rfl⟩, hu, hsz, hz, hx⟩ := comp_clear hc
    simp only [aeff] at h
    have h1 := cOpd_R hx he
    have run : ∀ {v' : Value} {w' : World}, (Builtin.clear_ #[t] type #[a.eval p]).run P w = .ok v' w' → Out F μ H w k v' w' → NextOk P (Out F μ H w k) ((execOp a.eval ⟨dst, .call ⟨.builtin .clear, #[p], #[t]⟩, type, pos, after, guard⟩).run P w) := by
      intro v' w' hrun hout
      rw [builtin_run (s := Builtin.clear_ #[t] type #[a.eval p]) (by simp [builtin]) hrun]
      exact hout
    split at h
    · rename_i e1
      rw [e1] at h1
      refine run (v' := Go.undef) (w' := w) ?_ (Out.same h hs .undef)
      rw [nilSlice_inv h1]
      unfold Builtin.clear_
      simp only [List.getElem?_toArray, List.getElem?_cons_zero]
      rw [bind_ok (run_under hu)]; rfl
    · rename_i l o n cap sz' e1
      rw [e1] at h1
      split at h
      · rename_i hn
        subst hn
        obtain ⟨pp, hv, _⟩ := slice_form h1
        refine run (v' := Go.undef) (w' := w) ?_ (Out.same h hs .undef)
        rw [hv]
        unfold Builtin.clear_
        simp only [List.getElem?_toArray, List.getElem?_cons_zero]
        rw [bind_ok (run_under hu)]
        cases pp <;> rfl
      · rename_i hn
        split at h
        · rename_i hss
          subst hss
          split at h
          · rename_i cs hg
            split at h
            · rename_i hh
              obtain ⟨hle, hzl, hone⟩ := hh
              obtain ⟨pp, hv0, hlc⟩ := slice_form h1
              obtain ⟨li, hm, hv, hlim, _⟩ := slice_some h1 (by omega)
              obtain ⟨z, hz1, hz2⟩ := zero_run (μ := μ) (w := w) hz
              have hzsz : z.cells.size = sz := by rw [← hzl, hz2.1]; simp
              have hRL : RL μ (List.replicate n zs).flatten (Builtin.zeroCells z.cells n).toList := by
                unfold Builtin.zeroCells
                rw [range_zero]
                exact hz2.replicate n
              have hrl : (List.replicate n zs).flatten.length = n * sz := by simp [hzl]
              have hall : (List.replicate n zs).flatten.all AV.one = true := by
                rw [List.all_eq_true]
                intro x hx
                simp only [List.mem_flatten, List.mem_replicate] at hx
                obtain ⟨l', ⟨_, rfl⟩, hx⟩ := hx
                exact List.all_eq_true.1 hone x hx
              obtain ⟨c, e, lo, hi, k1, k2, k3, k4, k5⟩ := hs.row l li cs true hg hm
              obtain ⟨w', hst, hsim, hkeep⟩ := store_sound (P := P) (o := o) hs hg hm hRL hall (by omega) (by omega)
              refine run (v' := Go.undef) (w' := w') ?_ ⟨μ, _, _, h, by rw [AHeap.put_next]; exact Nat.le_refl _, Mu.ext_refl _ _, hsim, .undef, hkeep⟩
              rw [hv]
              unfold Builtin.clear_
              simp only [List.getElem?_toArray, List.getElem?_cons_zero]
              rw [bind_ok (run_under hu)]
              cases n with
              | zero => exact absurd rfl hn
              | succ n =>
                simp only []
                rw [bind_ok hz1, bind_ok hst]; rfl
            · exact h.elim
          · exact h.elim
        · exact h.elim
    · exact h.elim
  case makeMap =>
    obtain ⟨t, rfl⟩ := comp_makeMap hc
    exact ⟨_, _, _, h, by rw [AHeap.new_next]; omega, Mu.plus_ext _ _ _, hs.pushMap, .map (plus_self _ _ _) rfl, keeps_push hs.fresh _ _⟩
  case mapUpdate x y z =>
    obtain ⟨t, m, q, v, key, elem, k0, hop, hu, hk, hx, hy, hz⟩ := comp_mapUpdate hc
    simp only [aeff] at h
    have h1 := cOpd_R hx he
    split at h
    · rename_i l e1
      rw [e1] at h1
      split at h
      · rename_i es hg
        split at h
        · rename_i es' hset
          obtain ⟨w', hrun, hsim, hkeep⟩ := mapUpdate_sound hs hu hk hg h1 (cOpd_R hy he) (cOpd_R hz he) hset
          have : (execOp a.eval ⟨dst, op, type, pos, after, guard⟩).run P w = .ok .skip w' := by
            rcases hop with rfl | rfl <;> (simp only [execOp]; rw [bind_ok hrun]; rfl)
          rw [this]
          exact ⟨μ, _, _, h, by rw [AHeap.put_next]; exact Nat.le_refl _, Mu.ext_refl _ _, hsim, .undef, hkeep⟩
        · exact h.elim
      · exact h.elim
    · exact h.elim
  case call f as =>
    obtain ⟨c, rfl, hcal, has⟩ := comp_call hc
    have hl := cOpds_RL has he
    have := h F μ w _ hs hl
    have hrun : (execOp a.eval ⟨dst, .call c, type, pos, after, guard⟩).run P w = (callFunc f (c.args.map a.eval)).run P w := by
      simp only [execOp]
      have hres : (resolve a.eval c type).run P w = .ok { target := .fn (.func f) #[], args := c.args.map a.eval } w := by
        unfold resolve
        rw [hcal]
        simp [Act.eval, Deferred.ofValue, Sem.run_pure]
      rw [bind_ok hres]
      simp [invoke]
    rw [hrun]
    rwa [Array.toArray_toList] at this
  case callV g as =>
    obtain ⟨c, g', rfl, hcal, hg, has⟩ := comp_callV hc
    simp only [aeff] at h
    have h1 := cOpd_R hg he
    split at h
    · rename_i f first cap e1
      rw [e1] at h1
      have hl := cOpds_RL has he
      generalize hv : a.eval g' = v at h1
      cases h1 with
      | @func f as' bs' vs us h1 g1 h2 g2 =>
        have r1 : RL μ first vs.toList := ⟨by simpa using h1, fun i a v ha hv => g1 i a v ha (by simpa using hv)⟩
        have r2 : RL μ cap us.toList := ⟨by simpa using h2, fun i a v ha hv => g2 i a v ha (by simpa using hv)⟩
        have := h F μ w _ hs ((r1.append hl).append r2)
        have hrun : (execOp a.eval ⟨dst, .call c, type, pos, after, guard⟩).run P w = (callFunc f (vs ++ c.args.map a.eval ++ us)).run P w := by
          simp only [execOp]
          have hres : (resolve a.eval c type).run P w = .ok { target := .fn (.func f) us, args := vs ++ c.args.map a.eval } w := by
            unfold resolve
            rw [hcal]
            simp [hv, Deferred.ofValue, Sem.run_pure]
          rw [bind_ok hres]
          simp [invoke]
        rw [hrun]
        have e : (vs.toList ++ (c.args.map a.eval).toList ++ us.toList).toArray = vs ++ c.args.map a.eval ++ us := by
          apply Array.ext'; simp
        rw [e] at this
        exact this
    · exact h.elim
  where
  builtin_run {P : Program} {a : Act} {w w' : World} {b : Builtin} {args : Array Operand} {argTypes : Array TypeId} {dst : Option Tmp} {type : TypeId} {pos : String} {after : Array Edge} {guard : Option (Nat × Bool)} {s : Sem Value} {v : Value}
      (e : builtin b argTypes type (args.map fun | .const _ => true | _ => false) (args.map a.eval) = (s >>= fun v => pure (Next.value v))) (h : s.run P w = .ok v w') :
      (execOp a.eval ⟨dst, .call ⟨.builtin b, args, argTypes⟩, type, pos, after, guard⟩).run P w = .ok (.value v) w' := by
    simp only [execOp]
    rw [bind_ok (show (resolve a.eval ⟨.builtin b, args, argTypes⟩ type).run P w = .ok { target := .builtin b argTypes type (args.map fun | .const _ => true | _ => false), args := args.map a.eval } w from rfl)]
    simp only [invoke]
    rw [e, bind_ok h]; rfl
end
end Go.Ab
