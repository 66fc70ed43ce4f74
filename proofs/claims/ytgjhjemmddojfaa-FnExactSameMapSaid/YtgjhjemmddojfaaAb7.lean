/- All quiet operations, together. -/
import Derived.Test.YtgjhjemmddojfaaAb6
set_option linter.unusedVariables false
set_option linter.unusedSimpArgs false
namespace Go.Ab

section
variable {P : Program} {μ : Mu} {E : Env} {a : Act} {F : Nat → Prop} {H : AHeap} {w : World}

theorem minF_sound (k : FloatKind) {b c : Nat} (hb : b < 2 ^ k.format.width) (hc : c < 2 ^ k.format.width) : Gets P μ w (Builtin.min2 (.float k b) (.float k c)) (.flt k (match ford k (nrm k b) (nrm k c) with
    | none => none
    | some .lt => nrm k b
    | some .gt => nrm k c
    | some .eq => if (k.decode ((nrm k b).getD 0)).neg then nrm k b else nrm k c)) := by
  have e : Builtin.min2 (.float k b) (.float k c) = (match k.format.order b c with
    | none => do pure (.float k (← choose (.nanMinMax k false b c)))
    | some .lt => pure (.float k b)
    | some .gt => pure (.float k c)
    | some .eq => pure (.float k (if (k.decode b).neg then b else c))) := rfl
  rw [e, ford_nrm]
  cases ho : k.format.order b c with
  | none =>
    have hch := run_choose (P := P) (w := w) (.nanMinMax k false b c) rfl
    refine ⟨_, _, ?_, .inr ⟨w.drawn + 1, rfl⟩, .flt (nanMinMax_cut k false b c (w.tape w.drawn (.nanMinMax k false b c))).1 (nanMinMax_cut k false b c (w.tape w.drawn (.nanMinMax k false b c))).2⟩
    simp only []
    rw [bind_ok hch]; rfl
  | some o =>
    cases o with
    | lt => exact Gets.pure (.flt rfl hb)
    | gt => exact Gets.pure (.flt rfl hc)
    | eq =>
      have hn : nrm k b = some b := by
        cases hx' : nrm k b with
        | none => rw [← ford_nrm, hx'] at ho; cases ho
        | some b' => rw [(nrm_some hx').1]
      simp only [hn, Option.getD_some]
      split
      · exact Gets.pure (.flt (by first | exact hn | rfl) hb)
      · exact Gets.pure (.flt (by first | exact hn | rfl) hc)

theorem min2_sound {x y r : AV} {v u : Value} {ts : Array TypeId} {t : TypeId} (h : min2A x y = some r) (hx : R μ x v) (hy : R μ y u) : Gets P μ w (Builtin.min_ ts t #[v, u]) r := by
  have e : Builtin.min_ ts t #[v, u] = (Builtin.min2 v u >>= fun z => pure z) := rfl
  have go : Gets P μ w (Builtin.min2 v u) r := by
    unfold min2A at h
    split at h
    · obtain rfl := int_inv hx
      obtain rfl := int_inv hy
      split at h
      · cases h; exact Gets.pure (.int _ _)
      · cases h
    · obtain ⟨b, rfl, rfl, hb⟩ := flt_inv hx
      obtain ⟨c, rfl, rfl, hc⟩ := flt_inv hy
      split at h
      · rename_i hk
        subst hk
        cases h
        exact minF_sound _ hb hc
      · cases h
    · cases h
  obtain ⟨z, w', h1, h2, h3⟩ := go
  exact ⟨z, w', by rw [e, bind_ok h1]; rfl, h2, h3⟩

theorem maxF_sound (k : FloatKind) {b c : Nat} (hb : b < 2 ^ k.format.width) (hc : c < 2 ^ k.format.width) : Gets P μ w (Builtin.max2 (.float k b) (.float k c)) (.flt k (match ford k (nrm k b) (nrm k c) with
    | none => none
    | some .lt => nrm k c
    | some .gt => nrm k b
    | some .eq => if (k.decode ((nrm k b).getD 0)).neg then nrm k c else nrm k b)) := by
  have e : Builtin.max2 (.float k b) (.float k c) = (match k.format.order b c with
    | none => do pure (.float k (← choose (.nanMinMax k true b c)))
    | some .lt => pure (.float k c)
    | some .gt => pure (.float k b)
    | some .eq => pure (.float k (if (k.decode b).neg then c else b))) := rfl
  rw [e, ford_nrm]
  cases ho : k.format.order b c with
  | none =>
    have hch := run_choose (P := P) (w := w) (.nanMinMax k true b c) rfl
    refine ⟨_, _, ?_, .inr ⟨w.drawn + 1, rfl⟩, .flt (nanMinMax_cut k true b c (w.tape w.drawn (.nanMinMax k true b c))).1 (nanMinMax_cut k true b c (w.tape w.drawn (.nanMinMax k true b c))).2⟩
    simp only []
    rw [bind_ok hch]; rfl
  | some o =>
    cases o with
    | lt => exact Gets.pure (.flt rfl hc)
    | gt => exact Gets.pure (.flt rfl hb)
    | eq =>
      have hn : nrm k b = some b := by
        cases hx' : nrm k b with
        | none => rw [← ford_nrm, hx'] at ho; cases ho
        | some b' => rw [(nrm_some hx').1]
      simp only [hn, Option.getD_some]
      split
      · exact Gets.pure (.flt (by first | exact hn | rfl) hc)
      · exact Gets.pure (.flt (by first | exact hn | rfl) hb)

theorem max2_sound {x y r : AV} {v u : Value} {ts : Array TypeId} {t : TypeId} (h : max2A x y = some r) (hx : R μ x v) (hy : R μ y u) : Gets P μ w (Builtin.max_ ts t #[v, u]) r := by
  have e : Builtin.max_ ts t #[v, u] = (Builtin.max2 v u >>= fun z => pure z) := rfl
  have go : Gets P μ w (Builtin.max2 v u) r := by
    unfold max2A at h
    split at h
    · obtain rfl := int_inv hx
      obtain rfl := int_inv hy
      split at h
      · cases h; exact Gets.pure (.int _ _)
      · cases h
    · obtain ⟨b, rfl, rfl, hb⟩ := flt_inv hx
      obtain ⟨c, rfl, rfl, hc⟩ := flt_inv hy
      split at h
      · rename_i hk
        subst hk
        cases h
        exact maxF_sound _ hb hc
      · cases h
    · cases h
  obtain ⟨z, w', h1, h2, h3⟩ := go
  exact ⟨z, w', by rw [e, bind_ok h1]; rfl, h2, h3⟩

/-! a map keyed by integers, looked into -/
theorem findNow_hit {d : TypeDesc} {u : Value} {m : MapEntry} {ms : List MapEntry} {i : Nat} (h : Instr.sameNow d u m.key = some true) : Instr.findNow d u (m :: ms) i = some (some (i, m.val)) := by
  simp [Instr.findNow, h]
theorem findNow_miss {d : TypeDesc} {u : Value} {m : MapEntry} {ms : List MapEntry} {i : Nat} (h : Instr.sameNow d u m.key = some false) : Instr.findNow d u (m :: ms) i = Instr.findNow d u ms (i + 1) := by
  simp [Instr.findNow, h]
theorem same_of_cellEq {k0 : IntKind} {k x : AV} {u v : Value} {b : Bool} (h : cellEq 0 k x = some b) (hk : R μ k u) (hx : R μ x v) : Instr.sameNow (.int k0) u v = some b := by
  unfold cellEq at h
  split at h
  · split at h
    · rename_i hh
      obtain ⟨rfl, _⟩ := hh
      rw [int_inv hk, int_inv hx]
      cases h
      simp [Instr.sameNow, beq_dec]
    · cases h
  · split at h
    · rename_i hh; cases hh.2
    · cases h
  · cases h
  · cases h
  · cases h

theorem find_sound {k0 : IntKind} : ∀ {es : List (AV × AV)} {ms : List MapEntry} {k : AV} {u : Value} {r : Option AV} (i : Nat), lookA es k = some r → R μ k u → es.length = ms.length →
    (∀ (j : Nat) (e : AV × AV) (m : MapEntry), es[j]? = some e → ms[j]? = some m → R μ e.1 m.key ∧ R μ e.2 m.val) →
    match r with
    | none => Instr.findNow (.int k0) u ms i = some none
    | some x => ∃ j v, Instr.findNow (.int k0) u ms i = some (some (i + j, v)) ∧ R μ x v ∧ j < ms.length
  | [], ms, k, u, r, i, h, hk, hl, hr => by
    cases ms with
    | nil => simp [lookA] at h; subst h; rfl
    | cons _ _ => cases hl
  | (x, y) :: es, ms, k, u, r, i, h, hk, hl, hr => by
    cases ms with
    | nil => cases hl
    | cons m ms =>
      obtain ⟨h1, h2⟩ := hr 0 (x, y) m rfl rfl
      simp only at h1 h2
      simp only [lookA] at h
      split at h
      · rename_i hc
        cases h
        exact ⟨0, m.val, findNow_hit (same_of_cellEq hc hk h1), h2, by simp⟩
      · rename_i hc
        have ih := find_sound (k0 := k0) (i + 1) h hk (by simpa using hl) (fun j e m' he hm => hr (j + 1) e m' (by simpa using he) (by simpa using hm))
        rw [findNow_miss (same_of_cellEq hc hk h1)]
        cases r with
        | none => exact ih
        | some x =>
          obtain ⟨j, v, g1, g2, g3⟩ := ih
          exact ⟨j + 1, v, by rw [g1, show i + 1 + j = i + (j + 1) by omega], g2, by simp; omega⟩
      · cases h

theorem checkKey_int {key : TypeId} {k0 : IntKind} (hk : P.underlying key = some (.int k0)) {b : Bool} {u : Value} (d : Nat) : (Instr.checkKey b (d + 1) key u).run P w = .ok () w := by
  simp only [Instr.checkKey]
  rw [bind_ok (run_under hk)]
  cases u <;> rfl
theorem eq_nilI {t : TypeId} {ms : Array (String × TypeId)} (hu : P.underlying t = some (.interface ms)) (d : Nat) : (Op.equalIn (d + 1) t .nilIface .nilIface).run P w = .ok true w := by
  simp only [Op.equalIn]; rw [bind_ok (run_under hu)]; rfl
theorem eq_nilI' {t t1 : TypeId} {v1 : Value} {ms : Array (String × TypeId)} (hu : P.underlying t = some (.interface ms)) (d : Nat) : (Op.equalIn (d + 1) t (.iface t1 v1) .nilIface).run P w = .ok false w := by
  simp only [Op.equalIn]; rw [bind_ok (run_under hu)]; rfl
theorem eq_nilS {t e : TypeId} (hu : P.underlying t = some (.slice e)) {p : Option Addr} {n c : Nat} (d : Nat) : (Op.equalIn (d + 1) t (.slice p n c) (.slice none 0 0)).run P w = .ok p.isNone w := by
  simp only [Op.equalIn]; rw [bind_ok (run_under hu)]
  cases p <;> rfl

theorem lookup_sound {t key elem : TypeId} {k0 : IntKind} {z : Value} {zero : AV} (hu : P.underlying t = some (.map key elem)) (hk : P.underlying key = some (.int k0)) (hz : (P.info? elem).bind (·.zero) = some z) (hz0 : absCell z = some zero)
    {l : Nat} {es : List (AV × AV)} (hg : H.get l = some (.mp es)) (hs : Sim F μ H w) {v u : Value} (hv : R μ (.map l) v) {k : AV} (hku : R μ k u) {r : Option AV} (hr : lookA es k = some r) (ok : Bool) :
    Gets P μ w (Instr.lookup t v u ok) (if ok then .tuple [r.getD zero, .bool r.isSome] else r.getD zero) := by
  cases hv with
  | map hm hb =>
    rename_i li b
    subst hb
    obtain ⟨ms, ck, hh, hsz, hes⟩ := hs.mp l li es hg hm
    unfold Instr.lookup
    refine Gets.bind (run_under hu) ?_
    simp only []
    have hget : (getObj li.blk).run P w = .ok (.map ms ck) w := by simp [getObj, Sem.run, hh]
    refine Gets.bind hget ?_
    refine Gets.bind (x := ms) rfl ?_
    have hck : (Instr.checkKey ms.isEmpty 10000 key u).run P w = .ok () w := checkKey_int hk 9999
    refine Gets.bind hck ?_
    have hf := find_sound (k0 := k0) (ms := ms.toList) 0 hr hku (by simp [hsz]) (fun j e m he hm => hes j e m he (by simpa using hm))
    have hzr : (zeroValue elem).run P w = .ok z w := by
      cases hi : P.info? elem with
      | none => rw [hi] at hz; cases hz
      | some i =>
        rw [hi] at hz
        unfold zeroValue
        rw [bind_ok (run_info hi), show i.zero = some z from hz]; rfl
    cases r with
    | none =>
      have hfk : (Instr.findKey key u ms.toList).run P w = .ok none w := by
        unfold Instr.findKey
        rw [bind_ok (run_under hk)]
        simp only at hf
        rw [hf]; rfl
      refine Gets.bind hfk ?_
      simp only []
      refine Gets.bind hzr ?_
      cases ok
      · exact Gets.pure (absCell_R hz0)
      · exact Gets.pure (R.tupleL (RL.cons (absCell_R hz0) (RL.cons (.bool _) RL.nil)))
    | some x =>
      obtain ⟨j, val, hfn, hR, _⟩ := hf
      have hfk : (Instr.findKey key u ms.toList).run P w = .ok (some (0 + j, val)) w := by
        unfold Instr.findKey
        rw [bind_ok (run_under hk), hfn]; rfl
      refine Gets.bind hfk ?_
      simp only []
      cases ok
      · exact Gets.pure hR
      · exact Gets.pure (R.tupleL (RL.cons hR (RL.cons (.bool _) RL.nil)))

/-- What is asked of a quiet operation. -/
def Yield1 (P : Program) (μ : Mu) (w : World) (s : Sem Next) (r : AV) : Prop := ∃ v w', s.run P w = .ok (.value v) w' ∧ Drew w w' ∧ R μ r v
theorem Gets.next {s : Sem Value} {r : AV} (h : Gets P μ w s r) : Yield1 P μ w (s >>= fun v => Pure.pure (Next.value v)) r := by
  obtain ⟨v, w', h1, h2, h3⟩ := h
  exact ⟨v, w', by rw [bind_ok h1]; rfl, h2, h3⟩

theorem builtin_next {b : Builtin} {args : Array Operand} {argTypes : Array TypeId} {dst : Option Tmp} {type : TypeId} {pos : String} {after : Array Edge} {guard : Option (Nat × Bool)} {s : Sem Value} {r : AV} (h : Gets P μ w s r)
    (e : builtin b argTypes type (args.map fun | .const _ => true | _ => false) (args.map a.eval) = (s >>= fun v => pure (Next.value v))) :
    Yield1 P μ w (execOp a.eval ⟨dst, .call ⟨.builtin b, args, argTypes⟩, type, pos, after, guard⟩) r := by
  obtain ⟨v, w', h1, h2, h3⟩ := h
  refine ⟨v, w', ?_, h2, h3⟩
  simp only [execOp]
  rw [bind_ok (show (resolve a.eval ⟨.builtin b, args, argTypes⟩ type).run P w = .ok { target := .builtin b argTypes type (args.map fun | .const _ => true | _ => false), args := args.map a.eval } w from rfl)]
  simp only [invoke]
  rw [e, bind_ok h1]; rfl

theorem cAppend_spec {elem : TypeId} {x y : Operand} {ao : AOp} (h : cAppend P elem x y = some ao) : ∃ i z zs x' y', P.info? elem = some i ∧ i.zero = some z ∧ z.cells.toList.mapM absCell = some zs ∧ zs.length = i.size ∧ 0 < i.bytes ∧ cOpd x = some x' ∧ cOpd y = some y' ∧ ao = .append i.size i.bytes x' y' := by
  unfold cAppend at h
  simp only [Option.bind_eq_bind, Option.bind_eq_some_iff] at h
  obtain ⟨sz, hsz, bytes, hbytes, zs, hzs, h⟩ := h
  split at h
  · rename_i hh
    simp only [Option.bind_eq_some_iff, Option.some.injEq] at h
    obtain ⟨x', hx, y', hy, rfl⟩ := h
    unfold tySize at hsz
    unfold tyBytes at hbytes
    unfold tyZero at hzs
    cases hi : P.info? elem with
    | none => rw [hi] at hsz; cases hsz
    | some i =>
      rw [hi] at hsz hbytes hzs
      cases hsz; cases hbytes
      split at hzs
      · rename_i z hz
        exact ⟨i, z, zs, x', y', rfl, hz, hzs, hh.1, hh.2, hx, hy, rfl⟩
      · cases hzs
  · cases h

theorem nilSlice_inv {v : Value} (h : R μ .nilslice v) : v = .slice none 0 0 := by cases h; rfl

theorem slice_form {l o len cap sz : Nat} {v : Value} (h : R μ (.slice l o len cap sz) v) : ∃ p, v = .slice p len cap ∧ len ≤ cap := by
  generalize hs : AV.slice l o len cap sz = s at h
  cases h with
  | slice h hb hsp ho hl hc => cases hs; exact ⟨_, rfl, hc⟩
  | slice0 p => cases hs; exact ⟨p, rfl, Nat.le_refl _⟩
  | _ => cases hs

theorem aval_sound {o : Oper} {ao : AOp} (hc : comp P o.op = some ao) {r : AV} (hv : aval E H.get ao = some r) (hs : Sim F μ H w) (he : RE μ E a) : Yield1 P μ w (execOp a.eval o) r := by
  obtain ⟨dst, op, type, pos, after, guard⟩ := o
  simp only at hc
  have hO : ∀ {x : Operand} {y : Opd}, cOpd x = some y → R μ (y.ev E) (a.eval x) := fun h => cOpd_R h he
  cases op with
  | move x =>
    simp only [comp, Option.bind_eq_bind, Option.bind_eq_some_iff, Option.some.injEq] at hc
    obtain ⟨y, hy, rfl⟩ := hc
    simp only [aval, Option.some.injEq] at hv
    subst hv
    exact ⟨_, w, rfl, .inl rfl, hO hy⟩
  | assign x =>
    simp only [comp, Option.bind_eq_bind, Option.bind_eq_some_iff, Option.some.injEq] at hc
    obtain ⟨y, hy, rfl⟩ := hc
    simp only [aval, Option.some.injEq] at hv
    subst hv
    exact ⟨_, w, rfl, .inl rfl, hO hy⟩
  | pick c x y =>
    simp only [comp, Option.bind_eq_bind, Option.bind_eq_some_iff, Option.some.injEq] at hc
    obtain ⟨c', hc', x', hx, y', hy, rfl⟩ := hc
    simp only [aval] at hv
    have hR := hO hc'
    split at hv
    · rename_i t ht
      cases hv
      rw [ht] at hR
      have hb := bool_inv hR
      refine ⟨if t = true then a.eval x else a.eval y, w, ?_, .inl rfl, by cases t <;> simp [hO hx, hO hy]⟩
      simp only [execOp, hb]
      rw [bind_ok (show (asBool (.bool t)).run P w = .ok t w from rfl)]
      cases t <;> rfl
    · cases hv
  | load t x =>
    simp only [comp, Option.bind_eq_bind, Option.bind_eq_some_iff, Option.some.injEq] at hc
    obtain ⟨⟨ag, n⟩, ht, y, hy, rfl⟩ := hc
    simp only [aval] at hv
    have hR := hO hy
    split at hv
    · rename_i l off hl
      rw [hl] at hR
      split at hv
      · rename_i cs wr hg
        exact Gets.next (load_sound hs ht hR hg hv)
      · cases hv
    · cases hv
  | nilCheck x =>
    simp only [comp, Option.bind_eq_bind, Option.bind_eq_some_iff, Option.some.injEq] at hc
    obtain ⟨y, hy, rfl⟩ := hc
    simp only [aval] at hv
    have hR := hO hy
    split at hv
    · rename_i l off hl
      cases hv
      rw [hl] at hR
      obtain ⟨li, hm, e⟩ := ptr_inv hR
      refine ⟨_, w, ?_, .inl rfl, hR⟩
      simp only [execOp, e]; rfl
    · rename_i g hl
      cases hv
      rw [hl] at hR
      cases hR' : a.eval x <;> rw [hR'] at hR <;> cases hR
      exact ⟨_, w, by simp only [execOp, hR']; rfl, .inl rfl, .glob⟩
    · rename_i f as bs hl
      cases hv
      rw [hl] at hR
      cases hR' : a.eval x <;> rw [hR'] at hR <;> first | (cases hR; done) | skip
      have hR2 := hR
      cases hR
      exact ⟨_, w, by simp only [execOp, hR']; rfl, .inl rfl, hR2⟩
    · cases hv
  | binOp op t x y yt =>
    simp only [comp] at hc
    split at hc
    · rename_i hop
      split at hc
      iterate 3
        · simp only [Option.bind_eq_bind, Option.bind_eq_some_iff, Option.some.injEq] at hc
          obtain ⟨x', hx, y', hy, rfl⟩ := hc
          simp only [aval] at hv
          exact Gets.next (bin_sound hv (hO hx) (hO hy))
      · rename_i hu
        simp only [Option.bind_eq_bind, Option.bind_eq_some_iff, Option.some.injEq] at hc
        obtain ⟨x', hx, y', hy, rfl⟩ := hc
        simp only [aval] at hv
        have h1 := hO hx
        have h2 := hO hy
        split at hv
        · rename_i b c e1 e2
          cases hv
          rw [e1] at h1
          rw [e2] at h2
          have h1 := bool_inv h1
          have h2 := bool_inv h2
          refine Gets.next ?_
          rw [h1, h2]
          refine Gets.bind (guard_skip (by rintro ⟨_, _, h, _⟩; cases h) (by rintro ⟨h, _⟩; cases h)) ?_
          have he := run_equal_bool (P := P) w t b c hu
          rcases hop with rfl | rfl
          · refine ⟨_, w, ?_, .inl rfl, .bool _⟩
            simp only [binOp]
            rw [bind_ok he]
            simp [Sem.run_pure]
          · refine ⟨_, w, ?_, .inl rfl, .bool _⟩
            simp only [binOp]
            rw [bind_ok he]
            simp [Sem.run_pure]
        · cases hv
      · rename_i n e hu
        split at hc
        · cases hc
        · rename_i hgt
          simp only [Option.bind_eq_bind, Option.bind_eq_some_iff, Option.some.injEq] at hc
          obtain ⟨kind, hk, x', hx, y', hy, rfl⟩ := hc
          simp only [aval] at hv
          have h1 := hO hx
          have h2 := hO hy
          split at hv
          · rename_i as bs e1 e2
            rw [e1] at h1
            rw [e2] at h2
            split at hv
            · rename_i hlen
              simp only [Option.map_eq_some_iff] at hv
              obtain ⟨b, hb, rfl⟩ := hv
              obtain ⟨vs, e3, hr1⟩ := agg_inv h1
              obtain ⟨us, e4, hr2⟩ := agg_inv h2
              refine Gets.next ?_
              rw [e3, e4]
              have hg : (eqGuard op t x y (.agg vs) (.agg us)).run P w = .ok () w := by
                unfold eqGuard
                rcases hop with rfl | rfl <;>
                · simp only [Bool.not_true, Bool.false_eq_true, if_false]
                  rw [bind_ok (show program.run P w = .ok P w from rfl), bind_ok (show program.run P w = .ok P w from rfl)]
                  simp only [Bool.not_eq_true] at hgt
                  rw [hgt]; rfl
              refine Gets.bind hg ?_
              have he := eqAgg_run (w := w) hu hk hlen hb hr1 hr2
              rcases hop with rfl | rfl
              · refine ⟨_, w, ?_, .inl rfl, .bool _⟩
                simp only [binOp]
                rw [bind_ok he]
                simp [Sem.run_pure]
              · refine ⟨_, w, ?_, .inl rfl, .bool _⟩
                simp only [binOp]
                rw [bind_ok he]
                simp [Sem.run_pure]
            · cases hv
          · cases hv
      · rename_i ms hu
        split at hc
        · rename_i cy
          simp only [Option.bind_eq_bind, Option.bind_eq_some_iff, Option.some.injEq] at hc
          obtain ⟨x', hx, y', hy, rfl⟩ := hc
          simp only [aval] at hv
          have h1 := hO hx
          have h2 := hO hy
          split at hv
          · rename_i e1 e2
            cases hv
            rw [e1] at h1
            rw [e2] at h2
            cases hR' : a.eval x <;> rw [hR'] at h1 <;> cases h1
            cases hR2 : a.eval (.const cy) <;> rw [hR2] at h2 <;> cases h2
            refine Gets.next ?_
            rw [hR', hR2]
            have hg : (eqGuard op t x (.const cy) .nilIface .nilIface).run P w = .ok () w := by
              unfold eqGuard
              rcases hop with rfl | rfl <;> simp <;> rfl
            refine Gets.bind hg ?_
            have he : (Op.equal t .nilIface .nilIface).run P w = .ok true w := eq_nilI hu 9999
            rcases hop with rfl | rfl
            · refine ⟨_, w, ?_, .inl rfl, .bool _⟩
              simp only [binOp]; rw [bind_ok he]; simp [Sem.run_pure]
            · refine ⟨_, w, ?_, .inl rfl, .bool _⟩
              simp only [binOp]; rw [bind_ok he]; simp [Sem.run_pure]
          · rename_i tt xx e1 e2
            cases hv
            rw [e1] at h1
            rw [e2] at h2
            cases hR' : a.eval x <;> rw [hR'] at h1 <;> first | (cases h1; done) | skip
            cases hR2 : a.eval (.const cy) <;> rw [hR2] at h2 <;> first | (cases h2; done) | skip
            rename_i t1 v1
            refine Gets.next ?_
            rw [hR', hR2]
            refine Gets.bind (guard_skip (by rintro ⟨_, _, h, _⟩; cases h) (by rintro ⟨h, _⟩; cases h)) ?_
            have he : (Op.equal t (.iface t1 v1) .nilIface).run P w = .ok false w := eq_nilI' hu 9999
            rcases hop with rfl | rfl
            · refine ⟨_, w, ?_, .inl rfl, .bool _⟩
              simp only [binOp]; rw [bind_ok he]; simp [Sem.run_pure]
            · refine ⟨_, w, ?_, .inl rfl, .bool _⟩
              simp only [binOp]; rw [bind_ok he]; simp [Sem.run_pure]
          · cases hv
        · cases hc
      · rename_i el hu
        split at hc
        · rename_i cy
          simp only [Option.bind_eq_bind, Option.bind_eq_some_iff, Option.some.injEq] at hc
          obtain ⟨x', hx, y', hy, rfl⟩ := hc
          simp only [aval] at hv
          have h1 := hO hx
          have h2 := hO hy
          have key : ∀ {p : Option Addr} {n c : Nat} {b : Bool}, a.eval x = .slice p n c → a.eval (.const cy) = .slice none 0 0 → p.isNone = b → Yield1 P μ w (execOp a.eval ⟨dst, .binOp op t x (.const cy) yt, type, pos, after, guard⟩) (.bool (b != decide (op = .neq))) := by
            intro p n c b e1 e2 hb
            refine Gets.next ?_
            rw [e1, e2]
            refine Gets.bind (guard_skip (by rintro ⟨_, _, h, _⟩; cases h) (by rintro ⟨h, _⟩; cases h)) ?_
            have he : (Op.equal t (.slice p n c) (.slice none 0 0)).run P w = .ok b w := hb ▸ eq_nilS hu 9999
            rcases hop with rfl | rfl
            · refine ⟨_, w, ?_, .inl rfl, .bool _⟩
              simp only [binOp]; rw [bind_ok he]; simp [Sem.run_pure]
            · refine ⟨_, w, ?_, .inl rfl, .bool _⟩
              simp only [binOp]; rw [bind_ok he]; simp [Sem.run_pure]
          split at hv
          · rename_i e1 e2
            cases hv
            rw [e1] at h1
            rw [e2] at h2
            exact key (nilSlice_inv h1) (nilSlice_inv h2) rfl
          · rename_i l off len cap sz e1 e2
            rw [e1] at h1
            rw [e2] at h2
            split at hv
            · cases hv
            · rename_i hcap
              cases hv
              generalize hv' : a.eval x = v at h1
              generalize hsl : AV.slice l off len cap sz = s at h1
              cases h1 with
              | slice h hb hsp ho hl hc' => cases hsl; exact key hv' (nilSlice_inv h2) rfl
              | slice0 p => cases hsl; exact absurd rfl hcap
              | _ => cases hsl
          · cases hv
        · cases hc
      · cases hc
    · simp only [Option.bind_eq_bind, Option.bind_eq_some_iff, Option.some.injEq] at hc
      obtain ⟨x', hx, y', hy, rfl⟩ := hc
      simp only [aval] at hv
      exact Gets.next (bin_sound hv (hO hx) (hO hy))
  | unOp op t x =>
    simp only [comp, Option.bind_eq_bind, Option.bind_eq_some_iff, Option.some.injEq] at hc
    obtain ⟨y, hy, rfl⟩ := hc
    simp only [aval] at hv
    have h1 := hO hy
    unfold unA at hv
    refine Gets.next ?_
    split at hv
    · rename_i e1
      cases hv
      rw [e1] at h1
      rw [int_inv h1]
      exact Gets.pure (.int _ _)
    · rename_i e1
      cases hv
      rw [e1] at h1
      obtain ⟨b, e2, rfl, hb⟩ := flt_inv h1
      rw [e2]
      exact Gets.pure (neg_R hb)
    · rename_i e1
      cases hv
      rw [e1] at h1
      rw [bool_inv h1]
      exact Gets.pure (.bool _)
    · cases hv
  | convert src dst' x =>
    have hcv : ∃ c y, ao = .conv c y := by
      simp only [comp] at hc
      split at hc
      iterate 4
        · simp only [Option.bind_eq_bind, Option.bind_eq_some_iff, Option.some.injEq] at hc
          obtain ⟨y, hy, rfl⟩ := hc
          exact ⟨_, _, rfl⟩
      · split at hc
        · simp only [Option.bind_eq_bind, Option.bind_eq_some_iff, Option.some.injEq] at hc
          obtain ⟨y, hy, rfl⟩ := hc
          exact ⟨_, _, rfl⟩
        · cases hc
      · cases hc
    obtain ⟨c, y, rfl⟩ := hcv
    simp only [aval] at hv
    exact Gets.next (conv_sound hc hv hs he)
  | makeFunc fn first captured =>
    cases fn <;> simp only [comp, Option.bind_eq_bind, Option.bind_eq_some_iff, Option.some.injEq, reduceCtorEq] at hc
    obtain ⟨as, has, bs, hbs, rfl⟩ := hc
    simp only [aval, Option.some.injEq] at hv
    subst hv
    have h1 := cOpds_RL has he
    have h2 := cOpds_RL hbs he
    refine Gets.next (Gets.pure ?_)
    exact .func (by simpa using h1.1) (fun i a v ha hv => h1.2 i a v ha (by simpa using hv)) (by simpa using h2.1) (fun i a v ha hv => h2.2 i a v ha (by simpa using hv))
  | build t parts =>
    simp only [comp] at hc
    split at hc
    · rename_i fields hu
      simp only [Option.bind_eq_bind, Option.bind_eq_some_iff, Option.some.injEq] at hc
      obtain ⟨zs, hz, ps, hps, fs, hfs, rfl⟩ := hc
      simp only [aval, Option.map_eq_some_iff] at hv
      obtain ⟨ds, hds, rfl⟩ := hv
      obtain ⟨z, hz1, hz2⟩ := zero_run (μ := μ) (w := w) hz
      refine Gets.next ?_
      unfold Instr.build
      refine Gets.bind hz1 (Gets.bind (run_under hu) ?_)
      simp only []
      have hpl : (fields.mapM fun (f : Field) => (do pure (f.offset, ← sizeOf f.type) : Sem (Nat × Nat))).run P w = .ok (fields.map fun f => (f.offset, (tySize P f.type).getD 0)) w := by
        rw [Array.mapM_eq_mapM_toList]
        have : (fields.toList.mapM fun f => (do pure (f.offset, ← sizeOf f.type) : Sem (Nat × Nat))).run P w = .ok (fields.toList.map fun f => (f.offset, (tySize P f.type).getD 0)) w := by
          refine mapM_run (f := fun f => (tySize P f.type).map fun n => (f.offset, n)) ?_ ?_
          · intro f y hf
            simp only [Option.map_eq_some_iff] at hf
            obtain ⟨n, hn, rfl⟩ := hf
            rw [bind_ok (run_size hn)]; rfl
          · clear hps hds
            generalize fields.toList = l at hfs
            induction l generalizing fs with
            | nil => rfl
            | cons f l ih =>
              simp only [List.mapM_cons, Option.bind_eq_bind, Option.bind_eq_some_iff, Option.pure_def, Option.some.injEq] at hfs ⊢
              obtain ⟨n, hn, ns, hns, rfl⟩ := hfs
              exact ⟨(f.offset, n), by rw [hn]; rfl, _, ih _ hns, by simp [hn]⟩
        rw [map_ok (f := List.toArray) this]
        congr 1
        apply Array.ext'
        simp
      refine Gets.bind hpl ?_
      have hps' : parts.toList.mapM (fun (i, x) => do let y ← cOpd x; let p ← (fields.map fun f => (f.offset, (tySize P f.type).getD 0))[i]?; some (p.1, p.2, y)) = some ps := by
        refine mapM_two ?_ hps
        rintro ⟨i, x⟩ y hy
        simp only [Option.bind_eq_bind, Option.bind_eq_some_iff, Option.some.injEq] at hy ⊢
        obtain ⟨f, hf, n, hn, x', hx', rfl⟩ := hy
        exact ⟨x', hx', (f.offset, n), by simp [hf, hn], rfl⟩
      obtain ⟨us, h1, h2⟩ := fill_sound hps' he hz2 hds
      have e : (parts.map fun (i, x) => (i, a.eval x)).toList = parts.toList.map fun (i, x) => (i, a.eval x) := by simp
      rw [e, h1]
      exact Gets.pure (R.aggL.2 h2)
    · rename_i len elem hu
      simp only [Option.bind_eq_bind, Option.bind_eq_some_iff, Option.some.injEq] at hc
      obtain ⟨zs, hz, sz, hsz, ps, hps, rfl⟩ := hc
      simp only [aval, Option.map_eq_some_iff] at hv
      obtain ⟨ds, hds, rfl⟩ := hv
      obtain ⟨z, hz1, hz2⟩ := zero_run (μ := μ) (w := w) hz
      refine Gets.next ?_
      unfold Instr.build
      refine Gets.bind hz1 (Gets.bind (run_under hu) ?_)
      simp only []
      refine Gets.bind (run_size hsz) ?_
      have hps' : parts.toList.mapM (fun (i, x) => do let y ← cOpd x; let p ← (fun i : Nat => some (i * sz, sz)) i; some (p.1, p.2, y)) = some ps := by
        refine mapM_two ?_ hps
        rintro ⟨i, x⟩ y hy
        simp only [Option.bind_eq_bind, Option.bind_eq_some_iff, Option.some.injEq] at hy ⊢
        obtain ⟨x', hx', rfl⟩ := hy
        exact ⟨x', hx', (i * sz, sz), rfl, rfl⟩
      obtain ⟨us, h1, h2⟩ := fill_sound (place := fun i : Nat => some (i * sz, sz)) hps' he hz2 hds
      have e : (parts.map fun (i, x) => (i, a.eval x)).toList = parts.toList.map fun (i, x) => (i, a.eval x) := by simp
      rw [e, h1]
      exact Gets.pure (R.aggL.2 h2)
    · cases hc
  | slice t x lo hi mx =>
    simp only [comp] at hc
    split at hc
    · rename_i n elem hu
      simp only [Option.bind_eq_bind, Option.bind_eq_some_iff, Option.some.injEq] at hc
      obtain ⟨sz, hsz, x', hx, lo', hlo, hi', hhi, mx', hmx, rfl⟩ := hc
      simp only [aval] at hv
      have h1 := hO hx
      split at hv
      · rename_i l o e1
        rw [e1] at h1
        split at hv
        · rename_i cs wr hg
          split at hv
          · rename_i hln
            split at hv
            · rename_i i h m hb
              cases hv
              obtain ⟨li, hm, e2⟩ := ptr_inv h1
              obtain ⟨hr, hih, hhm, hmc⟩ := bounds_run (P := P) (w := w) (isSlice := false) hb (Nat.le_refl _) (cOpt_R hlo he) (cOpt_R hhi he) (cOpt_R hmx he)
              obtain ⟨c, e, lo1, hi1, hbk, hsz', hlim, hcc, _⟩ := hs.row l li cs wr hg hm
              refine Gets.next ?_
              unfold Instr.sliceAt
              refine Gets.bind (run_under hu) ?_
              simp only []
              rw [e2]
              refine Gets.bind (x := ⟨li.blk, li.base + o, none⟩) rfl (Gets.bind hr (Gets.bind (run_size hsz) (Gets.pure ?_)))
              have hR : R μ (.slice l o n n sz) (.slice (some ⟨li.blk, li.base + o, none⟩) n n) := .slice hm rfl rfl (.inr rfl) (by omega) (Nat.le_refl _)
              have := cut_R hR hih hhm hmc
              by_cases hmi : m = i
              · simpa [hmi] using this
              · simpa [hmi] using this
            · cases hv
          · cases hv
        · cases hv
      · cases hv
    · rename_i elem hu
      simp only [Option.bind_eq_bind, Option.bind_eq_some_iff, Option.some.injEq] at hc
      obtain ⟨sz, hsz, x', hx, lo', hlo, hi', hhi, mx', hmx, rfl⟩ := hc
      simp only [aval] at hv
      have h1 := hO hx
      split at hv
      · rename_i l o len cap sz' e1
        rw [e1] at h1
        split at hv
        · rename_i hss
          subst hss
          split at hv
          · rename_i i h m hb
            cases hv
            obtain ⟨p, e2, hlc⟩ := slice_form h1
            obtain ⟨hr, hih, hhm, hmc⟩ := bounds_run (P := P) (w := w) (isSlice := true) hb hlc (cOpt_R hlo he) (cOpt_R hhi he) (cOpt_R hmx he)
            refine Gets.next ?_
            unfold Instr.sliceAt
            refine Gets.bind (run_under hu) ?_
            simp only []
            rw [e2] at h1 ⊢
            unfold Instr.slice
            refine Gets.bind (run_under hu) ?_
            simp only []
            exact Gets.bind hr (Gets.bind (run_size hsz) (Gets.pure (cut_R h1 hih hhm hmc)))
          · cases hv
        · cases hv
      · rename_i e1
        rw [e1] at h1
        split at hv
        · rename_i ihm hb
          obtain ⟨i, h, m⟩ := ihm
          cases hv
          have e2 := nilSlice_inv h1
          obtain ⟨hr, hih, hhm, hmc⟩ := bounds_run (P := P) (w := w) (isSlice := true) hb (Nat.le_refl _) (cOpt_R hlo he) (cOpt_R hhi he) (cOpt_R hmx he)
          refine Gets.next ?_
          unfold Instr.sliceAt
          refine Gets.bind (run_under hu) ?_
          simp only []
          rw [e2]
          unfold Instr.slice
          refine Gets.bind (run_under hu) ?_
          simp only []
          refine Gets.bind hr (Gets.bind (run_size hsz) (Gets.pure ?_))
          obtain rfl : m = 0 := by omega
          obtain rfl : h = 0 := by omega
          obtain rfl : i = 0 := by omega
          exact .nilslice
        · cases hv
      · cases hv
    · rename_i hu
      split at hc
      · cases hc
      · rename_i hmx0
        simp only [Option.bind_eq_bind, Option.bind_eq_some_iff, Option.some.injEq] at hc
        obtain ⟨x', hx, lo', hlo, hi', hhi, rfl⟩ := hc
        simp only [aval] at hv
        have h1 := hO hx
        split at hv
        · rename_i s e1
          rw [e1] at h1
          split at hv
          · rename_i i h m hb
            cases hv
            obtain ⟨bs, e2, hbs⟩ := str_inv h1
            obtain rfl : mx = none := by cases mx with | none => rfl | some _ => simp at hmx0
            subst hbs
            obtain ⟨hr, hih, hhm, hmc⟩ := bounds_run (P := P) (w := w) (isSlice := false) hb (Nat.le_refl _) (cOpt_R hlo he) (cOpt_R hhi he) (OptR.mk (fun _ h => by cases h) (fun _ => rfl))
            refine Gets.next ?_
            unfold Instr.sliceAt
            refine Gets.bind (run_under hu) ?_
            simp only []
            rw [e2]
            unfold Instr.slice
            refine Gets.bind (run_under hu) ?_
            simp only [Option.map_none, Option.isSome_none, Bool.false_eq_true, if_false]
            refine Gets.bind hr (Gets.pure (.str ?_))
            simp [ByteArray.data_extract, List.extract, List.drop_take]
          · cases hv
        · cases hv
    · cases hc
  | fieldAddr st x i =>
    simp only [comp] at hc
    split at hc
    · rename_i fields hu
      simp only [Option.bind_eq_bind, Option.bind_eq_some_iff] at hc
      obtain ⟨f, hf, n, hn, hc⟩ := hc
      split at hc
      · cases hc
      · rename_i hn0
        simp only [Option.bind_eq_some_iff, Option.some.injEq] at hc
        obtain ⟨y, hy, rfl⟩ := hc
        simp only [aval] at hv
        have h1 := hO hy
        split at hv
        · rename_i l o e1
          cases hv
          rw [e1] at h1
          obtain ⟨li, hm, e2⟩ := ptr_inv h1
          refine Gets.next ?_
          unfold Instr.fieldAt
          refine Gets.bind (run_under hu) ?_
          simp only [hf]
          rw [e2]
          refine Gets.bind (x := ⟨li.blk, li.base + o, none⟩) rfl ?_
          have hp : (fieldPlace ⟨li.blk, li.base + o, none⟩ f).run P w = .ok ⟨li.blk, li.base + o + f.offset, none⟩ w := by
            unfold fieldPlace
            rw [bind_ok (run_size hn), if_neg hn0, addr_add]; rfl
          exact Gets.bind hp (Gets.pure (.ptr hm (by rw [Nat.add_assoc])))
        · cases hv
    · cases hc
  | field t x i =>
    simp only [comp] at hc
    split at hc
    · rename_i fields hu
      simp only [Option.bind_eq_bind, Option.bind_eq_some_iff, Option.some.injEq] at hc
      obtain ⟨f, hf, ⟨ag, n⟩, ht, y, hy, rfl⟩ := hc
      simp only [aval] at hv
      have h1 := hO hy
      split at hv
      · rename_i cs e1
        rw [e1] at h1
        obtain ⟨vs, e2, hr⟩ := agg_inv h1
        refine Gets.next ?_
        unfold Instr.field
        refine Gets.bind (run_under hu) ?_
        simp only [hf]
        rw [e2]
        exact Gets.bind (x := vs) rfl (part_sound ht hr hv)
      · cases hv
    · cases hc
  | indexAddr t x i =>
    simp only [comp] at hc
    split at hc
    · rename_i len elem hu
      simp only [Option.bind_eq_bind, Option.bind_eq_some_iff, Option.some.injEq] at hc
      obtain ⟨sz, hsz, x', hx, i', hi, rfl⟩ := hc
      simp only [aval] at hv
      have h1 := hO hx
      have h2 := hO hi
      split at hv
      · rename_i l o k n e1 e2
        rw [e1] at h1
        rw [e2] at h2
        split at hv
        · rename_i hb
          cases hv
          obtain ⟨li, hm, e3⟩ := ptr_inv h1
          refine Gets.next ?_
          unfold Instr.indexAt
          rw [e3, int_inv h2]
          refine Gets.bind (x := (k, n)) rfl (Gets.bind (run_under hu) ?_)
          refine Gets.bind (x := ⟨li.blk, li.base + o, none⟩) rfl ?_
          refine Gets.bind (x := (some (⟨li.blk, li.base + o, none⟩ : Addr), len, elem)) rfl ?_
          refine Gets.bind (run_under hu) ?_
          simp only [hb, and_self, if_true]
          refine Gets.bind (run_size hsz) (Gets.pure (.ptr hm (by rw [addr_add, Nat.add_assoc])))
        · cases hv
      · cases hv
    · rename_i elem hu
      simp only [Option.bind_eq_bind, Option.bind_eq_some_iff, Option.some.injEq] at hc
      obtain ⟨sz, hsz, x', hx, i', hi, rfl⟩ := hc
      simp only [aval] at hv
      have h1 := hO hx
      have h2 := hO hi
      split at hv
      · rename_i l o len cap sz' k n e1 e2
        rw [e1] at h1
        rw [e2] at h2
        split at hv
        · rename_i hb
          obtain ⟨rfl, hb0, hb1⟩ := hb
          cases hv
          generalize hxv : a.eval x = v at h1
          generalize hsl : AV.slice l o len cap sz = s at h1
          cases h1 with
          | @slice l' o' len' cap' sz' li ad hμ hbl hsp ho hl hc' =>
            cases hsl
            have ho' : ad.off = li.base + o := ho.resolve_left (by omega)
            refine Gets.next ?_
            unfold Instr.indexAt
            rw [hxv, int_inv h2]
            refine Gets.bind (x := (k, n)) rfl (Gets.bind (run_under hu) ?_)
            refine Gets.bind (x := (some ad, len, elem)) rfl ?_
            refine Gets.bind (run_under hu) ?_
            simp only [hb0, hb1, and_self, if_true]
            refine Gets.bind (run_size hsz) (Gets.pure (.ptr hμ ?_))
            rw [addr_add' hsp, hbl, ho', Nat.add_assoc]
          | slice0 p => cases hsl; omega
          | _ => cases hsl
        · cases hv
      · cases hv
    · cases hc
  | index t x i =>
    simp only [comp] at hc
    split at hc
    · rename_i len elem hu
      simp only [Option.bind_eq_bind, Option.bind_eq_some_iff, Option.some.injEq] at hc
      obtain ⟨⟨ag, n⟩, ht, x', hx, i', hi, rfl⟩ := hc
      simp only [aval] at hv
      have h1 := hO hx
      have h2 := hO hi
      split at hv
      · rename_i cs k m e1 e2
        rw [e1] at h1
        rw [e2] at h2
        split at hv
        · rename_i hb
          obtain ⟨vs, e3, hr⟩ := agg_inv h1
          refine Gets.next ?_
          unfold Instr.index
          rw [e3, int_inv h2]
          refine Gets.bind (x := (k, m)) rfl (Gets.bind (run_under hu) ?_)
          simp only [hb, and_self, if_true]
          exact Gets.bind (run_agg ht).2 (part_sound ht hr hv)
        · cases hv
      · cases hv
    · rename_i hu
      simp only [Option.bind_eq_bind, Option.bind_eq_some_iff, Option.some.injEq] at hc
      obtain ⟨x', hx, i', hi, rfl⟩ := hc
      simp only [aval] at hv
      have h1 := hO hx
      have h2 := hO hi
      split at hv
      · rename_i s k m e1 e2
        rw [e1] at h1
        rw [e2] at h2
        split at hv
        · rename_i hb
          simp only [Option.map_eq_some_iff] at hv
          obtain ⟨c, hc', rfl⟩ := hv
          obtain ⟨bs, e3, rfl⟩ := str_inv h1
          refine Gets.next ?_
          unfold Instr.index
          rw [e3, int_inv h2]
          refine Gets.bind (x := (k, m)) rfl (Gets.bind (run_under hu) ?_)
          have hg : bs[m.toNat]? = some c := by
            rw [← hc']
            show (if h : m.toNat < bs.size then some bs[m.toNat] else none) = _
            by_cases hlt : m.toNat < bs.size
            · rw [dif_pos hlt, List.getElem?_eq_getElem (by exact hlt)]; rfl
            · rw [dif_neg hlt, List.getElem?_eq_none (by exact Nat.le_of_not_lt hlt)]
          simp only [hb, if_true, hg]
          exact Gets.pure (.int _ _)
        · cases hv
      · cases hv
    · cases hc
  | lookup t x k ok =>
    simp only [comp] at hc
    split at hc
    · rename_i key elem hu
      split at hc
      · rename_i k0 z hk hz
        simp only [Option.bind_eq_bind, Option.bind_eq_some_iff, Option.some.injEq] at hc
        obtain ⟨zero, hz0, x', hx, k', hkk, rfl⟩ := hc
        simp only [aval] at hv
        have h1 := hO hx
        have h2 := hO hkk
        split at hv
        · rename_i l e1
          rw [e1] at h1
          split at hv
          · rename_i es hg
            simp only [Option.map_eq_some_iff] at hv
            obtain ⟨r', hr', rfl⟩ := hv
            exact Gets.next (lookup_sound hu hk hz hz0 hg hs h1 h2 hr' ok)
          · cases hv
        · cases hv
      · cases hc
    · cases hc
  | extract t i =>
    simp only [comp, Option.bind_eq_bind, Option.bind_eq_some_iff, Option.some.injEq] at hc
    obtain ⟨y, hy, rfl⟩ := hc
    simp only [aval] at hv
    have h1 := hO hy
    split at hv
    · rename_i as e1
      rw [e1] at h1
      obtain ⟨vs, e2, hr⟩ := R.tuple_inv h1
      obtain ⟨v, hv', hR⟩ := hr.get hv
      refine Gets.next ?_
      rw [e2]
      simp only [Array.getElem?_toList] at hv'
      simp only [Instr.extract, hv']
      exact Gets.pure hR
    · cases hv
  | makeInterface t x =>
    simp only [comp] at hc
    split at hc
    · cases hc
    · rename_i d hne hu
      simp only [Option.bind_eq_bind, Option.bind_eq_some_iff, Option.some.injEq] at hc
      obtain ⟨y, hy, rfl⟩ := hc
      simp only [aval, Option.some.injEq] at hv
      subst hv
      refine Gets.next ?_
      unfold Instr.makeInterface
      refine Gets.bind (run_under hu) ?_
      split
      · exact (hne _ rfl).elim
      · exact Gets.pure (.iface (hO hy))
    · cases hc
  | call c =>
    obtain ⟨callee, args, argTypes⟩ := c
    cases callee with
    | value f =>
      cases f <;> simp only [comp, Option.bind_eq_bind, Option.bind_eq_some_iff, Option.some.injEq] at hc
      case func f => obtain ⟨as, _, rfl⟩ := hc; cases hv
      all_goals (obtain ⟨f', _, as, _, rfl⟩ := hc; cases hv)
    | invoke => simp only [comp, reduceCtorEq] at hc
    | builtin b =>
      simp only [comp] at hc
      split at hc
      · rename_i x t hat hay
        obtain rfl : args = #[x] := by cases args; simpa using hat
        obtain rfl : argTypes = #[t] := by cases argTypes; simpa using hay
        have run : ∀ {r : AV}, Gets P μ w (Builtin.len_ #[t] type #[a.eval x]) r → Yield1 P μ w (execOp a.eval ⟨dst, .call ⟨.builtin .len, #[x], #[t]⟩, type, pos, after, guard⟩) r := fun h => builtin_next h (by simp [builtin])
        split at hc
        · rename_i n e hu
          cases hc
          simp only [aval, Option.some.injEq] at hv
          subst hv
          refine run ?_
          unfold Builtin.len_
          exact Gets.bind (run_under hu) (Gets.pure (.int _ _))
        · rename_i e hu
          simp only [Option.bind_eq_bind, Option.bind_eq_some_iff, Option.some.injEq] at hc
          obtain ⟨y, hy, rfl⟩ := hc
          simp only [aval] at hv
          have h1 := hO hy
          refine run ?_
          unfold Builtin.len_
          refine Gets.bind (run_under hu) ?_
          split at hv
          · rename_i e1
            cases hv
            rw [e1] at h1
            obtain ⟨p, e2, _⟩ := slice_form h1
            rw [e2]
            exact Gets.pure (.int _ _)
          · rename_i e1
            cases hv
            rw [e1] at h1
            rw [nilSlice_inv h1]
            exact Gets.pure (.int _ _)
          · cases hv
        · rename_i hu
          simp only [Option.bind_eq_bind, Option.bind_eq_some_iff, Option.some.injEq] at hc
          obtain ⟨y, hy, rfl⟩ := hc
          simp only [aval] at hv
          have h1 := hO hy
          refine run ?_
          unfold Builtin.len_
          refine Gets.bind (run_under hu) ?_
          split at hv
          · rename_i s e1
            cases hv
            rw [e1] at h1
            obtain ⟨bs, e2, rfl⟩ := str_inv h1
            rw [e2]
            exact Gets.pure (.int _ _)
          · cases hv
        · cases hc
      · rename_i x t hat hay
        obtain rfl : args = #[x] := by cases args; simpa using hat
        obtain rfl : argTypes = #[t] := by cases argTypes; simpa using hay
        have run : ∀ {r : AV}, Gets P μ w (Builtin.cap_ #[t] type #[a.eval x]) r → Yield1 P μ w (execOp a.eval ⟨dst, .call ⟨.builtin .cap, #[x], #[t]⟩, type, pos, after, guard⟩) r := fun h => builtin_next h (by simp [builtin])
        split at hc
        · rename_i n e hu
          cases hc
          simp only [aval, Option.some.injEq] at hv
          subst hv
          refine run ?_
          unfold Builtin.cap_
          exact Gets.bind (run_under hu) (Gets.pure (.int _ _))
        · rename_i e hu
          simp only [Option.bind_eq_bind, Option.bind_eq_some_iff, Option.some.injEq] at hc
          obtain ⟨y, hy, rfl⟩ := hc
          simp only [aval] at hv
          have h1 := hO hy
          refine run ?_
          unfold Builtin.cap_
          refine Gets.bind (run_under hu) ?_
          split at hv
          · rename_i e1
            cases hv
            rw [e1] at h1
            obtain ⟨p, e2, _⟩ := slice_form h1
            rw [e2]
            exact Gets.pure (.int _ _)
          · rename_i e1
            cases hv
            rw [e1] at h1
            rw [nilSlice_inv h1]
            exact Gets.pure (.int _ _)
          · cases hv
        · cases hc
      · rename_i x y hat
        obtain rfl : args = #[x, y] := by cases args; simpa using hat
        simp only [Option.bind_eq_bind, Option.bind_eq_some_iff, Option.some.injEq] at hc
        obtain ⟨x', hx, y', hy, rfl⟩ := hc
        simp only [aval] at hv
        exact builtin_next (min2_sound (ts := argTypes) (t := type) hv (hO hx) (hO hy)) (by simp [builtin])
      · rename_i x y hat
        obtain rfl : args = #[x, y] := by cases args; simpa using hat
        simp only [Option.bind_eq_bind, Option.bind_eq_some_iff, Option.some.injEq] at hc
        obtain ⟨x', hx, y', hy, rfl⟩ := hc
        simp only [aval] at hv
        exact builtin_next (max2_sound (ts := argTypes) (t := type) hv (hO hx) (hO hy)) (by simp [builtin])
      · split at hc
        · obtain ⟨_, _, _, _, _, _, _, _, _, _, _, _, rfl⟩ := cAppend_spec hc; cases hv
        · obtain ⟨_, _, _, _, _, _, _, _, _, _, _, _, rfl⟩ := cAppend_spec hc; cases hv
        · cases hc
      · split at hc
        · simp only [Option.bind_eq_bind, Option.bind_eq_some_iff, Option.some.injEq] at hc
          obtain ⟨_, _, _, _, _, _, rfl⟩ := hc; cases hv
        · cases hc
      · split at hc
        · simp only [Option.bind_eq_bind, Option.bind_eq_some_iff, Option.some.injEq] at hc
          obtain ⟨_, _, _, _, _, _, rfl⟩ := hc; cases hv
        · cases hc
      · cases hc
  | alloc t =>
    simp only [comp, Option.bind_eq_bind, Option.bind_eq_some_iff, Option.some.injEq] at hc
    obtain ⟨_, _, rfl⟩ := hc; cases hv
  | box t x =>
    simp only [comp, Option.bind_eq_bind, Option.bind_eq_some_iff, Option.some.injEq] at hc
    obtain ⟨_, _, rfl⟩ := hc; cases hv
  | buildSlice t len parts =>
    simp only [comp] at hc
    split at hc
    · simp only [Option.bind_eq_bind, Option.bind_eq_some_iff] at hc
      obtain ⟨_, _, _, _, _, _, hc⟩ := hc
      split at hc
      · cases hc; cases hv
      · cases hc
    · cases hc
  | store t x y =>
    simp only [comp, Option.bind_eq_bind, Option.bind_eq_some_iff, Option.some.injEq] at hc
    obtain ⟨_, _, _, _, _, _, rfl⟩ := hc; cases hv
  | makeSlice t l c =>
    simp only [comp] at hc
    split at hc
    · simp only [Option.bind_eq_bind, Option.bind_eq_some_iff] at hc
      obtain ⟨_, _, _, _, _, _, hc⟩ := hc
      split at hc
      · simp only [Option.bind_eq_some_iff, Option.some.injEq] at hc
        obtain ⟨_, _, _, _, rfl⟩ := hc; cases hv
      · cases hc
    · cases hc
  | mapUpdate t m k x =>
    simp only [comp] at hc
    split at hc
    · split at hc
      · simp only [Option.bind_eq_bind, Option.bind_eq_some_iff, Option.some.injEq] at hc
        obtain ⟨_, _, _, _, _, _, rfl⟩ := hc; cases hv
      · cases hc
    · cases hc
  | insert t m k x =>
    simp only [comp] at hc
    split at hc
    · split at hc
      · simp only [Option.bind_eq_bind, Option.bind_eq_some_iff, Option.some.injEq] at hc
        obtain ⟨_, _, _, _, _, _, rfl⟩ := hc; cases hv
      · cases hc
    · cases hc
  | makeMap t r =>
    cases r <;> simp only [comp, Option.some.injEq, reduceCtorEq] at hc
    subst hc; cases hv
  | ready => simp only [comp, reduceCtorEq] at hc
  | waits => simp only [comp, reduceCtorEq] at hc
  | sliceToArrayPointer => simp only [comp, reduceCtorEq] at hc
  | makeChan => simp only [comp, reduceCtorEq] at hc
  | mapEntry => simp only [comp, reduceCtorEq] at hc
  | entryStore => simp only [comp, reduceCtorEq] at hc
  | range => simp only [comp, reduceCtorEq] at hc
  | next => simp only [comp, reduceCtorEq] at hc
  | entry => simp only [comp, reduceCtorEq] at hc
  | typeAssert => simp only [comp, reduceCtorEq] at hc
  | go => simp only [comp, reduceCtorEq] at hc
  | defer => simp only [comp, reduceCtorEq] at hc
  | panic => simp only [comp, reduceCtorEq] at hc
  | send => simp only [comp, reduceCtorEq] at hc
  | recv => simp only [comp, reduceCtorEq] at hc
  | select => simp only [comp, reduceCtorEq] at hc
  where
  bind_ok' {α β : Type} {P : Program} {s : Sem α} {f : α → Sem β} {w w' : World} {a : α} (h : s.run P w = .ok a w') : (s >>= f).run P w = (f a).run P w' := bind_ok h
  map_ok {α β : Type} {P : Program} {s : Sem α} {f : α → β} {w w' : World} {a : α} (h : s.run P w = .ok a w') : (f <$> s).run P w = .ok (f a) w' := bind_ok (f := fun a => pure (f a)) h
  neg_R {μ : Mu} {k : FloatKind} {b : Nat} (hb : b < 2 ^ k.format.width) : R μ (.flt k (negA k (nrm k b))) (.float k (Op.negFloat k b)) := by
    have hrung : ∀ f : Ieee.Format, (b ^^^ 2 ^ (f.exponentBits + f.fractionBits)) % f.signWeight = b % f.signWeight := fun f => by
      unfold Ieee.Format.signWeight
      rw [Nat.xor_mod_two_pow, Nat.mod_self, Nat.xor_zero]
    have hnan : (k.decode (Op.negFloat k b)).isNaN = (k.decode b).isNaN := by
      unfold FloatKind.decode Ieee.Format.read Op.negFloat
      simp only [hrung]
      split
      · rfl
      · split
        · rfl
        · split <;> rfl
    refine .flt ?_ ?_
    · unfold nrm
      rw [hnan]
      split <;> rfl
    · unfold Op.negFloat
      refine Nat.xor_lt_two_pow hb ?_
      unfold Ieee.Format.width
      exact Nat.pow_lt_pow_right (by omega) (by omega)
end
end Go.Ab
