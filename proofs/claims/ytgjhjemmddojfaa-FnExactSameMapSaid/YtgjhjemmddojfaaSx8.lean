/- Symbolic execution: laws over arguments of plain shapes. -/
import Derived.Test.YtgjhjemmddojfaaSx7
set_option linter.unusedVariables false
set_option linter.unusedSimpArgs false
namespace Go.Ab

theorem KdsL.len {ks : List Kd} {as : List AV} (h : KdsL ks as) : ks.length = as.length := by
  induction h with
  | nil => rfl
  | cons _ _ ih => simp [ih]
theorem KdsL.append {ks ks' : List Kd} {as bs : List AV} (h : KdsL ks as) (k : KdsL ks' bs) : KdsL (ks ++ ks') (as ++ bs) := by
  induction h with
  | nil => exact k
  | cons h _ ih => exact .cons h ih

theorem nds_of {ks : List Kd} {ys : List AV} (h : KdsL ks ys) : ∀ (pre post : List AV) (i : Nat), pre.length = i → DL (pre ++ (ys ++ post)) [] (nds i ks) ys := by
  induction h with
  | nil => intro pre post i _; simp only [nds, DL]
  | @cons k a ks as h1 h2 ih =>
    intro pre post i hi
    simp only [nds, DL]
    refine ⟨a, as, rfl, ?_, ?_⟩
    · simp only [D]
      exact ⟨by rw [List.getElem?_append_right (by omega), hi]; simp, h1⟩
    · have := ih (pre ++ [a]) post (i + 1) (by simp [hi])
      simpa using this

theorem fitsL_kds {H : AHeap} : ∀ {ss : List Sh} {ks : List Kd} {as : List AV}, FitsL H ss as → ss.mapM kdSh = some ks → KdsL ks as
  | [], ks, as, h, e => by
    simp at e
    subst e
    have := h.1
    simp at this
    subst this
    exact .nil
  | s :: ss, ks, as, h, e => by
    simp only [List.mapM_cons, Option.bind_eq_bind, Option.bind_eq_some_iff, Option.pure_def, Option.some.injEq] at e
    obtain ⟨k, hk, ks', hks, rfl⟩ := e
    match as, h with
    | a :: as, h =>
      exact .cons (kdSh_of (h.2 0 s a rfl rfl) hk) (fitsL_kds ⟨by simpa using h.1, fun i s a x y => h.2 (i + 1) s a (by simpa using x) (by simpa using y)⟩ hks)
    | [], h => have := h.1; simp at this

theorem mapM_len {α β : Type} {f : α → Option β} {l : List α} {xs : List β} (h : l.mapM f = some xs) : xs.length = l.length := (mapM_get h).1

theorem args_sv {H : AHeap} : ∀ {xs : List (Bool × List Sh)} {as : List AV} {ks : List Kd}, FitArgs H xs as → ksSh xs = some ks → ∃ ys, KdsL ks ys ∧ ∀ (pre post : List AV) (i : Nat), pre.length = i → DL (pre ++ (ys ++ post)) [] (svSh i xs) as
  | [], as, ks, h, e => by
    cases e
    match as, h with
    | [], _ => exact ⟨[], .nil, fun pre post i _ => by simp only [svSh, DL]⟩
  | (b, ss) :: rest, as, ks, h, e => by
    unfold ksSh at e
    split at e
    · rename_i k1 k2 h1 h2
      cases e
      match as, h with
      | a :: as, h =>
        obtain ⟨ha, hr⟩ := h
        obtain ⟨zs, z1, z2⟩ := args_sv hr h2
        have hlen : k1.length = ss.length := mapM_len h1
        cases b with
        | true =>
          obtain ⟨cs, rfl, hc⟩ := ha
          have hk := fitsL_kds hc h1
          refine ⟨cs ++ zs, hk.append z1, fun pre post i hi => ?_⟩
          simp only [svSh, h1, Option.getD_some, DL]
          refine ⟨.agg cs, as, rfl, ?_, ?_⟩
          · simp only [D]
            refine ⟨cs, rfl, ?_⟩
            have := nds_of hk pre (zs ++ post) i hi
            simpa using this
          · have := z2 (pre ++ cs) post (i + ss.length) (by rw [List.length_append, hi, ← hk.len, hlen])
            simpa using this
        | false =>
          obtain ⟨s, rfl, hc⟩ := ha
          have hk := fitsL_kds (FitsL.one hc) h1
          refine ⟨[a] ++ zs, hk.append z1, fun pre post i hi => ?_⟩
          simp only [svSh, h1, Option.getD_some]
          have e1 := nds_of hk pre (zs ++ post) i hi
          have e2 := z2 (pre ++ [a]) post (i + [s].length) (by simp [hi])
          have e1' : DL (pre ++ ([a] ++ zs ++ post)) [] (nds i k1) [a] := by simpa using e1
          have e2' : DL (pre ++ ([a] ++ zs ++ post)) [] (svSh (i + [s].length) rest) as := by simpa using e2
          exact e1'.append e2'
    · cases e

/-- A law over plain arguments. -/
theorem law_true {P : Program} {φ : Nat → List AV → AV} {pm : Pm} {f : FuncId} {n : Nat} {rs : List ARes} {body : ACode} (d : Nat) {xs : List (Bool × List Sh)} (hks' : (ksSh xs).isSome = true)
    (hru : pm.ru = []) (hfl : pm.fl = 0) (htb : TbOk P pm.tb) (hap : ApOk P φ pm.ap) (hf : cFun P f = some ⟨n, rs, body⟩) (hn : (svSh 0 xs).length ≤ n)
    (h : allTrue rs (sxCode (sxCall pm d) pm body (initSt ((ksSh xs).getD []) (startEnv 0 (svSh 0 xs)))) = true) : ∀ H as, FitArgs H xs as → ACalls P f as H fun r _ => r = .bool true := by
  intro H as ha
  obtain ⟨ks, hks⟩ := Option.isSome_iff_exists.1 hks'
  rw [hks] at h
  simp only [Option.getD_some] at h
  obtain ⟨ys, y1, y2⟩ := args_sv ha hks
  have := y2 [] [] 0 rfl
  simp only [List.nil_append, List.append_nil] at this
  exact run_true d hru hfl htb hap hf y1 this hn h
end Go.Ab
