/- Two functions that give the same: two records by address. -/
import Derived.Test.YtgjhjemmddojfaaSx12
set_option linter.unusedVariables false
set_option linter.unusedSimpArgs false
namespace Go.Ab
theorem dFn {xs : List AV} {ls : List (Nat × Nat)} {f : FuncId} : D xs ls (.fn f [] []) (.func f [] []) := by simp only [D, DL]; exact ⟨[], [], rfl, rfl, rfl⟩
theorem envFn {xs : List AV} {ls : List (Nat × Nat)} {E : Env} {env : List (Nat × SV)} {t : Nat} {f : FuncId} (h : E t = .func f [] []) (k : EnvOk env xs ls E) : EnvOk ((t, .fn f [] []) :: env) xs ls E := envCons (by rw [h]; exact dFn) k
theorem pair_ptr2 {P : Program} {φ : Nat → List AV → AV} {tb : List (Nat × AFun)} {ap : List (Nat × Nat × List Kd × Kd)} (d : Nat) {sh : ShT} {f g : FuncId} (htb : TbOk P tb) (hap : ApOk P φ ap) {ks : List Kd} {m m' : List AV} (hm : KdsL ks m) (hm' : KdsL ks m') (hk : plainKs ks = true)
    (hp : pairOk ⟨2, [], tb, ap, 1000⟩ d sh g [.ptr 0 0, .ptr 1 0] f [.agg (nds 0 ks), .agg (nds ks.length ks)] (midSt ([] ++ [ks, ks].flatten) [] (smallWs 0 0 [ks, ks])) = true) :
    ∃ r, HasSh sh r ∧ r.flat = true ∧ (∀ H, APure P f [.agg m, .agg m'] H r) ∧ ∀ (H : AHeap) (l off l' off' : Nat) (pre post pre' post' : List AV) (wr wr' : Bool), H.get l = some (.row (pre ++ (m ++ post)) wr) → pre.length = off → H.get l' = some (.row (pre' ++ (m' ++ post')) wr') → pre'.length = off' → APure P g [.ptr l off, .ptr l' off'] H r := by
  have hin := small_in (P := P) (φ := φ) (kss := [ks, ks]) (rows := [m, m']) (ks0 := []) (xs0 := []) (fun j k c h1 h2 => by
    match j, h1, h2 with
    | 0, h1, h2 => simp at h1 h2; subst h1; subst h2; exact hm
    | 1, h1, h2 => simp at h1 h2; subst h1; subst h2; exact hm'
    | j + 2, h1, h2 => simp at h1) rfl .nil
  have hd : DL ([] ++ [m, m'].flatten) (winLs (smallWs 0 0 [ks, ks])) (nds 0 ks) m := by
    have := nds_of hm [] (m' ++ []) 0 rfl
    simp only [List.flatten_cons, List.flatten_nil]
    exact this.mono (LeL.refl _) (fun i x h => by simp at h)
  have hd' : DL ([] ++ [m, m'].flatten) (winLs (smallWs 0 0 [ks, ks])) (nds ks.length ks) m' := by
    have := nds_of hm' m [] ks.length hm.len.symm
    simp only [List.flatten_cons, List.flatten_nil]
    exact this.mono (LeL.refl _) (fun i x h => by simp at h)
  have hx : DL ([] ++ [m, m'].flatten) (winLs (smallWs 0 0 [ks, ks])) [.ptr 0 0, .ptr 1 0] [.ptr 0 0, .ptr 1 0] := dlCons (dPtr (l := 0) (o := 0) rfl) (dlCons (dPtr (l := 1) (o := 0) rfl) dlNil)
  obtain ⟨r, h1, h2, h4, h3⟩ := pair_run (pm := ⟨2, [], tb, ap, 1000⟩) d rfl rfl htb hap hin hx (dlCons (dAgg hd) (dlCons (dAgg hd') dlNil)) hp
  have hf := kdsL_flat hm hk
  have hf' := kdsL_flat hm' hk
  refine ⟨r, h1, h2, fun H => h3.frame0 h2 (fun a ha => ?_) H, fun H l off l' off' pre post pre' post' wr wr' hg hpl hg' hpl' => h4.frame h2 (lies_two hf hg hpl hf' hg' hpl') (.cons (.ptr rfl (by simp)) (.cons (.ptr rfl (by simp)) .nil))⟩
  simp at ha
  rcases ha with rfl | rfl
  · simp only [AV.flat]; exact hf
  · simp only [AV.flat]; exact hf'

/-- Both give the same bool, whatever the way. -/
def pairOkB (pm : Pm) (d : Nat) (f : FuncId) (xs : List SV) (g : FuncId) (ys : List SV) (s : St) : Bool :=
  match sxCall pm d f xs s with
  | some ps => ps.all fun p => p.2.2 && (match kdOf p.1 with
    | some .bool => (splitB p.1 p.2.1).all fun b => (match sxCall pm d g ys b.2 with
      | some qs => qs.all fun q => q.2.2 && (match kdOf q.1 with
        | some .bool => (splitB q.1 q.2.1).all fun e => e.1 == b.1
        | _ => false)
      | none => false)
    | _ => false)
  | none => false
theorem pair_runB {c : Cx} {pm : Pm} {s : St} {vs : List AV} {ls : List (Nat × Nat)} {H : AHeap} (d : Nat) {f g : FuncId} {xs ys : List SV} {args brgs : List AV} (hru : pm.ru = c.ru) (hfl : pm.fl = c.fl) (htb : TbOk c.P pm.tb) (hap : ApOk c.P c.φ pm.ap)
    (h : In c s vs ls H) (hx : DL vs ls xs args) (hy : DL vs ls ys brgs) (hp : pairOkB pm d f xs g ys s = true) : ∃ b : Bool, APure c.P f args H (.bool b) ∧ APure c.P g brgs H (.bool b) := by
  have hc := call_ok (c := c) hru hfl htb hap d
  unfold pairOkB at hp
  split at hp
  · rename_i ps hps
    obtain ⟨p, p1, vs1, ls1, H1, r, st, d1, _, _, d2⟩ := hc f xs s vs ls H args ps h hx hps
    have := List.all_eq_true.1 hp p p1
    simp only [Bool.and_eq_true] at this
    obtain ⟨h1, h2⟩ := this
    obtain ⟨rfl, hf⟩ := d2 h1
    split at h2
    · rename_i hk
      obtain ⟨b, rfl⟩ := (kd_of d1 hk).1
      obtain ⟨s1, m1, st1, _⟩ := splitB_in st.inn d1
      have h3 := List.all_eq_true.1 h2 (b, s1) m1
      split at h3
      · rename_i qs hqs
        obtain ⟨q, q1, vs2, ls2, H2, r2, st2, e1, _, _, e2⟩ := hc g ys s1 vs1 ls1 H1 brgs qs st1.inn (hy.mono st.lev st.lel) hqs
        have h4 := List.all_eq_true.1 h3 q q1
        simp only [Bool.and_eq_true] at h4
        obtain ⟨h5, h6⟩ := h4
        obtain ⟨rfl, hg⟩ := e2 h5
        split at h6
        · rename_i hk2
          obtain ⟨b2, rfl⟩ := (kd_of e1 hk2).1
          obtain ⟨s3, m3, _, _⟩ := splitB_in st2.inn e1
          have h7 := List.all_eq_true.1 h6 (b2, s3) m3
          have : b2 = b := by simpa using h7
          subst this
          exact ⟨_, hf, hg⟩
        · cases h6
      · cases h3
    · cases h2
  · cases hp
theorem pair_flatB {P : Program} {φ : Nat → List AV → AV} {pm : Pm} (d : Nat) {f g : FuncId} (hru : pm.ru = []) (hfl : pm.fl = 0) (htb : TbOk P pm.tb) (hap : ApOk P φ pm.ap) {gk : List (Bool × List Kd)} {gv : List (Bool × List AV)} (hg : GK gk gv) (hk : gk.all (fun p => plainKs p.2) = true)
    (hp : pairOkB pm d f (gSV 0 gk) g (gSV 0 gk) (initSt (gKs gk) []) = true) : ∃ b : Bool, ∀ H, APure P f (gAV gv) H (.bool b) ∧ APure P g (gAV gv) H (.bool b) := by
  have ha := hg.dl [] [] 0 rfl
  simp only [List.nil_append, List.append_nil] at ha
  have hin := init_in (P := P) (φ := φ) hg.kds [] (smallH [])
  obtain ⟨b, h3, h4⟩ := pair_runB (c := ⟨P, atomsOf (gXs gv), φ, gXs gv, [], smallH [], 0, []⟩) d hru hfl htb hap hin ha ha hp
  exact ⟨b, fun H => ⟨h3.frame0 rfl (gAV_flat hg hk) H, h4.frame0 rfl (gAV_flat hg hk) H⟩⟩
end Go.Ab
