/- Symbolic execution: what a later state says of values, facts and rows. -/
import Derived.Test.YtgjhjemmddojfaaSx8
set_option linter.unusedVariables false
set_option linter.unusedSimpArgs false
namespace Go.Ab

mutual
/-- The value that a symbolic value stands for; nothing if it can't be told. -/
def dn (ρ : Nat → AV) (φ : Nat → List AV → AV) (ns : List (Nat × Node × Kd)) (ls : List (Nat × Nat)) : Nat → SV → Option AV
  | 0, _ => none
  | f + 1, v => match v with
    | .lit a => some a
    | .nd i _ => match findA i ns with
      | some (n, _) => match n with
        | .atom j => some (ρ j)
        | .bin op x y => match dn ρ φ ns ls f x, dn ρ φ ns ls f y with
          | some a, some b => binA op a b
          | _, _ => none
        | .un op x => match dn ρ φ ns ls f x with
          | some a => unA op a
          | none => none
        | .conv c x => match dn ρ φ ns ls f x with
          | some a => convA c (fun _ => none) a
          | none => none
        | .mm m x y => match dn ρ φ ns ls f x, dn ρ φ ns ls f y with
          | some a, some b => mmA m a b
          | _, _ => none
        | .eqB x y => match dn ρ φ ns ls f x, dn ρ φ ns ls f y with
          | some (.bool a), some (.bool b) => some (.bool (a == b))
          | _, _ => none
        | .app g xs => match dnL ρ φ ns ls f xs with
          | some as => some (φ g as)
          | none => none
        | .bits x => match dn ρ φ ns ls f x with
          | some (.flt .f32 c) => some (bits32 c)
          | _ => none
      | none => none
    | .agg cs => (dnL ρ φ ns ls f cs).map .agg
    | .tup cs => (dnL ρ φ ns ls f cs).map .tuple
    | .ptr j off => match ls[j]? with
      | some (l, o) => some (.ptr l (o + off))
      | none => none
    | .sl j off len cap sz => match ls[j]? with
      | some (l, o) => some (.slice l (o + off) len cap sz)
      | none => none
    | .fn g a b => match dnL ρ φ ns ls f a, dnL ρ φ ns ls f b with
      | some xs, some ys => some (.func g xs ys)
      | _, _ => none
    | .ifc t v => (dn ρ φ ns ls f v).map (AV.iface t)
def dnL (ρ : Nat → AV) (φ : Nat → List AV → AV) (ns : List (Nat × Node × Kd)) (ls : List (Nat × Nat)) : Nat → List SV → Option (List AV)
  | 0, _ => none
  | f + 1, vs => match vs with
    | [] => some []
    | v :: rest => match dn ρ φ ns ls f v, dnL ρ φ ns ls f rest with
      | some a, some as => some (a :: as)
      | _, _ => none
end

section
variable {c : Cx} {s : St} {vs : List AV} {ls : List (Nat × Nat)} {H : AHeap} {E : Env}

mutual
theorem dn_of (h : In c s vs ls H) {ls0 : List (Nat × Nat)} (hl : LeL ls0 ls) : ∀ (f : Nat) {v : SV} {a b : AV}, D vs ls v a → dn c.ρ c.φ s.ns ls0 f v = some b → a = b
  | 0, v, a, b, _, e => by simp [dn] at e
  | f + 1, v, a, b, hd, e => by
    have ih : ∀ {v : SV} {a b : AV}, D vs [] v a → dn c.ρ c.φ s.ns ls0 f v = some b → a = b := fun hd e => dn_of h hl f (hd.mono (LeL.refl _) (fun i x h => by simp at h)) e
    have ihL : ∀ {v : List SV} {a b : List AV}, DL vs [] v a → dnL c.ρ c.φ s.ns ls0 f v = some b → a = b := fun hd e => dnL_of h hl f (hd.mono (LeL.refl _) (fun i x h => by simp at h)) e
    cases v with
    | lit x => simp only [dn, Option.some.injEq] at e; simp only [D] at hd; rw [hd.1, e]
    | nd i kd =>
      simp only [dn] at e
      simp only [D] at hd
      split at e
      · rename_i n kd2 hf
        obtain ⟨w, w1, w2, _⟩ := h.ok.ns _ _ _ (findA_mem hf)
        rw [hd.1] at w1
        cases w1
        cases n with
        | atom j => simp only [Option.some.injEq] at e; rw [← e]; exact w2.symm
        | bin op x y =>
          obtain ⟨p, q, d1, d2, d3⟩ := w2
          simp only [] at e
          split at e
          · rename_i a' b' h1 h2
            rw [ih d1 h1, ih d2 h2, e] at d3
            exact (Option.some.inj d3).symm
          · cases e
        | un op x =>
          obtain ⟨p, d1, d3⟩ := w2
          simp only [] at e
          split at e
          · rename_i a' h1
            rw [ih d1 h1, e] at d3
            exact (Option.some.inj d3).symm
          · cases e
        | conv cv x =>
          obtain ⟨p, d1, d3⟩ := w2
          simp only [] at e
          split at e
          · rename_i a' h1
            rw [ih d1 h1, e] at d3
            exact (Option.some.inj d3).symm
          · cases e
        | mm m x y =>
          obtain ⟨p, q, d1, d2, d3⟩ := w2
          simp only [] at e
          split at e
          · rename_i a' b' h1 h2
            rw [ih d1 h1, ih d2 h2, e] at d3
            exact (Option.some.inj d3).symm
          · cases e
        | eqB x y =>
          obtain ⟨p, q, d1, d2, d3⟩ := w2
          simp only [] at e
          split at e
          · rename_i a' b' h1 h2
            have e1 := ih d1 h1
            have e2 := ih d2 h2
            cases e1
            cases e2
            rw [d3]
            exact Option.some.inj e
          · cases e
        | app g xs =>
          obtain ⟨ps, d1, d3⟩ := w2
          simp only [] at e
          split at e
          · rename_i as h1
            rw [ihL d1 h1] at d3
            rw [← d3]
            exact Option.some.inj e
          · cases e
        | bits x =>
          obtain ⟨p, d1, d3⟩ := w2
          simp only [] at e
          split at e
          · rename_i a' h1
            have e1 := ih d1 h1
            cases e1
            rw [d3]
            exact Option.some.inj e
          · cases e
      · cases e
    | agg cs =>
      simp only [dn, Option.map_eq_some_iff] at e
      obtain ⟨as, e1, rfl⟩ := e
      simp only [D] at hd
      obtain ⟨bs, rfl, hd⟩ := hd
      rw [dnL_of h hl f hd e1]
    | tup cs =>
      simp only [dn, Option.map_eq_some_iff] at e
      obtain ⟨as, e1, rfl⟩ := e
      simp only [D] at hd
      obtain ⟨bs, rfl, hd⟩ := hd
      rw [dnL_of h hl f hd e1]
    | ptr j off =>
      simp only [dn] at e
      simp only [D] at hd
      obtain ⟨l, o, hj, rfl⟩ := hd
      split at e
      · rename_i l' o' h1
        rw [hl _ _ h1] at hj
        cases hj
        exact Option.some.inj e
      · cases e
    | sl j off len cap sz =>
      simp only [dn] at e
      simp only [D] at hd
      obtain ⟨l, o, hj, rfl⟩ := hd
      split at e
      · rename_i l' o' h1
        rw [hl _ _ h1] at hj
        cases hj
        exact Option.some.inj e
      · cases e
    | fn g x y =>
      simp only [dn] at e
      simp only [D] at hd
      obtain ⟨xs, ys, rfl, d1, d2⟩ := hd
      split at e
      · rename_i as bs h1 h2
        rw [dnL_of h hl f d1 h1, dnL_of h hl f d2 h2]
        exact Option.some.inj e
      · cases e
    | ifc t v =>
      simp only [dn, Option.map_eq_some_iff] at e
      obtain ⟨x, e1, rfl⟩ := e
      simp only [D] at hd
      obtain ⟨y, rfl, hd⟩ := hd
      rw [dn_of h hl f hd e1]
theorem dnL_of (h : In c s vs ls H) {ls0 : List (Nat × Nat)} (hl : LeL ls0 ls) : ∀ (f : Nat) {v : List SV} {a b : List AV}, DL vs ls v a → dnL c.ρ c.φ s.ns ls0 f v = some b → a = b
  | 0, v, a, b, _, e => by simp [dnL] at e
  | f + 1, v, a, b, hd, e => by
    cases v with
    | nil => simp only [dnL, Option.some.injEq] at e; simp only [DL] at hd; rw [hd, e]
    | cons x rest =>
      simp only [dnL] at e
      simp only [DL] at hd
      obtain ⟨p, ps, rfl, h1, h2⟩ := hd
      split at e
      · rename_i a' as' g1 g2
        cases e
        rw [dn_of h hl f h1 g1, dnL_of h hl f h2 g2]
      · cases e
end

/-- The value of a temporary. -/
theorem env_of (h : In c s vs ls H) (hE : EnvOk s.env vs ls E) (t : Nat) {a : AV} (e : (findA t s.env).bind (dn c.ρ c.φ s.ns c.ls 100) = some a) : E t = a := by
  rw [Option.bind_eq_some_iff] at e
  obtain ⟨v, h1, h2⟩ := e
  exact dn_of h h.lel 100 (hE t v h1) h2
/-- A fact: the k-th of the latest. -/
theorem fact_of (h : In c s vs ls H) (k : Nat) {a : AV} {b : Bool} (e : (s.facts[k]?).bind (fun p => (dn c.ρ c.φ s.ns c.ls 100 (.nd p.1 .bool)).map fun x => (x, p.2)) = some (a, b)) : a = .bool b := by
  rw [Option.bind_eq_some_iff] at e
  obtain ⟨p, h1, h2⟩ := e
  rw [Option.map_eq_some_iff] at h2
  obtain ⟨x, h2, h3⟩ := h2
  cases h3
  have hp := h.ok.facts p.1 p.2 (List.mem_of_getElem? h1)
  exact (dn_of h h.lel 100 (v := .nd p.1 .bool) (a := .bool p.2) (by simp only [D]; exact ⟨hp, _, rfl⟩) h2).symm
theorem bfact (h : In c s vs ls H) (k : Nat) {x b : Bool} (e : (s.facts[k]?).bind (fun p => (dn c.ρ c.φ s.ns c.ls 100 (.nd p.1 .bool)).map fun x => (x, p.2)) = some (.bool x, b)) : x = b := by
  have := fact_of h k e
  cases this; rfl
/-- A row's window. -/
theorem row_of (h : In c s vs ls H) (j : Nat) {l b : Nat} {ds : List AV} {wr : Bool} (hj : c.ls[j]? = some (l, b)) (e : (findA j s.heap).bind (fun p => (dnL c.ρ c.φ s.ns c.ls 300 p.1).map fun x => (x, p.2)) = some (ds, wr)) :
    ∃ pre post wr', H.get l = some (.row (pre ++ (ds ++ post)) wr') ∧ pre.length = b ∧ (wr = true → wr' = true ∧ pre = [] ∧ post = []) := by
  rw [Option.bind_eq_some_iff] at e
  obtain ⟨p, h1, h2⟩ := e
  rw [Option.map_eq_some_iff] at h2
  obtain ⟨x, h2, h3⟩ := h2
  cases h3
  obtain ⟨l', b', pre, es, post, wr', k1, k2, k3, k4, k5⟩ := h.ok.heap j p.1 p.2 (by rw [h1])
  rw [h.lel _ _ hj] at k1
  cases k1
  have := dnL_of h h.lel 300 k4 h2
  subst this
  exact ⟨pre, post, wr', k2, k3, k5⟩
/-- A whole row. -/
theorem row_whole (h : In c s vs ls H) (j : Nat) {l b : Nat} {ds : List AV} (hj : c.ls[j]? = some (l, b)) (e : (findA j s.heap).bind (fun p => (dnL c.ρ c.φ s.ns c.ls 300 p.1).map fun x => (x, p.2)) = some (ds, true)) : H.get l = some (.row ds true) := by
  obtain ⟨pre, post, wr', h1, h2, h3⟩ := row_of h j hj e
  obtain ⟨rfl, rfl, rfl⟩ := h3 rfl
  simpa using h1
/-- The result. -/
theorem res_of (h : In c s vs ls H) (hE : EnvOk s.env vs ls E) {rs : List ARes} {a : AV} (e : (sres rs s).bind (dn c.ρ c.φ s.ns c.ls 100) = some a) : aresults rs E H = some a := by
  rw [Option.bind_eq_some_iff] at e
  obtain ⟨v, h1, h2⟩ := e
  obtain ⟨x, x1, x2⟩ := sres_of h hE h1
  rw [x1, dn_of h h.lel 100 x2 h2]

/-- A body's end: a value that names no location. -/
theorem end_flat (h : In c s vs ls H) (hE : EnvOk s.env vs ls E) {rs : List ARes} {a : AV} {H0 : AHeap} {R : AV → AHeap → Prop} {e : AExit} (he : e = .normal ∨ e = .ret) (hr : (sres rs s).bind (dn c.ρ c.φ s.ns c.ls 100) = some a) (hg : Grew H0 H) (hf : a.flat = true) (hR : R a H0) : endK rs H0 R e E H := by
  rcases he with rfl | rfl
  · exact ⟨a, res_of h hE hr, fin_flat hg hf hR⟩
  · exact ⟨a, res_of h hE hr, fin_flat hg hf hR⟩
end

/-! ### Beginnings in the middle -/

/-- The rows that a run knows: location, where the window begins, its cells, may it be written (then it is the whole row, and no other window's). -/
structure Win where
  l : Nat
  b : Nat
  cs : List SV
  wr : Bool

def winHeap : Nat → List Win → List (Nat × List SV × Bool)
  | _, [] => []
  | j, w :: ws => (j, w.cs, w.wr) :: winHeap (j + 1) ws
def midSt (ks : List Kd) (env : List (Nat × SV)) (ws : List Win) : St := ⟨initNs 0 ks, ks.length, env, winHeap 0 ws, ws.length, [], ws.length⟩
def winLs (ws : List Win) : List (Nat × Nat) := ws.map fun w => (w.l, w.b)
def midCx (P : Program) (φ : Nat → List AV → AV) (xs : List AV) (ws : List Win) (H : AHeap) (fl : Nat) (ru : List (RK × SV)) : Cx := ⟨P, atomsOf xs, φ, xs, winLs ws, H, fl, ru⟩

def WinOk (H : AHeap) (xs : List AV) (ls : List (Nat × Nat)) (w : Win) : Prop := ∃ pre ds post wr', H.get w.l = some (.row (pre ++ (ds ++ post)) wr') ∧ pre.length = w.b ∧ DL xs ls w.cs ds ∧ (w.wr = true → wr' = true ∧ pre = [] ∧ post = [])

theorem winHeap_find : ∀ {ws : List Win} {j0 j : Nat} {cs : List SV} {wr : Bool}, findA j (winHeap j0 ws) = some (cs, wr) → ∃ w, ws[j - j0]? = some w ∧ j0 ≤ j ∧ w.cs = cs ∧ w.wr = wr
  | [], _, _, _, _, h => by cases h
  | w :: ws, j0, j, cs, wr, h => by
    simp only [winHeap] at h
    rw [findA_cons] at h
    split at h
    · rename_i e
      subst e
      cases h
      exact ⟨w, by simp, Nat.le_refl _, rfl, rfl⟩
    · obtain ⟨w', h1, h2, h3, h4⟩ := winHeap_find h
      refine ⟨w', ?_, by omega, h3, h4⟩
      rw [show j - j0 = (j - (j0 + 1)) + 1 by omega]
      simpa using h1

theorem mid_in {P : Program} {φ : Nat → List AV → AV} {ks : List Kd} {xs : List AV} {ws : List Win} {H : AHeap} {fl : Nat} {ru : List (RK × SV)} (hk : KdsL ks xs) (env : List (Nat × SV)) (hw : ∀ w ∈ ws, WinOk H xs (winLs ws) w)
    (hs : ∀ (i j : Nat) (a b : Win), ws[i]? = some a → ws[j]? = some b → a.wr = true → a.l = b.l → i = j) (hr : ∀ k v, (k, v) ∈ ru → RuleOk (midCx P φ xs ws H fl ru) k v) : In (midCx P φ xs ws H fl ru) (midSt ks env ws) xs (winLs ws) H := by
  have h0 := init_in (P := P) (φ := φ) hk env H
  refine ⟨⟨h0.ok.nn, h0.ok.ns, fun i b h => (by cases h), ?_, ?_, ?_, ?_⟩, LeL.refl _, LeL.refl _, Kept.refl _ _ _, ?_, hr⟩
  · simp [midSt, winLs]
  · intro i j l b b' cs hf h1 h2
    obtain ⟨w, w1, _, _, w4⟩ := winHeap_find hf
    simp only [winLs, List.getElem?_map, Option.map_eq_some_iff] at h1 h2
    obtain ⟨a1, a2, a3⟩ := h1
    obtain ⟨b1, b2, b3⟩ := h2
    rw [Nat.sub_zero, a2] at w1
    cases w1
    have e1 : w.l = l := congrArg Prod.fst a3
    have e2 : b1.l = l := congrArg Prod.fst b3
    exact hs i j _ _ a2 b2 w4 (by rw [e1, e2])
  · intro l b hl
    obtain ⟨w, hw1, hw2⟩ := List.mem_map.1 hl
    cases hw2
    obtain ⟨pre, ds, post, wr', h1, _⟩ := hw w hw1
    exact H.lt_of_get h1
  · intro j cs wr hf
    obtain ⟨w, w1, _, rfl, rfl⟩ := winHeap_find hf
    rw [Nat.sub_zero] at w1
    obtain ⟨pre, ds, post, wr', h1, h2, h3, h4⟩ := hw w (List.mem_of_getElem? w1)
    exact ⟨w.l, w.b, pre, ds, post, wr', by simp [winLs, w1], h1, h2, h3, h4⟩
  · intro j l b hj e
    have hj' : (winLs ws).length ≤ j := hj
    rw [List.getElem?_eq_none hj'] at e; cases e

/-- From a point in the middle on. -/
theorem run_mid {P : Program} {φ : Nat → List AV → AV} {ks : List Kd} {xs : List AV} {ws : List Win} {H : AHeap} {E : Env} {pm : Pm} (d : Nat) {o : Pt} {Q : AExit → Env → AHeap → Prop} {env : List (Nat × SV)}
    (hin : In (midCx P φ xs ws H pm.fl pm.ru) (midSt ks env ws) xs (winLs ws) H) (hE : EnvOk env xs (winLs ws) E) (htb : TbOk P pm.tb) (hap : ApOk P φ pm.ap)
    (h : ∀ p ∈ sxGo (sxCall pm d) pm o (midSt ks env ws), ∀ vs ls H' E', Step (midCx P φ xs ws H pm.fl pm.ru) (midSt ks env ws) xs (winLs ws) H p.2 vs ls H' → EnvOk p.2.env vs ls E' → Res P p.1 Q E' H') : Res P o Q E H := by
  obtain ⟨p, hp, vs', ls', H', E', g1, g2, g3⟩ := sxGo_ends (call_ok (c := midCx P φ xs ws H pm.fl pm.ru) (pm := pm) rfl rfl htb hap d) rfl rfl o hin hE
  exact g3 Q (h p hp vs' ls' H' E' g1 g2)

instance : Inhabited St := ⟨⟨[], 0, [], [], 0, [], 0⟩⟩
instance : Inhabited Pt := ⟨.ex .normal⟩
theorem all_get {α : Type} [Inhabited α] {L : List α} {Φ : α → Prop} (n : Nat) (hn : L.length = n) (h : ∀ i, i < n → Φ (L.getD i default)) : ∀ p ∈ L, Φ p := by
  intro p hp
  obtain ⟨i, hi, rfl⟩ := List.getElem_of_mem hp
  have := h i (by omega)
  rw [List.getD_eq_getElem?_getD, List.getElem?_eq_getElem hi] at this
  exact this
theorem all1 {α : Type} [Inhabited α] {L : List α} {Φ : α → Prop} (hn : L.length = 1) (h0 : Φ (L.getD 0 default)) : ∀ p ∈ L, Φ p :=
  all_get 1 hn fun i hi => by
    obtain rfl : i = 0 := by omega
    exact h0
theorem all2 {α : Type} [Inhabited α] {L : List α} {Φ : α → Prop} (hn : L.length = 2) (h0 : Φ (L.getD 0 default)) (h1 : Φ (L.getD 1 default)) : ∀ p ∈ L, Φ p :=
  all_get 2 hn fun i hi => by
    rcases i with _ | _ | i
    · exact h0
    · exact h1
    · omega
theorem all3 {α : Type} [Inhabited α] {L : List α} {Φ : α → Prop} (hn : L.length = 3) (h0 : Φ (L.getD 0 default)) (h1 : Φ (L.getD 1 default)) (h2 : Φ (L.getD 2 default)) : ∀ p ∈ L, Φ p :=
  all_get 3 hn fun i hi => by
    rcases i with _ | _ | _ | i
    · exact h0
    · exact h1
    · exact h2
    · omega
theorem all4 {α : Type} [Inhabited α] {L : List α} {Φ : α → Prop} (hn : L.length = 4) (h0 : Φ (L.getD 0 default)) (h1 : Φ (L.getD 1 default)) (h2 : Φ (L.getD 2 default)) (h3 : Φ (L.getD 3 default)) : ∀ p ∈ L, Φ p :=
  all_get 4 hn fun i hi => by
    rcases i with _ | _ | _ | _ | i
    · exact h0
    · exact h1
    · exact h2
    · exact h3
    · omega
theorem all5 {α : Type} [Inhabited α] {L : List α} {Φ : α → Prop} (hn : L.length = 5) (h0 : Φ (L.getD 0 default)) (h1 : Φ (L.getD 1 default)) (h2 : Φ (L.getD 2 default)) (h3 : Φ (L.getD 3 default)) (h4 : Φ (L.getD 4 default)) : ∀ p ∈ L, Φ p :=
  all_get 5 hn fun i hi => by
    rcases i with _ | _ | _ | _ | _ | i
    · exact h0
    · exact h1
    · exact h2
    · exact h3
    · exact h4
    · omega

theorem all6 {α : Type} [Inhabited α] {L : List α} {Φ : α → Prop} (hn : L.length = 6) (h0 : Φ (L.getD 0 default)) (h1 : Φ (L.getD 1 default)) (h2 : Φ (L.getD 2 default)) (h3 : Φ (L.getD 3 default)) (h4 : Φ (L.getD 4 default)) (h5 : Φ (L.getD 5 default)) : ∀ p ∈ L, Φ p :=
  all_get 6 hn fun i hi => by
    rcases i with _ | _ | _ | _ | _ | _ | i
    · exact h0
    · exact h1
    · exact h2
    · exact h3
    · exact h4
    · exact h5
    · omega
theorem all7 {α : Type} [Inhabited α] {L : List α} {Φ : α → Prop} (hn : L.length = 7) (h0 : Φ (L.getD 0 default)) (h1 : Φ (L.getD 1 default)) (h2 : Φ (L.getD 2 default)) (h3 : Φ (L.getD 3 default)) (h4 : Φ (L.getD 4 default)) (h5 : Φ (L.getD 5 default)) (h6 : Φ (L.getD 6 default)) : ∀ p ∈ L, Φ p :=
  all_get 7 hn fun i hi => by
    rcases i with _ | _ | _ | _ | _ | _ | _ | i
    · exact h0
    · exact h1
    · exact h2
    · exact h3
    · exact h4
    · exact h5
    · exact h6
    · omega
theorem all8 {α : Type} [Inhabited α] {L : List α} {Φ : α → Prop} (hn : L.length = 8) (h0 : Φ (L.getD 0 default)) (h1 : Φ (L.getD 1 default)) (h2 : Φ (L.getD 2 default)) (h3 : Φ (L.getD 3 default)) (h4 : Φ (L.getD 4 default)) (h5 : Φ (L.getD 5 default)) (h6 : Φ (L.getD 6 default)) (h7 : Φ (L.getD 7 default)) : ∀ p ∈ L, Φ p :=
  all_get 8 hn fun i hi => by
    rcases i with _ | _ | _ | _ | _ | _ | _ | _ | i
    · exact h0
    · exact h1
    · exact h2
    · exact h3
    · exact h4
    · exact h5
    · exact h6
    · exact h7
    · omega
theorem all9 {α : Type} [Inhabited α] {L : List α} {Φ : α → Prop} (hn : L.length = 9) (h0 : Φ (L.getD 0 default)) (h1 : Φ (L.getD 1 default)) (h2 : Φ (L.getD 2 default)) (h3 : Φ (L.getD 3 default)) (h4 : Φ (L.getD 4 default)) (h5 : Φ (L.getD 5 default)) (h6 : Φ (L.getD 6 default)) (h7 : Φ (L.getD 7 default)) (h8 : Φ (L.getD 8 default)) : ∀ p ∈ L, Φ p :=
  all_get 9 hn fun i hi => by
    rcases i with _ | _ | _ | _ | _ | _ | _ | _ | _ | i
    · exact h0
    · exact h1
    · exact h2
    · exact h3
    · exact h4
    · exact h5
    · exact h6
    · exact h7
    · exact h8
    · omega
theorem all10 {α : Type} [Inhabited α] {L : List α} {Φ : α → Prop} (hn : L.length = 10) (h0 : Φ (L.getD 0 default)) (h1 : Φ (L.getD 1 default)) (h2 : Φ (L.getD 2 default)) (h3 : Φ (L.getD 3 default)) (h4 : Φ (L.getD 4 default)) (h5 : Φ (L.getD 5 default)) (h6 : Φ (L.getD 6 default)) (h7 : Φ (L.getD 7 default)) (h8 : Φ (L.getD 8 default)) (h9 : Φ (L.getD 9 default)) : ∀ p ∈ L, Φ p :=
  all_get 10 hn fun i hi => by
    rcases i with _ | _ | _ | _ | _ | _ | _ | _ | _ | _ | i
    · exact h0
    · exact h1
    · exact h2
    · exact h3
    · exact h4
    · exact h5
    · exact h6
    · exact h7
    · exact h8
    · exact h9
    · omega
theorem all11 {α : Type} [Inhabited α] {L : List α} {Φ : α → Prop} (hn : L.length = 11) (h0 : Φ (L.getD 0 default)) (h1 : Φ (L.getD 1 default)) (h2 : Φ (L.getD 2 default)) (h3 : Φ (L.getD 3 default)) (h4 : Φ (L.getD 4 default)) (h5 : Φ (L.getD 5 default)) (h6 : Φ (L.getD 6 default)) (h7 : Φ (L.getD 7 default)) (h8 : Φ (L.getD 8 default)) (h9 : Φ (L.getD 9 default)) (h10 : Φ (L.getD 10 default)) : ∀ p ∈ L, Φ p :=
  all_get 11 hn fun i hi => by
    rcases i with _ | _ | _ | _ | _ | _ | _ | _ | _ | _ | _ | i
    · exact h0
    · exact h1
    · exact h2
    · exact h3
    · exact h4
    · exact h5
    · exact h6
    · exact h7
    · exact h8
    · exact h9
    · exact h10
    · omega
theorem all12 {α : Type} [Inhabited α] {L : List α} {Φ : α → Prop} (hn : L.length = 12) (h0 : Φ (L.getD 0 default)) (h1 : Φ (L.getD 1 default)) (h2 : Φ (L.getD 2 default)) (h3 : Φ (L.getD 3 default)) (h4 : Φ (L.getD 4 default)) (h5 : Φ (L.getD 5 default)) (h6 : Φ (L.getD 6 default)) (h7 : Φ (L.getD 7 default)) (h8 : Φ (L.getD 8 default)) (h9 : Φ (L.getD 9 default)) (h10 : Φ (L.getD 10 default)) (h11 : Φ (L.getD 11 default)) : ∀ p ∈ L, Φ p :=
  all_get 12 hn fun i hi => by
    rcases i with _ | _ | _ | _ | _ | _ | _ | _ | _ | _ | _ | _ | i
    · exact h0
    · exact h1
    · exact h2
    · exact h3
    · exact h4
    · exact h5
    · exact h6
    · exact h7
    · exact h8
    · exact h9
    · exact h10
    · exact h11
    · omega
/-- The loop at which a run stopped. -/
def ptLoop : Pt → ACode
  | .code (.loop a) _ => a
  | _ => .skip
def ptFr : Pt → List Fr
  | .code _ fr => fr
  | .ops _ fr => fr
  | .mixq _ _ fr => fr
  | .kids _ fr => fr
  | _ => []
theorem res_loop {P : Program} {o : Pt} {Q : AExit → Env → AHeap → Prop} {E : Env} {H : AHeap} (ho : o = .code (.loop (ptLoop o)) (ptFr o)) (I : Nat → Env → AHeap → Prop) (n : Nat) (h : I n E H)
    (hb : ∀ m E H, I m E H → Res P (.code (ptLoop o) []) (loopK (fun E' H' => ∃ k, k < m ∧ I k E' H') (konts P (ptFr o) Q)) E H) : Res P o Q E H := by
  rw [ho]
  exact ax_loop I n h hb
theorem res_ex {P : Program} {o : Pt} {e : AExit} (ho : o = .ex e) {Q : AExit → Env → AHeap → Prop} {E : Env} {H : AHeap} (h : Q e E H) : Res P o Q E H := by rw [ho]; exact h
end Go.Ab
