/- Symbolic execution: walks of loops over slices. -/
import Derived.Test.YtgjhjemmddojfaaSx10
set_option linter.unusedVariables false
set_option linter.unusedSimpArgs false
namespace Go.Ab

/-! ### Functions over plain arguments -/
def gAV : List (Bool × List AV) → List AV
  | [] => []
  | (true, cs) :: r => .agg cs :: gAV r
  | (false, cs) :: r => cs ++ gAV r
def gSV : Nat → List (Bool × List Kd) → List SV
  | _, [] => []
  | i, (true, ks) :: r => .agg (nds i ks) :: gSV (i + ks.length) r
  | i, (false, ks) :: r => nds i ks ++ gSV (i + ks.length) r
def gKs (gk : List (Bool × List Kd)) : List Kd := (gk.map (·.2)).flatten
def gXs (gv : List (Bool × List AV)) : List AV := (gv.map (·.2)).flatten
inductive GK : List (Bool × List Kd) → List (Bool × List AV) → Prop where
  | nil : GK [] []
  | cons {b : Bool} {ks : List Kd} {cs : List AV} {gk : List (Bool × List Kd)} {gv : List (Bool × List AV)} (h : KdsL ks cs) (t : GK gk gv) : GK ((b, ks) :: gk) ((b, cs) :: gv)
theorem GK.kds {gk : List (Bool × List Kd)} {gv : List (Bool × List AV)} (h : GK gk gv) : KdsL (gKs gk) (gXs gv) := by
  induction h with
  | nil => exact .nil
  | cons h _ ih => exact h.append ih
theorem GK.dl {gk : List (Bool × List Kd)} {gv : List (Bool × List AV)} (h : GK gk gv) : ∀ (pre post : List AV) (i : Nat), pre.length = i → DL (pre ++ (gXs gv ++ post)) [] (gSV i gk) (gAV gv) := by
  induction h with
  | nil => intro pre post i _; simp only [gSV, gAV, DL]
  | @cons b ks cs gk gv h t ih =>
    intro pre post i hi
    have e2 := ih (pre ++ cs) post (i + ks.length) (by rw [List.length_append, hi, h.len])
    have e1 := nds_of h pre (gXs gv ++ post) i hi
    have ee : gXs ((b, cs) :: gv) = cs ++ gXs gv := rfl
    rw [ee]
    simp only [List.append_assoc] at e1 e2 ⊢
    cases b with
    | true => simp only [gSV, gAV, DL]; exact ⟨.agg cs, _, rfl, by simp only [D]; exact ⟨cs, rfl, e1⟩, e2⟩
    | false => simp only [gSV, gAV]; exact e1.append e2

/-- A body over plain arguments, run. -/
theorem run_g {P : Program} {φ : Nat → List AV → AV} {pm : Pm} {f : FuncId} {n : Nat} {rs : List ARes} {body : ACode} (d : Nat) (hru : pm.ru = []) (hfl : pm.fl = 0) (htb : TbOk P pm.tb) (hap : ApOk P φ pm.ap) (hf : cFun P f = some ⟨n, rs, body⟩)
    {H : AHeap} {gk : List (Bool × List Kd)} {gv : List (Bool × List AV)} (hg : GK gk gv) (hn : (gSV 0 gk).length ≤ n) {R : AV → AHeap → Prop}
    (h : ∀ p ∈ sxCode (sxCall pm d) pm body (initSt (gKs gk) (startEnv 0 (gSV 0 gk))), ∀ vs ls H' E', Step ⟨P, atomsOf (gXs gv), φ, gXs gv, [], H, 0, []⟩ (initSt (gKs gk) (startEnv 0 (gSV 0 gk))) (gXs gv) [] H p.2 vs ls H' → EnvOk p.2.env vs ls E' → Res P p.1 (endK rs H R) E' H') : ACalls P f (gAV gv) H R := by
  have ha := hg.dl [] [] 0 rfl
  simp only [List.nil_append, List.append_nil] at ha
  exact run_fun d hru hfl htb hap hf hg.kds ha hn h

/-! ### The middle, with nodes that are given -/
def nsOf : Nat → List (Node × Kd) → List (Nat × Node × Kd)
  | _, [] => []
  | i, (n, k) :: rest => (i, n, k) :: nsOf (i + 1) rest
def midN (nk : List (Node × Kd)) (fs : List (Nat × Bool)) (env : List (Nat × SV)) (ws : List Win) : St := ⟨nsOf 0 nk, nk.length, env, winHeap 0 ws, ws.length, fs, ws.length⟩
inductive FaL (xs : List AV) : List (Nat × Bool) → Prop where
  | nil : FaL xs []
  | cons {i : Nat} {b : Bool} {fs : List (Nat × Bool)} (h : xs[i]? = some (.bool b)) (t : FaL xs fs) : FaL xs ((i, b) :: fs)
theorem FaL.mem {xs : List AV} {fs : List (Nat × Bool)} (h : FaL xs fs) : ∀ i b, (i, b) ∈ fs → xs[i]? = some (.bool b) := by
  induction h with
  | nil => intro i b h; cases h
  | cons h _ ih =>
    intro i b hw
    rcases List.mem_cons.1 hw with e | hw
    · cases e; exact h
    · exact ih i b hw
inductive NkL (ρ : Nat → AV) (φ : Nat → List AV → AV) (vs : List AV) : List (Node × Kd) → List AV → Prop where
  | nil : NkL ρ φ vs [] []
  | cons {n : Node} {kd : Kd} {v : AV} {nk : List (Node × Kd)} {xs : List AV} (h : NodeOk ρ φ vs n v) (k : HasKd kd v) (t : NkL ρ φ vs nk xs) : NkL ρ φ vs ((n, kd) :: nk) (v :: xs)
theorem NkL.len {ρ : Nat → AV} {φ : Nat → List AV → AV} {vs : List AV} {nk : List (Node × Kd)} {xs : List AV} (h : NkL ρ φ vs nk xs) : nk.length = xs.length := by
  induction h with
  | nil => rfl
  | cons _ _ _ ih => simp [ih]
theorem NkL.at {ρ : Nat → AV} {φ : Nat → List AV → AV} {vs : List AV} {nk : List (Node × Kd)} {xs : List AV} (h : NkL ρ φ vs nk xs) : ∀ (j : Nat), (∀ i, vs[j + i]? = xs[i]?) → ∀ i n kd, (i, n, kd) ∈ nsOf j nk → ∃ v, vs[i]? = some v ∧ NodeOk ρ φ vs n v ∧ HasKd kd v := by
  induction h with
  | nil => intro j _ i n kd h; cases h
  | @cons n0 kd0 v0 nk xs h1 h2 t ih =>
    intro j hj i n kd hm
    simp only [nsOf] at hm
    rcases List.mem_cons.1 hm with e | hm
    · cases e
      have := hj 0
      simp at this
      exact ⟨v0, this, h1, h2⟩
    · exact ih (j + 1) (fun i => by have := hj (i + 1); rw [show j + 1 + i = j + (i + 1) by omega, this]; simp) i n kd hm

inductive WinL (H : AHeap) (xs : List AV) (ls : List (Nat × Nat)) : List Win → Prop where
  | nil : WinL H xs ls []
  | cons {w : Win} {ws : List Win} (h : WinOk H xs ls w) (t : WinL H xs ls ws) : WinL H xs ls (w :: ws)
theorem WinL.mem {H : AHeap} {xs : List AV} {ls : List (Nat × Nat)} {ws : List Win} (h : WinL H xs ls ws) : ∀ w ∈ ws, WinOk H xs ls w := by
  induction h with
  | nil => intro w hw; cases hw
  | cons h _ ih =>
    intro w hw
    rcases List.mem_cons.1 hw with rfl | hw
    · exact h
    · exact ih w hw
inductive RuL (c : Cx) : List (RK × SV) → Prop where
  | nil : RuL c []
  | cons {k : RK} {v : SV} {ru : List (RK × SV)} (h : RuleOk c k v) (t : RuL c ru) : RuL c ((k, v) :: ru)
theorem RuL.mem {c : Cx} {ru : List (RK × SV)} (h : RuL c ru) : ∀ k v, (k, v) ∈ ru → RuleOk c k v := by
  induction h with
  | nil => intro k v hw; cases hw
  | cons h _ ih =>
    intro k v hw
    rcases List.mem_cons.1 hw with e | hw
    · cases e; exact h
    · exact ih k v hw

/-- Are the windows that may be written alone on their locations? -/
def sepOk : List Win → Prop
  | [] => True
  | w :: ws => (∀ v ∈ ws, w.wr = true ∨ v.wr = true → w.l ≠ v.l) ∧ sepOk ws
theorem sepOk_of : ∀ {ws : List Win}, sepOk ws → ∀ (i j : Nat) (a b : Win), ws[i]? = some a → ws[j]? = some b → a.wr = true → a.l = b.l → i = j
  | [], _, i, j, a, b, h, _, _, _ => by simp at h
  | w :: ws, hs, 0, 0, a, b, _, _, _, _ => rfl
  | w :: ws, hs, 0, j + 1, a, b, h1, h2, h3, h4 => by
    simp at h1 h2
    subst h1
    exact absurd h4 (hs.1 b (List.mem_of_getElem? h2) (.inl h3))
  | w :: ws, hs, i + 1, 0, a, b, h1, h2, h3, h4 => by
    simp at h1 h2
    subst h2
    exact absurd h4.symm (hs.1 a (List.mem_of_getElem? h1) (.inr h3))
  | w :: ws, hs, i + 1, j + 1, a, b, h1, h2, h3, h4 => by
    simp at h1 h2
    rw [sepOk_of hs.2 i j a b h1 h2 h3 h4]

theorem midN_in {P : Program} {φ : Nat → List AV → AV} {nk : List (Node × Kd)} {fs : List (Nat × Bool)} {xs : List AV} {ws : List Win} {H : AHeap} {fl : Nat} {ru : List (RK × SV)} (hk : NkL (atomsOf xs) φ xs nk xs) (hfs : FaL xs fs) (env : List (Nat × SV)) (hw : WinL H xs (winLs ws) ws)
    (hs : sepOk ws) (hr : RuL (midCx P φ xs ws H fl ru) ru) : In (midCx P φ xs ws H fl ru) (midN nk fs env ws) xs (winLs ws) H := by
  refine ⟨⟨hk.len, hk.at 0 (fun i => by rw [Nat.zero_add]), hfs.mem, ?_, ?_, ?_, ?_⟩, LeL.refl _, LeL.refl _, Kept.refl _ _ _, ?_, hr.mem⟩
  · simp [midN, winLs]
  · intro i j l b b' cs hf h1 h2
    obtain ⟨w, w1, _, _, w4⟩ := winHeap_find hf
    simp only [winLs, List.getElem?_map, Option.map_eq_some_iff] at h1 h2
    obtain ⟨a1, a2, a3⟩ := h1
    obtain ⟨b1, b2, b3⟩ := h2
    rw [Nat.sub_zero, a2] at w1
    cases w1
    have e1 : w.l = l := congrArg Prod.fst a3
    have e2 : b1.l = l := congrArg Prod.fst b3
    exact sepOk_of hs i j _ _ a2 b2 w4 (by rw [e1, e2])
  · intro l b hl
    obtain ⟨w, hw1, hw2⟩ := List.mem_map.1 hl
    cases hw2
    obtain ⟨pre, ds, post, wr', h1, _⟩ := hw.mem w hw1
    exact H.lt_of_get h1
  · intro j cs wr hf
    obtain ⟨w, w1, _, rfl, rfl⟩ := winHeap_find hf
    rw [Nat.sub_zero] at w1
    obtain ⟨pre, ds, post, wr', h1, h2, h3, h4⟩ := hw.mem w (List.mem_of_getElem? w1)
    exact ⟨w.l, w.b, pre, ds, post, wr', by simp [winLs, w1], h1, h2, h3, h4⟩
  · intro j l b hj e
    have hj' : (winLs ws).length ≤ j := hj
    rw [List.getElem?_eq_none hj'] at e; cases e

theorem run_mn {P : Program} {φ : Nat → List AV → AV} {nk : List (Node × Kd)} {fs : List (Nat × Bool)} {xs : List AV} {ws : List Win} {H : AHeap} {E : Env} {pm : Pm} (d : Nat) {o : Pt} {Q : AExit → Env → AHeap → Prop} {env : List (Nat × SV)}
    (hin : In (midCx P φ xs ws H pm.fl pm.ru) (midN nk fs env ws) xs (winLs ws) H) (hE : EnvOk env xs (winLs ws) E) (htb : TbOk P pm.tb) (hap : ApOk P φ pm.ap)
    (h : ∀ p ∈ sxGo (sxCall pm d) pm o (midN nk fs env ws), ∀ vs ls H' E', Step (midCx P φ xs ws H pm.fl pm.ru) (midN nk fs env ws) xs (winLs ws) H p.2 vs ls H' → EnvOk p.2.env vs ls E' → Res P p.1 Q E' H') : Res P o Q E H := by
  obtain ⟨p, hp, vs', ls', H', E', g1, g2, g3⟩ := sxGo_ends (call_ok (c := midCx P φ xs ws H pm.fl pm.ru) (pm := pm) rfl rfl htb hap d) rfl rfl o hin hE
  exact g3 Q (h p hp vs' ls' H' E' g1 g2)

section
variable {xs : List AV} {ls : List (Nat × Nat)} {E : Env} {env : List (Nat × SV)}
theorem envNil : EnvOk [] xs ls E := fun t v h => by cases h
theorem envCons {t : Nat} {v : SV} (h : D xs ls v (E t)) (k : EnvOk env xs ls E) : EnvOk ((t, v) :: env) xs ls E := by
  intro u w e
  rw [findA_cons] at e
  split at e
  · rename_i hu; subst hu; cases e; exact h
  · exact k u w e
theorem envNd {t i : Nat} {kd : Kd} {a : AV} (h : E t = a) (hx : xs[i]? = some a) (hk : HasKd kd a) (k : EnvOk env xs ls E) : EnvOk ((t, .nd i kd) :: env) xs ls E :=
  envCons (by simp only [D]; rw [h]; exact ⟨hx, hk⟩) k
theorem envLit {t : Nat} {a : AV} (h : E t = a) (ho : litOk a = true) (k : EnvOk env xs ls E) : EnvOk ((t, .lit a) :: env) xs ls E :=
  envCons (by unfold D; rw [h]; exact ⟨rfl, ho⟩) k
theorem envPtr {t j off l o : Nat} {a : AV} (h : E t = a) (ha : a = .ptr l (o + off)) (hl : ls[j]? = some (l, o)) (k : EnvOk env xs ls E) : EnvOk ((t, .ptr j off) :: env) xs ls E :=
  envCons (by simp only [D]; rw [h]; exact ⟨l, o, hl, ha⟩) k
theorem dNd {i : Nat} {kd : Kd} {a : AV} (hx : xs[i]? = some a) (hk : HasKd kd a) : D xs ls (.nd i kd) a := by simp only [D]; exact ⟨hx, hk⟩
theorem dLit {a : AV} (ho : litOk a = true) : D xs ls (.lit a) a := by unfold D; exact ⟨rfl, ho⟩
theorem dPtr {j off l o : Nat} (hl : ls[j]? = some (l, o)) : D xs ls (.ptr j off) (.ptr l (o + off)) := by simp only [D]; exact ⟨l, o, hl, rfl⟩
theorem dlNil : DL xs ls [] [] := by simp only [DL]
theorem dlCons {v : SV} {a : AV} {ws : List SV} {as : List AV} (h : D xs ls v a) (t : DL xs ls ws as) : DL xs ls (v :: ws) (a :: as) := by simp only [DL]; exact ⟨a, as, rfl, h, t⟩
theorem dAgg {ws : List SV} {as : List AV} (t : DL xs ls ws as) : D xs ls (.agg ws) (.agg as) := by simp only [D]; exact ⟨as, rfl, t⟩
end

/-- Temporaries that keep their values. -/
def SlotsOk (E : Env) (sl : List (Nat × AV)) : Prop := ∀ t a, (t, a) ∈ sl → E t = a
theorem SlotsOk.nil {E : Env} : SlotsOk E [] := fun t a h => by cases h
theorem SlotsOk.cons {E : Env} {t : Nat} {a : AV} {sl : List (Nat × AV)} (h : E t = a) (k : SlotsOk E sl) : SlotsOk E ((t, a) :: sl) := fun u b hb => by
  rcases List.mem_cons.1 hb with e | hb
  · cases e; exact h
  · exact k u b hb
theorem SlotsOk.head {E : Env} {t : Nat} {a : AV} {sl : List (Nat × AV)} (h : SlotsOk E ((t, a) :: sl)) : E t = a := h t a (by simp)
theorem SlotsOk.tail {E : Env} {t : Nat} {a : AV} {sl : List (Nat × AV)} (h : SlotsOk E ((t, a) :: sl)) : SlotsOk E sl := fun u b hb => h u b (by simp [hb])

theorem slots_of {c : Cx} {s : St} {vs : List AV} {ls : List (Nat × Nat)} {H : AHeap} {E : Env} (h : In c s vs ls H) (hE : EnvOk s.env vs ls E) : ∀ {sl : List (Nat × AV)}, (sl.map fun p => (findA p.1 s.env).bind (dn c.ρ c.φ s.ns c.ls 100)) = sl.map (fun p => some p.2) → SlotsOk E sl
  | [], _ => .nil
  | (t, a) :: sl, e => by
    simp only [List.map_cons, List.cons.injEq] at e
    exact .cons (env_of h hE t e.1) (slots_of h hE e.2)

/-- A loop over the places 0 .. n-1: 'ti' counts; the other temporaries that live keep their values. -/
theorem res_scan {P : Program} {o : Pt} {Q : AExit → Env → AHeap → Prop} {E : Env} {H H0 : AHeap} (ho : o = .code (.loop (ptLoop o)) (ptFr o)) (sl : List (Nat × AV)) (ti n : Nat) (Inv : Nat → Prop)
    (hs : SlotsOk E sl) (hi : E ti = .int .i64 ((0 : Nat) : Int)) (hg : Grew H0 H) (h0 : Inv 0)
    (hb : ∀ i, i ≤ n → Inv i → ∀ E H, SlotsOk E sl → E ti = .int .i64 (i : Int) → Grew H0 H → Res P (.code (ptLoop o) []) (loopK (fun E' H' => i < n ∧ SlotsOk E' sl ∧ E' ti = .int .i64 ((i + 1 : Nat) : Int) ∧ Grew H0 H' ∧ Inv (i + 1)) (konts P (ptFr o) Q)) E H) : Res P o Q E H := by
  refine res_loop ho (fun m E H => ∃ i, m + i = n ∧ SlotsOk E sl ∧ E ti = .int .i64 (i : Int) ∧ Grew H0 H ∧ Inv i) n ⟨0, by omega, hs, hi, hg, h0⟩ ?_
  rintro m E H ⟨i, hm, h1, h2, h3, h4⟩
  have := hb i (by omega) h4 E H h1 h2 h3
  refine aexec_mono (fun e E' H' h => ?_) this
  cases e with
  | normal => obtain ⟨k0, k1, k2, k3, k4⟩ := h; exact ⟨m - 1, by omega, i + 1, by omega, k1, k2, k3, k4⟩
  | exit id => exact h
  | ret => exact h

theorem wrap64 {i : Nat} (h : i < 4611686018427387904) : IntKind.i64.wrap ((i : Int) + 1) = ((i + 1 : Nat) : Int) := by
  rw [wrap_i64 (by omega) (by omega)]; omega

/-! ### Slices that hold records -/
/-- The slice holds these records, each of 'sz' cells. -/
inductive SlL (H : AHeap) (sz : Nat) (ms : List (List AV)) : AV → Prop where
  | nil (h : ms = []) : SlL H sz ms .nilslice
  | sl {l n cap : Nat} {rest : List AV} {wr : Bool} (hg : H.get l = some (.row (ms.flatten ++ rest) wr)) (hn : ms.length = n) (hc : n ≤ cap) : SlL H sz ms (.slice l 0 n cap sz)
theorem SlL.grew {H H' : AHeap} (g : Grew H H') {sz : Nat} {ms : List (List AV)} {a : AV} (h : SlL H sz ms a) : SlL H' sz ms a := by
  cases h with
  | nil h => exact .nil h
  | sl hg hn hc => exact .sl (g.at hg) hn hc
def Recs (ks : List Kd) (ms : List (List AV)) : Prop := ∀ m ∈ ms, KdsL ks m
theorem Recs.get {ks : List Kd} {ms : List (List AV)} (h : Recs ks ms) {i : Nat} (hi : i < ms.length) : KdsL ks ms[i] := h _ (List.getElem_mem hi)
theorem flat_split {sz : Nat} : ∀ {ms : List (List AV)} {i : Nat} (_ : ∀ m ∈ ms, m.length = sz) (hi : i < ms.length) (rest : List AV), ∃ pre post, ms.flatten ++ rest = pre ++ (ms[i] ++ post) ∧ pre.length = i * sz
  | [], i, _, hi, _ => by simp at hi
  | m :: ms, 0, _, _, rest => ⟨[], ms.flatten ++ rest, by simp, by simp⟩
  | m :: ms, i + 1, h, hi, rest => by
    obtain ⟨pre, post, h1, h2⟩ := flat_split (ms := ms) (i := i) (fun x hx => h x (by simp [hx])) (by simpa using hi) rest
    refine ⟨m ++ pre, post, ?_, ?_⟩
    · simp only [List.flatten_cons, List.append_assoc, List.getElem_cons_succ]
      rw [h1]
    · rw [List.length_append, h m (by simp), h2, Nat.succ_mul]; omega
theorem Recs.len {ks : List Kd} {ms : List (List AV)} (h : Recs ks ms) : ∀ m ∈ ms, m.length = ks.length := fun m hm => (h m hm).len.symm
/-- The window on an element. -/
theorem win_elem {H : AHeap} {ks : List Kd} {ms : List (List AV)} (hr : Recs ks ms) {l i sz : Nat} {rest : List AV} {wr : Bool} (hg : H.get l = some (.row (ms.flatten ++ rest) wr)) (hi : i < ms.length) (hsz : ks.length = sz) {xs : List AV} {ls : List (Nat × Nat)} {svs : List SV} (hd : DL xs ls svs ms[i]) :
    WinOk H xs ls ⟨l, i * sz, svs, false⟩ := by
  subst hsz
  obtain ⟨pre, post, h1, h2⟩ := flat_split hr.len hi rest
  exact ⟨pre, ms[i], post, wr, by rw [hg, h1], h2, hd, fun h => by cases h⟩
theorem win_row {H : AHeap} {l : Nat} {cs : List AV} {wr : Bool} (hg : H.get l = some (.row cs wr)) {xs : List AV} {ls : List (Nat × Nat)} {svs : List SV} (hd : DL xs ls svs cs) : WinOk H xs ls ⟨l, 0, svs, false⟩ :=
  ⟨[], cs, [], wr, by simpa using hg, rfl, hd, fun h => by cases h⟩
theorem rule_len {c : Cx} {x v : SV} {l o n cap sz : Nat} (hx : D c.vs c.ls x (.slice l o n cap sz)) (hv : D c.vs c.ls v (.int .i64 (n : Int))) : RuleOk c (.len x) v := ⟨_, _, hx, hv, fun E get => rfl⟩
theorem rule_len0 {c : Cx} {x v : SV} (hx : D c.vs c.ls x .nilslice) (hv : D c.vs c.ls v (.int .i64 0)) : RuleOk c (.len x) v := ⟨_, _, hx, hv, fun E get => rfl⟩
theorem rule_ia {c : Cx} {x i : SV} {j l n cap sz k : Nat} (hx : D c.vs c.ls x (.slice l 0 n cap sz)) (hi : D c.vs c.ls i (.int .i64 (k : Int))) (hk : k < n) (hj : c.ls[j]? = some (l, k * sz)) : RuleOk c (.ia sz x i) (.ptr j 0) :=
  ⟨_, _, .ptr l (k * sz), hx, hi, by simp only [D]; exact ⟨l, k * sz, hj, by simp⟩, fun E get => by
    simp only [aval, Opd.ev]
    rw [if_pos ⟨trivial, by omega, by omega⟩, Int.toNat_natCast, Nat.zero_add]⟩
theorem rule_call {c : Cx} {f : FuncId} {xs : List SV} {args : List AV} {v : SV} {r : AV} (hx : DL c.vs c.ls xs args) (hv : D c.vs c.ls v r) (h : ∀ H, Kept c.fl c.ls c.H H → APure c.P f args H r) : RuleOk c (.call f xs) v := ⟨args, r, hx, hv, h⟩
theorem res_code {P : Program} {a : ACode} {fr : List Fr} {Q : AExit → Env → AHeap → Prop} {E : Env} {H : AHeap} (h : aexec P a (konts P fr Q) E H) : Res P (.code a fr) Q E H := h
theorem of_res_code {P : Program} {a : ACode} {fr : List Fr} {Q : AExit → Env → AHeap → Prop} {E : Env} {H : AHeap} (h : Res P (.code a fr) Q E H) : aexec P a (konts P fr Q) E H := h
theorem res_ops {P : Program} {ops : List AOper} {fr : List Fr} {Q : AExit → Env → AHeap → Prop} {E : Env} {H : AHeap} (h : arun P ops E H (konts P fr Q .normal)) : Res P (.ops ops fr) Q E H := h

def plainKs (ks : List Kd) : Bool := ks.all (fun k => !decide (k = .any) && !decide (k = .one))
theorem gAV_flat {gk : List (Bool × List Kd)} {gv : List (Bool × List AV)} (h : GK gk gv) (hk : gk.all (fun p => plainKs p.2) = true) : ∀ a ∈ gAV gv, a.flat = true := by
  have mem : ∀ {l : List AV}, flatL l = true → ∀ a ∈ l, a.flat = true := by
    intro l
    induction l with
    | nil => intro _ a ha; cases ha
    | cons b l ih =>
      intro h a ha
      simp only [flatL, Bool.and_eq_true] at h
      rcases List.mem_cons.1 ha with rfl | ha
      · exact h.1
      · exact ih h.2 a ha
  induction h with
  | nil => intro a ha; cases ha
  | @cons b ks cs gk gv h _ ih =>
    simp only [List.all_cons, Bool.and_eq_true] at hk
    have h1 := kdsL_flat h hk.1
    intro a ha
    cases b with
    | true =>
      simp only [gAV] at ha
      rcases List.mem_cons.1 ha with rfl | ha
      · simp only [AV.flat]; exact h1
      · exact ih hk.2 a ha
    | false =>
      simp only [gAV] at ha
      rcases List.mem_append.1 ha with ha | ha
      · exact mem h1 a ha
      · exact ih hk.2 a ha

/-- Two functions over plain arguments give the same. -/
theorem pair_flat {P : Program} {φ : Nat → List AV → AV} {pm : Pm} (d : Nat) {sh : ShT} {f g : FuncId} (hru : pm.ru = []) (hfl : pm.fl = 0) (htb : TbOk P pm.tb) (hap : ApOk P φ pm.ap) {gk : List (Bool × List Kd)} {gv : List (Bool × List AV)} (hg : GK gk gv) (hk : gk.all (fun p => plainKs p.2) = true)
    (hp : pairOk pm d sh f (gSV 0 gk) g (gSV 0 gk) (initSt (gKs gk) []) = true) : ∃ r, HasSh sh r ∧ r.flat = true ∧ ∀ H, APure P f (gAV gv) H r ∧ APure P g (gAV gv) H r := by
  have ha := hg.dl [] [] 0 rfl
  simp only [List.nil_append, List.append_nil] at ha
  have hin := init_in (P := P) (φ := φ) hg.kds [] (smallH [])
  obtain ⟨r, h1, h2, h3, h4⟩ := pair_run (c := ⟨P, atomsOf (gXs gv), φ, gXs gv, [], smallH [], 0, []⟩) d hru hfl htb hap hin ha ha hp
  exact ⟨r, h1, h2, fun H => ⟨h3.frame0 h2 (gAV_flat hg hk) H, h4.frame0 h2 (gAV_flat hg hk) H⟩⟩
theorem sh_bool {r : AV} (h : HasSh (.k .bool) r) : ∃ b, r = .bool b := by
  cases h with
  | k h => exact h

/-- One gets a record by value, the other by address. -/
theorem pair_ptr1 {P : Program} {φ : Nat → List AV → AV} {tb : List (Nat × AFun)} {ap : List (Nat × Nat × List Kd × Kd)} (d : Nat) {sh : ShT} {f g : FuncId} (htb : TbOk P tb) (hap : ApOk P φ ap) {ks : List Kd} {m : List AV} (hm : KdsL ks m) (hk : plainKs ks = true)
    (hp : pairOk ⟨1, [], tb, ap, 1000⟩ d sh f [.agg (nds 0 ks)] g [.ptr 0 0] (midSt ([] ++ [ks].flatten) [] (smallWs 0 0 [ks])) = true) :
    ∃ r, HasSh sh r ∧ r.flat = true ∧ (∀ H, APure P f [.agg m] H r) ∧ ∀ (H : AHeap) (l off : Nat) (pre post : List AV) (wr : Bool), H.get l = some (.row (pre ++ (m ++ post)) wr) → pre.length = off → APure P g [.ptr l off] H r := by
  have hin := small_in (P := P) (φ := φ) (kss := [ks]) (rows := [m]) (ks0 := []) (xs0 := []) (fun j k c h1 h2 => by
    match j, h1, h2 with
    | 0, h1, h2 => simp at h1 h2; subst h1; subst h2; exact hm
    | j + 1, h1, h2 => simp at h1) rfl .nil
  have hd : DL ([] ++ [m].flatten) (winLs (smallWs 0 0 [ks])) (nds 0 ks) m := by
    have := nds_of hm [] [] 0 rfl
    simp only [List.flatten_cons, List.flatten_nil]
    exact this.mono (LeL.refl _) (fun i x h => by simp at h)
  obtain ⟨r, h1, h2, h3, h4⟩ := pair_run (pm := ⟨1, [], tb, ap, 1000⟩) d rfl rfl htb hap hin (dlCons (dAgg hd) dlNil) (bs := [.ptr 0 0]) (dlCons (dPtr (l := 0) (o := 0) rfl) dlNil) hp
  have hf := kdsL_flat hm hk
  refine ⟨r, h1, h2, fun H => h3.frame0 h2 (fun a ha => ?_) H, fun H l off pre post wr hg hpl => h4.frame h2 (lies_one hf hg hpl) (.cons (.ptr rfl (by simp)) .nil)⟩
  simp at ha
  subst ha
  simp only [AV.flat]; exact hf

theorem res_start {P : Program} {f : FuncId} {n : Nat} {rs : List ARes} {body : ACode} (hf : cFun P f = some ⟨n, rs, body⟩) {args : List AV} {H : AHeap} {R : AV → AHeap → Prop} (hargs : args.length ≤ n) (h : Res P (.code body []) (endK rs H R) (Env.start args) H) : ACalls P f args H R :=
  acalls hf hargs h
/-- On to the loop's next round. -/
theorem res_next {P : Program} {o : Pt} (ho : o = .ex .normal) {sl : List (Nat × AV)} {ti n i : Nat} {Inv : Nat → Prop} {H0 : AHeap} {Q : AExit → Env → AHeap → Prop} {c : Cx} {s : St} {vs : List AV} {ls : List (Nat × Nat)} {E : Env} {H : AHeap} (h : In c s vs ls H) (hE : EnvOk s.env vs ls E)
    (hi : i < n) (hsl : (sl.map fun p => (findA p.1 s.env).bind (dn c.ρ c.φ s.ns c.ls 100)) = sl.map (fun p => some p.2)) {w : Int} (hti : (findA ti s.env).bind (dn c.ρ c.φ s.ns c.ls 100) = some (.int .i64 w)) (hw : w = ((i + 1 : Nat) : Int)) (hg : Grew H0 H) (hI : Inv (i + 1)) :
    Res P o (loopK (fun E' H' => i < n ∧ SlotsOk E' sl ∧ E' ti = .int .i64 ((i + 1 : Nat) : Int) ∧ Grew H0 H' ∧ Inv (i + 1)) Q) E H := by
  rw [ho]
  exact ⟨hi, slots_of h hE hsl, by rw [env_of h hE ti hti, hw], hg, hI⟩
/-- Out of the loop by an exit of its block, or by a return. -/
theorem res_out {P : Program} {o : Pt} {e : AExit} (ho : o = .ex e) (he : e ≠ .normal) {X : Env → AHeap → Prop} {Q : AExit → Env → AHeap → Prop} {E : Env} {H : AHeap} (h : Q e E H) : Res P o (loopK X Q) E H := by
  rw [ho]
  cases e with
  | normal => exact absurd rfl he
  | exit i => exact h
  | ret => exact h
theorem slOne {H : AHeap} {sz : Nat} {ms : List (List AV)} {S : AV} (h : SlL H sz ms S) : S.one = true := by cases h <;> rfl
theorem slLen {H : AHeap} {sz : Nat} {ms : List (List AV)} {S : AV} (h : SlL H sz ms S) : ∀ E get, aval E get (.len (.const S)) = some (.int .i64 (ms.length : Int)) := by
  cases h with
  | nil h => subst h; intro E get; rfl
  | sl _ hn _ => subst hn; intro E get; rfl

theorem konts_ret {P : Program} {Q : AExit → Env → AHeap → Prop} {E : Env} {H : AHeap} (h : Q .ret E H) : ∀ fr : List Fr, konts P fr Q .ret E H
  | [] => h
  | .seq b :: fr => konts_ret h fr
  | .block id :: fr => konts_ret h fr
  | .loop a :: fr => konts_ret h fr
theorem res_ret {P : Program} {o : Pt} (ho : o = .ex .ret) {fr : List Fr} {X : Env → AHeap → Prop} {Q : AExit → Env → AHeap → Prop} {E : Env} {H : AHeap} (h : Q .ret E H) : Res P o (loopK X (konts P fr Q)) E H := by
  rw [ho]; exact konts_ret h fr
theorem res_exit {P : Program} {o : Pt} {id : Nat} (ho : o = .ex (.exit id)) {fr : List Fr} {X : Env → AHeap → Prop} {Q : AExit → Env → AHeap → Prop} {E : Env} {H : AHeap} (h : Res P (.code (.exit id) fr) Q E H) : Res P o (loopK X (konts P fr Q)) E H := by
  rw [ho]; exact h

/-- A pointer to a row of the run's own. -/
theorem ptr_of {c : Cx} {s : St} {vs : List AV} {ls : List (Nat × Nat)} {H : AHeap} {E : Env} (h : In c s vs ls H) (hE : EnvOk s.env vs ls E) (t j : Nat) (he : findA t s.env = some (.ptr j 0)) {ds : List AV} (e : (findA j s.heap).bind (fun p => (dnL c.ρ c.φ s.ns c.ls 300 p.1).map fun x => (x, p.2)) = some (ds, true)) :
    ∃ l, E t = .ptr l 0 ∧ H.get l = some (.row ds true) ∧ (c.ls.length ≤ j → c.H.next ≤ l) := by
  rw [Option.bind_eq_some_iff] at e
  obtain ⟨p, h1, h2⟩ := e
  rw [Option.map_eq_some_iff] at h2
  obtain ⟨x, h2, h3⟩ := h2
  obtain ⟨rfl, h4⟩ := Prod.mk.inj h3
  obtain ⟨l, b, pre, es, post, wr', k1, k2, k3, k4, k5⟩ := h.ok.heap j p.1 p.2 (by rw [h1])
  obtain ⟨rfl, rfl, rfl⟩ := k5 h4
  have := dnL_of h h.lel 300 k4 h2
  subst this
  have hd := hE t _ he
  simp only [D] at hd
  obtain ⟨l', o', g1, g2⟩ := hd
  rw [k1] at g1
  cases g1
  refine ⟨l, by rw [g2, ← k3]; rfl, by simpa using k2, fun hj => h.new j l b hj k1⟩
end Go.Ab
namespace Go.Ab
/-! ### Stops -/
def ptRest : Pt → List AOper
  | .ops (_ :: rest) _ => rest
  | _ => []
theorem res_call {P : Program} {o : Pt} {d : Option Nat} {f : FuncId} {args : List Opd} (ho : o = .ops (⟨d, .call f args, none⟩ :: ptRest o) (ptFr o)) {Q : AExit → Env → AHeap → Prop} {E : Env} {H : AHeap} {R : AV → AHeap → Prop} (hc : ACalls P f (args.map (·.ev E)) H R)
    (h : ∀ r H', R r H' → Res P (.ops (ptRest o) (ptFr o)) Q (E.put d r) H') : Res P o Q E H := by
  rw [ho]
  exact ar_call hc h
theorem res_mk {P : Program} {o : Pt} {d : Option Nat} {sz bytes : Nat} {zs : List AV} {x y : Opd} (ho : o = .ops (⟨d, .mkSlice sz bytes zs x y, none⟩ :: ptRest o) (ptFr o)) {Q : AExit → Env → AHeap → Prop} {E : Env} {H : AHeap} {k1 k2 : IntKind} {n : Nat} (hx : x.ev E = .int k1 (n : Int)) (hy : y.ev E = .int k2 (n : Int)) (h3 : bytes * n ≤ 281474976710656) (h4 : n ≤ 9223372036854775807)
    (h : Res P (.ops (ptRest o) (ptFr o)) Q (E.put d (.slice H.next 0 n n sz)) (H.new (.row (List.replicate n zs).flatten true))) : Res P o Q E H := by
  rw [ho]
  exact ar_mkN hx hy (Nat.le_refl n) h3 h4 rfl h
theorem res_store {P : Program} {o : Pt} {d : Option Nat} {n : Nat} {x y : Opd} (ho : o = .ops (⟨d, .store n x y, none⟩ :: ptRest o) (ptFr o)) {Q : AExit → Env → AHeap → Prop} {E : Env} {H : AHeap} {l off : Nat} {cs vs : List AV} (hx : x.ev E = .ptr l off) (hg : H.get l = some (.row cs true)) (hy : (y.ev E).cells = some vs) (hn : vs.length = n) (hl : off + n ≤ cs.length) (h1 : vs.all AV.one = true)
    (h : Res P (.ops (ptRest o) (ptFr o)) Q (E.put d .undef) (H.put l (.row (laid cs off vs) true))) : Res P o Q E H := by
  rw [ho]
  exact ar_store hx hg hy hn hl h1 rfl h
theorem laid_flat {p m z : List AV} {i sz k : Nat} (hp : p.length = i * sz) (hm : m.length = sz) (hz : z.length = sz) : laid (p ++ (List.replicate (k + 1) z).flatten) (i * sz) m = (p ++ m) ++ (List.replicate k z).flatten := by
  unfold laid
  rw [← hp, List.take_left, hm, List.replicate_succ, List.flatten_cons]
  congr 1
  rw [List.drop_append, List.drop_eq_nil_of_le (by omega), List.nil_append, show p.length + sz - p.length = sz by omega, ← hz, List.drop_left]
theorem kdsL_one {ks : List Kd} {m : List AV} (h : KdsL ks m) (hk : ks.all (fun k => !decide (k = .any)) = true) : m.all AV.one = true := by
  induction h with
  | nil => rfl
  | @cons k a ks as h _ ih =>
    simp only [List.all_cons, Bool.and_eq_true] at hk ⊢
    refine ⟨?_, ih hk.2⟩
    exact one_of (vs := [a]) (ls := []) (x := .nd 0 k) (by simp only [D]; exact ⟨rfl, h⟩) (by simpa [oneS] using hk.1)
theorem take_flat_succ {ms : List (List AV)} {i : Nat} (hi : i < ms.length) : (ms.take (i + 1)).flatten = (ms.take i).flatten ++ ms[i] := by
  rw [List.take_succ_eq_append_getElem hi, List.flatten_append]; simp
theorem take_flat_len {sz : Nat} {ms : List (List AV)} (h : ∀ m ∈ ms, m.length = sz) {i : Nat} (hi : i ≤ ms.length) : (ms.take i).flatten.length = i * sz := by
  have : ∀ (l : List (List AV)), (∀ m ∈ l, m.length = sz) → l.flatten.length = l.length * sz := by
    intro l
    induction l with
    | nil => intro _; simp
    | cons m l ih => intro h; rw [List.flatten_cons, List.length_append, h m (by simp), ih fun x hx => h x (by simp [hx]), List.length_cons, Nat.succ_mul]; omega
  rw [this _ fun m hm => h m (List.mem_of_mem_take hm), List.length_take, Nat.min_eq_left hi]
theorem rule_ia' {c : Cx} {x i v : SV} {l n cap sz k : Nat} (hx : D c.vs c.ls x (.slice l 0 n cap sz)) (hi : D c.vs c.ls i (.int .i64 (k : Int))) (hk : k < n) (hv : D c.vs c.ls v (.ptr l (k * sz))) : RuleOk c (.ia sz x i) v :=
  ⟨_, _, .ptr l (k * sz), hx, hi, hv, fun E get => by
    simp only [aval, Opd.ev]
    rw [if_pos ⟨trivial, by omega, by omega⟩, Int.toNat_natCast, Nat.zero_add]⟩
end Go.Ab
namespace Go.Ab
theorem res_norm {P : Program} {o : Pt} (ho : o = .ex .normal) {X : Env → AHeap → Prop} {Q : AExit → Env → AHeap → Prop} {E : Env} {H : AHeap} (h : X E H) : Res P o (loopK X Q) E H := by
  rw [ho]; exact h
theorem end_same {c : Cx} {s : St} {vs : List AV} {ls : List (Nat × Nat)} {H : AHeap} {E : Env} (h : In c s vs ls H) (hE : EnvOk s.env vs ls E) {rs : List ARes} {a : AV} {H0 : AHeap} {R : AV → AHeap → Prop} {e : AExit} (he : e = .normal ∨ e = .ret) (hr : (sres rs s).bind (dn c.ρ c.φ s.ns c.ls 100) = some a) (hg : H0.next ≤ H.next) (hR : R a H) : endK rs H0 R e E H := by
  rcases he with rfl | rfl
  · exact ⟨a, res_of h hE hr, fin_same hg hR⟩
  · exact ⟨a, res_of h hE hr, fin_same hg hR⟩
end Go.Ab
namespace Go.Ab
/-- A call that gives just this, whatever the way; and turns nothing. -/
def litCall (pm : Pm) (d : Nat) (f : FuncId) (xs : List SV) (s : St) (a : AV) : Bool :=
  match sxCall pm d f xs s with
  | some ps => ps.all fun p => p.2.2 && p.1.beq (.lit a)
  | none => false
theorem lit_call {P : Program} {φ : Nat → List AV → AV} {pm : Pm} (d : Nat) {f : FuncId} (hru : pm.ru = []) (hfl : pm.fl = 0) (htb : TbOk P pm.tb) (hap : ApOk P φ pm.ap) {ks : List Kd} {ys : List AV} (hk : KdsL ks ys) {xs : List SV} {args : List AV} (hx : DL ys [] xs args) {a : AV}
    (hp : litCall pm d f xs (initSt ks []) a = true) (H : AHeap) : APure P f args H a := by
  have hin := init_in (P := P) (φ := φ) hk [] H
  have hc := call_ok (c := ⟨P, atomsOf ys, φ, ys, [], H, 0, []⟩) (pm := pm) hru hfl htb hap d
  unfold litCall at hp
  split at hp
  · rename_i ps hps
    obtain ⟨p, p1, vs1, ls1, H1, r, st, d1, _, _, d2⟩ := hc f xs _ _ _ H args ps hin hx hps
    have := List.all_eq_true.1 hp p p1
    simp only [Bool.and_eq_true] at this
    obtain ⟨_, h2⟩ := d2 this.1
    rw [SV.eq_of_beq this.2] at d1
    simp only [D] at d1
    rw [d1.1] at h2
    exact h2
  · cases hp
end Go.Ab
namespace Go.Ab
theorem Kept.grew_from {f : Nat} {ls : List (Nat × Nat)} {H H1 H2 : AHeap} (hg : Grew H H1) (hk : Kept f ls H1 H2) (hn : ∀ l b, (l, b) ∈ ls → H.next ≤ l) : Grew H H2 :=
  ⟨Nat.le_trans hg.next hk.1, fun l hl => by
    rw [hk.2 l (Nat.lt_of_lt_of_le hl hg.next) fun j b _ e => by have := hn l b (List.mem_of_getElem? e); omega]
    exact hg.get l hl⟩
/-- Rows of the run's own are apart. -/
theorem ptr_ne {c : Cx} {s : St} {vs : List AV} {ls : List (Nat × Nat)} {H : AHeap} {E : Env} (h : In c s vs ls H) (hE : EnvOk s.env vs ls E) (t j t' j' : Nat) (he : findA t s.env = some (.ptr j 0)) (he' : findA t' s.env = some (.ptr j' 0)) {cs : List SV} (hr : findA j s.heap = some (cs, true)) (hj : j ≠ j') {l l' : Nat} (h1 : E t = .ptr l 0) (h2 : E t' = .ptr l' 0) : l ≠ l' := by
  rintro rfl
  have d1 := hE t _ he
  have d2 := hE t' _ he'
  simp only [D] at d1 d2
  obtain ⟨a, o, g1, g2⟩ := d1
  obtain ⟨a', o', g3, g4⟩ := d2
  rw [h1] at g2
  rw [h2] at g4
  have e1 : a = l := by cases g2; rfl
  have e2 : a' = l := by cases g4; rfl
  subst e1
  subst e2
  exact hj (h.ok.sep j j' _ _ _ cs hr g1 g3)
theorem win_own {H : AHeap} {l : Nat} {cs : List AV} (hg : H.get l = some (.row cs true)) {xs : List AV} {ls : List (Nat × Nat)} {svs : List SV} (hd : DL xs ls svs cs) : WinOk H xs ls ⟨l, 0, svs, true⟩ :=
  ⟨[], cs, [], true, by simpa using hg, rfl, hd, fun _ => ⟨rfl, rfl, rfl⟩⟩
end Go.Ab
namespace Go.Ab
def kQs : Pt → List AOper
  | .kids (.cons _ _ (.node qs _) _) _ => qs
  | _ => []
def kKids : Pt → AKids
  | .kids (.cons _ _ (.node _ ks) _) _ => ks
  | _ => .nil
theorem res_kid {P : Program} {o : Pt} {free : Bool} {d : Option Nat} {f : FuncId} {args : List Opd} (ho : o = .kids (.cons free ⟨d, .call f args, none⟩ (.node (kQs o) (kKids o)) .nil) (ptFr o)) {Q : AExit → Env → AHeap → Prop} {E : Env} {H : AHeap} {R : AV → AHeap → Prop} (hc : ACalls P f (args.map (·.ev E)) H R)
    (h : ∀ r H', R r H' → Grew H H' ∧ Res P (.mixq (kQs o) (kKids o) (ptFr o)) Q (E.put d r) H') : Res P o Q E H := by
  rw [ho]
  refine mk_one (ar_call hc fun r H' hr => ?_)
  obtain ⟨h1, h2⟩ := h r H' hr
  refine ar_nil ⟨.inr h1, ?_⟩
  simp only [amix]
  exact h2
/-- All ways end with this. -/
def allLit (rs : List ARes) (a : AV) (n : Nat) (outs : List (Pt × St)) : Bool := outs.all fun p => (match p.1 with
  | .ex .normal => true
  | .ex .ret => true
  | _ => false) && ((match sres rs p.2 with
  | some v => v.beq (.lit a)
  | none => false) && Nat.ble n p.2.wm)
theorem run_lit {P : Program} {φ : Nat → List AV → AV} {nk : List (Node × Kd)} {fs : List (Nat × Bool)} {xs : List AV} {ws : List Win} {H H0 : AHeap} {E : Env} {pm : Pm} (d : Nat) {o : Pt} {rs : List ARes} {R : AV → AHeap → Prop} {a : AV} {env : List (Nat × SV)}
    (hin : In (midCx P φ xs ws H pm.fl pm.ru) (midN nk fs env ws) xs (winLs ws) H) (hE : EnvOk env xs (winLs ws) E) (htb : TbOk P pm.tb) (hap : ApOk P φ pm.ap) (hg : Grew H0 H) (hf : a.flat = true) (hR : R a H0)
    (h : allLit rs a ws.length (sxGo (sxCall pm d) pm o (midN nk fs env ws)) = true) : Res P o (endK rs H0 R) E H := by
  refine run_mn d hin hE htb hap fun p hp vs ls H' E' st hE' => ?_
  have := List.all_eq_true.1 h p hp
  simp only [Bool.and_eq_true] at this
  obtain ⟨h1, h2, h3⟩ := this
  have hgr : Grew H0 H' := hg.trans (st.kept.grew (by simpa [winLs] using Nat.le_of_ble_eq_true h3))
  have hres : aresults rs E' H' = some a := by
    split at h2
    · rename_i v hv
      obtain ⟨b, b1, b2⟩ := sres_of st.inn hE' hv
      rw [SV.eq_of_beq h2] at b2
      simp only [D] at b2
      rw [b1, b2.1]
    · cases h2
  split at h1
  · rename_i e; rw [e]; exact ⟨a, hres, fin_flat hgr hf hR⟩
  · rename_i e; rw [e]; exact ⟨a, hres, fin_flat hgr hf hR⟩
  · cases h1
end Go.Ab
