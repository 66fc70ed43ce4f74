/- Two functions that give the same; what a small heap tells of a great one. -/
import Derived.Test.YtgjhjemmddojfaaSx9
set_option linter.unusedVariables false
set_option linter.unusedSimpArgs false
namespace Go.Ab

theorem Sim.keep {F : Nat → Prop} {μ : Mu} {H : AHeap} {w w' : World} (hs : Sim F μ H w) (hk : Keeps (fun b => w.heap.size ≤ b) w w') : Sim F μ H w' := by
  have same : ∀ b, b < w.heap.size → w'.heap[b]? = w.heap[b]? := fun b hb => hk.block b hb (by omega)
  refine ⟨fun l li h => ⟨(hs.dom l li h).1, Nat.lt_of_lt_of_le (hs.dom l li h).2 hk.size⟩, ?_, ?_, hs.sep, hs.may, fun b hb => hs.fresh b (Nat.le_trans hk.size hb)⟩
  · intro l li cs wr hg hm
    obtain ⟨c, e, lo, hi, h1, h2⟩ := hs.row l li cs wr hg hm
    exact ⟨c, e, lo, hi, by rw [same _ (hs.dom l li hm).2]; exact h1, h2⟩
  · intro l li es hg hm
    obtain ⟨ms, ck, h1, h2⟩ := hs.mp l li es hg hm
    exact ⟨ms, ck, by rw [same _ (hs.dom l li hm).2]; exact h1, h2⟩

/-- A heap of rows that are only read. -/
def smallH (rows : List (List AV)) : AHeap := ⟨rows.length, fun l => (rows[l]?).map fun cs => .row cs false, fun l h => by rw [List.getElem?_eq_none h]; rfl⟩

/-- Where the small heap's rows lie in the great one. -/
def Lies (H : AHeap) (rows : List (List AV)) (locs : List (Nat × Nat)) : Prop := ∀ (j : Nat) (cs : List AV) (l off : Nat), rows[j]? = some cs → locs[j]? = some (l, off) → flatL cs = true ∧ ∃ pre post wr, H.get l = some (.row (pre ++ (cs ++ post)) wr) ∧ pre.length = off

inductive ARel (n : Nat) (locs : List (Nat × Nat)) : AV → AV → Prop where
  | flat {a : AV} (h : a.flat = true) : ARel n locs a a
  | ptr {j l off : Nat} (h : locs[j]? = some (l, off)) (hn : j < n) : ARel n locs (.ptr j 0) (.ptr l off)
inductive ARelL (n : Nat) (locs : List (Nat × Nat)) : List AV → List AV → Prop where
  | nil : ARelL n locs [] []
  | cons {a b : AV} {as bs : List AV} (h : ARel n locs a b) (t : ARelL n locs as bs) : ARelL n locs (a :: as) (b :: bs)

theorem R.of_flat {μ μ' : Mu} {a : AV} {v : Value} (hf : a.flat = true) (h : R μ a v) : R μ' a v := h.agree (p := fun _ => False) (fun l li hl _ => hl.elim) (on_of_flat hf)

theorem APure.frame {P : Program} {f : FuncId} {rows : List (List AV)} {args args' : List AV} {r : AV} (h : APure P f args (smallH rows) r) (hr : r.flat = true) {H : AHeap} {locs : List (Nat × Nat)} (hl : Lies H rows locs) (ha : ARelL rows.length locs args args') : APure P f args' H r := by
  intro F μ w vs hs hv
  let μ1 : Mu := fun j => match rows[j]?, locs[j]? with
    | some cs, some (l, off) => (μ l).map fun li => ⟨li.blk, li.base + off, cs.length⟩
    | _, _ => none
  have at1 : ∀ j li1, μ1 j = some li1 → ∃ cs l off li, rows[j]? = some cs ∧ locs[j]? = some (l, off) ∧ μ l = some li ∧ li1 = ⟨li.blk, li.base + off, cs.length⟩ := by
    intro j li1 hj
    simp only [μ1] at hj
    split at hj
    · rename_i cs l off h1 h2
      rw [Option.map_eq_some_iff] at hj
      obtain ⟨li, h3, rfl⟩ := hj
      exact ⟨cs, l, off, li, h1, h2, h3, rfl⟩
    · cases hj
  have hs1 : Sim (fun b => w.heap.size ≤ b) μ1 (smallH rows) w := by
    refine ⟨?_, ?_, ?_, ?_, ?_, fun b hb => hb⟩
    · intro j li1 hj
      obtain ⟨cs, l, off, li, h1, _, h3, rfl⟩ := at1 j li1 hj
      refine ⟨?_, (hs.dom l li h3).2⟩
      rcases Nat.lt_or_ge j rows.length with h' | h'
      · exact h'
      · rw [List.getElem?_eq_none h'] at h1; cases h1
    · intro j li1 cs' wr hg hj
      obtain ⟨cs, l, off, li, h1, h2, h3, rfl⟩ := at1 j li1 hj
      simp only [smallH, h1, Option.map_some, Option.some.injEq, HB.row.injEq] at hg
      obtain ⟨rfl, rfl⟩ := hg
      obtain ⟨hfl, pre, post, wr', g1, g2⟩ := hl j cs l off h1 h2
      obtain ⟨c, e, lo, hi, k1, k2, k3, k4, k5⟩ := hs.row l li _ _ g1 h3
      simp only [List.length_append] at k3
      refine ⟨c, e, lo, hi, k1, by simp only; omega, Nat.le_refl _, ?_, fun hw => by cases hw⟩
      intro i a hi'
      have hil : i < cs.length := by
        rcases Nat.lt_or_ge i cs.length with h' | h'
        · exact h'
        · rw [List.getElem?_eq_none h'] at hi'; cases hi'
      obtain ⟨u, u1, u2⟩ := k4 (off + i) a (by rw [List.getElem?_append_right (by omega), List.getElem?_append_left (by omega), show off + i - pre.length = i by omega]; exact hi')
      refine ⟨u, by simp only; rw [Nat.add_assoc]; exact u1, R.of_flat ?_ u2⟩
      have : ∀ {l : List AV}, flatL l = true → ∀ a ∈ l, a.flat = true := by
        intro l
        induction l with
        | nil => intro _ a ha; cases ha
        | cons b l ih =>
          intro h a ha
          simp only [flatL, Bool.and_eq_true] at h
          rcases List.mem_cons.1 ha with rfl | ha
          · exact h.1
          · exact ih h.2 a ha
      exact this hfl a (List.mem_of_getElem? hi')
    · intro j li1 es hg hj
      obtain ⟨cs, l, off, li, h1, _⟩ := at1 j li1 hj
      simp [smallH, h1] at hg
    · intro j j' b b' li li' _ hg hw
      simp only [smallH, Option.map_eq_some_iff] at hg
      obtain ⟨cs, _, rfl⟩ := hg
      cases hw
    · intro j b li hg hw
      simp only [smallH, Option.map_eq_some_iff] at hg
      obtain ⟨cs, _, rfl⟩ := hg
      cases hw
  have hv1 : RL μ1 args vs := by
    have key : ∀ {as bs : List AV} {us : List Value}, ARelL rows.length locs as bs → RL μ bs us → RL μ1 as us := by
      intro as bs us hab
      induction hab generalizing us with
      | nil => intro h; rw [h.nil_inv]; exact RL.nil
      | @cons a b as bs h1 _ ih =>
        intro h
        obtain ⟨u, us', rfl, h2, h3⟩ := h.cons_inv
        refine RL.cons ?_ (ih h3)
        cases h1 with
        | flat hf => exact h2.of_flat hf
        | @ptr j l off hj hjl =>
          cases h2 with
          | @ptr _ _ li a hm ha =>
            subst ha
            refine .ptr (li := ⟨li.blk, li.base + off, (rows[j]).length⟩) ?_ (by simp)
            simp only [μ1, List.getElem?_eq_getElem hjl, hj, hm, Option.map_some]
    exact key ha hv
  refine (h _ μ1 w vs hs1 hv1).mono ?_
  rintro v w' ⟨μ', r', H', ⟨rfl, rfl⟩, _, _, _, h4, h5⟩
  exact ⟨μ, r', H, ⟨rfl, rfl⟩, Nat.le_refl _, Mu.ext_refl _ _, hs.keep h5, h4.of_flat hr, h5.mono hs.fresh⟩

theorem lies_nil {H : AHeap} {rows : List (List AV)} : Lies H rows [] := fun j cs l off _ h => by simp at h
theorem lies_one {H : AHeap} {m : List AV} {l off : Nat} {pre post : List AV} {wr : Bool} (hf : flatL m = true) (hg : H.get l = some (.row (pre ++ (m ++ post)) wr)) (hp : pre.length = off) : Lies H [m] [(l, off)] := by
  intro j cs l' off' h1 h2
  match j, h1, h2 with
  | 0, h1, h2 =>
    simp at h1 h2
    obtain ⟨rfl, rfl⟩ := h2
    subst h1
    exact ⟨hf, pre, post, wr, hg, hp⟩
  | j + 1, h1, h2 => simp at h1
theorem lies_two {H : AHeap} {m m' : List AV} {l off l' off' : Nat} {pre post pre' post' : List AV} {wr wr' : Bool} (hf : flatL m = true) (hg : H.get l = some (.row (pre ++ (m ++ post)) wr)) (hp : pre.length = off)
    (hf' : flatL m' = true) (hg' : H.get l' = some (.row (pre' ++ (m' ++ post')) wr')) (hp' : pre'.length = off') : Lies H [m, m'] [(l, off), (l', off')] := by
  intro j cs l2 off2 h1 h2
  match j, h1, h2 with
  | 0, h1, h2 =>
    simp at h1 h2
    obtain ⟨rfl, rfl⟩ := h2
    subst h1
    exact ⟨hf, pre, post, wr, hg, hp⟩
  | 1, h1, h2 =>
    simp at h1 h2
    obtain ⟨rfl, rfl⟩ := h2
    subst h1
    exact ⟨hf', pre', post', wr', hg', hp'⟩
  | j + 2, h1, h2 => simp at h1
theorem APure.frame0 {P : Program} {f : FuncId} {rows : List (List AV)} {args : List AV} {r : AV} (h : APure P f args (smallH rows) r) (hr : r.flat = true) (ha : ∀ a ∈ args, a.flat = true) (H : AHeap) : APure P f args H r := by
  refine h.frame hr lies_nil ?_
  induction args with
  | nil => exact .nil
  | cons a as ih => exact .cons (.flat (ha a (by simp))) (by
      have : ∀ (as : List AV), (∀ a ∈ as, a.flat = true) → ARelL rows.length [] as as := by
        intro as
        induction as with
        | nil => intro _; exact .nil
        | cons b bs ih => intro h; exact .cons (.flat (h b (by simp))) (ih fun x hx => h x (by simp [hx]))
      exact this as fun x hx => ha x (by simp [hx]))

theorem kdsL_flat {ks : List Kd} {m : List AV} (h : KdsL ks m) (hk : ks.all (fun k => !decide (k = .any) && !decide (k = .one)) = true) : flatL m = true := by
  induction h with
  | nil => rfl
  | @cons k a ks as h _ ih =>
    simp only [List.all_cons, Bool.and_eq_true] at hk
    simp only [flatL, Bool.and_eq_true]
    refine ⟨?_, ih (by simpa using hk.2)⟩
    have := D.flat (vs := [a]) (ls := []) (ls' := []) (x := .nd 0 k) (a := a) (by simp only [SV.flat]; simpa using hk.1) (by simp only [D]; exact ⟨rfl, h⟩)
    exact this.2

/-- Shapes of results. -/
inductive ShT where
  | k (kd : Kd)
  | agg (ks : List Kd)
  | tup (ss : List ShT)
inductive HasSh : ShT → AV → Prop where
  | k {kd : Kd} {a : AV} (h : HasKd kd a) : HasSh (.k kd) a
  | agg {ks : List Kd} {as : List AV} (h : KdsL ks as) : HasSh (.agg ks) (.agg as)
  | tup0 : HasSh (.tup []) (.tuple [])
  | tup {s : ShT} {ss : List ShT} {a : AV} {as : List AV} (h : HasSh s a) (t : HasSh (.tup ss) (.tuple as)) : HasSh (.tup (s :: ss)) (.tuple (a :: as))
mutual
def shOk : SV → ShT → Bool
  | .agg cs, .agg ks => kdsOk cs ks
  | .tup cs, .tup ss => shOkL cs ss
  | v, .k kd => match kdOf v with
    | some k => kdLe k kd
    | none => false
  | _, _ => false
def shOkL : List SV → List ShT → Bool
  | [], [] => true
  | v :: vs, s :: ss => shOk v s && shOkL vs ss
  | _, _ => false
end
mutual
theorem shOk_of {vs : List AV} {ls : List (Nat × Nat)} : ∀ {v : SV} {s : ShT} {a : AV}, D vs ls v a → shOk v s = true → HasSh s a
  | v, .k kd, a, hd, h => by
    have : ∃ k, kdOf v = some k ∧ kdLe k kd = true := by
      cases v <;> simp only [shOk] at h <;> (split at h <;> first | exact ⟨_, by assumption, h⟩ | cases h)
    obtain ⟨k, h1, h2⟩ := this
    exact .k (kdLe_of h2 (kd_of hd h1).1)
  | .agg cs, .agg ks, a, hd, h => by
    simp only [shOk] at h
    simp only [D] at hd
    obtain ⟨bs, rfl, hd⟩ := hd
    exact .agg (kdsOk_of hd h).1
  | .tup cs, .tup ss, a, hd, h => by
    simp only [shOk] at h
    simp only [D] at hd
    obtain ⟨bs, rfl, hd⟩ := hd
    exact shOkL_of hd h
  | .lit _, .agg _, _, _, h | .nd _ _, .agg _, _, _, h | .tup _, .agg _, _, _, h | .ptr _ _, .agg _, _, _, h | .sl .., .agg _, _, _, h | .fn .., .agg _, _, _, h | .ifc .., .agg _, _, _, h => by simp [shOk] at h
  | .lit _, .tup _, _, _, h | .nd _ _, .tup _, _, _, h | .agg _, .tup _, _, _, h | .ptr _ _, .tup _, _, _, h | .sl .., .tup _, _, _, h | .fn .., .tup _, _, _, h | .ifc .., .tup _, _, _, h => by simp [shOk] at h
theorem shOkL_of {vs : List AV} {ls : List (Nat × Nat)} : ∀ {v : List SV} {s : List ShT} {a : List AV}, DL vs ls v a → shOkL v s = true → HasSh (.tup s) (.tuple a)
  | [], [], a, hd, _ => by simp only [DL] at hd; subst hd; exact .tup0
  | v :: vs, s :: ss, a, hd, h => by
    simp only [shOkL, Bool.and_eq_true] at h
    simp only [DL] at hd
    obtain ⟨b, bs, rfl, h1, h2⟩ := hd
    exact .tup (shOk_of h1 h.1) (shOkL_of h2 h.2)
  | [], _ :: _, _, _, h | _ :: _, [], _, _, h => by simp [shOkL] at h
end

/-- Both give the same, whatever the way; and turn nothing. -/
def pairOk (pm : Pm) (d : Nat) (sh : ShT) (f : FuncId) (xs : List SV) (g : FuncId) (ys : List SV) (s : St) : Bool :=
  match sxCall pm d f xs s with
  | some ps => ps.all fun p => p.2.2 && p.1.flat && shOk p.1 sh && (match sxCall pm d g ys p.2.1 with
    | some qs => qs.all fun q => q.2.2 && p.1.beq q.1
    | none => false)
  | none => false

theorem pair_run {c : Cx} {pm : Pm} {s : St} {vs : List AV} {ls : List (Nat × Nat)} {H : AHeap} (d : Nat) {sh : ShT} {f g : FuncId} {xs ys : List SV} {as bs : List AV} (hru : pm.ru = c.ru) (hfl : pm.fl = c.fl) (htb : TbOk c.P pm.tb) (hap : ApOk c.P c.φ pm.ap)
    (h : In c s vs ls H) (hx : DL vs ls xs as) (hy : DL vs ls ys bs) (hp : pairOk pm d sh f xs g ys s = true) : ∃ r, HasSh sh r ∧ r.flat = true ∧ APure c.P f as H r ∧ APure c.P g bs H r := by
  have hc := call_ok (c := c) hru hfl htb hap d
  unfold pairOk at hp
  split at hp
  · rename_i ps hps
    obtain ⟨p, p1, vs1, ls1, H1, r, st, d1, _, _, d2⟩ := hc f xs s vs ls H as ps h hx hps
    have := List.all_eq_true.1 hp p p1
    simp only [Bool.and_eq_true] at this
    obtain ⟨⟨⟨h1, h2⟩, h3⟩, h4⟩ := this
    obtain ⟨rfl, hf⟩ := d2 h1
    split at h4
    · rename_i qs hqs
      obtain ⟨q, q1, vs2, ls2, H2, r2, st2, e1, _, _, e2⟩ := hc g ys p.2.1 vs1 ls1 H1 bs qs st.inn (hy.mono st.lev st.lel) hqs
      have := List.all_eq_true.1 h4 q q1
      simp only [Bool.and_eq_true] at this
      obtain ⟨h5, h6⟩ := this
      obtain ⟨rfl, hg⟩ := e2 h5
      have e3 : p.1 = q.1 := SV.eq_of_beq h6
      have : r = r2 := by
        have := d1.mono st2.lev st2.lel
        rw [e3] at this
        exact this.det e1
      subst this
      exact ⟨r, shOk_of d1 h3, (D.flat (ls' := ls1) h2 d1).2, hf, hg⟩
    · cases h4
  · cases hp

/-- Windows of the small heap: consecutive nodes. -/
def smallWs : Nat → Nat → List (List Kd) → List Win
  | _, _, [] => []
  | j, i, ks :: rest => ⟨j, 0, nds i ks, false⟩ :: smallWs (j + 1) (i + ks.length) rest

theorem small_in {P : Program} {φ : Nat → List AV → AV} {kss : List (List Kd)} {rows : List (List AV)} {ks0 : List Kd} {xs0 : List AV} (hr : ∀ (j : Nat) (ks : List Kd) (cs : List AV), kss[j]? = some ks → rows[j]? = some cs → KdsL ks cs) (hlen : kss.length = rows.length) (h0 : KdsL ks0 xs0) :
    In (midCx P φ (xs0 ++ rows.flatten) (smallWs 0 ks0.length kss) (smallH rows) rows.length []) (midSt (ks0 ++ kss.flatten) [] (smallWs 0 ks0.length kss)) (xs0 ++ rows.flatten) (winLs (smallWs 0 ks0.length kss)) (smallH rows) := by
  have hkl : ∀ {kss : List (List Kd)} {rows : List (List AV)}, kss.length = rows.length → (∀ (j : Nat) (ks : List Kd) (cs : List AV), kss[j]? = some ks → rows[j]? = some cs → KdsL ks cs) → KdsL kss.flatten rows.flatten := by
    intro kss
    induction kss with
    | nil => intro rows h _; cases rows with
      | nil => exact .nil
      | cons => simp at h
    | cons k kss ih => intro rows h hr; cases rows with
      | nil => simp at h
      | cons c rows =>
        rw [List.flatten_cons, List.flatten_cons]
        exact (hr 0 k c rfl rfl).append (ih (by simpa using h) fun j ks cs x y => hr (j + 1) ks cs (by simpa using x) (by simpa using y))
  have hw : ∀ (kss : List (List Kd)) (rs : List (List AV)) (j i : Nat) (pre : List AV), kss.length = rs.length → (∀ (j : Nat) (ks : List Kd) (cs : List AV), kss[j]? = some ks → rs[j]? = some cs → KdsL ks cs) → pre.length = i → (∀ k : Nat, rows[j + k]? = rs[k]?) →
      ∀ w ∈ smallWs j i kss, ∃ k, w.l = j + k ∧ w.b = 0 ∧ w.wr = false ∧ ∃ cs, rows[w.l]? = some cs ∧ DL (pre ++ rs.flatten) [] w.cs cs := by
    intro kss
    induction kss with
    | nil => intro rs j i pre _ _ _ _ w hw; cases hw
    | cons k kss ih =>
      intro rs j i pre h hr hp hrow w hw
      cases rs with
      | nil => simp at h
      | cons c rs =>
        have hkc := hr 0 k c rfl rfl
        simp only [smallWs] at hw
        rcases List.mem_cons.1 hw with rfl | hw
        · refine ⟨0, rfl, rfl, rfl, c, ?_, ?_⟩
          · have := hrow 0; simpa using this
          · have := nds_of hkc pre rs.flatten i hp
            simpa using this
        · obtain ⟨k', e1, e2, e3, cs, e4, e5⟩ := ih rs (j + 1) (i + k.length) (pre ++ c) (by simpa using h) (fun j ks cs x y => hr (j + 1) ks cs (by simpa using x) (by simpa using y)) (by rw [List.length_append, hp, hkc.len]) (fun q => by have := hrow (q + 1); rw [show j + 1 + q = j + (q + 1) by omega, this]; simp) w hw
          exact ⟨k' + 1, by omega, e2, e3, cs, e4, by simpa using e5⟩
  have hall := hw kss rows 0 ks0.length xs0 hlen hr (by rw [h0.len]) (fun k => by rw [Nat.zero_add])
  refine mid_in (h0.append (hkl hlen hr)) [] ?_ ?_ (fun k v h => by cases h)
  · intro w hwm
    obtain ⟨k, e1, e2, e3, cs, e4, e5⟩ := hall w hwm
    refine ⟨[], cs, [], false, by simp [smallH, e4], e2.symm, e5.mono (LeL.refl _) (fun i x h => by simp at h), fun h => ?_⟩
    rw [e3] at h; cases h
  · intro i j a b ha _ hwr
    obtain ⟨k, _, _, e3, _⟩ := hall a (List.mem_of_getElem? ha)
    rw [e3] at hwr; cases hwr
end Go.Ab
