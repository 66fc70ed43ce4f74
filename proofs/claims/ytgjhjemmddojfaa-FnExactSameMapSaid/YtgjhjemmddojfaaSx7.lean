/- Symbolic execution: calls, and what a user of it needs. -/
import Derived.Test.YtgjhjemmddojfaaSx6
import Derived.Test.YtgjhjemmddojfaaAb17
set_option linter.unusedVariables false
set_option linter.unusedSimpArgs false
namespace Go.Ab

def TbOk (P : Program) (tb : List (Nat × AFun)) : Prop := ∀ f af, (f, af) ∈ tb → cFun P f = some af
theorem TbOk.nil {P : Program} : TbOk P [] := fun f af h => by cases h
theorem TbOk.cons {P : Program} {f : Nat} {af : AFun} {tb : List (Nat × AFun)} (h : cFun P f = some af) (t : TbOk P tb) : TbOk P ((f, af) :: tb) := fun g ag hg => by
  rcases List.mem_cons.1 hg with e | hg
  · cases e; exact h
  · exact t g ag hg

inductive KdsL : List Kd → List AV → Prop where
  | nil : KdsL [] []
  | cons {k : Kd} {a : AV} {ks : List Kd} {as : List AV} (h : HasKd k a) (t : KdsL ks as) : KdsL (k :: ks) (a :: as)

/-- A function whose result is a value of its arguments. -/
def ApOk (P : Program) (φ : Nat → List AV → AV) (ap : List (Nat × Nat × List Kd × Kd)) : Prop := ∀ f g ks kd, (f, g, ks, kd) ∈ ap →
  (g = 0 → ks = [.flt .f32] ∧ kd = .bits ∧ ∀ x H, fOk .f32 x → APure P f [.flt .f32 x] H (bits32 x)) ∧
  (g ≠ 0 → ∀ as H, KdsL ks as → APure P f as H (φ g as) ∧ HasKd kd (φ g as))
theorem ApOk.nil {P : Program} {φ : Nat → List AV → AV} : ApOk P φ [] := fun _ _ _ _ h => by cases h
theorem ApOk.bits {P : Program} {φ : Nat → List AV → AV} {f : Nat} {ap : List (Nat × Nat × List Kd × Kd)} (h : ∀ x H, fOk .f32 x → APure P f [.flt .f32 x] H (bits32 x)) (t : ApOk P φ ap) : ApOk P φ ((f, 0, [.flt .f32], .bits) :: ap) := fun f' g ks kd hm => by
  rcases List.mem_cons.1 hm with e | hm
  · cases e; exact ⟨fun _ => ⟨rfl, rfl, h⟩, fun hn => absurd rfl hn⟩
  · exact t f' g ks kd hm
theorem ApOk.app {P : Program} {φ : Nat → List AV → AV} {f g : Nat} {ks : List Kd} {kd : Kd} {ap : List (Nat × Nat × List Kd × Kd)} (h : ∀ as H, KdsL ks as → APure P f as H (φ (g + 1) as) ∧ HasKd kd (φ (g + 1) as)) (t : ApOk P φ ap) : ApOk P φ ((f, g + 1, ks, kd) :: ap) := fun f' g' ks' kd' hm => by
  rcases List.mem_cons.1 hm with e | hm
  · cases e; exact ⟨fun h => by omega, fun _ => h⟩
  · exact t f' g' ks' kd' hm

section
variable {c : Cx} {s : St} {vs : List AV} {ls : List (Nat × Nat)} {H : AHeap} {E : Env}

theorem kdLe_of {a b : Kd} {v : AV} (h : kdLe a b = true) (hv : HasKd a v) : HasKd b v := by
  simp only [kdLe, Bool.or_eq_true, Bool.and_eq_true, decide_eq_true_eq] at h
  rcases h with rfl | ⟨rfl, rfl⟩
  · exact hv
  · obtain ⟨x, h1, h2, _⟩ := hv; exact ⟨x, h1, h2⟩
theorem kdsOk_of : ∀ {xs : List SV} {as : List AV} {ks : List Kd}, DL vs ls xs as → kdsOk xs ks = true → KdsL ks as ∧ DL vs [] xs as
  | [], as, [], h, _ => by simp only [DL] at h ⊢; subst h; exact ⟨.nil, rfl⟩
  | x :: xs, as, k :: ks, h, e => by
    simp only [DL] at h ⊢
    obtain ⟨a, as', rfl, h1, h2⟩ := h
    simp only [kdsOk, Bool.and_eq_true] at e
    obtain ⟨e1, e2⟩ := e
    split at e1
    · rename_i k' hk
      obtain ⟨g1, g2⟩ := kd_of h1 hk
      obtain ⟨g3, g4⟩ := kdsOk_of h2 e2
      exact ⟨.cons (kdLe_of e1 g1) g3, a, as', rfl, g2, g4⟩
    · cases e1
  | [], _, _ :: _, _, e => by simp [kdsOk] at e
  | _ :: _, _, [], _, e => by simp [kdsOk] at e

theorem findP_of {f : Nat} {as : List SV} {g : Nat} {kd : Kd} : ∀ {ap : List (Nat × Nat × List Kd × Kd)}, findP f as ap = some (g, kd) → ∃ ks, (f, g, ks, kd) ∈ ap ∧ kdsOk as ks = true
  | [], h => by cases h
  | (f', g', ks, kd') :: rest, h => by
    unfold findP at h
    split at h
    · rename_i hb
      cases h
      rw [Bool.and_eq_true] at hb
      have := Nat.eq_of_beq_eq_true hb.1
      subst this
      exact ⟨ks, by simp, hb.2⟩
    · obtain ⟨ks', h1, h2⟩ := findP_of h
      exact ⟨ks', List.mem_cons_of_mem _ h1, h2⟩

theorem startEnv_of {as : List AV} : ∀ {xs : List SV} {bs : List AV} (t : Nat), DL vs ls xs bs → (∀ i, as.getD (t + i) .undef = bs.getD i .undef) → EnvOk (startEnv t xs) vs ls (Env.start as)
  | [], bs, t, h, _ => fun u v e => by cases e
  | x :: xs, bs, t, h, e => by
    simp only [DL] at h
    obtain ⟨b, bs', rfl, h1, h2⟩ := h
    intro u v hu
    simp only [startEnv] at hu
    rw [findA_cons] at hu
    split at hu
    · rename_i ht
      subst ht
      cases hu
      have := e 0
      simp at this
      show D vs ls x (as.getD u .undef)
      rw [List.getD_eq_getElem?_getD, this]; exact h1
    · exact startEnv_of (t + 1) h2 (fun i => by have := e (i + 1); rw [show t + 1 + i = t + (i + 1) by omega, this]; simp) u v hu

theorem sres1_of (h : In c s vs ls H) (hE : EnvOk s.env vs ls E) {r : ARes} {v : SV} (e : sres1 r s = some v) : ∃ a, r.val E H = some a ∧ D vs ls v a := by
  cases r with
  | tmp t => exact ⟨E t, rfl, hE t v e⟩
  | cell t ag n =>
    simp only [sres1] at e
    split at e
    · rename_i j off hf
      have d1 := hE _ _ hf
      simp only [D] at d1
      obtain ⟨l, bs0, hl, ha⟩ := d1
      split at e
      · rename_i cs wr hh
        obtain ⟨l', b', pre, ds, post, wr', k1, k2, k3, k4, _⟩ := h.ok.heap _ _ _ hh
        rw [hl] at k1
        cases k1
        obtain ⟨a, ha', hd⟩ := partS_of k4 e
        have hw := part_win (pre := pre) (post := post) ha'
        rw [k3] at hw
        exact ⟨a, by simp only [ARes.val, ha, k2]; exact hw, hd⟩
      · cases e
    · cases e
theorem sresL_of (h : In c s vs ls H) (hE : EnvOk s.env vs ls E) : ∀ {rs : List ARes} {ws : List SV}, sresL s rs = some ws → ∃ as, aresL E H rs = some as ∧ DL vs ls ws as
  | [], ws, e => by cases e; exact ⟨[], rfl, by simp only [DL]⟩
  | r :: rs, ws, e => by
    unfold sresL at e
    split at e
    · rename_i v us h1 h2
      cases e
      obtain ⟨a, g1, g2⟩ := sres1_of h hE h1
      obtain ⟨as, g3, g4⟩ := sresL_of h hE h2
      exact ⟨a :: as, by simp only [aresL, g1, g3], by simp only [DL]; exact ⟨a, as, rfl, g2, g4⟩⟩
    · cases e
theorem sres_of (h : In c s vs ls H) (hE : EnvOk s.env vs ls E) {rs : List ARes} {v : SV} (e : sres rs s = some v) : ∃ a, aresults rs E H = some a ∧ D vs ls v a := by
  unfold sres at e
  rw [Option.map_eq_some_iff] at e
  obtain ⟨ws, h1, rfl⟩ := e
  obtain ⟨as, g1, g2⟩ := sresL_of h hE h1
  have hs : D vs ls (stup ws) (tup as) := by
    match ws, as, g2 with
    | [], as, g2 => simp only [DL] at g2; subst g2; simp only [stup, tup, D, DL]; exact ⟨[], rfl, rfl⟩
    | [w], as, g2 =>
      simp only [DL] at g2; obtain ⟨b, bs, rfl, g3, rfl⟩ := g2; exact g3
    | w :: w' :: ws, as, g2 =>
      have g2' := g2
      simp only [DL] at g2; obtain ⟨b, bs, rfl, g3, b', bs', rfl, g4, g5⟩ := g2
      simp only [stup, tup, D]; exact ⟨_, rfl, g2'⟩
  exact ⟨tup as, ares_of g1, hs⟩

theorem finC_of {rs : List ARes} {p : Pt × St} : ∀ {outs : List (Pt × St)} {ps : List (SV × St × Bool)}, finC rs s outs = some ps → p ∈ outs → ∃ v e, p.1 = .ex e ∧ (e = .normal ∨ e = .ret) ∧ sres rs p.2 = some v ∧
    ((v.flat = true ∧ s.nl ≤ p.2.wm ∧ (v, { p.2 with env := s.env, heap := s.heap, nl := s.nl, wm := s.wm }, true) ∈ ps) ∨ (v, { p.2 with env := s.env, wm := Nat.min s.wm p.2.wm }, false) ∈ ps)
  | [], _, _, hp => by cases hp
  | q :: rest, ps, h, hp => by
    unfold finC at h
    split at h
    · rename_i v ps' hv hps
      have hx : ∃ e, q.1 = .ex e ∧ (e = .normal ∨ e = .ret) ∧ sres rs q.2 = some v := by
        split at hv
        · rename_i hq; exact ⟨.normal, hq, .inl rfl, hv⟩
        · rename_i hq; exact ⟨.ret, hq, .inr rfl, hv⟩
        · cases hv
      have tail : ∀ x, ps = x :: ps' → p ∈ rest → ∃ v e, p.1 = .ex e ∧ (e = .normal ∨ e = .ret) ∧ sres rs p.2 = some v ∧
          ((v.flat = true ∧ s.nl ≤ p.2.wm ∧ (v, { p.2 with env := s.env, heap := s.heap, nl := s.nl, wm := s.wm }, true) ∈ ps) ∨ (v, { p.2 with env := s.env, wm := Nat.min s.wm p.2.wm }, false) ∈ ps) := by
        rintro x rfl hm
        obtain ⟨v, e, h1, h2, h3, h4⟩ := finC_of hps hm
        exact ⟨v, e, h1, h2, h3, h4.imp (fun k => ⟨k.1, k.2.1, List.mem_cons_of_mem _ k.2.2⟩) (List.mem_cons_of_mem _)⟩
      obtain ⟨e, h1, h2, h3⟩ := hx
      split at h
      · rename_i hb
        rw [Bool.and_eq_true] at hb
        cases h
        rcases List.mem_cons.1 hp with rfl | hm
        · exact ⟨v, e, h1, h2, h3, .inl ⟨hb.1, Nat.le_of_ble_eq_true hb.2, by simp⟩⟩
        · exact tail _ rfl hm
      · cases h
        rcases List.mem_cons.1 hp with rfl | hm
        · exact ⟨v, e, h1, h2, h3, .inr (by simp)⟩
        · exact tail _ rfl hm
    · cases h

theorem fin_same {H Hc : AHeap} {r : AV} {Q : AV → AHeap → Prop} (hn : H.next ≤ Hc.next) (hQ : Q r Hc) : Fin H Hc r Q :=
  ⟨r, Hc, hQ, hn, fun _ μ _ _ hs hR _ => ⟨μ, Mu.ext_refl _ _, hs, hR⟩⟩

theorem APure.acalls {P : Program} {f : FuncId} {as : List AV} {r : AV} (h : APure P f as H r) {k : AV → AHeap → Prop} (hk : k r H) : ACalls P f as H k :=
  h.mono (by rintro r' H' ⟨rfl, rfl⟩; exact hk)

theorem call_ok {pm : Pm} (hru : pm.ru = c.ru) (hfl : pm.fl = c.fl) (htb : TbOk c.P pm.tb) (hap : ApOk c.P c.φ pm.ap) : ∀ d, CallOk c (sxCall pm d)
  | d => by
    have ih : ∀ d', d = d' + 1 → CallOk c (sxCall pm d') := fun d' e => by subst e; exact call_ok hru hfl htb hap d'
    intro f args s vs ls H as ps h ha he
    unfold sxCall at he
    split at he
    · rename_i v hv
      cases he
      rw [hru] at hv
      obtain ⟨as', r, q1, q2, q3⟩ := h.rules _ _ (findR_mem hv)
      have e := h.eqL q1 ha
      subst e
      refine ⟨_, List.mem_singleton.2 rfl, vs, ls, H, r, .refl h, q2.mono h.lev h.lel, rfl, fun k hk => (q3 H h.kept).acalls hk, fun _ => ⟨rfl, q3 H h.kept⟩⟩
    · split at he
      · -- bits
        rename_i kd hp
        obtain ⟨ks, hm, hks⟩ := findP_of hp
        obtain ⟨hz, _⟩ := hap _ _ _ _ hm
        obtain ⟨rfl, rfl, hx⟩ := hz rfl
        split at he
        · rename_i x hh
          cases he
          obtain ⟨g1, g2⟩ := kdsOk_of ha hks
          cases g1 with
          | cons g3 g4 =>
            cases g4
            obtain ⟨y, rfl, hy⟩ := g3
            simp only [DL] at g2
            obtain ⟨_, _, e, g2, rfl⟩ := g2
            cases e
            obtain ⟨vs', st, d1, d2⟩ := (mk_got h.ok (n := .bits x) (kd := .bits) (a := bits32 y) ⟨y, g2, rfl⟩ ⟨y, rfl, hy⟩).step h
            exact ⟨_, List.mem_singleton.2 rfl, vs', ls, H, _, st, d1, d2, fun k hk => (hx y H hy).acalls hk, fun _ => ⟨rfl, hx y H hy⟩⟩
        · cases he
      · rename_i g kd hp
        obtain ⟨ks, hm, hks⟩ := findP_of hp
        obtain ⟨_, hz⟩ := hap _ _ _ _ hm
        cases he
        obtain ⟨g1, g2⟩ := kdsOk_of ha hks
        obtain ⟨k1, k2⟩ := hz (by omega) as H g1
        obtain ⟨vs', st, d1, d2⟩ := (mk_got h.ok (n := .app (g + 1) args) (kd := kd) (a := c.φ (g + 1) as) ⟨as, g2, rfl⟩ k2).step h
        exact ⟨_, List.mem_singleton.2 rfl, vs', ls, H, _, st, d1, d2, fun k hk => k1.acalls hk, fun _ => ⟨rfl, k1⟩⟩
      · split at he
        · cases he
        · rename_i d'
          split at he
          · rename_i af haf
            split at he
            · rename_i hlen
              obtain ⟨n, rs, body⟩ := af
              have hf := htb _ _ (findA_mem haf)
              have h0 : In c { s with env := startEnv 0 args, wm := s.nl } vs ls H := h.env _ _
              have hE0 : EnvOk (startEnv 0 args) vs ls (Env.start as) := startEnv_of 0 ha (fun i => by rw [Nat.zero_add])
              obtain ⟨p, hp, vs1, ls1, H1, E1, g1, g2, g3⟩ := sxCode_ends (pm := { pm with un := 1000 }) (ih d' rfl) hru hfl body h0 hE0
              obtain ⟨v, e, k1, k2, k3, k4⟩ := finC_of he hp
              obtain ⟨r, r1, r2⟩ := sres_of g1.inn g2 k3
              have hal : as.length ≤ n := by rw [← ha.len]; exact hlen
              have hrun : ∀ R : AV → AHeap → Prop, Fin H H1 r R → ACalls c.P f as H R := by
                intro R hR
                refine acalls hf hal (g3 _ ?_)
                rw [k1]
                rcases k2 with rfl | rfl
                · exact ⟨r, r1, hR⟩
                · exact ⟨r, r1, hR⟩
              rcases k4 with ⟨k5, k6, k7⟩ | k7
              · have hg : Grew H H1 := g1.kept.grew (by rw [← h.ok.nl]; exact k6)
                obtain ⟨d1, d2⟩ := D.flat (ls' := ls) k5 r2
                have hpure : APure c.P f as H r := hrun _ (fin_flat hg d2 ⟨rfl, rfl⟩)
                refine ⟨_, k7, vs1, ls, H, r, ⟨⟨⟨g1.inn.ok.nn, g1.inn.ok.ns, g1.inn.ok.facts, h.ok.nl, h.ok.sep, h.ok.lt, ?_⟩, h.lev.trans g1.lev, h.lel, h.kept, h.new, h.rules⟩, g1.lev, LeL.refl _, Nat.le_refl _, Kept.refl _ _ _, fun j l b hj e => by rw [List.getElem?_eq_none hj] at e; cases e⟩, d1, rfl, fun k hk => hpure.acalls hk, fun _ => ⟨rfl, hpure⟩⟩
                intro j cs wr hj
                obtain ⟨l, b, pre, ds, post, wr', a1, a2, a3, a4, a5⟩ := h.ok.heap j cs wr hj
                exact ⟨l, b, pre, ds, post, wr', a1, a2, a3, a4.mono g1.lev (LeL.refl _), a5⟩
              · have st : Step c s vs ls H { p.2 with env := s.env, wm := Nat.min s.wm p.2.wm } vs1 ls1 H1 := by
                  refine ⟨g1.inn.env _ _, g1.lev, g1.lel, Nat.min_le_left _ _, ?_, g1.new⟩
                  exact ⟨g1.kept.1, fun l hl hj => g1.kept.2 l hl fun j b e => hj j b (Nat.le_trans (Nat.min_le_right _ _) e)⟩
                exact ⟨_, k7, vs1, ls1, H1, r, st, r2, rfl, fun k hk => hrun _ (fin_same g1.kept.1 hk), fun e => by cases e⟩
            · cases he
          · cases he

/-! ### From points on -/

theorem push_all {P : Program} {Q : AExit → Env → AHeap → Prop} : ∀ {fr : List Fr} {o : Pt}, (∀ e, o ≠ .ex e) → Res P (fr.foldl (fun o f => o.push f) o) Q E H = Res P o (konts P fr Q) E H
  | [], o, _ => rfl
  | f :: fr, o, ho => by
    simp only [List.foldl_cons]
    have hp : ∀ e, o.push f ≠ .ex e := by intro e; cases o <;> simp [Pt.push] <;> exact absurd rfl (ho _)
    rw [push_all hp, res_push ho]
    cases f <;> rfl

theorem sxFr_ends {call : CallF} {pm : Pm} (hc : CallOk c call) (hru : pm.ru = c.ru) (hfl : pm.fl = c.fl) : ∀ (fr : List Fr) (e : AExit) {s : St} {vs : List AV} {ls : List (Nat × Nat)} {H : AHeap} {E : Env}, In c s vs ls H → EnvOk s.env vs ls E →
    ∃ p ∈ sxFr call pm fr e s, Ends c s vs ls H p.2 fun E' H' => ∀ Q, Res c.P p.1 Q E' H' → konts c.P fr Q e E H
  | [], e, s, vs, ls, H, E, h, hE => ⟨_, List.mem_singleton.2 rfl, .here h hE fun Q hQ => hQ⟩
  | f :: fr, e, s, vs, ls, H, E, h, hE => by
    have go : ∀ (outs : List (Pt × St)) (a : ACode), (∃ p ∈ outs, Ends c s vs ls H p.2 fun E' H' => ∀ Q, Res c.P p.1 Q E' H' → aexec c.P a Q E H) →
        ∃ p ∈ (outs.map fun p => match p.1 with
          | .ex e => sxFr call pm fr e p.2
          | o => [(fr.foldl (fun o f => o.push f) o, p.2)]).flatten, Ends c s vs ls H p.2 fun E' H' => ∀ Q, Res c.P p.1 Q E' H' → aexec c.P a (konts c.P fr Q) E H := by
      rintro outs a ⟨⟨o, s1⟩, hp, vs', ls', H', E', g1, g2, g3⟩
      have stuck : (∀ e, o ≠ .ex e) → (fr.foldl (fun o f => o.push f) o, s1) ∈ (match o with
          | .ex e => sxFr call pm fr e s1
          | o => [(fr.foldl (fun o f => o.push f) o, s1)]) → ∃ p ∈ (outs.map fun p => match p.1 with
          | .ex e => sxFr call pm fr e p.2
          | o => [(fr.foldl (fun o f => o.push f) o, p.2)]).flatten, Ends c s vs ls H p.2 fun E' H' => ∀ Q, Res c.P p.1 Q E' H' → aexec c.P a (konts c.P fr Q) E H := by
        intro ho hm
        refine ⟨_, mem_flat hp hm, vs', ls', H', E', g1, g2, fun Q hQ => ?_⟩
        rw [push_all ho] at hQ
        exact g3 _ hQ
      cases o with
      | ex e =>
        obtain ⟨q, hq, vs2, ls2, H2, E2, k1, k2, k3⟩ := sxFr_ends hc hru hfl fr e g1.inn g2
        exact ⟨q, mem_flat hp hq, vs2, ls2, H2, E2, g1.trans k1, k2, fun Q hQ => g3 _ (k3 Q hQ)⟩
      | ops => exact stuck (by simp) (List.mem_singleton.2 rfl)
      | mixq => exact stuck (by simp) (List.mem_singleton.2 rfl)
      | kids => exact stuck (by simp) (List.mem_singleton.2 rfl)
      | code => exact stuck (by simp) (List.mem_singleton.2 rfl)
    have skip : ∀ e', (∀ Q, konts c.P fr Q e' E H → konts c.P (f :: fr) Q e E H) → sxFr call pm (f :: fr) e s = sxFr call pm fr e' s → ∃ p ∈ sxFr call pm (f :: fr) e s, Ends c s vs ls H p.2 fun E' H' => ∀ Q, Res c.P p.1 Q E' H' → konts c.P (f :: fr) Q e E H := by
      intro e' hk heq
      rw [heq]
      obtain ⟨q, hq, g⟩ := sxFr_ends hc hru hfl fr e' h hE
      exact ⟨q, hq, g.mono fun E' H' k Q hQ => hk Q (k Q hQ)⟩
    cases f with
    | seq b =>
      cases e with
      | normal =>
        simp only [sxFr]
        obtain ⟨q, hq, g⟩ := go _ b (sxCode_ends hc hru hfl b h hE)
        exact ⟨q, hq, g.mono fun E' H' k Q hQ => k Q hQ⟩
      | exit i => exact skip (.exit i) (fun Q hQ => hQ) (by simp only [sxFr])
      | ret => exact skip .ret (fun Q hQ => hQ) (by simp only [sxFr])
    | block id =>
      cases e with
      | normal => exact skip .normal (fun Q hQ => hQ) (by simp only [sxFr])
      | exit i =>
        refine skip (if i = id then .normal else .exit i) (fun Q hQ => ?_) (by simp only [sxFr])
        show blockK id (konts c.P fr Q) (.exit i) E H
        by_cases hi : i = id
        · subst hi; rw [if_pos rfl] at hQ; exact bk_exit hQ
        · rw [if_neg hi] at hQ; exact bk_other hi hQ
      | ret => exact skip .ret (fun Q hQ => hQ) (by simp only [sxFr])
    | loop a =>
      cases e with
      | normal =>
        simp only [sxFr]
        obtain ⟨q, hq, g⟩ := go _ (.loop a) (sxIter_ends (fun h hE => sxCode_ends hc hru hfl a h hE) pm.un h hE)
        exact ⟨q, hq, g.mono fun E' H' k Q hQ => k Q hQ⟩
      | exit i => exact skip (.exit i) (fun Q hQ => hQ) (by simp only [sxFr])
      | ret => exact skip .ret (fun Q hQ => hQ) (by simp only [sxFr])

theorem sxGo_ends {call : CallF} {pm : Pm} (hc : CallOk c call) (hru : pm.ru = c.ru) (hfl : pm.fl = c.fl) (o : Pt) (h : In c s vs ls H) (hE : EnvOk s.env vs ls E) :
    ∃ p ∈ sxGo call pm o s, Ends c s vs ls H p.2 fun E' H' => ∀ Q, Res c.P p.1 Q E' H' → Res c.P o Q E H := by
  have go : ∀ (outs : List (Pt × St)) (fr : List Fr) (Ψ : (AExit → Env → AHeap → Prop) → Prop), (∃ p ∈ outs, Ends c s vs ls H p.2 fun E' H' => ∀ Q, Res c.P p.1 Q E' H' → Ψ Q) →
      ∃ p ∈ (outs.map fun p => match p.1 with
        | .ex e => sxFr call pm fr e p.2
        | o => [(fr.foldl (fun o f => o.push f) o, p.2)]).flatten, Ends c s vs ls H p.2 fun E' H' => ∀ Q, Res c.P p.1 Q E' H' → Ψ (konts c.P fr Q) := by
    rintro outs fr Ψ ⟨⟨o, s1⟩, hp, vs', ls', H', E', g1, g2, g3⟩
    have stuck : (∀ e, o ≠ .ex e) → (fr.foldl (fun o f => o.push f) o, s1) ∈ (match o with
        | .ex e => sxFr call pm fr e s1
        | o => [(fr.foldl (fun o f => o.push f) o, s1)]) → ∃ p ∈ (outs.map fun p => match p.1 with
        | .ex e => sxFr call pm fr e p.2
        | o => [(fr.foldl (fun o f => o.push f) o, p.2)]).flatten, Ends c s vs ls H p.2 fun E' H' => ∀ Q, Res c.P p.1 Q E' H' → Ψ (konts c.P fr Q) := by
      intro ho hm
      refine ⟨_, mem_flat hp hm, vs', ls', H', E', g1, g2, fun Q hQ => ?_⟩
      rw [push_all ho] at hQ
      exact g3 _ hQ
    cases o with
    | ex e =>
      obtain ⟨q, hq, vs2, ls2, H2, E2, k1, k2, k3⟩ := sxFr_ends hc hru hfl fr e g1.inn g2
      exact ⟨q, mem_flat hp hq, vs2, ls2, H2, E2, g1.trans k1, k2, fun Q hQ => g3 _ (k3 Q hQ)⟩
    | ops => exact stuck (by simp) (List.mem_singleton.2 rfl)
    | mixq => exact stuck (by simp) (List.mem_singleton.2 rfl)
    | kids => exact stuck (by simp) (List.mem_singleton.2 rfl)
    | code => exact stuck (by simp) (List.mem_singleton.2 rfl)
  cases o with
  | ex e => exact ⟨_, List.mem_singleton.2 rfl, .here h hE fun Q hQ => hQ⟩
  | ops r fr => exact go _ fr (fun Q => arun c.P r E H (Q .normal)) (sxCode_ends hc hru hfl (.run r) h hE)
  | mixq r ks fr => exact go _ fr (fun Q => arun c.P r E H (mixK c.P ks (Q .normal))) (by
      obtain ⟨p, hp, g⟩ := sxMix_ends hc hru hfl (.node r ks) h hE
      exact ⟨p, hp, g.mono fun E' H' k Q hQ => by have := k Q hQ; simp only [amix] at this; exact this⟩)
  | kids ks fr => exact go _ fr (fun Q => mixK c.P ks (Q .normal) E H) (sxKids_ends hc hru hfl ks h hE)
  | code a fr => exact go _ fr (fun Q => aexec c.P a Q E H) (sxCode_ends hc hru hfl a h hE)

/-- A state of atoms alone. -/
def initNs : Nat → List Kd → List (Nat × Node × Kd)
  | _, [] => []
  | i, k :: ks => (i, .atom i, k) :: initNs (i + 1) ks
def initSt (ks : List Kd) (env : List (Nat × SV)) : St := ⟨initNs 0 ks, ks.length, env, [], 0, [], 0⟩
def atomsOf (xs : List AV) : Nat → AV := fun i => xs.getD i .undef

theorem init_in {P : Program} {φ : Nat → List AV → AV} {ks : List Kd} {xs : List AV} (hk : KdsL ks xs) (env : List (Nat × SV)) (H : AHeap) : In ⟨P, atomsOf xs, φ, xs, [], H, 0, []⟩ (initSt ks env) xs [] H := by
  refine ⟨⟨?_, ?_, fun i b h => (by cases h), rfl, fun i j l b b' cs h => (by cases h), fun l b h => (by cases h), fun j cs wr h => (by cases h)⟩, LeL.refl _, LeL.refl _, Kept.refl _ _ _, fun j l b _ e => (by simp at e), fun k v h => (by cases h)⟩
  · show ks.length = xs.length
    induction hk with
    | nil => rfl
    | cons _ _ ih => simp [ih]
  · have key : ∀ (ks : List Kd) (ys : List AV), KdsL ks ys → ∀ t, (∀ i, xs[t + i]? = ys[i]?) → ∀ i n kd, (i, n, kd) ∈ initNs t ks → ∃ v, xs[i]? = some v ∧ NodeOk (atomsOf xs) φ xs n v ∧ HasKd kd v := by
      intro ks ys h
      induction h with
      | nil => intro t _ i n kd h; cases h
      | @cons k a ks ys h1 h2 ih =>
        intro t ht i n kd hm
        simp only [initNs] at hm
        rcases List.mem_cons.1 hm with e | hm
        · cases e
          have := ht 0
          simp at this
          exact ⟨a, this, by simp [NodeOk, atomsOf, this], h1⟩
        · exact ih (t + 1) (fun i => by have := ht (i + 1); rw [show t + 1 + i = t + (i + 1) by omega, this]; simp) i n kd hm
    exact key ks xs hk 0 (fun i => by rw [Nat.zero_add])

/-- A body, run. -/
theorem run_fun {P : Program} {φ : Nat → List AV → AV} {pm : Pm} {f : FuncId} {n : Nat} {rs : List ARes} {body : ACode} (d : Nat) (hru : pm.ru = []) (hfl : pm.fl = 0) (htb : TbOk P pm.tb) (hap : ApOk P φ pm.ap) (hf : cFun P f = some ⟨n, rs, body⟩)
    {ks : List Kd} {xs : List AV} (hk : KdsL ks xs) {svs : List SV} {as : List AV} (ha : DL xs [] svs as) (hn : svs.length ≤ n) {R : AV → AHeap → Prop}
    (h : ∀ p ∈ sxCode (sxCall pm d) pm body (initSt ks (startEnv 0 svs)), ∀ vs ls H' E', Step ⟨P, atomsOf xs, φ, xs, [], H, 0, []⟩ (initSt ks (startEnv 0 svs)) xs [] H p.2 vs ls H' → EnvOk p.2.env vs ls E' → Res P p.1 (endK rs H R) E' H') : ACalls P f as H R := by
  have hin := init_in (P := P) (φ := φ) hk (startEnv 0 svs) H
  obtain ⟨p, hp, vs', ls', H', E', g1, g2, g3⟩ := sxCode_ends (call_ok (c := ⟨P, atomsOf xs, φ, xs, [], H, 0, []⟩) (pm := pm) hru hfl htb hap d) hru hfl body hin (startEnv_of 0 ha (fun i => by rw [Nat.zero_add]))
  exact acalls hf (by rw [← ha.len]; exact hn) (g3 _ (h p hp vs' ls' H' E' g1 g2))

/-- All ways end with 'true'. -/
def allTrue (rs : List ARes) (outs : List (Pt × St)) : Bool := outs.all fun p => (match p.1 with
  | .ex .normal => true
  | .ex .ret => true
  | _ => false) && (match sres rs p.2 with
  | some (.lit (.bool true)) => true
  | _ => false)

theorem run_true {P : Program} {φ : Nat → List AV → AV} {pm : Pm} {f : FuncId} {n : Nat} {rs : List ARes} {body : ACode} (d : Nat) (hru : pm.ru = []) (hfl : pm.fl = 0) (htb : TbOk P pm.tb) (hap : ApOk P φ pm.ap) (hf : cFun P f = some ⟨n, rs, body⟩)
    {ks : List Kd} {xs : List AV} (hk : KdsL ks xs) {svs : List SV} {as : List AV} (ha : DL xs [] svs as) (hn : svs.length ≤ n)
    (h : allTrue rs (sxCode (sxCall pm d) pm body (initSt ks (startEnv 0 svs))) = true) : ACalls P f as H fun r _ => r = .bool true := by
  refine run_fun d hru hfl htb hap hf hk ha hn fun p hp vs ls H' E' st hE => ?_
  have := List.all_eq_true.1 h p hp
  rw [Bool.and_eq_true] at this
  obtain ⟨h1, h2⟩ := this
  have key : ∃ r, aresults rs E' H' = some r ∧ Fin H H' r fun r _ => r = .bool true := by
    split at h2
    · rename_i hs
      obtain ⟨a, a1, a2⟩ := sres_of st.inn hE hs
      simp only [D] at a2
      exact ⟨a, a1, fin_same st.kept.1 a2.1⟩
    · cases h2
  split at h1
  · rename_i e; rw [e]; exact key
  · rename_i e; rw [e]; exact key
  · cases h1
end

/-! ### Arguments of plain shapes -/
def kdSh : Sh → Option Kd
  | .int k => some (.int k)
  | .flt k => some (.flt k)
  | .bool => some .bool
  | .str => some .str
  | _ => none
def ksSh : List (Bool × List Sh) → Option (List Kd)
  | [] => some []
  | (_, ss) :: rest => match ss.mapM kdSh, ksSh rest with
    | some a, some b => some (a ++ b)
    | _, _ => none
def nds : Nat → List Kd → List SV
  | _, [] => []
  | i, k :: ks => .nd i k :: nds (i + 1) ks
def svSh : Nat → List (Bool × List Sh) → List SV
  | _, [] => []
  | i, (true, ss) :: rest => .agg (nds i ((ss.mapM kdSh).getD [])) :: svSh (i + ss.length) rest
  | i, (false, ss) :: rest => (nds i ((ss.mapM kdSh).getD [])) ++ svSh (i + ss.length) rest

theorem kdSh_of {H : AHeap} {s : Sh} {k : Kd} {a : AV} (h : Fits H s a) (e : kdSh s = some k) : HasKd k a := by
  cases h <;> simp only [kdSh, Option.some.injEq, reduceCtorEq] at e <;> subst e
  · exact ⟨_, rfl⟩
  · exact ⟨_, rfl⟩
  · exact ⟨_, rfl, by assumption⟩
  · exact ⟨_, rfl⟩
end Go.Ab
