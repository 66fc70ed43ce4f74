/- Symbolic execution: calls, and what a user of it needs. -/
import Derived.Test.YtnleibiniajbnaaSxB
import Derived.Test.YtnleibiniajbnaaAbD
set_option linter.unusedVariables false
set_option linter.unusedSimpArgs false
section
namespace Go.Ab
def TbOk (P : Program) (tb : List (Nat × AFun)) : Prop := ∀ f af, (f, af) ∈ tb → cFun P f = some af
theorem TbOk.nil {P : Program} : TbOk P [] := fun f af h => by cases h
theorem TbOk.cons {P : Program} {f : Nat} {af : AFun} {tb : List (Nat × AFun)} (h : cFun P f = some af) (t : TbOk P tb) : TbOk P ((f, af) :: tb) := fun g ag hg => by
  rcases List.mem_cons.1 hg with e | hg
  · cases e; exact h
  · exact t g ag hg

inductive KdsL : List Kd → List AV → Prop where
  | nil : KdsL [] []
  | cons {k : Kd} {a : AV} {ks : List Kd} {as : List AV} (h : HasKd k a) (t : KdsL ks as) : KdsL (k :: ks) (a :: as)
def ApOk (P : Program) (φ : Nat → List AV → AV) (ap : List (Nat × Nat × List Kd × Kd)) : Prop := ∀ f g ks kd, (f, g, ks, kd) ∈ ap →
 (g = 0 → ks = [.flt .f32] ∧ kd = .bits ∧ ∀ x H, fOk .f32 x → APure P f [.flt .f32 x] H (bits32 x)) ∧
 (g ≠ 0 → ∀ as H, KdsL ks as → APure P f as H (φ g as) ∧ HasKd kd (φ g as))
theorem ApOk.nil {P : Program} {φ : Nat → List AV → AV} : ApOk P φ [] := fun _ _ _ _ h => by cases h
theorem ApOk.bits {P : Program} {φ : Nat → List AV → AV} {f : Nat} {ap : List (Nat × Nat × List Kd × Kd)} (h : ∀ x H, fOk .f32 x → APure P f [.flt .f32 x] H (bits32 x)) (t : ApOk P φ ap) : ApOk P φ ((f, 0, [.flt .f32], .bits) :: ap) := fun f' g ks kd hm => by
  rcases List.mem_cons.1 hm with e | hm
  · cases e; exact ⟨fun _ => ⟨rfl, rfl, h⟩, fun hn => absurd rfl hn⟩
  · exact t f' g ks kd hm
theorem ApOk.app {P : Program} {φ : Nat → List AV → AV} {f g : Nat} {ks : List Kd} {kd : Kd} {ap : List (Nat × Nat × List Kd × Kd)} (h : ∀ as H, KdsL ks as → APure P f as H (φ (g + 1) as) ∧ HasKd kd (φ (g + 1) as)) (t : ApOk P φ ap) : ApOk P φ ((f, g + 1, ks, kd) :: ap) := fun f' g' ks' kd' hm => by
  rcases List.mem_cons.1 hm with e | hm
  · cases e; exact ⟨fun h => by omega, fun _ => h⟩
  · exact t f' g' ks' kd' hm

section
variable {c : Cx} {s : St} {vs : List AV} {ls : List (Nat × Nat)} {H : AHeap} {E : Env}
theorem kdLe_of {a b : Kd} {v : AV} (h : kdLe a b = true) (hv : HasKd a v) : HasKd b v := by
  simp only [kdLe, Bool.or_eq_true, Bool.and_eq_true, decide_eq_true_eq] at h
  rcases h with rfl | ⟨rfl, rfl⟩
  · exact hv
  · obtain ⟨x, h1, h2, _⟩ := hv; exact ⟨x, h1, h2⟩
theorem kdsOk_of : ∀ {xs : List SV} {as : List AV} {ks : List Kd}, DL vs ls xs as → kdsOk xs ks = true → KdsL ks as ∧ DL vs [] xs as
 | [], as, [], h, _ => by simp only [DL] at h ⊢; subst h; exact ⟨.nil, rfl⟩
 | x :: xs, as, k :: ks, h, e => by
  simp only [DL] at h ⊢
  obtain ⟨a, as', rfl, h1, h2⟩ := h
  simp only [kdsOk, Bool.and_eq_true] at e
  obtain ⟨e1, e2⟩ := e
  split at e1
  ·
   rename_i k' hk
   obtain ⟨g1, g2⟩ := kd_of h1 hk
   obtain ⟨g3, g4⟩ := kdsOk_of h2 e2
   exact ⟨.cons (kdLe_of e1 g1) g3, a, as', rfl, g2, g4⟩
  ·
   cases e1
 | [], _, _ :: _, _, e => by simp [kdsOk] at e
 | _ :: _, _, [], _, e => by simp [kdsOk] at e

theorem findP_of {f : Nat} {as : List SV} {g : Nat} {kd : Kd} : ∀ {ap : List (Nat × Nat × List Kd × Kd)}, findP f as ap = some (g, kd) → ∃ ks, (f, g, ks, kd) ∈ ap ∧ kdsOk as ks = true
 | [], h => by cases h
 | (f', g', ks, kd') :: rest, h => by
  unfold findP at h
  split at h
  ·
   rename_i hb
   cases h
   rw [Bool.and_eq_true] at hb
   have := Nat.eq_of_beq_eq_true hb.1
   subst this
   exact ⟨ks, by simp, hb.2⟩
  ·
   obtain ⟨ks', h1, h2⟩ := findP_of h
   exact ⟨ks', List.mem_cons_of_mem _ h1, h2⟩

theorem startEnv_of {as : List AV} : ∀ {xs : List SV} {bs : List AV} (t : Nat), DL vs ls xs bs → (∀ i, as.getD (t + i) .undef = bs.getD i .undef) → EnvOk (startEnv t xs) vs ls (Env.start as)
 | [], bs, t, h, _ => fun u v e => by cases e
 | x :: xs, bs, t, h, e => by
  simp only [DL] at h
  obtain ⟨b, bs', rfl, h1, h2⟩ := h
  intro u v hu
  simp only [startEnv] at hu
  rw [findA_cons] at hu
  split at hu
  ·
   rename_i ht
   subst ht
   cases hu
   have := e 0
   simp at this
   show D vs ls x (as.getD u .undef)
   rw [List.getD_eq_getElem?_getD, this]; exact h1
  ·
   exact startEnv_of (t + 1) h2 (fun i => by have := e (i + 1); rw [show t + 1 + i = t + (i + 1) by omega, this]; simp) u v hu

theorem sres1_of (h : In c s vs ls H) (hE : EnvOk s.env vs ls E) {r : ARes} {v : SV} (e : sres1 r s = some v) : ∃ a, r.val E H = some a ∧ D vs ls v a := by
 cases r with
 | tmp t => exact ⟨E t, rfl, hE t v e⟩
 | cell t ag n =>
  simp only [sres1] at e
  split at e
  ·
   rename_i j off hf
   have d1 := hE _ _ hf
   simp only [D] at d1
   obtain ⟨l, bs0, hl, ha⟩ := d1
   split at e
   ·
    rename_i cs wr hh
    obtain ⟨l', b', pre, ds, post, wr', k1, k2, k3, k4, _⟩ := h.ok.heap _ _ _ hh
    rw [hl] at k1
    cases k1
    obtain ⟨a, ha', hd⟩ := partS_of k4 e
    have hw := part_win (pre := pre) (post := post) ha'
    rw [k3] at hw
    exact ⟨a, by simp only [ARes.val, ha, k2]; exact hw, hd⟩
   ·
    cases e
  ·
   cases e
theorem sresL_of (h : In c s vs ls H) (hE : EnvOk s.env vs ls E) : ∀ {rs : List ARes} {ws : List SV}, sresL s rs = some ws → ∃ as, aresL E H rs = some as ∧ DL vs ls ws as
 | [], ws, e => by cases e; exact ⟨[], rfl, by simp only [DL]⟩
 | r :: rs, ws, e => by
  unfold sresL at e
  split at e
  ·
   rename_i v us h1 h2
   cases e
   obtain ⟨a, g1, g2⟩ := sres1_of h hE h1
   obtain ⟨as, g3, g4⟩ := sresL_of h hE h2
   exact ⟨a :: as, by simp only [aresL, g1, g3], by simp only [DL]; exact ⟨a, as, rfl, g2, g4⟩⟩
  ·
   cases e
theorem sres_of (h : In c s vs ls H) (hE : EnvOk s.env vs ls E) {rs : List ARes} {v : SV} (e : sres rs s = some v) : ∃ a, aresults rs E H = some a ∧ D vs ls v a := by
 unfold sres at e
 rw [Option.map_eq_some_iff] at e
 obtain ⟨ws, h1, rfl⟩ := e
 obtain ⟨as, g1, g2⟩ := sresL_of h hE h1
 have hs : D vs ls (stup ws) (tup as) := by
  match ws, as, g2 with
  | [], as, g2 => simp only [DL] at g2; subst g2; simp only [stup, tup, D, DL]; exact ⟨[], rfl, rfl⟩
  | [w], as, g2 =>
   simp only [DL] at g2; obtain ⟨b, bs, rfl, g3, rfl⟩ := g2; exact g3
  | w :: w' :: ws, as, g2 =>
   have g2' := g2
   simp only [DL] at g2; obtain ⟨b, bs, rfl, g3, b', bs', rfl, g4, g5⟩ := g2
   simp only [stup, tup, D]; exact ⟨_, rfl, g2'⟩
 exact ⟨tup as, ares_of g1, hs⟩

theorem finC_of {rs : List ARes} {p : Pt × St} : ∀ {outs : List (Pt × St)} {ps : List (SV × St × Bool)}, finC rs s outs = some ps → p ∈ outs → ∃ v e, p.1 = .ex e ∧ (e = .normal ∨ e = .ret) ∧ sres rs p.2 = some v ∧
  ((v.flat = true ∧ s.nl ≤ p.2.wm ∧ (v, { p.2 with env := s.env, heap := s.heap, nl := s.nl, wm := s.wm }, true) ∈ ps) ∨ (v, { p.2 with env := s.env, wm := Nat.min s.wm p.2.wm }, false) ∈ ps)
 | [], _, _, hp => by cases hp
 | q :: rest, ps, h, hp => by
  unfold finC at h
  split at h
  ·
   rename_i v ps' hv hps
   have hx : ∃ e, q.1 = .ex e ∧ (e = .normal ∨ e = .ret) ∧ sres rs q.2 = some v := by
    split at hv
    ·
     rename_i hq; exact ⟨.normal, hq, .inl rfl, hv⟩
    ·
     rename_i hq; exact ⟨.ret, hq, .inr rfl, hv⟩
    ·
     cases hv
   have tail : ∀ x, ps = x :: ps' → p ∈ rest → ∃ v e, p.1 = .ex e ∧ (e = .normal ∨ e = .ret) ∧ sres rs p.2 = some v ∧
     ((v.flat = true ∧ s.nl ≤ p.2.wm ∧ (v, { p.2 with env := s.env, heap := s.heap, nl := s.nl, wm := s.wm }, true) ∈ ps) ∨ (v, { p.2 with env := s.env, wm := Nat.min s.wm p.2.wm }, false) ∈ ps) := by
    rintro x rfl hm
    obtain ⟨v, e, h1, h2, h3, h4⟩ := finC_of hps hm
    exact ⟨v, e, h1, h2, h3, h4.imp (fun k => ⟨k.1, k.2.1, List.mem_cons_of_mem _ k.2.2⟩) (List.mem_cons_of_mem _)⟩
   obtain ⟨e, h1, h2, h3⟩ := hx
   split at h
   ·
    rename_i hb
    rw [Bool.and_eq_true] at hb
    cases h
    rcases List.mem_cons.1 hp with rfl | hm
    ·
     exact ⟨v, e, h1, h2, h3, .inl ⟨hb.1, Nat.le_of_ble_eq_true hb.2, by simp⟩⟩
    ·
     exact tail _ rfl hm
   ·
    cases h
    rcases List.mem_cons.1 hp with rfl | hm
    ·
     exact ⟨v, e, h1, h2, h3, .inr (by simp)⟩
    ·
     exact tail _ rfl hm
  ·
   cases h

theorem fin_same {H Hc : AHeap} {r : AV} {Q : AV → AHeap → Prop} (hn : H.next ≤ Hc.next) (hQ : Q r Hc) : Fin H Hc r Q :=
 ⟨r, Hc, hQ, hn, fun _ μ _ _ hs hR _ => ⟨μ, Mu.ext_refl _ _, hs, hR⟩⟩

theorem APure.acalls {P : Program} {f : FuncId} {as : List AV} {r : AV} (h : APure P f as H r) {k : AV → AHeap → Prop} (hk : k r H) : ACalls P f as H k :=
 h.mono (by rintro r' H' ⟨rfl, rfl⟩; exact hk)

theorem call_ok {pm : Pm} (hru : pm.ru = c.ru) (hfl : pm.fl = c.fl) (htb : TbOk c.P pm.tb) (hap : ApOk c.P c.φ pm.ap) : ∀ d, CallOk c (sxCall pm d)
 | d => by
  have ih : ∀ d', d = d' + 1 → CallOk c (sxCall pm d') := fun d' e => by subst e; exact call_ok hru hfl htb hap d'
  intro f args s vs ls H as ps h ha he
  unfold sxCall at he
  split at he
  ·
   rename_i v hv
   cases he
   rw [hru] at hv
   obtain ⟨as', r, q1, q2, q3⟩ := h.rules _ _ (findR_mem hv)
   have e := h.eqL q1 ha
   subst e
   refine ⟨_, List.mem_singleton.2 rfl, vs, ls, H, r, .refl h, q2.mono h.lev h.lel, rfl, fun k hk => (q3 H h.kept).acalls hk, fun _ => ⟨rfl, q3 H h.kept⟩⟩
  ·
   split at he
   ·
    -- bits
    rename_i kd hp
    obtain ⟨ks, hm, hks⟩ := findP_of hp
    obtain ⟨hz, _⟩ := hap _ _ _ _ hm
    obtain ⟨rfl, rfl, hx⟩ := hz rfl
    split at he
    ·
     rename_i x hh
     cases he
     obtain ⟨g1, g2⟩ := kdsOk_of ha hks
     cases g1 with
     | cons g3 g4 =>
      cases g4
      obtain ⟨y, rfl, hy⟩ := g3
      simp only [DL] at g2
      obtain ⟨_, _, e, g2, rfl⟩ := g2
      cases e
      obtain ⟨vs', st, d1, d2⟩ := (mk_got h.ok (n := .bits x) (kd := .bits) (a := bits32 y) ⟨y, g2, rfl⟩ ⟨y, rfl, hy⟩).step h
      exact ⟨_, List.mem_singleton.2 rfl, vs', ls, H, _, st, d1, d2, fun k hk => (hx y H hy).acalls hk, fun _ => ⟨rfl, hx y H hy⟩⟩
    ·
     cases he
   ·
    rename_i g kd hp
    obtain ⟨ks, hm, hks⟩ := findP_of hp
    obtain ⟨_, hz⟩ := hap _ _ _ _ hm
    cases he
    obtain ⟨g1, g2⟩ := kdsOk_of ha hks
    obtain ⟨k1, k2⟩ := hz (by omega) as H g1
    obtain ⟨vs', st, d1, d2⟩ := (mk_got h.ok (n := .app (g + 1) args) (kd := kd) (a := c.φ (g + 1) as) ⟨as, g2, rfl⟩ k2).step h
    exact ⟨_, List.mem_singleton.2 rfl, vs', ls, H, _, st, d1, d2, fun k hk => k1.acalls hk, fun _ => ⟨rfl, k1⟩⟩
   ·
    split at he
    ·
     cases he
    ·
     rename_i d'
     split at he
     ·
      rename_i af haf
      split at he
      ·
       rename_i hlen
       obtain ⟨n, rs, body⟩ := af
       have hf := htb _ _ (findA_mem haf)
       have h0 : In c { s with env := startEnv 0 args, wm := s.nl } vs ls H := h.env _ _
       have hE0 : EnvOk (startEnv 0 args) vs ls (Env.start as) := startEnv_of 0 ha (fun i => by rw [Nat.zero_add])
       obtain ⟨p, hp, vs1, ls1, H1, E1, g1, g2, g3⟩ := sxCode_ends (pm := { pm with un := 1000 }) (ih d' rfl) hru hfl body h0 hE0
       obtain ⟨v, e, k1, k2, k3, k4⟩ := finC_of he hp
       obtain ⟨r, r1, r2⟩ := sres_of g1.inn g2 k3
       have hal : as.length ≤ n := by rw [← ha.len]; exact hlen
       have hrun : ∀ R : AV → AHeap → Prop, Fin H H1 r R → ACalls c.P f as H R := by
        intro R hR
        refine acalls hf hal (g3 _ ?_)
        rw [k1]
        rcases k2 with rfl | rfl
        ·
         exact ⟨r, r1, hR⟩
        ·
         exact ⟨r, r1, hR⟩
       rcases k4 with ⟨k5, k6, k7⟩ | k7
       ·
        have hg : Grew H H1 := g1.kept.grew (by rw [← h.ok.nl]; exact k6)
        obtain ⟨d1, d2⟩ := D.flat (ls' := ls) k5 r2
        have hpure : APure c.P f as H r := hrun _ (fin_flat hg d2 ⟨rfl, rfl⟩)
        refine ⟨_, k7, vs1, ls, H, r, ⟨⟨⟨g1.inn.ok.nn, g1.inn.ok.ns, g1.inn.ok.facts, h.ok.nl, h.ok.sep, h.ok.lt, ?_⟩, h.lev.trans g1.lev, h.lel, h.kept, h.new, h.rules⟩, g1.lev, LeL.refl _, Nat.le_refl _, Kept.refl _ _ _, fun j l b hj e => by rw [List.getElem?_eq_none hj] at e; cases e⟩, d1, rfl, fun k hk => hpure.acalls hk, fun _ => ⟨rfl, hpure⟩⟩
        intro j cs wr hj
        obtain ⟨l, b, pre, ds, post, wr', a1, a2, a3, a4, a5⟩ := h.ok.heap j cs wr hj
        exact ⟨l, b, pre, ds, post, wr', a1, a2, a3, a4.mono g1.lev (LeL.refl _), a5⟩
       ·
        have st : Step c s vs ls H { p.2 with env := s.env, wm := Nat.min s.wm p.2.wm } vs1 ls1 H1 := by
         refine ⟨g1.inn.env _ _, g1.lev, g1.lel, Nat.min_le_left _ _, ?_, g1.new⟩
         exact ⟨g1.kept.1, fun l hl hj => g1.kept.2 l hl fun j b e => hj j b (Nat.le_trans (Nat.min_le_right _ _) e)⟩
        exact ⟨_, k7, vs1, ls1, H1, r, st, r2, rfl, fun k hk => hrun _ (fin_same g1.kept.1 hk), fun e => by cases e⟩
      ·
       cases he
     ·
      cases he

/-! ### From points on -/
theorem push_all {P : Program} {Q : AExit → Env → AHeap → Prop} : ∀ {fr : List Fr} {o : Pt}, (∀ e, o ≠ .ex e) → Res P (fr.foldl (fun o f => o.push f) o) Q E H = Res P o (konts P fr Q) E H
 | [], o, _ => rfl
 | f :: fr, o, ho => by
  simp only [List.foldl_cons]
  have hp : ∀ e, o.push f ≠ .ex e := by intro e; cases o <;> simp [Pt.push] <;> exact absurd rfl (ho _)
  rw [push_all hp, res_push ho]
  cases f <;> rfl

theorem sxFr_ends {call : CallF} {pm : Pm} (hc : CallOk c call) (hru : pm.ru = c.ru) (hfl : pm.fl = c.fl) : ∀ (fr : List Fr) (e : AExit) {s : St} {vs : List AV} {ls : List (Nat × Nat)} {H : AHeap} {E : Env}, In c s vs ls H → EnvOk s.env vs ls E →
  ∃ p ∈ sxFr call pm fr e s, Ends c s vs ls H p.2 fun E' H' => ∀ Q, Res c.P p.1 Q E' H' → konts c.P fr Q e E H
 | [], e, s, vs, ls, H, E, h, hE => ⟨_, List.mem_singleton.2 rfl, .here h hE fun Q hQ => hQ⟩
 | f :: fr, e, s, vs, ls, H, E, h, hE => by
  have go : ∀ (outs : List (Pt × St)) (a : ACode), (∃ p ∈ outs, Ends c s vs ls H p.2 fun E' H' => ∀ Q, Res c.P p.1 Q E' H' → aexec c.P a Q E H) →
    ∃ p ∈ (outs.map fun p => match p.1 with
     | .ex e => sxFr call pm fr e p.2
     | o => [(fr.foldl (fun o f => o.push f) o, p.2)]).flatten, Ends c s vs ls H p.2 fun E' H' => ∀ Q, Res c.P p.1 Q E' H' → aexec c.P a (konts c.P fr Q) E H := by
   rintro outs a ⟨⟨o, s1⟩, hp, vs', ls', H', E', g1, g2, g3⟩
   have stuck : (∀ e, o ≠ .ex e) → (fr.foldl (fun o f => o.push f) o, s1) ∈ (match o with
     | .ex e => sxFr call pm fr e s1
     | o => [(fr.foldl (fun o f => o.push f) o, s1)]) → ∃ p ∈ (outs.map fun p => match p.1 with
     | .ex e => sxFr call pm fr e p.2
     | o => [(fr.foldl (fun o f => o.push f) o, p.2)]).flatten, Ends c s vs ls H p.2 fun E' H' => ∀ Q, Res c.P p.1 Q E' H' → aexec c.P a (konts c.P fr Q) E H := by
    intro ho hm
    refine ⟨_, mem_flat hp hm, vs', ls', H', E', g1, g2, fun Q hQ => ?_⟩
    rw [push_all ho] at hQ
    exact g3 _ hQ
   cases o with
   | ex e =>
    obtain ⟨q, hq, vs2, ls2, H2, E2, k1, k2, k3⟩ := sxFr_ends hc hru hfl fr e g1.inn g2
    exact ⟨q, mem_flat hp hq, vs2, ls2, H2, E2, g1.trans k1, k2, fun Q hQ => g3 _ (k3 Q hQ)⟩
   | ops => exact stuck (by simp) (List.mem_singleton.2 rfl)
   | mixq => exact stuck (by simp) (List.mem_singleton.2 rfl)
   | kids => exact stuck (by simp) (List.mem_singleton.2 rfl)
   | code => exact stuck (by simp) (List.mem_singleton.2 rfl)
  have skip : ∀ e', (∀ Q, konts c.P fr Q e' E H → konts c.P (f :: fr) Q e E H) → sxFr call pm (f :: fr) e s = sxFr call pm fr e' s → ∃ p ∈ sxFr call pm (f :: fr) e s, Ends c s vs ls H p.2 fun E' H' => ∀ Q, Res c.P p.1 Q E' H' → konts c.P (f :: fr) Q e E H := by
   intro e' hk heq
   rw [heq]
   obtain ⟨q, hq, g⟩ := sxFr_ends hc hru hfl fr e' h hE
   exact ⟨q, hq, g.mono fun E' H' k Q hQ => hk Q (k Q hQ)⟩
  cases f with
  | seq b =>
   cases e with
   | normal =>
    simp only [sxFr]
    obtain ⟨q, hq, g⟩ := go _ b (sxCode_ends hc hru hfl b h hE)
    exact ⟨q, hq, g.mono fun E' H' k Q hQ => k Q hQ⟩
   | exit i => exact skip (.exit i) (fun Q hQ => hQ) (by simp only [sxFr])
   | ret => exact skip .ret (fun Q hQ => hQ) (by simp only [sxFr])
  | block id =>
   cases e with
   | normal => exact skip .normal (fun Q hQ => hQ) (by simp only [sxFr])
   | exit i =>
    refine skip (if i = id then .normal else .exit i) (fun Q hQ => ?_) (by simp only [sxFr])
    show blockK id (konts c.P fr Q) (.exit i) E H
    by_cases hi : i = id
    ·
     subst hi; rw [if_pos rfl] at hQ; exact bk_exit hQ
    ·
     rw [if_neg hi] at hQ; exact bk_other hi hQ
   | ret => exact skip .ret (fun Q hQ => hQ) (by simp only [sxFr])
  | loop a =>
   cases e with
   | normal =>
    simp only [sxFr]
    obtain ⟨q, hq, g⟩ := go _ (.loop a) (sxIter_ends (fun h hE => sxCode_ends hc hru hfl a h hE) pm.un h hE)
    exact ⟨q, hq, g.mono fun E' H' k Q hQ => k Q hQ⟩
   | exit i => exact skip (.exit i) (fun Q hQ => hQ) (by simp only [sxFr])
   | ret => exact skip .ret (fun Q hQ => hQ) (by simp only [sxFr])

theorem sxGo_ends {call : CallF} {pm : Pm} (hc : CallOk c call) (hru : pm.ru = c.ru) (hfl : pm.fl = c.fl) (o : Pt) (h : In c s vs ls H) (hE : EnvOk s.env vs ls E) :
  ∃ p ∈ sxGo call pm o s, Ends c s vs ls H p.2 fun E' H' => ∀ Q, Res c.P p.1 Q E' H' → Res c.P o Q E H := by
 have go : ∀ (outs : List (Pt × St)) (fr : List Fr) (Ψ : (AExit → Env → AHeap → Prop) → Prop), (∃ p ∈ outs, Ends c s vs ls H p.2 fun E' H' => ∀ Q, Res c.P p.1 Q E' H' → Ψ Q) →
   ∃ p ∈ (outs.map fun p => match p.1 with
    | .ex e => sxFr call pm fr e p.2
    | o => [(fr.foldl (fun o f => o.push f) o, p.2)]).flatten, Ends c s vs ls H p.2 fun E' H' => ∀ Q, Res c.P p.1 Q E' H' → Ψ (konts c.P fr Q) := by
  rintro outs fr Ψ ⟨⟨o, s1⟩, hp, vs', ls', H', E', g1, g2, g3⟩
  have stuck : (∀ e, o ≠ .ex e) → (fr.foldl (fun o f => o.push f) o, s1) ∈ (match o with
    | .ex e => sxFr call pm fr e s1
    | o => [(fr.foldl (fun o f => o.push f) o, s1)]) → ∃ p ∈ (outs.map fun p => match p.1 with
    | .ex e => sxFr call pm fr e p.2
    | o => [(fr.foldl (fun o f => o.push f) o, p.2)]).flatten, Ends c s vs ls H p.2 fun E' H' => ∀ Q, Res c.P p.1 Q E' H' → Ψ (konts c.P fr Q) := by
   intro ho hm
   refine ⟨_, mem_flat hp hm, vs', ls', H', E', g1, g2, fun Q hQ => ?_⟩
   rw [push_all ho] at hQ
   exact g3 _ hQ
  cases o with
  | ex e =>
   obtain ⟨q, hq, vs2, ls2, H2, E2, k1, k2, k3⟩ := sxFr_ends hc hru hfl fr e g1.inn g2
   exact ⟨q, mem_flat hp hq, vs2, ls2, H2, E2, g1.trans k1, k2, fun Q hQ => g3 _ (k3 Q hQ)⟩
  | ops => exact stuck (by simp) (List.mem_singleton.2 rfl)
  | mixq => exact stuck (by simp) (List.mem_singleton.2 rfl)
  | kids => exact stuck (by simp) (List.mem_singleton.2 rfl)
  | code => exact stuck (by simp) (List.mem_singleton.2 rfl)
 cases o with
 | ex e => exact ⟨_, List.mem_singleton.2 rfl, .here h hE fun Q hQ => hQ⟩
 | ops r fr => exact go _ fr (fun Q => arun c.P r E H (Q .normal)) (sxCode_ends hc hru hfl (.run r) h hE)
 | mixq r ks fr => exact go _ fr (fun Q => arun c.P r E H (mixK c.P ks (Q .normal))) (by
   obtain ⟨p, hp, g⟩ := sxMix_ends hc hru hfl (.node r ks) h hE
   exact ⟨p, hp, g.mono fun E' H' k Q hQ => by have := k Q hQ; simp only [amix] at this; exact this⟩)
 | kids ks fr => exact go _ fr (fun Q => mixK c.P ks (Q .normal) E H) (sxKids_ends hc hru hfl ks h hE)
 | code a fr => exact go _ fr (fun Q => aexec c.P a Q E H) (sxCode_ends hc hru hfl a h hE)

def initNs : Nat → List Kd → List (Nat × Node × Kd)
 | _, [] => []
 | i, k :: ks => (i, .atom i, k) :: initNs (i + 1) ks
def atomsOf (xs : List AV) : Nat → AV := fun i => xs.getD i .undef

end
/-! ### Arguments of plain shapes -/
def kdSh : Sh → Option Kd
 | .int k => some (.int k)
 | .flt k => some (.flt k)
 | .bool => some .bool
 | .str => some .str
 | _ => none
def nds : Nat → List Kd → List SV
 | _, [] => []
 | i, k :: ks => .nd i k :: nds (i + 1) ks
theorem kdSh_of {H : AHeap} {s : Sh} {k : Kd} {a : AV} (h : Fits H s a) (e : kdSh s = some k) : HasKd k a := by
  cases h <;> simp only [kdSh, Option.some.injEq, reduceCtorEq] at e <;> subst e
  · exact ⟨_, rfl⟩
  · exact ⟨_, rfl⟩
  · exact ⟨_, rfl, by assumption⟩
  · exact ⟨_, rfl⟩
end Go.Ab
end
/- Symbolic execution: laws over arguments of plain shapes. -/
section
namespace Go.Ab
theorem KdsL.len {ks : List Kd} {as : List AV} (h : KdsL ks as) : ks.length = as.length := by
 induction h with
 | nil => rfl
 | cons _ _ ih => simp [ih]
theorem KdsL.append {ks ks' : List Kd} {as bs : List AV} (h : KdsL ks as) (k : KdsL ks' bs) : KdsL (ks ++ ks') (as ++ bs) := by
 induction h with
 | nil => exact k
 | cons h _ ih => exact .cons h ih

theorem fitsL_kds {H : AHeap} : ∀ {ss : List Sh} {ks : List Kd} {as : List AV}, FitsL H ss as → ss.mapM kdSh = some ks → KdsL ks as
 | [], ks, as, h, e => by
  simp at e
  subst e
  have := h.1
  simp at this
  subst this
  exact .nil
 | s :: ss, ks, as, h, e => by
  simp only [List.mapM_cons, Option.bind_eq_bind, Option.bind_eq_some_iff, Option.pure_def, Option.some.injEq] at e
  obtain ⟨k, hk, ks', hks, rfl⟩ := e
  match as, h with
  | a :: as, h =>
   exact .cons (kdSh_of (h.2 0 s a rfl rfl) hk) (fitsL_kds ⟨by simpa using h.1, fun i s a x y => h.2 (i + 1) s a (by simpa using x) (by simpa using y)⟩ hks)
  | [], h => have := h.1; simp at this

end Go.Ab
end
/- Symbolic execution: what a later state says of values, facts and rows. -/
section
namespace Go.Ab
def convD (c : Cv) (a : AV) : Option AV :=
 match c, a with
 | .ff k, .flt s x => some (.flt k ((f2f s x k).getD none))
 | c, a => convA c (fun _ => none) a
theorem convD_of {c : Cv} {p w b : AV} (h : convA c (fun _ => none) p = some w) (e : convD c p = some b) : w = b := by
 unfold convD at e
 split at e
 ·
  simp only [convA, Option.map_eq_some_iff] at h
  obtain ⟨y, h1, rfl⟩ := h
  cases e
  rw [h1]; rfl
 ·
  rw [h] at e; exact Option.some.inj e
mutual
def dn (ρ : Nat → AV) (φ : Nat → List AV → AV) (ns : List (Nat × Node × Kd)) (ls : List (Nat × Nat)) : Nat → SV → Option AV
 | 0, _ => none
 | f + 1, v => match v with
  | .lit a => some a
  | .nd i _ => match findA i ns with
   | some (n, _) => match n with
    | .atom j => some (ρ j)
    | .bin op x y => match dn ρ φ ns ls f x, dn ρ φ ns ls f y with
     | some a, some b => binA op a b
     | _, _ => none
    | .un op x => match dn ρ φ ns ls f x with
     | some a => unA op a
     | none => none
    | .conv c x => match dn ρ φ ns ls f x with
     | some a => convD c a
     | none => none
    | .mm m x y => match dn ρ φ ns ls f x, dn ρ φ ns ls f y with
     | some a, some b => mmA m a b
     | _, _ => none
    | .eqB x y => match dn ρ φ ns ls f x, dn ρ φ ns ls f y with
     | some (.bool a), some (.bool b) => some (.bool (a == b))
     | _, _ => none
    | .app g xs => match dnL ρ φ ns ls f xs with
     | some as => some (φ g as)
     | none => none
    | .bits x => match dn ρ φ ns ls f x with
     | some (.flt .f32 c) => some (bits32 c)
     | _ => none
   | none => none
  | .agg cs => (dnL ρ φ ns ls f cs).map .agg
  | .tup cs => (dnL ρ φ ns ls f cs).map .tuple
  | .ptr j off => match ls[j]? with
   | some (l, o) => some (.ptr l (o + off))
   | none => none
  | .sl j off len cap sz => match ls[j]? with
   | some (l, o) => some (.slice l (o + off) len cap sz)
   | none => none
  | .fn g a b => match dnL ρ φ ns ls f a, dnL ρ φ ns ls f b with
   | some xs, some ys => some (.func g xs ys)
   | _, _ => none
  | .ifc t v => (dn ρ φ ns ls f v).map (AV.iface t)
def dnL (ρ : Nat → AV) (φ : Nat → List AV → AV) (ns : List (Nat × Node × Kd)) (ls : List (Nat × Nat)) : Nat → List SV → Option (List AV)
 | 0, _ => none
 | f + 1, vs => match vs with
  | [] => some []
  | v :: rest => match dn ρ φ ns ls f v, dnL ρ φ ns ls f rest with
   | some a, some as => some (a :: as)
   | _, _ => none
end
section
variable {c : Cx} {s : St} {vs : List AV} {ls : List (Nat × Nat)} {H : AHeap} {E : Env}
mutual
theorem dn_of (h : In c s vs ls H) {ls0 : List (Nat × Nat)} (hl : LeL ls0 ls) : ∀ (f : Nat) {v : SV} {a b : AV}, D vs ls v a → dn c.ρ c.φ s.ns ls0 f v = some b → a = b
 | 0, v, a, b, _, e => by simp [dn] at e
 | f + 1, v, a, b, hd, e => by
  have ih : ∀ {v : SV} {a b : AV}, D vs [] v a → dn c.ρ c.φ s.ns ls0 f v = some b → a = b := fun hd e => dn_of h hl f (hd.mono (LeL.refl _) (fun i x h => by simp at h)) e
  have ihL : ∀ {v : List SV} {a b : List AV}, DL vs [] v a → dnL c.ρ c.φ s.ns ls0 f v = some b → a = b := fun hd e => dnL_of h hl f (hd.mono (LeL.refl _) (fun i x h => by simp at h)) e
  cases v with
  | lit x => simp only [dn, Option.some.injEq] at e; simp only [D] at hd; rw [hd.1, e]
  | nd i kd =>
   simp only [dn] at e
   simp only [D] at hd
   split at e
   ·
    rename_i n kd2 hf
    obtain ⟨w, w1, w2, _⟩ := h.ok.ns _ _ _ (findA_mem hf)
    rw [hd.1] at w1
    cases w1
    cases n with
    | atom j => simp only [Option.some.injEq] at e; rw [← e]; exact w2.symm
    | bin op x y =>
     obtain ⟨p, q, d1, d2, d3⟩ := w2
     simp only [] at e
     split at e
     ·
      rename_i a' b' h1 h2
      rw [ih d1 h1, ih d2 h2, e] at d3
      exact (Option.some.inj d3).symm
     ·
      cases e
    | un op x =>
     obtain ⟨p, d1, d3⟩ := w2
     simp only [] at e
     split at e
     ·
      rename_i a' h1
      rw [ih d1 h1, e] at d3
      exact (Option.some.inj d3).symm
     ·
      cases e
    | conv cv x =>
     obtain ⟨p, d1, d3⟩ := w2
     simp only [] at e
     split at e
     ·
      rename_i a' h1
      rw [ih d1 h1] at d3
      exact convD_of d3 e
     ·
      cases e
    | mm m x y =>
     obtain ⟨p, q, d1, d2, d3⟩ := w2
     simp only [] at e
     split at e
     ·
      rename_i a' b' h1 h2
      rw [ih d1 h1, ih d2 h2, e] at d3
      exact (Option.some.inj d3).symm
     ·
      cases e
    | eqB x y =>
     obtain ⟨p, q, d1, d2, d3⟩ := w2
     simp only [] at e
     split at e
     ·
      rename_i a' b' h1 h2
      have e1 := ih d1 h1
      have e2 := ih d2 h2
      cases e1
      cases e2
      rw [d3]
      exact Option.some.inj e
     ·
      cases e
    | app g xs =>
     obtain ⟨ps, d1, d3⟩ := w2
     simp only [] at e
     split at e
     ·
      rename_i as h1
      rw [ihL d1 h1] at d3
      rw [← d3]
      exact Option.some.inj e
     ·
      cases e
    | bits x =>
     obtain ⟨p, d1, d3⟩ := w2
     simp only [] at e
     split at e
     ·
      rename_i a' h1
      have e1 := ih d1 h1
      cases e1
      rw [d3]
      exact Option.some.inj e
     ·
      cases e
   ·
    cases e
  | agg cs =>
   simp only [dn, Option.map_eq_some_iff] at e
   obtain ⟨as, e1, rfl⟩ := e
   simp only [D] at hd
   obtain ⟨bs, rfl, hd⟩ := hd
   rw [dnL_of h hl f hd e1]
  | tup cs =>
   simp only [dn, Option.map_eq_some_iff] at e
   obtain ⟨as, e1, rfl⟩ := e
   simp only [D] at hd
   obtain ⟨bs, rfl, hd⟩ := hd
   rw [dnL_of h hl f hd e1]
  | ptr j off =>
   simp only [dn] at e
   simp only [D] at hd
   obtain ⟨l, o, hj, rfl⟩ := hd
   split at e
   ·
    rename_i l' o' h1
    rw [hl _ _ h1] at hj
    cases hj
    exact Option.some.inj e
   ·
    cases e
  | sl j off len cap sz =>
   simp only [dn] at e
   simp only [D] at hd
   obtain ⟨l, o, hj, rfl⟩ := hd
   split at e
   ·
    rename_i l' o' h1
    rw [hl _ _ h1] at hj
    cases hj
    exact Option.some.inj e
   ·
    cases e
  | fn g x y =>
   simp only [dn] at e
   simp only [D] at hd
   obtain ⟨xs, ys, rfl, d1, d2⟩ := hd
   split at e
   ·
    rename_i as bs h1 h2
    rw [dnL_of h hl f d1 h1, dnL_of h hl f d2 h2]
    exact Option.some.inj e
   ·
    cases e
  | ifc t v =>
   simp only [dn, Option.map_eq_some_iff] at e
   obtain ⟨x, e1, rfl⟩ := e
   simp only [D] at hd
   obtain ⟨y, rfl, hd⟩ := hd
   rw [dn_of h hl f hd e1]
theorem dnL_of (h : In c s vs ls H) {ls0 : List (Nat × Nat)} (hl : LeL ls0 ls) : ∀ (f : Nat) {v : List SV} {a b : List AV}, DL vs ls v a → dnL c.ρ c.φ s.ns ls0 f v = some b → a = b
 | 0, v, a, b, _, e => by simp [dnL] at e
 | f + 1, v, a, b, hd, e => by
  cases v with
  | nil => simp only [dnL, Option.some.injEq] at e; simp only [DL] at hd; rw [hd, e]
  | cons x rest =>
   simp only [dnL] at e
   simp only [DL] at hd
   obtain ⟨p, ps, rfl, h1, h2⟩ := hd
   split at e
   ·
    rename_i a' as' g1 g2
    cases e
    rw [dn_of h hl f h1 g1, dnL_of h hl f h2 g2]
   ·
    cases e
end
theorem env_of (h : In c s vs ls H) (hE : EnvOk s.env vs ls E) (t : Nat) {a : AV} (e : (findA t s.env).bind (dn c.ρ c.φ s.ns c.ls 100) = some a) : E t = a := by
 rw [Option.bind_eq_some_iff] at e
 obtain ⟨v, h1, h2⟩ := e
 exact dn_of h h.lel 100 (hE t v h1) h2
theorem fact_of (h : In c s vs ls H) (k : Nat) {a : AV} {b : Bool} (e : (s.facts[k]?).bind (fun p => (dn c.ρ c.φ s.ns c.ls 100 (.nd p.1 .bool)).map fun x => (x, p.2)) = some (a, b)) : a = .bool b := by
 rw [Option.bind_eq_some_iff] at e
 obtain ⟨p, h1, h2⟩ := e
 rw [Option.map_eq_some_iff] at h2
 obtain ⟨x, h2, h3⟩ := h2
 cases h3
 have hp := h.ok.facts p.1 p.2 (List.mem_of_getElem? h1)
 exact (dn_of h h.lel 100 (v := .nd p.1 .bool) (a := .bool p.2) (by simp only [D]; exact ⟨hp, _, rfl⟩) h2).symm
theorem bfact (h : In c s vs ls H) (k : Nat) {x b : Bool} (e : (s.facts[k]?).bind (fun p => (dn c.ρ c.φ s.ns c.ls 100 (.nd p.1 .bool)).map fun x => (x, p.2)) = some (.bool x, b)) : x = b := by
 have := fact_of h k e
 cases this; rfl
theorem res_of (h : In c s vs ls H) (hE : EnvOk s.env vs ls E) {rs : List ARes} {a : AV} (e : (sres rs s).bind (dn c.ρ c.φ s.ns c.ls 100) = some a) : aresults rs E H = some a := by
 rw [Option.bind_eq_some_iff] at e
 obtain ⟨v, h1, h2⟩ := e
 obtain ⟨x, x1, x2⟩ := sres_of h hE h1
 rw [x1, dn_of h h.lel 100 x2 h2]

theorem end_flat (h : In c s vs ls H) (hE : EnvOk s.env vs ls E) {rs : List ARes} {a : AV} {H0 : AHeap} {R : AV → AHeap → Prop} {e : AExit} (he : e = .normal ∨ e = .ret) (hr : (sres rs s).bind (dn c.ρ c.φ s.ns c.ls 100) = some a) (hg : Grew H0 H) (hf : a.flat = true) (hR : R a H0) : endK rs H0 R e E H := by
  rcases he with rfl | rfl
  · exact ⟨a, res_of h hE hr, fin_flat hg hf hR⟩
  · exact ⟨a, res_of h hE hr, fin_flat hg hf hR⟩
end
/-! ### Beginnings in the middle -/
structure Win where
  l : Nat
  b : Nat
  cs : List SV
  wr : Bool
def winHeap : Nat → List Win → List (Nat × List SV × Bool)
 | _, [] => []
 | j, w :: ws => (j, w.cs, w.wr) :: winHeap (j + 1) ws
def winLs (ws : List Win) : List (Nat × Nat) := ws.map fun w => (w.l, w.b)
def midCx (P : Program) (φ : Nat → List AV → AV) (xs : List AV) (ws : List Win) (H : AHeap) (fl : Nat) (ru : List (RK × SV)) : Cx := ⟨P, atomsOf xs, φ, xs, winLs ws, H, fl, ru⟩

def WinOk (H : AHeap) (xs : List AV) (ls : List (Nat × Nat)) (w : Win) : Prop := ∃ pre ds post wr', H.get w.l = some (.row (pre ++ (ds ++ post)) wr') ∧ pre.length = w.b ∧ DL xs ls w.cs ds ∧ (w.wr = true → wr' = true ∧ pre = [] ∧ post = [])

theorem winHeap_find : ∀ {ws : List Win} {j0 j : Nat} {cs : List SV} {wr : Bool}, findA j (winHeap j0 ws) = some (cs, wr) → ∃ w, ws[j - j0]? = some w ∧ j0 ≤ j ∧ w.cs = cs ∧ w.wr = wr
 | [], _, _, _, _, h => by cases h
 | w :: ws, j0, j, cs, wr, h => by
  simp only [winHeap] at h
  rw [findA_cons] at h
  split at h
  ·
   rename_i e
   subst e
   cases h
   exact ⟨w, by simp, Nat.le_refl _, rfl, rfl⟩
  ·
   obtain ⟨w', h1, h2, h3, h4⟩ := winHeap_find h
   refine ⟨w', ?_, by omega, h3, h4⟩
   rw [show j - j0 = (j - (j0 + 1)) + 1 by omega]
   simpa using h1

instance : Inhabited St := ⟨⟨[], 0, [], [], 0, [], 0⟩⟩
instance : Inhabited Pt := ⟨.ex .normal⟩
theorem all_get {α : Type} [Inhabited α] {L : List α} {Φ : α → Prop} (n : Nat) (hn : L.length = n) (h : ∀ i, i < n → Φ (L.getD i default)) : ∀ p ∈ L, Φ p := by
 intro p hp
 obtain ⟨i, hi, rfl⟩ := List.getElem_of_mem hp
 have := h i (by omega)
 rw [List.getD_eq_getElem?_getD, List.getElem?_eq_getElem hi] at this
 exact this
theorem all1 {α : Type} [Inhabited α] {L : List α} {Φ : α → Prop} (hn : L.length = 1) (h0 : Φ (L.getD 0 default)) : ∀ p ∈ L, Φ p :=
 all_get 1 hn fun i hi => by
  obtain rfl : i = 0 := by omega
  exact h0
theorem all2 {α : Type} [Inhabited α] {L : List α} {Φ : α → Prop} (hn : L.length = 2) (h0 : Φ (L.getD 0 default)) (h1 : Φ (L.getD 1 default)) : ∀ p ∈ L, Φ p :=
  all_get 2 hn fun i hi => by
    rcases i with _ | _ | i
    · exact h0
    · exact h1
    · omega
theorem all3 {α : Type} [Inhabited α] {L : List α} {Φ : α → Prop} (hn : L.length = 3) (h0 : Φ (L.getD 0 default)) (h1 : Φ (L.getD 1 default)) (h2 : Φ (L.getD 2 default)) : ∀ p ∈ L, Φ p :=
  all_get 3 hn fun i hi => by
    rcases i with _ | _ | _ | i
    · exact h0
    · exact h1
    · exact h2
    · omega
theorem all4 {α : Type} [Inhabited α] {L : List α} {Φ : α → Prop} (hn : L.length = 4) (h0 : Φ (L.getD 0 default)) (h1 : Φ (L.getD 1 default)) (h2 : Φ (L.getD 2 default)) (h3 : Φ (L.getD 3 default)) : ∀ p ∈ L, Φ p :=
  all_get 4 hn fun i hi => by
    rcases i with _ | _ | _ | _ | i
    · exact h0
    · exact h1
    · exact h2
    · exact h3
    · omega
theorem all5 {α : Type} [Inhabited α] {L : List α} {Φ : α → Prop} (hn : L.length = 5) (h0 : Φ (L.getD 0 default)) (h1 : Φ (L.getD 1 default)) (h2 : Φ (L.getD 2 default)) (h3 : Φ (L.getD 3 default)) (h4 : Φ (L.getD 4 default)) : ∀ p ∈ L, Φ p :=
  all_get 5 hn fun i hi => by
    rcases i with _ | _ | _ | _ | _ | i
    · exact h0
    · exact h1
    · exact h2
    · exact h3
    · exact h4
    · omega

theorem all6 {α : Type} [Inhabited α] {L : List α} {Φ : α → Prop} (hn : L.length = 6) (h0 : Φ (L.getD 0 default)) (h1 : Φ (L.getD 1 default)) (h2 : Φ (L.getD 2 default)) (h3 : Φ (L.getD 3 default)) (h4 : Φ (L.getD 4 default)) (h5 : Φ (L.getD 5 default)) : ∀ p ∈ L, Φ p :=
  all_get 6 hn fun i hi => by
    rcases i with _ | _ | _ | _ | _ | _ | i
    · exact h0
    · exact h1
    · exact h2
    · exact h3
    · exact h4
    · exact h5
    · omega
def ptLoop : Pt → ACode
 | .code (.loop a) _ => a
 | _ => .skip
def ptFr : Pt → List Fr
 | .code _ fr => fr
 | .ops _ fr => fr
 | .mixq _ _ fr => fr
 | .kids _ fr => fr
 | _ => []
theorem res_loop {P : Program} {o : Pt} {Q : AExit → Env → AHeap → Prop} {E : Env} {H : AHeap} (ho : o = .code (.loop (ptLoop o)) (ptFr o)) (I : Nat → Env → AHeap → Prop) (n : Nat) (h : I n E H)
  (hb : ∀ m E H, I m E H → Res P (.code (ptLoop o) []) (loopK (fun E' H' => ∃ k, k < m ∧ I k E' H') (konts P (ptFr o) Q)) E H) : Res P o Q E H := by
 rw [ho]
 exact ax_loop I n h hb
theorem res_ex {P : Program} {o : Pt} {e : AExit} (ho : o = .ex e) {Q : AExit → Env → AHeap → Prop} {E : Env} {H : AHeap} (h : Q e E H) : Res P o Q E H := by rw [ho]; exact h
end Go.Ab
end
/- Two functions that give the same; what a small heap tells of a great one. -/
section
namespace Go.Ab
theorem Sim.keep {F : Nat → Prop} {μ : Mu} {H : AHeap} {w w' : World} (hs : Sim F μ H w) (hk : Keeps (fun b => w.heap.size ≤ b) w w') : Sim F μ H w' := by
 have same : ∀ b, b < w.heap.size → w'.heap[b]? = w.heap[b]? := fun b hb => hk.block b hb (by omega)
 refine ⟨fun l li h => ⟨(hs.dom l li h).1, Nat.lt_of_lt_of_le (hs.dom l li h).2 hk.size⟩, ?_, ?_, hs.sep, hs.may, fun b hb => hs.fresh b (Nat.le_trans hk.size hb)⟩
 ·
  intro l li cs wr hg hm
  obtain ⟨c, e, lo, hi, h1, h2⟩ := hs.row l li cs wr hg hm
  exact ⟨c, e, lo, hi, by rw [same _ (hs.dom l li hm).2]; exact h1, h2⟩
 ·
  intro l li es hg hm
  obtain ⟨ms, ck, h1, h2⟩ := hs.mp l li es hg hm
  exact ⟨ms, ck, by rw [same _ (hs.dom l li hm).2]; exact h1, h2⟩

def smallH (rows : List (List AV)) : AHeap := ⟨rows.length, fun l => (rows[l]?).map fun cs => .row cs false, fun l h => by rw [List.getElem?_eq_none h]; rfl⟩

def Lies (H : AHeap) (rows : List (List AV)) (locs : List (Nat × Nat)) : Prop := ∀ (j : Nat) (cs : List AV) (l off : Nat), rows[j]? = some cs → locs[j]? = some (l, off) → flatL cs = true ∧ ∃ pre post wr, H.get l = some (.row (pre ++ (cs ++ post)) wr) ∧ pre.length = off

inductive ARel (n : Nat) (locs : List (Nat × Nat)) : AV → AV → Prop where
  | flat {a : AV} (h : a.flat = true) : ARel n locs a a
  | ptr {j l off : Nat} (h : locs[j]? = some (l, off)) (hn : j < n) : ARel n locs (.ptr j 0) (.ptr l off)
inductive ARelL (n : Nat) (locs : List (Nat × Nat)) : List AV → List AV → Prop where
  | nil : ARelL n locs [] []
  | cons {a b : AV} {as bs : List AV} (h : ARel n locs a b) (t : ARelL n locs as bs) : ARelL n locs (a :: as) (b :: bs)
theorem R.of_flat {μ μ' : Mu} {a : AV} {v : Value} (hf : a.flat = true) (h : R μ a v) : R μ' a v := h.agree (p := fun _ => False) (fun l li hl _ => hl.elim) (on_of_flat hf)

theorem APure.frame {P : Program} {f : FuncId} {rows : List (List AV)} {args args' : List AV} {r : AV} (h : APure P f args (smallH rows) r) (hr : r.flat = true) {H : AHeap} {locs : List (Nat × Nat)} (hl : Lies H rows locs) (ha : ARelL rows.length locs args args') : APure P f args' H r := by
 intro F μ w vs hs hv
 let μ1 : Mu := fun j => match rows[j]?, locs[j]? with
  | some cs, some (l, off) => (μ l).map fun li => ⟨li.blk, li.base + off, cs.length⟩
  | _, _ => none
 have at1 : ∀ j li1, μ1 j = some li1 → ∃ cs l off li, rows[j]? = some cs ∧ locs[j]? = some (l, off) ∧ μ l = some li ∧ li1 = ⟨li.blk, li.base + off, cs.length⟩ := by
  intro j li1 hj
  simp only [μ1] at hj
  split at hj
  ·
   rename_i cs l off h1 h2
   rw [Option.map_eq_some_iff] at hj
   obtain ⟨li, h3, rfl⟩ := hj
   exact ⟨cs, l, off, li, h1, h2, h3, rfl⟩
  ·
   cases hj
 have hs1 : Sim (fun b => w.heap.size ≤ b) μ1 (smallH rows) w := by
  refine ⟨?_, ?_, ?_, ?_, ?_, fun b hb => hb⟩
  ·
   intro j li1 hj
   obtain ⟨cs, l, off, li, h1, _, h3, rfl⟩ := at1 j li1 hj
   refine ⟨?_, (hs.dom l li h3).2⟩
   rcases Nat.lt_or_ge j rows.length with h' | h'
   ·
    exact h'
   ·
    rw [List.getElem?_eq_none h'] at h1; cases h1
  ·
   intro j li1 cs' wr hg hj
   obtain ⟨cs, l, off, li, h1, h2, h3, rfl⟩ := at1 j li1 hj
   simp only [smallH, h1, Option.map_some, Option.some.injEq, HB.row.injEq] at hg
   obtain ⟨rfl, rfl⟩ := hg
   obtain ⟨hfl, pre, post, wr', g1, g2⟩ := hl j cs l off h1 h2
   obtain ⟨c, e, lo, hi, k1, k2, k3, k4, k5⟩ := hs.row l li _ _ g1 h3
   simp only [List.length_append] at k3
   refine ⟨c, e, lo, hi, k1, by simp only; omega, Nat.le_refl _, ?_, fun hw => by cases hw⟩
   intro i a hi'
   have hil : i < cs.length := by
    rcases Nat.lt_or_ge i cs.length with h' | h'
    ·
     exact h'
    ·
     rw [List.getElem?_eq_none h'] at hi'; cases hi'
   obtain ⟨u, u1, u2⟩ := k4 (off + i) a (by rw [List.getElem?_append_right (by omega), List.getElem?_append_left (by omega), show off + i - pre.length = i by omega]; exact hi')
   refine ⟨u, by simp only; rw [Nat.add_assoc]; exact u1, R.of_flat ?_ u2⟩
   have : ∀ {l : List AV}, flatL l = true → ∀ a ∈ l, a.flat = true := by
    intro l
    induction l with
    | nil => intro _ a ha; cases ha
    | cons b l ih =>
     intro h a ha
     simp only [flatL, Bool.and_eq_true] at h
     rcases List.mem_cons.1 ha with rfl | ha
     ·
      exact h.1
     ·
      exact ih h.2 a ha
   exact this hfl a (List.mem_of_getElem? hi')
  ·
   intro j li1 es hg hj
   obtain ⟨cs, l, off, li, h1, _⟩ := at1 j li1 hj
   simp [smallH, h1] at hg
  ·
   intro j j' b b' li li' _ hg hw
   simp only [smallH, Option.map_eq_some_iff] at hg
   obtain ⟨cs, _, rfl⟩ := hg
   cases hw
  ·
   intro j b li hg hw
   simp only [smallH, Option.map_eq_some_iff] at hg
   obtain ⟨cs, _, rfl⟩ := hg
   cases hw
 have hv1 : RL μ1 args vs := by
  have key : ∀ {as bs : List AV} {us : List Value}, ARelL rows.length locs as bs → RL μ bs us → RL μ1 as us := by
   intro as bs us hab
   induction hab generalizing us with
   | nil => intro h; rw [h.nil_inv]; exact RL.nil
   | @cons a b as bs h1 _ ih =>
    intro h
    obtain ⟨u, us', rfl, h2, h3⟩ := h.cons_inv
    refine RL.cons ?_ (ih h3)
    cases h1 with
    | flat hf => exact h2.of_flat hf
    | @ptr j l off hj hjl =>
     cases h2 with
     | @ptr _ _ li a hm ha =>
      subst ha
      refine .ptr (li := ⟨li.blk, li.base + off, (rows[j]).length⟩) ?_ (by simp)
      simp only [μ1, List.getElem?_eq_getElem hjl, hj, hm, Option.map_some]
  exact key ha hv
 refine (h _ μ1 w vs hs1 hv1).mono ?_
 rintro v w' ⟨μ', r', H', ⟨rfl, rfl⟩, _, _, _, h4, h5⟩
 exact ⟨μ, r', H, ⟨rfl, rfl⟩, Nat.le_refl _, Mu.ext_refl _ _, hs.keep h5, h4.of_flat hr, h5.mono hs.fresh⟩

inductive ShT where
  | k (kd : Kd)
  | agg (ks : List Kd)
  | tup (ss : List ShT)
inductive HasSh : ShT → AV → Prop where
  | k {kd : Kd} {a : AV} (h : HasKd kd a) : HasSh (.k kd) a
  | agg {ks : List Kd} {as : List AV} (h : KdsL ks as) : HasSh (.agg ks) (.agg as)
  | tup0 : HasSh (.tup []) (.tuple [])
  | tup {s : ShT} {ss : List ShT} {a : AV} {as : List AV} (h : HasSh s a) (t : HasSh (.tup ss) (.tuple as)) : HasSh (.tup (s :: ss)) (.tuple (a :: as))
end Go.Ab
end
/- Symbolic execution: walks of loops over slices. -/
section
namespace Go.Ab
/-! ### Functions over plain arguments -/
inductive GK : List (Bool × List Kd) → List (Bool × List AV) → Prop where
  | nil : GK [] []
  | cons {b : Bool} {ks : List Kd} {cs : List AV} {gk : List (Bool × List Kd)} {gv : List (Bool × List AV)} (h : KdsL ks cs) (t : GK gk gv) : GK ((b, ks) :: gk) ((b, cs) :: gv)
/-! ### The middle, with nodes that are given -/
def nsOf : Nat → List (Node × Kd) → List (Nat × Node × Kd)
 | _, [] => []
 | i, (n, k) :: rest => (i, n, k) :: nsOf (i + 1) rest
def midN (nk : List (Node × Kd)) (fs : List (Nat × Bool)) (env : List (Nat × SV)) (ws : List Win) : St := ⟨nsOf 0 nk, nk.length, env, winHeap 0 ws, ws.length, fs, ws.length⟩
inductive FaL (xs : List AV) : List (Nat × Bool) → Prop where
  | nil : FaL xs []
  | cons {i : Nat} {b : Bool} {fs : List (Nat × Bool)} (h : xs[i]? = some (.bool b)) (t : FaL xs fs) : FaL xs ((i, b) :: fs)
theorem FaL.mem {xs : List AV} {fs : List (Nat × Bool)} (h : FaL xs fs) : ∀ i b, (i, b) ∈ fs → xs[i]? = some (.bool b) := by
 induction h with
 | nil => intro i b h; cases h
 | cons h _ ih =>
  intro i b hw
  rcases List.mem_cons.1 hw with e | hw
  ·
   cases e; exact h
  ·
   exact ih i b hw
inductive NkL (ρ : Nat → AV) (φ : Nat → List AV → AV) (vs : List AV) : List (Node × Kd) → List AV → Prop where
  | nil : NkL ρ φ vs [] []
  | cons {n : Node} {kd : Kd} {v : AV} {nk : List (Node × Kd)} {xs : List AV} (h : NodeOk ρ φ vs n v) (k : HasKd kd v) (t : NkL ρ φ vs nk xs) : NkL ρ φ vs ((n, kd) :: nk) (v :: xs)
theorem NkL.len {ρ : Nat → AV} {φ : Nat → List AV → AV} {vs : List AV} {nk : List (Node × Kd)} {xs : List AV} (h : NkL ρ φ vs nk xs) : nk.length = xs.length := by
 induction h with
 | nil => rfl
 | cons _ _ _ ih => simp [ih]
theorem NkL.at {ρ : Nat → AV} {φ : Nat → List AV → AV} {vs : List AV} {nk : List (Node × Kd)} {xs : List AV} (h : NkL ρ φ vs nk xs) : ∀ (j : Nat), (∀ i, vs[j + i]? = xs[i]?) → ∀ i n kd, (i, n, kd) ∈ nsOf j nk → ∃ v, vs[i]? = some v ∧ NodeOk ρ φ vs n v ∧ HasKd kd v := by
 induction h with
 | nil => intro j _ i n kd h; cases h
 | @cons n0 kd0 v0 nk xs h1 h2 t ih =>
  intro j hj i n kd hm
  simp only [nsOf] at hm
  rcases List.mem_cons.1 hm with e | hm
  ·
   cases e
   have := hj 0
   simp at this
   exact ⟨v0, this, h1, h2⟩
  ·
   exact ih (j + 1) (fun i => by have := hj (i + 1); rw [show j + 1 + i = j + (i + 1) by omega, this]; simp) i n kd hm

inductive WinL (H : AHeap) (xs : List AV) (ls : List (Nat × Nat)) : List Win → Prop where
  | nil : WinL H xs ls []
  | cons {w : Win} {ws : List Win} (h : WinOk H xs ls w) (t : WinL H xs ls ws) : WinL H xs ls (w :: ws)
theorem WinL.mem {H : AHeap} {xs : List AV} {ls : List (Nat × Nat)} {ws : List Win} (h : WinL H xs ls ws) : ∀ w ∈ ws, WinOk H xs ls w := by
 induction h with
 | nil => intro w hw; cases hw
 | cons h _ ih =>
  intro w hw
  rcases List.mem_cons.1 hw with rfl | hw
  ·
   exact h
  ·
   exact ih w hw
inductive RuL (c : Cx) : List (RK × SV) → Prop where
  | nil : RuL c []
  | cons {k : RK} {v : SV} {ru : List (RK × SV)} (h : RuleOk c k v) (t : RuL c ru) : RuL c ((k, v) :: ru)
theorem RuL.mem {c : Cx} {ru : List (RK × SV)} (h : RuL c ru) : ∀ k v, (k, v) ∈ ru → RuleOk c k v := by
 induction h with
 | nil => intro k v hw; cases hw
 | cons h _ ih =>
  intro k v hw
  rcases List.mem_cons.1 hw with e | hw
  ·
   cases e; exact h
  ·
   exact ih k v hw

def sepOk : List Win → Prop
 | [] => True
 | w :: ws => (∀ v ∈ ws, w.wr = true ∨ v.wr = true → w.l ≠ v.l) ∧ sepOk ws
theorem sepOk_of : ∀ {ws : List Win}, sepOk ws → ∀ (i j : Nat) (a b : Win), ws[i]? = some a → ws[j]? = some b → a.wr = true → a.l = b.l → i = j
 | [], _, i, j, a, b, h, _, _, _ => by simp at h
 | w :: ws, hs, 0, 0, a, b, _, _, _, _ => rfl
 | w :: ws, hs, 0, j + 1, a, b, h1, h2, h3, h4 => by
  simp at h1 h2
  subst h1
  exact absurd h4 (hs.1 b (List.mem_of_getElem? h2) (.inl h3))
 | w :: ws, hs, i + 1, 0, a, b, h1, h2, h3, h4 => by
  simp at h1 h2
  subst h2
  exact absurd h4.symm (hs.1 a (List.mem_of_getElem? h1) (.inr h3))
 | w :: ws, hs, i + 1, j + 1, a, b, h1, h2, h3, h4 => by
  simp at h1 h2
  rw [sepOk_of hs.2 i j a b h1 h2 h3 h4]

theorem midN_in {P : Program} {φ : Nat → List AV → AV} {nk : List (Node × Kd)} {fs : List (Nat × Bool)} {xs : List AV} {ws : List Win} {H : AHeap} {fl : Nat} {ru : List (RK × SV)} (hk : NkL (atomsOf xs) φ xs nk xs) (hfs : FaL xs fs) (env : List (Nat × SV)) (hw : WinL H xs (winLs ws) ws)
  (hs : sepOk ws) (hr : RuL (midCx P φ xs ws H fl ru) ru) : In (midCx P φ xs ws H fl ru) (midN nk fs env ws) xs (winLs ws) H := by
 refine ⟨⟨hk.len, hk.at 0 (fun i => by rw [Nat.zero_add]), hfs.mem, ?_, ?_, ?_, ?_⟩, LeL.refl _, LeL.refl _, Kept.refl _ _ _, ?_, hr.mem⟩
 ·
  simp [midN, winLs]
 ·
  intro i j l b b' cs hf h1 h2
  obtain ⟨w, w1, _, _, w4⟩ := winHeap_find hf
  simp only [winLs, List.getElem?_map, Option.map_eq_some_iff] at h1 h2
  obtain ⟨a1, a2, a3⟩ := h1
  obtain ⟨b1, b2, b3⟩ := h2
  rw [Nat.sub_zero, a2] at w1
  cases w1
  have e1 : w.l = l := congrArg Prod.fst a3
  have e2 : b1.l = l := congrArg Prod.fst b3
  exact sepOk_of hs i j _ _ a2 b2 w4 (by rw [e1, e2])
 ·
  intro l b hl
  obtain ⟨w, hw1, hw2⟩ := List.mem_map.1 hl
  cases hw2
  obtain ⟨pre, ds, post, wr', h1, _⟩ := hw.mem w hw1
  exact H.lt_of_get h1
 ·
  intro j cs wr hf
  obtain ⟨w, w1, _, rfl, rfl⟩ := winHeap_find hf
  rw [Nat.sub_zero] at w1
  obtain ⟨pre, ds, post, wr', h1, h2, h3, h4⟩ := hw.mem w (List.mem_of_getElem? w1)
  exact ⟨w.l, w.b, pre, ds, post, wr', by simp [winLs, w1], h1, h2, h3, h4⟩
 ·
  intro j l b hj e
  have hj' : (winLs ws).length ≤ j := hj
  rw [List.getElem?_eq_none hj'] at e; cases e

theorem run_mn {P : Program} {φ : Nat → List AV → AV} {nk : List (Node × Kd)} {fs : List (Nat × Bool)} {xs : List AV} {ws : List Win} {H : AHeap} {E : Env} {pm : Pm} (d : Nat) {o : Pt} {Q : AExit → Env → AHeap → Prop} {env : List (Nat × SV)}
  (hin : In (midCx P φ xs ws H pm.fl pm.ru) (midN nk fs env ws) xs (winLs ws) H) (hE : EnvOk env xs (winLs ws) E) (htb : TbOk P pm.tb) (hap : ApOk P φ pm.ap)
  (h : ∀ p ∈ sxGo (sxCall pm d) pm o (midN nk fs env ws), ∀ vs ls H' E', Step (midCx P φ xs ws H pm.fl pm.ru) (midN nk fs env ws) xs (winLs ws) H p.2 vs ls H' → EnvOk p.2.env vs ls E' → Res P p.1 Q E' H') : Res P o Q E H := by
 obtain ⟨p, hp, vs', ls', H', E', g1, g2, g3⟩ := sxGo_ends (call_ok (c := midCx P φ xs ws H pm.fl pm.ru) (pm := pm) rfl rfl htb hap d) rfl rfl o hin hE
 exact g3 Q (h p hp vs' ls' H' E' g1 g2)

section
variable {xs : List AV} {ls : List (Nat × Nat)} {E : Env} {env : List (Nat × SV)}
theorem envNil : EnvOk [] xs ls E := fun t v h => by cases h
theorem envCons {t : Nat} {v : SV} (h : D xs ls v (E t)) (k : EnvOk env xs ls E) : EnvOk ((t, v) :: env) xs ls E := by
 intro u w e
 rw [findA_cons] at e
 split at e
 ·
  rename_i hu; subst hu; cases e; exact h
 ·
  exact k u w e
theorem envNd {t i : Nat} {kd : Kd} {a : AV} (h : E t = a) (hx : xs[i]? = some a) (hk : HasKd kd a) (k : EnvOk env xs ls E) : EnvOk ((t, .nd i kd) :: env) xs ls E :=
 envCons (by simp only [D]; rw [h]; exact ⟨hx, hk⟩) k
theorem dNd {i : Nat} {kd : Kd} {a : AV} (hx : xs[i]? = some a) (hk : HasKd kd a) : D xs ls (.nd i kd) a := by simp only [D]; exact ⟨hx, hk⟩
theorem dLit {a : AV} (ho : litOk a = true) : D xs ls (.lit a) a := by unfold D; exact ⟨rfl, ho⟩
theorem dPtr {j off l o : Nat} (hl : ls[j]? = some (l, o)) : D xs ls (.ptr j off) (.ptr l (o + off)) := by simp only [D]; exact ⟨l, o, hl, rfl⟩
theorem dlNil : DL xs ls [] [] := by simp only [DL]
theorem dlCons {v : SV} {a : AV} {ws : List SV} {as : List AV} (h : D xs ls v a) (t : DL xs ls ws as) : DL xs ls (v :: ws) (a :: as) := by simp only [DL]; exact ⟨a, as, rfl, h, t⟩
theorem dAgg {ws : List SV} {as : List AV} (t : DL xs ls ws as) : D xs ls (.agg ws) (.agg as) := by simp only [D]; exact ⟨as, rfl, t⟩
end
def SlotsOk (E : Env) (sl : List (Nat × AV)) : Prop := ∀ t a, (t, a) ∈ sl → E t = a
theorem SlotsOk.nil {E : Env} : SlotsOk E [] := fun t a h => by cases h
theorem SlotsOk.cons {E : Env} {t : Nat} {a : AV} {sl : List (Nat × AV)} (h : E t = a) (k : SlotsOk E sl) : SlotsOk E ((t, a) :: sl) := fun u b hb => by
  rcases List.mem_cons.1 hb with e | hb
  · cases e; exact h
  · exact k u b hb
theorem SlotsOk.head {E : Env} {t : Nat} {a : AV} {sl : List (Nat × AV)} (h : SlotsOk E ((t, a) :: sl)) : E t = a := h t a (by simp)
theorem SlotsOk.tail {E : Env} {t : Nat} {a : AV} {sl : List (Nat × AV)} (h : SlotsOk E ((t, a) :: sl)) : SlotsOk E sl := fun u b hb => h u b (by simp [hb])

theorem slots_of {c : Cx} {s : St} {vs : List AV} {ls : List (Nat × Nat)} {H : AHeap} {E : Env} (h : In c s vs ls H) (hE : EnvOk s.env vs ls E) : ∀ {sl : List (Nat × AV)}, (sl.map fun p => (findA p.1 s.env).bind (dn c.ρ c.φ s.ns c.ls 100)) = sl.map (fun p => some p.2) → SlotsOk E sl
 | [], _ => .nil
 | (t, a) :: sl, e => by
  simp only [List.map_cons, List.cons.injEq] at e
  exact .cons (env_of h hE t e.1) (slots_of h hE e.2)

theorem res_scan {P : Program} {o : Pt} {Q : AExit → Env → AHeap → Prop} {E : Env} {H H0 : AHeap} (ho : o = .code (.loop (ptLoop o)) (ptFr o)) (sl : List (Nat × AV)) (ti n : Nat) (Inv : Nat → Prop)
  (hs : SlotsOk E sl) (hi : E ti = .int .i64 ((0 : Nat) : Int)) (hg : Grew H0 H) (h0 : Inv 0)
  (hb : ∀ i, i ≤ n → Inv i → ∀ E H, SlotsOk E sl → E ti = .int .i64 (i : Int) → Grew H0 H → Res P (.code (ptLoop o) []) (loopK (fun E' H' => i < n ∧ SlotsOk E' sl ∧ E' ti = .int .i64 ((i + 1 : Nat) : Int) ∧ Grew H0 H' ∧ Inv (i + 1)) (konts P (ptFr o) Q)) E H) : Res P o Q E H := by
 refine res_loop ho (fun m E H => ∃ i, m + i = n ∧ SlotsOk E sl ∧ E ti = .int .i64 (i : Int) ∧ Grew H0 H ∧ Inv i) n ⟨0, by omega, hs, hi, hg, h0⟩ ?_
 rintro m E H ⟨i, hm, h1, h2, h3, h4⟩
 have := hb i (by omega) h4 E H h1 h2 h3
 refine aexec_mono (fun e E' H' h => ?_) this
 cases e with
 | normal => obtain ⟨k0, k1, k2, k3, k4⟩ := h; exact ⟨m - 1, by omega, i + 1, by omega, k1, k2, k3, k4⟩
 | exit id => exact h
 | ret => exact h

theorem wrap64 {i : Nat} (h : i < 4611686018427387904) : IntKind.i64.wrap ((i : Int) + 1) = ((i + 1 : Nat) : Int) := by
 rw [wrap_i64 (by omega) (by omega)]; omega

/-! ### Slices that hold records -/
inductive SlL (H : AHeap) (sz : Nat) (ms : List (List AV)) : AV → Prop where
  | nil (h : ms = []) : SlL H sz ms .nilslice
  | sl {l n cap : Nat} {rest : List AV} {wr : Bool} (hg : H.get l = some (.row (ms.flatten ++ rest) wr)) (hn : ms.length = n) (hc : n ≤ cap) : SlL H sz ms (.slice l 0 n cap sz)
theorem SlL.grew {H H' : AHeap} (g : Grew H H') {sz : Nat} {ms : List (List AV)} {a : AV} (h : SlL H sz ms a) : SlL H' sz ms a := by
 cases h with
 | nil h => exact .nil h
 | sl hg hn hc => exact .sl (g.at hg) hn hc
def Recs (ks : List Kd) (ms : List (List AV)) : Prop := ∀ m ∈ ms, KdsL ks m
theorem Recs.get {ks : List Kd} {ms : List (List AV)} (h : Recs ks ms) {i : Nat} (hi : i < ms.length) : KdsL ks ms[i] := h _ (List.getElem_mem hi)
theorem flat_split {sz : Nat} : ∀ {ms : List (List AV)} {i : Nat} (_ : ∀ m ∈ ms, m.length = sz) (hi : i < ms.length) (rest : List AV), ∃ pre post, ms.flatten ++ rest = pre ++ (ms[i] ++ post) ∧ pre.length = i * sz
 | [], i, _, hi, _ => by simp at hi
 | m :: ms, 0, _, _, rest => ⟨[], ms.flatten ++ rest, by simp, by simp⟩
 | m :: ms, i + 1, h, hi, rest => by
  obtain ⟨pre, post, h1, h2⟩ := flat_split (ms := ms) (i := i) (fun x hx => h x (by simp [hx])) (by simpa using hi) rest
  refine ⟨m ++ pre, post, ?_, ?_⟩
  ·
   simp only [List.flatten_cons, List.append_assoc, List.getElem_cons_succ]
   rw [h1]
  ·
   rw [List.length_append, h m (by simp), h2, Nat.succ_mul]; omega
theorem Recs.len {ks : List Kd} {ms : List (List AV)} (h : Recs ks ms) : ∀ m ∈ ms, m.length = ks.length := fun m hm => (h m hm).len.symm
theorem win_elem {H : AHeap} {ks : List Kd} {ms : List (List AV)} (hr : Recs ks ms) {l i sz : Nat} {rest : List AV} {wr : Bool} (hg : H.get l = some (.row (ms.flatten ++ rest) wr)) (hi : i < ms.length) (hsz : ks.length = sz) {xs : List AV} {ls : List (Nat × Nat)} {svs : List SV} (hd : DL xs ls svs ms[i]) :
  WinOk H xs ls ⟨l, i * sz, svs, false⟩ := by
 subst hsz
 obtain ⟨pre, post, h1, h2⟩ := flat_split hr.len hi rest
 exact ⟨pre, ms[i], post, wr, by rw [hg, h1], h2, hd, fun h => by cases h⟩
theorem win_row {H : AHeap} {l : Nat} {cs : List AV} {wr : Bool} (hg : H.get l = some (.row cs wr)) {xs : List AV} {ls : List (Nat × Nat)} {svs : List SV} (hd : DL xs ls svs cs) : WinOk H xs ls ⟨l, 0, svs, false⟩ :=
 ⟨[], cs, [], wr, by simpa using hg, rfl, hd, fun h => by cases h⟩
theorem rule_len {c : Cx} {x v : SV} {l o n cap sz : Nat} (hx : D c.vs c.ls x (.slice l o n cap sz)) (hv : D c.vs c.ls v (.int .i64 (n : Int))) : RuleOk c (.len x) v := ⟨_, _, hx, hv, fun E get => rfl⟩
theorem rule_ia {c : Cx} {x i : SV} {j l n cap sz k : Nat} (hx : D c.vs c.ls x (.slice l 0 n cap sz)) (hi : D c.vs c.ls i (.int .i64 (k : Int))) (hk : k < n) (hj : c.ls[j]? = some (l, k * sz)) : RuleOk c (.ia sz x i) (.ptr j 0) :=
 ⟨_, _, .ptr l (k * sz), hx, hi, by simp only [D]; exact ⟨l, k * sz, hj, by simp⟩, fun E get => by
  simp only [aval, Opd.ev]
  rw [if_pos ⟨trivial, by omega, by omega⟩, Int.toNat_natCast, Nat.zero_add]⟩
theorem rule_call {c : Cx} {f : FuncId} {xs : List SV} {args : List AV} {v : SV} {r : AV} (hx : DL c.vs c.ls xs args) (hv : D c.vs c.ls v r) (h : ∀ H, Kept c.fl c.ls c.H H → APure c.P f args H r) : RuleOk c (.call f xs) v := ⟨args, r, hx, hv, h⟩
theorem res_start {P : Program} {f : FuncId} {n : Nat} {rs : List ARes} {body : ACode} (hf : cFun P f = some ⟨n, rs, body⟩) {args : List AV} {H : AHeap} {R : AV → AHeap → Prop} (hargs : args.length ≤ n) (h : Res P (.code body []) (endK rs H R) (Env.start args) H) : ACalls P f args H R :=
 acalls hf hargs h
theorem res_next {P : Program} {o : Pt} (ho : o = .ex .normal) {sl : List (Nat × AV)} {ti n i : Nat} {Inv : Nat → Prop} {H0 : AHeap} {Q : AExit → Env → AHeap → Prop} {c : Cx} {s : St} {vs : List AV} {ls : List (Nat × Nat)} {E : Env} {H : AHeap} (h : In c s vs ls H) (hE : EnvOk s.env vs ls E)
  (hi : i < n) (hsl : (sl.map fun p => (findA p.1 s.env).bind (dn c.ρ c.φ s.ns c.ls 100)) = sl.map (fun p => some p.2)) {w : Int} (hti : (findA ti s.env).bind (dn c.ρ c.φ s.ns c.ls 100) = some (.int .i64 w)) (hw : w = ((i + 1 : Nat) : Int)) (hg : Grew H0 H) (hI : Inv (i + 1)) :
  Res P o (loopK (fun E' H' => i < n ∧ SlotsOk E' sl ∧ E' ti = .int .i64 ((i + 1 : Nat) : Int) ∧ Grew H0 H' ∧ Inv (i + 1)) Q) E H := by
 rw [ho]
 exact ⟨hi, slots_of h hE hsl, by rw [env_of h hE ti hti, hw], hg, hI⟩
theorem slOne {H : AHeap} {sz : Nat} {ms : List (List AV)} {S : AV} (h : SlL H sz ms S) : S.one = true := by cases h <;> rfl
theorem slLen {H : AHeap} {sz : Nat} {ms : List (List AV)} {S : AV} (h : SlL H sz ms S) : ∀ E get, aval E get (.len (.const S)) = some (.int .i64 (ms.length : Int)) := by
 cases h with
 | nil h => subst h; intro E get; rfl
 | sl _ hn _ => subst hn; intro E get; rfl

theorem konts_ret {P : Program} {Q : AExit → Env → AHeap → Prop} {E : Env} {H : AHeap} (h : Q .ret E H) : ∀ fr : List Fr, konts P fr Q .ret E H
 | [] => h
 | .seq b :: fr => konts_ret h fr
 | .block id :: fr => konts_ret h fr
 | .loop a :: fr => konts_ret h fr
theorem res_ret {P : Program} {o : Pt} (ho : o = .ex .ret) {fr : List Fr} {X : Env → AHeap → Prop} {Q : AExit → Env → AHeap → Prop} {E : Env} {H : AHeap} (h : Q .ret E H) : Res P o (loopK X (konts P fr Q)) E H := by
 rw [ho]; exact konts_ret h fr
theorem res_exit {P : Program} {o : Pt} {id : Nat} (ho : o = .ex (.exit id)) {fr : List Fr} {X : Env → AHeap → Prop} {Q : AExit → Env → AHeap → Prop} {E : Env} {H : AHeap} (h : Res P (.code (.exit id) fr) Q E H) : Res P o (loopK X (konts P fr Q)) E H := by
 rw [ho]; exact h

theorem ptr_of {c : Cx} {s : St} {vs : List AV} {ls : List (Nat × Nat)} {H : AHeap} {E : Env} (h : In c s vs ls H) (hE : EnvOk s.env vs ls E) (t j : Nat) (he : findA t s.env = some (.ptr j 0)) {ds : List AV} (e : (findA j s.heap).bind (fun p => (dnL c.ρ c.φ s.ns c.ls 300 p.1).map fun x => (x, p.2)) = some (ds, true)) :
  ∃ l, E t = .ptr l 0 ∧ H.get l = some (.row ds true) ∧ (c.ls.length ≤ j → c.H.next ≤ l) := by
 rw [Option.bind_eq_some_iff] at e
 obtain ⟨p, h1, h2⟩ := e
 rw [Option.map_eq_some_iff] at h2
 obtain ⟨x, h2, h3⟩ := h2
 obtain ⟨rfl, h4⟩ := Prod.mk.inj h3
 obtain ⟨l, b, pre, es, post, wr', k1, k2, k3, k4, k5⟩ := h.ok.heap j p.1 p.2 (by rw [h1])
 obtain ⟨rfl, rfl, rfl⟩ := k5 h4
 have := dnL_of h h.lel 300 k4 h2
 subst this
 have hd := hE t _ he
 simp only [D] at hd
 obtain ⟨l', o', g1, g2⟩ := hd
 rw [k1] at g1
 cases g1
 refine ⟨l, by rw [g2, ← k3]; rfl, by simpa using k2, fun hj => h.new j l b hj k1⟩
end Go.Ab
namespace Go.Ab
/-! ### Stops -/
def ptRest : Pt → List AOper
 | .ops (_ :: rest) _ => rest
 | _ => []
theorem res_call {P : Program} {o : Pt} {d : Option Nat} {f : FuncId} {args : List Opd} (ho : o = .ops (⟨d, .call f args, none⟩ :: ptRest o) (ptFr o)) {Q : AExit → Env → AHeap → Prop} {E : Env} {H : AHeap} {R : AV → AHeap → Prop} (hc : ACalls P f (args.map (·.ev E)) H R)
  (h : ∀ r H', R r H' → Res P (.ops (ptRest o) (ptFr o)) Q (E.put d r) H') : Res P o Q E H := by
 rw [ho]
 exact ar_call hc h
theorem res_mk {P : Program} {o : Pt} {d : Option Nat} {sz bytes : Nat} {zs : List AV} {x y : Opd} (ho : o = .ops (⟨d, .mkSlice sz bytes zs x y, none⟩ :: ptRest o) (ptFr o)) {Q : AExit → Env → AHeap → Prop} {E : Env} {H : AHeap} {k1 k2 : IntKind} {n : Nat} (hx : x.ev E = .int k1 (n : Int)) (hy : y.ev E = .int k2 (n : Int)) (h3 : bytes * n ≤ 281474976710656) (h4 : n ≤ 9223372036854775807)
  (h : Res P (.ops (ptRest o) (ptFr o)) Q (E.put d (.slice H.next 0 n n sz)) (H.new (.row (List.replicate n zs).flatten true))) : Res P o Q E H := by
 rw [ho]
 exact ar_mkN hx hy (Nat.le_refl n) h3 h4 rfl h
theorem res_store {P : Program} {o : Pt} {d : Option Nat} {n : Nat} {x y : Opd} (ho : o = .ops (⟨d, .store n x y, none⟩ :: ptRest o) (ptFr o)) {Q : AExit → Env → AHeap → Prop} {E : Env} {H : AHeap} {l off : Nat} {cs vs : List AV} (hx : x.ev E = .ptr l off) (hg : H.get l = some (.row cs true)) (hy : (y.ev E).cells = some vs) (hn : vs.length = n) (hl : off + n ≤ cs.length) (h1 : vs.all AV.one = true)
  (h : Res P (.ops (ptRest o) (ptFr o)) Q (E.put d .undef) (H.put l (.row (laid cs off vs) true))) : Res P o Q E H := by
 rw [ho]
 exact ar_store hx hg hy hn hl h1 rfl h
theorem laid_flat {p m z : List AV} {i sz k : Nat} (hp : p.length = i * sz) (hm : m.length = sz) (hz : z.length = sz) : laid (p ++ (List.replicate (k + 1) z).flatten) (i * sz) m = (p ++ m) ++ (List.replicate k z).flatten := by
 unfold laid
 rw [← hp, List.take_left, hm, List.replicate_succ, List.flatten_cons]
 congr 1
 rw [List.drop_append, List.drop_eq_nil_of_le (by omega), List.nil_append, show p.length + sz - p.length = sz by omega, ← hz, List.drop_left]
theorem kdsL_one {ks : List Kd} {m : List AV} (h : KdsL ks m) (hk : ks.all (fun k => !decide (k = .any)) = true) : m.all AV.one = true := by
 induction h with
 | nil => rfl
 | @cons k a ks as h _ ih =>
  simp only [List.all_cons, Bool.and_eq_true] at hk ⊢
  refine ⟨?_, ih hk.2⟩
  exact one_of (vs := [a]) (ls := []) (x := .nd 0 k) (by simp only [D]; exact ⟨rfl, h⟩) (by simpa [oneS] using hk.1)
theorem take_flat_succ {ms : List (List AV)} {i : Nat} (hi : i < ms.length) : (ms.take (i + 1)).flatten = (ms.take i).flatten ++ ms[i] := by
 rw [List.take_succ_eq_append_getElem hi, List.flatten_append]; simp
theorem take_flat_len {sz : Nat} {ms : List (List AV)} (h : ∀ m ∈ ms, m.length = sz) {i : Nat} (hi : i ≤ ms.length) : (ms.take i).flatten.length = i * sz := by
 have : ∀ (l : List (List AV)), (∀ m ∈ l, m.length = sz) → l.flatten.length = l.length * sz := by
  intro l
  induction l with
  | nil => intro _; simp
  | cons m l ih => intro h; rw [List.flatten_cons, List.length_append, h m (by simp), ih fun x hx => h x (by simp [hx]), List.length_cons, Nat.succ_mul]; omega
 rw [this _ fun m hm => h m (List.mem_of_mem_take hm), List.length_take, Nat.min_eq_left hi]
theorem rule_ia' {c : Cx} {x i v : SV} {l n cap sz k : Nat} (hx : D c.vs c.ls x (.slice l 0 n cap sz)) (hi : D c.vs c.ls i (.int .i64 (k : Int))) (hk : k < n) (hv : D c.vs c.ls v (.ptr l (k * sz))) : RuleOk c (.ia sz x i) v :=
 ⟨_, _, .ptr l (k * sz), hx, hi, hv, fun E get => by
  simp only [aval, Opd.ev]
  rw [if_pos ⟨trivial, by omega, by omega⟩, Int.toNat_natCast, Nat.zero_add]⟩
end Go.Ab
namespace Go.Ab
theorem res_norm {P : Program} {o : Pt} (ho : o = .ex .normal) {X : Env → AHeap → Prop} {Q : AExit → Env → AHeap → Prop} {E : Env} {H : AHeap} (h : X E H) : Res P o (loopK X Q) E H := by
 rw [ho]; exact h
theorem end_same {c : Cx} {s : St} {vs : List AV} {ls : List (Nat × Nat)} {H : AHeap} {E : Env} (h : In c s vs ls H) (hE : EnvOk s.env vs ls E) {rs : List ARes} {a : AV} {H0 : AHeap} {R : AV → AHeap → Prop} {e : AExit} (he : e = .normal ∨ e = .ret) (hr : (sres rs s).bind (dn c.ρ c.φ s.ns c.ls 100) = some a) (hg : H0.next ≤ H.next) (hR : R a H) : endK rs H0 R e E H := by
  rcases he with rfl | rfl
  · exact ⟨a, res_of h hE hr, fin_same hg hR⟩
  · exact ⟨a, res_of h hE hr, fin_same hg hR⟩
end Go.Ab
namespace Go.Ab
end Go.Ab
namespace Go.Ab
theorem win_own {H : AHeap} {l : Nat} {cs : List AV} (hg : H.get l = some (.row cs true)) {xs : List AV} {ls : List (Nat × Nat)} {svs : List SV} (hd : DL xs ls svs cs) : WinOk H xs ls ⟨l, 0, svs, true⟩ :=
 ⟨[], cs, [], true, by simpa using hg, rfl, hd, fun _ => ⟨rfl, rfl, rfl⟩⟩
end Go.Ab
namespace Go.Ab
def kQs : Pt → List AOper
 | .kids (.cons _ _ (.node qs _) _) _ => qs
 | _ => []
def kKids : Pt → AKids
 | .kids (.cons _ _ (.node _ ks) _) _ => ks
 | _ => .nil
theorem res_kid {P : Program} {o : Pt} {free : Bool} {d : Option Nat} {f : FuncId} {args : List Opd} (ho : o = .kids (.cons free ⟨d, .call f args, none⟩ (.node (kQs o) (kKids o)) .nil) (ptFr o)) {Q : AExit → Env → AHeap → Prop} {E : Env} {H : AHeap} {R : AV → AHeap → Prop} (hc : ACalls P f (args.map (·.ev E)) H R)
  (h : ∀ r H', R r H' → Grew H H' ∧ Res P (.mixq (kQs o) (kKids o) (ptFr o)) Q (E.put d r) H') : Res P o Q E H := by
 rw [ho]
 refine mk_one (ar_call hc fun r H' hr => ?_)
 obtain ⟨h1, h2⟩ := h r H' hr
 refine ar_nil ⟨.inr h1, ?_⟩
 simp only [amix]
 exact h2
end Go.Ab
end
/- Slices among a law's arguments. -/
section
namespace Go.Ab
theorem kdsL_of_fits {H : AHeap} {es : List Sh} {ks : List Kd} (hk : es.mapM kdSh = some ks) {cs : List AV} (hl : cs.length = es.length) (h : ∀ (j : Nat) (s : Sh) (a : AV), es[j]? = some s → cs[j]? = some a → Fits H s a) : KdsL ks cs := fitsL_kds ⟨hl, h⟩ hk
theorem recs_of {H : AHeap} {es : List Sh} {ks : List Kd} (hk : es.mapM kdSh = some ks) : ∀ (n : Nat) {cs : List AV}, cs.length = n * es.length → (∀ i j s a, i < n → es[j]? = some s → cs[i * es.length + j]? = some a → Fits H s a) → ∃ ms, Recs ks ms ∧ ms.flatten = cs ∧ ms.length = n
 | 0, cs, hl, _ => ⟨[], fun m hm => (by cases hm), by simp at hl; simp [hl], rfl⟩
 | n + 1, cs, hl, h => by
  have h1 : KdsL ks (cs.take es.length) := by
   refine kdsL_of_fits (H := H) hk ?_ ?_
   ·
    rw [List.length_take, hl, Nat.succ_mul]; omega
   ·
    intro j s a hs ha
    have hj : j < es.length := by
     rcases Nat.lt_or_ge j es.length with h' | h'
     ·
      exact h'
     ·
      rw [List.getElem?_eq_none h'] at hs; cases hs
    rw [List.getElem?_take, if_pos hj] at ha
    exact h 0 j s a (by omega) hs (by simpa using ha)
  obtain ⟨ms, g1, g2, g3⟩ := recs_of hk n (cs := cs.drop es.length) (by rw [List.length_drop, hl, Nat.succ_mul]; omega) (fun i j s a hi hs ha => by
   rw [List.getElem?_drop] at ha
   exact h (i + 1) j s a (by omega) hs (by rw [Nat.succ_mul, show i * es.length + es.length + j = es.length + (i * es.length + j) by omega]; exact ha))
  refine ⟨cs.take es.length :: ms, ?_, ?_, by simp [g3]⟩
  ·
   intro m hm
   rcases List.mem_cons.1 hm with rfl | hm
   ·
    exact h1
   ·
    exact g1 m hm
  ·
   rw [List.flatten_cons, g2, List.take_append_drop]
theorem slArg {H : AHeap} {es : List Sh} {ks : List Kd} {sz : Nat} {a : AV} (h : Fits H (.sl es) a) (hk : es.mapM kdSh = some ks) (hsz : es.length = sz) : ∃ ms, Recs ks ms ∧ SlL H sz ms a ∧ ms.length ≤ 9223372036854775807 := by
 subst hsz
 cases h with
 | nil => exact ⟨[], fun m hm => (by cases hm), .nil rfl, by simp⟩
 | @sl l len cap _ cs hg hl hc hm hf =>
  obtain ⟨ms, g1, g2, g3⟩ := recs_of hk len hl hf
  refine ⟨ms, g1, .sl (rest := []) (by rw [g2]; simpa using hg) g3 hc, ?_⟩
  have : maxLen = 9223372036854775807 := rfl
  omega
end Go.Ab
end
/- Two functions that give the same: two records by address. -/
section
namespace Go.Ab
end Go.Ab
end
/- A function gives one value: two contracts about the same call agree. -/
section
namespace Go.Ab
end Go.Ab
end
