/- Symbolic execution: it says what the code does. -/
import Derived.Test.YtgjhjemmddojfaaSx5
set_option linter.unusedVariables false
set_option linter.unusedSimpArgs false
namespace Go.Ab

section
variable {c : Cx} {s : St} {vs : List AV} {ls : List (Nat × Nat)} {H : AHeap} {E : Env}

def CallOk (c : Cx) (call : CallF) : Prop := ∀ (f : FuncId) (args : List SV) (s : St) (vs : List AV) (ls : List (Nat × Nat)) (H : AHeap) (as : List AV) (ps : List (SV × St × Bool)), In c s vs ls H → DL vs ls args as → call f args s = some ps →
  ∃ p ∈ ps, ∃ vs' ls' H' r, Step c s vs ls H p.2.1 vs' ls' H' ∧ D vs' ls' p.1 r ∧ p.2.1.env = s.env ∧ (∀ k : AV → AHeap → Prop, k r H' → ACalls c.P f as H k) ∧ (p.2.2 = true → H' = H ∧ APure c.P f as H r)

def Eff (c : Cx) (s : St) (vs : List AV) (ls : List (Nat × Nat)) (H : AHeap) (E : Env) (op : AOp) (ps : List (SV × St)) : Prop :=
  ∃ p ∈ ps, ∃ vs' ls' H' r, Step c s vs ls H p.2 vs' ls' H' ∧ D vs' ls' p.1 r ∧ p.2.env = s.env ∧ ∀ k : AV → AHeap → Prop, k r H' → aeff c.P E H k op

theorem q_eff {op : AOp} (hq : op.quiet = true) {get : AV} (hv : aval E H.get op = some get) {k : AV → AHeap → Prop} (h : k get H) : aeff c.P E H k op := by
  cases op <;> first | (cases hq; done) | (simp only [aeff]; rw [hv]; exact h)
theorem sxq_quiet {ru : List (RK × SV)} {op : AOp} {ps : List (SV × St)} (h : sxq ru op s = some ps) : op.quiet = true := by
  cases op <;> first | rfl | (simp [sxq] at h)

theorem sxq_eff (h : In c s vs ls H) (hE : EnvOk s.env vs ls E) {op : AOp} {ps : List (SV × St)} (he : sxq c.ru op s = some ps) : Eff c s vs ls H E op ps := by
  obtain ⟨r, hr, p, hp, g⟩ := sxq_got h hE he
  obtain ⟨vs', h1, h2, h3⟩ := g.step h
  exact ⟨p, hp, vs', ls, H, r, h1, h2, h3, fun k hk => q_eff (sxq_quiet he) hr hk⟩

theorem rep_lits {zs : List AV} (h : zs.all litOk = true) : ∀ m : Nat, (List.replicate m zs).flatten.all litOk = true
  | 0 => rfl
  | m + 1 => by rw [List.replicate_succ, List.flatten_cons, List.all_append, h, rep_lits h m]; rfl

theorem sx1_eff {call : CallF} {pm : Pm} (hc : CallOk c call) (hru : pm.ru = c.ru) (hfl : pm.fl = c.fl) (h : In c s vs ls H) (hE : EnvOk s.env vs ls E) {op : AOp} {ps : List (SV × St)} (he : sx1 call pm op s = some ps) : Eff c s vs ls H E op ps := by
  have quiet : sxq pm.ru op s = some ps → Eff c s vs ls H E op ps := fun he => sxq_eff h hE (by rw [← hru]; exact he)
  have dptr : ∀ {vs' : List AV} {ls' : List (Nat × Nat)} {l : Nat}, ls'[s.nl]? = some (l, 0) → D vs' ls' (.ptr s.nl 0) (.ptr l 0) := fun e => by simp only [D]; exact ⟨_, _, e, rfl⟩
  cases op
  case alloc zs =>
    simp only [sx1] at he
    split at he
    · rename_i hz
      cases he
      obtain ⟨st, at'⟩ := new_step h (DL_lits hz)
      exact ⟨_, List.mem_singleton.2 rfl, _, _, _, _, st, dptr at', rfl, fun k hk => hk⟩
    · cases he
  case box x =>
    simp only [sx1] at he
    split at he
    · rename_i cs hcs
      rw [Option.bind_eq_some_iff] at hcs
      obtain ⟨v, hv, hcs⟩ := hcs
      obtain ⟨ds, h1, h2⟩ := cellsS_of (sev_of hE hv) hcs
      cases he
      obtain ⟨st, at'⟩ := new_step h h2
      exact ⟨_, List.mem_singleton.2 rfl, _, _, _, _, st, dptr at', rfl, fun k hk => by simp only [aeff, h1]; exact hk⟩
    · cases he
  case bslice sz len zs parts =>
    simp only [sx1] at he
    split at he
    · rename_i hz
      split at he
      · rename_i cs hcs
        obtain ⟨ds, h1, h2⟩ := fillS_of hE (DL_lits hz) hcs
        cases he
        obtain ⟨st, at'⟩ := new_step h h2
        exact ⟨_, List.mem_singleton.2 rfl, _, _, _, .slice H.next 0 len len sz, st, by simp only [D]; exact ⟨_, _, at', by simp⟩, rfl, fun k hk => by simp only [aeff, h1]; exact hk⟩
      · cases he
    · cases he
  case store n a x =>
    simp only [sx1] at he
    split at he
    · rename_i j off us h1 hus
      rw [Option.bind_eq_some_iff] at hus
      obtain ⟨v, hv, hus⟩ := hus
      obtain ⟨ds, g1, g2⟩ := cellsS_of (sev_of hE hv) hus
      have d1 := sev_of hE h1
      simp only [D] at d1
      obtain ⟨l, bs0, hl, ha⟩ := d1
      split at he
      · rename_i cs hf
        split at he
        · rename_i hok
          obtain ⟨o1, o2, o3, o4⟩ := hok
          obtain ⟨l', b', pre, es, post, wr', k1, k2, k4, k3, k5⟩ := h.ok.heap _ _ _ hf
          rw [hl] at k1
          cases k1
          obtain ⟨rfl, rfl, rfl⟩ := k5 rfl
          simp only [List.nil_append, List.append_nil] at k2
          have hb0 : bs0 = 0 := k4.symm
          subst hb0
          rw [Nat.zero_add] at ha
          cases he
          have hd : DL vs ls (cs.take off ++ us ++ cs.drop (off + us.length)) (laid es off ds) := by
            unfold laid
            rw [← g2.len]
            exact ((k3.take off).append g2).append (k3.drop _)
          refine ⟨_, List.mem_singleton.2 rfl, _, _, _, .undef, put_step h hl (by rw [← hfl]; exact o1) hf k2 rfl hd, by unfold D; exact ⟨rfl, rfl⟩, rfl, fun k hk => ?_⟩
          simp only [aeff, ha, k2, g1]
          rw [if_pos ⟨by rw [← g2.len]; exact o2, by rw [← k3.len]; exact o3, all_one_of g2 o4⟩]
          exact hk
        · cases he
      · cases he
    · cases he
  case mkSlice sz bytes zs x y =>
    simp only [sx1] at he
    split at he
    · rename_i n m h1 h2
      rw [Option.bind_eq_some_iff] at h1 h2
      obtain ⟨v, hv, h1⟩ := h1
      obtain ⟨w, hw, h2⟩ := h2
      obtain ⟨k1, e1⟩ := natLit_of (sev_of hE hv) h1
      obtain ⟨k2, e2⟩ := natLit_of (sev_of hE hw) h2
      split at he
      · rename_i hok
        obtain ⟨o1, o2, o3, o4⟩ := hok
        cases he
        obtain ⟨st, at'⟩ := new_step h (DL_lits (rep_lits o4 m))
        refine ⟨_, List.mem_singleton.2 rfl, _, _, _, .slice H.next 0 n m sz, st, by simp only [D]; exact ⟨_, _, at', by simp⟩, rfl, fun k hk => ?_⟩
        simp only [aeff, e1, e2]
        rw [if_pos ⟨by omega, by omega, by exact_mod_cast o2, by omega⟩]
        simpa using hk
      · cases he
    · cases he
  case call f args =>
    simp only [sx1] at he
    split at he
    · rename_i as has
      rw [Option.map_eq_some_iff] at he
      obtain ⟨qs, hqs, rfl⟩ := he
      obtain ⟨p, hp, vs', ls', H', r, g1, g2, g3, g4, _⟩ := hc f as s vs ls H _ qs h (sevL_of hE has) hqs
      exact ⟨(p.1, p.2.1), List.mem_map.2 ⟨p, hp, rfl⟩, vs', ls', H', r, g1, g2, g3, fun k hk => by simp only [aeff]; exact g4 k hk⟩
    · cases he
  case callV g args =>
    simp only [sx1] at he
    split at he
    · rename_i f first cap as hg has
      rw [Option.map_eq_some_iff] at he
      obtain ⟨qs, hqs, rfl⟩ := he
      have d1 := sev_of hE hg
      simp only [D] at d1
      obtain ⟨xs, ys, ha, dx, dy⟩ := d1
      obtain ⟨p, hp, vs', ls', H', r, g1, g2, g3, g4, _⟩ := hc f _ s vs ls H _ qs h ((dx.append (sevL_of hE has)).append dy) hqs
      exact ⟨(p.1, p.2.1), List.mem_map.2 ⟨p, hp, rfl⟩, vs', ls', H', r, g1, g2, g3, fun k hk => by simp only [aeff, ha]; exact g4 k hk⟩
    · cases he
  all_goals exact quiet (by simpa only [sx1] using he)

/-- A later world, of which this holds. -/
def Ends (c : Cx) (s : St) (vs : List AV) (ls : List (Nat × Nat)) (H : AHeap) (s' : St) (Ψ : Env → AHeap → Prop) : Prop :=
  ∃ vs' ls' H' E', Step c s vs ls H s' vs' ls' H' ∧ EnvOk s'.env vs' ls' E' ∧ Ψ E' H'
theorem Ends.mono {s' : St} {Ψ Ψ' : Env → AHeap → Prop} (h : Ends c s vs ls H s' Ψ) (hm : ∀ E H, Ψ E H → Ψ' E H) : Ends c s vs ls H s' Ψ' := by
  obtain ⟨vs', ls', H', E', h1, h2, h3⟩ := h
  exact ⟨vs', ls', H', E', h1, h2, hm _ _ h3⟩
theorem Ends.here (h : In c s vs ls H) (hE : EnvOk s.env vs ls E) {Ψ : Env → AHeap → Prop} (hp : Ψ E H) : Ends c s vs ls H s Ψ := ⟨vs, ls, H, E, .refl h, hE, hp⟩

theorem putEnv_same (d : Option Nat) (v : SV) (s : St) : ∃ env, putEnv d v s = { s with env := env, wm := s.wm } := by
  cases d <;> exact ⟨_, rfl⟩
theorem put_ends {s' : St} {vs' : List AV} {ls' : List (Nat × Nat)} {H' : AHeap} (st : Step c s vs ls H s' vs' ls' H') (hE : EnvOk s.env vs ls E) (he : s'.env = s.env) {d : Option Nat} {v : SV} {r : AV} (hd : D vs' ls' v r) {Ψ : Env → AHeap → Prop} (hp : Ψ (E.put d r) H') :
    Ends c s vs ls H (putEnv d v s') Ψ := by
  obtain ⟨env, e⟩ := putEnv_same d v s'
  refine ⟨vs', ls', H', E.put d r, ⟨by rw [e]; exact st.inn.env env s'.wm, st.lev, st.lel, by rw [e]; exact st.wm, by rw [e]; exact st.kept, st.new⟩, ?_, hp⟩
  have h0 : EnvOk s'.env vs' ls' E := by rw [he]; exact hE.mono st.lev st.lel
  cases d with
  | none => exact h0
  | some d => exact h0.put hd

theorem gF {t : Nat} {want : Bool} {op : AOp} {d : Option Nat} {rest : List AOper} {k : Env → AHeap → Prop} (hb : (E t).det) (hn : (E t).yb ≠ some want) (h : arun c.P rest (E.put d .undef) H k) : arun c.P (⟨d, op, some (t, want)⟩ :: rest) E H k := by
  simp only [arun]
  refine ⟨hb, ?_⟩
  unfold gstep
  cases op
  case call f args => simp only []; exact ⟨.undef, fun hc => absurd hc hn, by rw [if_neg hn]; exact h⟩
  case callV g args =>
    simp only []
    split
    · exact ⟨.undef, fun hc => absurd hc hn, by rw [if_neg hn]; exact h⟩
    · exact ⟨hn, h⟩
  all_goals
    simp only []
    split
    · rw [if_neg hn]; exact h
    · exact ⟨hn, h⟩

theorem sxOper_ends {call : CallF} {pm : Pm} (hc : CallOk c call) (hru : pm.ru = c.ru) (hfl : pm.fl = c.fl) (h : In c s vs ls H) (hE : EnvOk s.env vs ls E) {o : AOper} {ss : List St} (he : sxOper call pm o s = some ss) :
    ∃ s' ∈ ss, Ends c s vs ls H s' fun E' H' => ∀ rest k, arun c.P rest E' H' k → arun c.P (o :: rest) E H k := by
  obtain ⟨d, op, g⟩ := o
  unfold sxOper at he
  split at he
  · rename_i hg
    simp only at hg
    subst hg
    rw [Option.map_eq_some_iff] at he
    obtain ⟨ps, hps, rfl⟩ := he
    obtain ⟨p, hp, vs', ls', H', r, st, hd, he, hk⟩ := sx1_eff hc hru hfl h hE hps
    refine ⟨_, List.mem_map.2 ⟨p, hp, rfl⟩, put_ends st hE he hd ?_⟩
    intro rest k hr
    simp only [arun]
    exact hk _ hr
  · rename_i t want hg
    simp only at hg
    subst hg
    split at he
    · rename_i hf
      cases he
      have hd := hE _ _ hf
      simp only [D] at hd
      refine ⟨_, List.mem_singleton.2 rfl, put_ends (.refl h) hE rfl (r := .undef) (by unfold D; exact ⟨rfl, rfl⟩) ?_⟩
      intro rest k hr
      exact gF (by rw [hd.1]; trivial) (by rw [hd.1]; simp [AV.yb]) hr
    · rename_i v _ hf
      split at he
      · rename_i hk
        have hd := hE _ _ hf
        obtain ⟨b, hb⟩ := (kd_of hd hk).1
        rw [hb] at hd
        obtain ⟨s1, m1, o1, e1⟩ := splitB_of h.ok hd
        have i1 : In c s1 vs ls H := ⟨o1, h.lev, h.lel, h.kept, h.new, h.rules⟩
        have hE1 : EnvOk s1.env vs ls E := by rw [e1.1]; exact hE
        have st1 : Step c s vs ls H s1 vs ls H := ⟨i1, LeL.refl _, LeL.refl _, by rw [e1.2.2.2]; exact Nat.le_refl _, Kept.refl _ _ _, fun j l b hj e => by rw [List.getElem?_eq_none hj] at e; cases e⟩
        have lift : ∀ {s'} {Ψ}, Ends c s1 vs ls H s' Ψ → Ends c s vs ls H s' Ψ := by
          rintro s' Ψ ⟨vs', ls', H', E', g1, g2, g3⟩
          exact ⟨vs', ls', H', E', st1.trans g1, g2, g3⟩
        obtain ⟨ys, y1, y2⟩ := seqL_mem he (b, s1) m1
        simp only at y1
        split at y1
        · rename_i hw
          subst hw
          have guardq : op.quiet = true → (sxq pm.ru op s1).map (fun ps => ps.map fun q => putEnv d q.1 q.2) = some ys → ∃ s' ∈ ss, Ends c s vs ls H s' fun E' H' => ∀ rest k, arun c.P rest E' H' k → arun c.P (⟨d, op, some (t, b)⟩ :: rest) E H k := by
            intro hq y1
            rw [Option.map_eq_some_iff] at y1
            obtain ⟨ps, hps, rfl⟩ := y1
            rw [hru] at hps
            obtain ⟨r, hr, p, hp, g⟩ := sxq_got i1 hE1 hps
            obtain ⟨vs', g1, g2, g3⟩ := g.step i1
            refine ⟨_, y2 _ (List.mem_map.2 ⟨p, hp, rfl⟩), lift (put_ends g1 hE1 g3 g2 ?_)⟩
            intro rest k hk
            exact ar_gT hb hq hr hk
          split at y1
          · rename_i f args
            split at y1
            · rename_i as has
              split at y1
              · rename_i ps hps
                split at y1
                · rename_i hall
                  cases y1
                  obtain ⟨p, hp, vs', ls', H', r, g1, g2, g3, g4, g5⟩ := hc f as s1 vs ls H _ ps i1 (sevL_of hE1 has) hps
                  obtain ⟨rfl, hpure⟩ := g5 (List.all_eq_true.1 hall p hp)
                  refine ⟨_, y2 _ (List.mem_map.2 ⟨p, hp, rfl⟩), lift (put_ends g1 hE1 g3 g2 ?_)⟩
                  intro rest k hk
                  exact ar_gcT hb hpure hk
                · cases y1
              · cases y1
            · cases y1
          · split at y1
            · rename_i hq
              exact guardq hq y1
            · cases y1
        · rename_i hw
          cases y1
          refine ⟨_, y2 _ (List.mem_singleton.2 rfl), lift (put_ends (.refl i1) hE1 rfl (r := .undef) (by unfold D; exact ⟨rfl, rfl⟩) ?_)⟩
          intro rest k hr
          exact gF (by rw [hb]; trivial) (by rw [hb]; simpa [AV.yb] using hw) hr
      · cases he
    · cases he

theorem mem_flat {α β : Type} {f : α → List β} {l : List α} {a : α} {b : β} (ha : a ∈ l) (hb : b ∈ f a) : b ∈ (l.map f).flatten := List.mem_flatten.2 ⟨_, List.mem_map.2 ⟨a, ha, rfl⟩, hb⟩

theorem Ends.bind {s1 s2 : St} {Ψ Ψ' : Env → AHeap → Prop} {α : Type} {l : List α} {g : α → St} {Φ : α → Env → AHeap → Prop}
    (h : Ends c s vs ls H s1 Ψ) (k : ∀ vs' ls' H' E', In c s1 vs' ls' H' → EnvOk s1.env vs' ls' E' → Ψ E' H' → ∃ a ∈ l, Ends c s1 vs' ls' H' (g a) (Φ a)) : ∃ a ∈ l, Ends c s vs ls H (g a) (Φ a) := by
  obtain ⟨vs', ls', H', E', h1, h2, h3⟩ := h
  obtain ⟨a, ha, vs2, ls2, H2, E2, k1, k2, k3⟩ := k vs' ls' H' E' h1.inn h2 h3
  exact ⟨a, ha, vs2, ls2, H2, E2, h1.trans k1, k2, k3⟩

theorem sxOps_ends {call : CallF} {pm : Pm} (hc : CallOk c call) (hru : pm.ru = c.ru) (hfl : pm.fl = c.fl) : ∀ (ops : List AOper) {s : St} {vs : List AV} {ls : List (Nat × Nat)} {H : AHeap} {E : Env}, In c s vs ls H → EnvOk s.env vs ls E →
    ∃ p ∈ sxOps call pm ops s, Ends c s vs ls H p.2 fun E' H' => ∀ k, arun c.P p.1 E' H' k → arun c.P ops E H k
  | [], s, vs, ls, H, E, h, hE => ⟨_, List.mem_singleton.2 rfl, .here h hE fun k hk => hk⟩
  | o :: rest, s, vs, ls, H, E, h, hE => by
    unfold sxOps
    split
    · rename_i ss hss
      obtain ⟨s1, m1, e1⟩ := sxOper_ends hc hru hfl h hE hss
      obtain ⟨vs', ls', H', E', g1, g2, g3⟩ := e1
      obtain ⟨p, hp, vs2, ls2, H2, E2, k1, k2, k3⟩ := sxOps_ends hc hru hfl rest g1.inn g2
      exact ⟨p, mem_flat m1 hp, vs2, ls2, H2, E2, g1.trans k1, k2, fun k hk => g3 rest k (k3 k hk)⟩
    · exact ⟨_, List.mem_singleton.2 rfl, .here h hE fun k hk => hk⟩

theorem konts_app {P : Program} {Q : AExit → Env → AHeap → Prop} {f : Fr} : ∀ {fr : List Fr}, konts P (fr ++ [f]) Q = konts P fr (konts P [f] Q)
  | [] => rfl
  | .seq b :: fr => by simp only [List.cons_append, konts]; rw [konts_app (fr := fr)]
  | .block id :: fr => by simp only [List.cons_append, konts]; rw [konts_app (fr := fr)]
  | .loop a :: fr => by simp only [List.cons_append, konts]; rw [konts_app (fr := fr)]
theorem res_push {P : Program} {Q : AExit → Env → AHeap → Prop} {f : Fr} {o : Pt} (ho : ∀ e, o ≠ .ex e) : Res P (o.push f) Q E H = Res P o (konts P [f] Q) E H := by
  cases o <;> simp only [Pt.push, Res]
  · exact absurd rfl (ho _)
  all_goals rw [konts_app]

def IsEx : Pt → Bool
  | .ex _ => true
  | _ => false

theorem Step.wmEnv {s' : St} {vs' : List AV} {ls' : List (Nat × Nat)} {H' : AHeap} {w : Nat} (h : Step c { s with wm := s.nl } vs ls H s' vs' ls' H') (hw : w = Nat.min s.wm s'.wm) : Step c s vs ls H { s' with wm := w } vs' ls' H' := by
  subst hw
  refine ⟨h.inn.env s'.env _, h.lev, h.lel, Nat.min_le_left _ _, ?_, h.new⟩
  exact ⟨h.kept.1, fun l hl hj => h.kept.2 l hl fun j b e => hj j b (Nat.le_trans (Nat.min_le_right _ _) e)⟩

mutual
theorem sxMix_ends {call : CallF} {pm : Pm} (hc : CallOk c call) (hru : pm.ru = c.ru) (hfl : pm.fl = c.fl) : ∀ (t : ATree) {s : St} {vs : List AV} {ls : List (Nat × Nat)} {H : AHeap} {E : Env}, In c s vs ls H → EnvOk s.env vs ls E →
    ∃ p ∈ sxMix call pm t s, Ends c s vs ls H p.2 fun E' H' => ∀ Q, Res c.P p.1 Q E' H' → amix c.P t E H (Q .normal)
  | .node qs ks, s, vs, ls, H, E, h, hE => by
    obtain ⟨⟨r, s1⟩, hp, vs', ls', H', E', g1, g2, g3⟩ := sxOps_ends hc hru hfl qs h hE
    unfold sxMix
    cases r with
    | nil =>
      obtain ⟨q, hq, vs2, ls2, H2, E2, k1, k2, k3⟩ := sxKids_ends hc hru hfl ks g1.inn g2
      refine ⟨q, mem_flat hp hq, vs2, ls2, H2, E2, g1.trans k1, k2, fun Q hQ => ?_⟩
      exact am_node (g3 _ (k3 Q hQ))
    | cons o rest =>
      refine ⟨(.mixq (o :: rest) ks [], s1), mem_flat hp (List.mem_singleton.2 rfl), vs', ls', H', E', g1, g2, fun Q hQ => ?_⟩
      exact am_node (g3 _ hQ)
theorem sxKids_ends {call : CallF} {pm : Pm} (hc : CallOk c call) (hru : pm.ru = c.ru) (hfl : pm.fl = c.fl) : ∀ (ks : AKids) {s : St} {vs : List AV} {ls : List (Nat × Nat)} {H : AHeap} {E : Env}, In c s vs ls H → EnvOk s.env vs ls E →
    ∃ p ∈ sxKids call pm ks s, Ends c s vs ls H p.2 fun E' H' => ∀ Q, Res c.P p.1 Q E' H' → mixK c.P ks (Q .normal) E H
  | .nil, s, vs, ls, H, E, h, hE => by
    unfold sxKids
    exact ⟨_, List.mem_singleton.2 rfl, .here h hE fun Q hQ => mk_nil hQ⟩
  | .cons free o t rest, s, vs, ls, H, E, h, hE => by
    have stuck : ∃ p ∈ [((Pt.kids (.cons free o t rest) [] : Pt), s)], Ends c s vs ls H p.2 fun E' H' => ∀ Q, Res c.P p.1 Q E' H' → mixK c.P (.cons free o t rest) (Q .normal) E H :=
      ⟨_, List.mem_singleton.2 rfl, .here h hE fun Q hQ => hQ⟩
    unfold sxKids
    split
    · rename_i hn
      split
      · rename_i ss hss
        split
        · rename_i hall
          have h' : In c { s with wm := s.nl } vs ls H := h.env s.env s.nl
          obtain ⟨s1, m1, vs', ls', H', E', g1, g2, g3⟩ := sxOper_ends hc hru hfl h' hE hss
          have g1' : Step c s vs ls H { s1 with wm := Nat.min s.wm s1.wm } vs' ls' H' := g1.wmEnv rfl
          obtain ⟨p, hp, vs2, ls2, H2, E2, k1, k2, k3⟩ := sxMix_ends hc hru hfl t g1'.inn g2
          refine ⟨p, mem_flat m1 hp, vs2, ls2, H2, E2, g1'.trans k1, k2, fun Q hQ => ?_⟩
          have hkid : kidK c.P free H t (Q .normal) E' H' := by
            refine ⟨?_, k3 Q hQ⟩
            have := List.all_eq_true.1 hall s1 m1
            rw [Bool.or_eq_true] at this
            rcases this with h1 | h1
            · exact .inl h1
            · exact .inr (g1.kept.grew (by rw [← h.ok.nl]; exact Nat.le_of_ble_eq_true h1))
          cases rest with
          | nil => exact mk_one (g3 [] _ hkid)
          | cons => cases hn
        · exact stuck
      · exact stuck
    · exact stuck
end

theorem sxIter_ends {a : ACode} {body : St → List (Pt × St)}
    (hb : ∀ {s : St} {vs : List AV} {ls : List (Nat × Nat)} {H : AHeap} {E : Env}, In c s vs ls H → EnvOk s.env vs ls E → ∃ p ∈ body s, Ends c s vs ls H p.2 fun E' H' => ∀ Q, Res c.P p.1 Q E' H' → aexec c.P a Q E H) :
    ∀ (n : Nat) {s : St} {vs : List AV} {ls : List (Nat × Nat)} {H : AHeap} {E : Env}, In c s vs ls H → EnvOk s.env vs ls E →
    ∃ p ∈ sxIter a body n s, Ends c s vs ls H p.2 fun E' H' => ∀ Q, Res c.P p.1 Q E' H' → aexec c.P (.loop a) Q E H
  | 0, s, vs, ls, H, E, h, hE => ⟨_, List.mem_singleton.2 rfl, .here h hE fun Q hQ => hQ⟩
  | n + 1, s, vs, ls, H, E, h, hE => by
    obtain ⟨⟨o, s1⟩, hp, vs', ls', H', E', g1, g2, g3⟩ := hb h hE
    unfold sxIter
    have push : (∀ e, o ≠ .ex e) → (o.push (.loop a), s1) ∈ (match o with
      | .ex .normal => sxIter a body n s1
      | .ex e => [(.ex e, s1)]
      | o => [(o.push (.loop a), s1)]) → ∃ p ∈ ((body s).map fun p => match p.1 with
      | .ex .normal => sxIter a body n p.2
      | .ex e => [(.ex e, p.2)]
      | o => [(o.push (.loop a), p.2)]).flatten, Ends c s vs ls H p.2 fun E' H' => ∀ Q, Res c.P p.1 Q E' H' → aexec c.P (.loop a) Q E H := by
      intro ho hm
      refine ⟨(o.push (.loop a), s1), mem_flat hp hm, vs', ls', H', E', g1, g2, fun Q hQ => ?_⟩
      rw [res_push ho] at hQ
      exact ax_step (g3 _ hQ)
    cases o with
    | ex e =>
      cases e with
      | normal =>
        obtain ⟨q, hq, vs2, ls2, H2, E2, k1, k2, k3⟩ := sxIter_ends hb n g1.inn g2
        exact ⟨q, mem_flat hp hq, vs2, ls2, H2, E2, g1.trans k1, k2, fun Q hQ => ax_step (g3 (loopK (aexec c.P (.loop a) Q) Q) (k3 Q hQ))⟩
      | exit id => exact ⟨(.ex (.exit id), s1), mem_flat hp (List.mem_singleton.2 rfl), vs', ls', H', E', g1, g2, fun Q hQ => ax_step (g3 (loopK (aexec c.P (.loop a) Q) Q) hQ)⟩
      | ret => exact ⟨(.ex .ret, s1), mem_flat hp (List.mem_singleton.2 rfl), vs', ls', H', E', g1, g2, fun Q hQ => ax_step (g3 (loopK (aexec c.P (.loop a) Q) Q) hQ)⟩
    | ops => exact push (by simp) (List.mem_singleton.2 rfl)
    | mixq => exact push (by simp) (List.mem_singleton.2 rfl)
    | kids => exact push (by simp) (List.mem_singleton.2 rfl)
    | code => exact push (by simp) (List.mem_singleton.2 rfl)

theorem splitB_in (h : In c s vs ls H) {v : SV} {b : Bool} (hd : D vs ls v (.bool b)) : ∃ s', (b, s') ∈ splitB v s ∧ Step c s vs ls H s' vs ls H ∧ s'.env = s.env := by
  obtain ⟨s1, m1, o1, e1⟩ := splitB_of h.ok hd
  exact ⟨s1, m1, ⟨⟨o1, h.lev, h.lel, h.kept, h.new, h.rules⟩, LeL.refl _, LeL.refl _, by rw [e1.2.2.2]; exact Nat.le_refl _, Kept.refl _ _ _, fun j l b hj e => by rw [List.getElem?_eq_none hj] at e; cases e⟩, e1.1⟩

theorem sxCode_ends {call : CallF} {pm : Pm} (hc : CallOk c call) (hru : pm.ru = c.ru) (hfl : pm.fl = c.fl) : ∀ (a : ACode) {s : St} {vs : List AV} {ls : List (Nat × Nat)} {H : AHeap} {E : Env}, In c s vs ls H → EnvOk s.env vs ls E →
    ∃ p ∈ sxCode call pm a s, Ends c s vs ls H p.2 fun E' H' => ∀ Q, Res c.P p.1 Q E' H' → aexec c.P a Q E H := by
  intro a
  induction a with
  | skip => intro s vs ls H E h hE; exact ⟨_, List.mem_singleton.2 rfl, .here h hE fun Q hQ => hQ⟩
  | run ops =>
    intro s vs ls H E h hE
    obtain ⟨⟨r, s1⟩, hp, vs', ls', H', E', g1, g2, g3⟩ := sxOps_ends hc hru hfl ops h hE
    refine ⟨_, List.mem_map.2 ⟨(r, s1), hp, rfl⟩, vs', ls', H', E', g1, g2, fun Q hQ => ax_run (g3 _ ?_)⟩
    cases r with
    | nil => exact hQ
    | cons => exact hQ
  | mix t =>
    intro s vs ls H E h hE
    obtain ⟨p, hp, e⟩ := sxMix_ends hc hru hfl t h hE
    exact ⟨p, hp, e.mono fun E' H' k Q hQ => ax_mix (k Q hQ)⟩
  | seq a b iha ihb =>
    intro s vs ls H E h hE
    obtain ⟨⟨o, s1⟩, hp, vs', ls', H', E', g1, g2, g3⟩ := iha h hE
    simp only [sxCode]
    have push : (∀ e, o ≠ .ex e) → (o.push (.seq b), s1) ∈ (match o with
      | .ex .normal => sxCode call pm b s1
      | .ex e => [(.ex e, s1)]
      | o => [(o.push (.seq b), s1)]) → ∃ p ∈ ((sxCode call pm a s).map fun p => match p.1 with
      | .ex .normal => sxCode call pm b p.2
      | .ex e => [(.ex e, p.2)]
      | o => [(o.push (.seq b), p.2)]).flatten, Ends c s vs ls H p.2 fun E' H' => ∀ Q, Res c.P p.1 Q E' H' → aexec c.P (.seq a b) Q E H := by
      intro ho hm
      refine ⟨(o.push (.seq b), s1), mem_flat hp hm, vs', ls', H', E', g1, g2, fun Q hQ => ?_⟩
      rw [res_push ho] at hQ
      exact ax_seq (g3 _ hQ)
    cases o with
    | ex e =>
      cases e with
      | normal =>
        obtain ⟨q, hq, vs2, ls2, H2, E2, k1, k2, k3⟩ := ihb g1.inn g2
        exact ⟨q, mem_flat hp hq, vs2, ls2, H2, E2, g1.trans k1, k2, fun Q hQ => ax_seq (g3 (seqK c.P b Q) (k3 Q hQ))⟩
      | exit id => exact ⟨(.ex (.exit id), s1), mem_flat hp (List.mem_singleton.2 rfl), vs', ls', H', E', g1, g2, fun Q hQ => ax_seq (g3 (seqK c.P b Q) hQ)⟩
      | ret => exact ⟨(.ex .ret, s1), mem_flat hp (List.mem_singleton.2 rfl), vs', ls', H', E', g1, g2, fun Q hQ => ax_seq (g3 (seqK c.P b Q) hQ)⟩
    | ops => exact push (by simp) (List.mem_singleton.2 rfl)
    | mixq => exact push (by simp) (List.mem_singleton.2 rfl)
    | kids => exact push (by simp) (List.mem_singleton.2 rfl)
    | code => exact push (by simp) (List.mem_singleton.2 rfl)
  | cond x a b iha ihb =>
    intro s vs ls H E h hE
    have stuck : ∃ p ∈ [((Pt.code (.cond x a b) [] : Pt), s)], Ends c s vs ls H p.2 fun E' H' => ∀ Q, Res c.P p.1 Q E' H' → aexec c.P (.cond x a b) Q E H :=
      ⟨_, List.mem_singleton.2 rfl, .here h hE fun Q hQ => hQ⟩
    simp only [sxCode]
    split
    · rename_i v hv
      split
      · rename_i hk
        have hd := sev_of hE hv
        obtain ⟨t, ht⟩ := (kd_of hd hk).1
        rw [ht] at hd
        obtain ⟨s1, m1, st, e1⟩ := splitB_in h hd
        have hE1 : EnvOk s1.env vs ls E := by rw [e1]; exact hE
        cases t with
        | true =>
          obtain ⟨q, hq, vs2, ls2, H2, E2, k1, k2, k3⟩ := iha st.inn hE1
          exact ⟨q, mem_flat (f := fun p : Bool × St => if p.1 = true then sxCode call pm a p.2 else sxCode call pm b p.2) m1 (by simpa using hq), vs2, ls2, H2, E2, st.trans k1, k2, fun Q hQ => ax_condT ht (k3 Q hQ)⟩
        | false =>
          obtain ⟨q, hq, vs2, ls2, H2, E2, k1, k2, k3⟩ := ihb st.inn hE1
          exact ⟨q, mem_flat (f := fun p : Bool × St => if p.1 = true then sxCode call pm a p.2 else sxCode call pm b p.2) m1 (by simpa using hq), vs2, ls2, H2, E2, st.trans k1, k2, fun Q hQ => ax_condF ht (k3 Q hQ)⟩
      · exact stuck
    · exact stuck
  | block id a iha =>
    intro s vs ls H E h hE
    obtain ⟨⟨o, s1⟩, hp, vs', ls', H', E', g1, g2, g3⟩ := iha h hE
    simp only [sxCode]
    refine ⟨_, List.mem_map.2 ⟨(o, s1), hp, rfl⟩, vs', ls', H', E', g1, g2, fun Q hQ => ax_block (g3 (blockK id Q) ?_)⟩
    cases o with
    | ex e =>
      cases e with
      | normal => exact bk_normal (id := id) hQ
      | exit i =>
        simp only at hQ
        split at hQ
        · rename_i hi; subst hi; exact bk_exit (id := i) hQ
        · rename_i hi; exact bk_other (id := id) hi hQ
      | ret => exact bk_ret (id := id) hQ
    | ops r fr => rw [res_push (by simp)] at hQ; exact hQ
    | mixq r k fr => rw [res_push (by simp)] at hQ; exact hQ
    | kids k fr => rw [res_push (by simp)] at hQ; exact hQ
    | code a fr => rw [res_push (by simp)] at hQ; exact hQ
  | loop a iha =>
    intro s vs ls H E h hE
    exact sxIter_ends (fun h hE => iha h hE) pm.un h hE
  | exit id => intro s vs ls H E h hE; exact ⟨_, List.mem_singleton.2 rfl, .here h hE fun Q hQ => hQ⟩
  | ret => intro s vs ls H E h hE; exact ⟨_, List.mem_singleton.2 rfl, .here h hE fun Q hQ => hQ⟩
end
end Go.Ab
