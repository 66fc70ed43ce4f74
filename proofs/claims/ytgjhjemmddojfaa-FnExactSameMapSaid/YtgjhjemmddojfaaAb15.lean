/- Bodies and calls. -/
import Derived.Test.YtgjhjemmddojfaaAb14d
set_option linter.unusedVariables false
set_option linter.unusedSimpArgs false
namespace Go.Ab

mutual
def AV.ren (σ : Nat → Nat) : AV → AV
  | .any => .any
  | .undef => .undef
  | .bool b => .bool b
  | .int k n => .int k n
  | .flt k x => .flt k x
  | .nanbits => .nanbits
  | .str s => .str s
  | .ptr l o => .ptr (σ l) o
  | .nilptr => .nilptr
  | .slice l o n c s => .slice (σ l) o n c s
  | .nilslice => .nilslice
  | .map l => .map (σ l)
  | .func f as bs => .func f (renL σ as) (renL σ bs)
  | .nilfunc => .nilfunc
  | .iface t a => .iface t (a.ren σ)
  | .niliface => .niliface
  | .glob g => .glob g
  | .agg cs => .agg (renL σ cs)
  | .tuple cs => .tuple (renL σ cs)
def renL (σ : Nat → Nat) : List AV → List AV
  | [] => []
  | a :: as => a.ren σ :: renL σ as
end

theorem renL_eq (σ : Nat → Nat) : ∀ as : List AV, renL σ as = as.map (AV.ren σ)
  | [] => by simp [renL]
  | a :: as => by simp [renL, renL_eq σ as]

theorem R.ren {μ μ' : Mu} {σ : Nat → Nat} {a : AV} {v : Value} (h : R μ a v) (hσ : AV.On (fun l => μ' (σ l) = μ l) a) : R μ' (a.ren σ) v := by
  induction h with
  | any v => simp only [AV.ren]; exact .any v
  | undef => simp only [AV.ren]; exact .undef
  | bool b => simp only [AV.ren]; exact .bool b
  | int k n => simp only [AV.ren]; exact .int k n
  | flt h hb => simp only [AV.ren]; exact .flt h hb
  | nanbits h hb => simp only [AV.ren]; exact .nanbits h hb
  | str h => simp only [AV.ren]; exact .str h
  | ptr h ha => simp only [AV.ren]; cases hσ with | ptr e => exact .ptr (e.trans h) ha
  | nilptr => simp only [AV.ren]; exact .nilptr
  | @slice l off len cap sz li a h hb hsp ho hl hc =>
    simp only [AV.ren]
    cases hσ with
    | slice e =>
      rcases e with rfl | e
      · obtain rfl : len = 0 := by omega
        exact .slice0 _
      · exact .slice (e.trans h) hb hsp ho hl hc
  | slice0 p => simp only [AV.ren]; exact .slice0 p
  | nilslice => simp only [AV.ren]; exact .nilslice
  | map h hb => simp only [AV.ren]; cases hσ with | map e => exact .map (e.trans h) hb
  | func h₁ _ h₂ _ i₁ i₂ =>
    simp only [AV.ren, renL_eq]
    cases hσ with
    | func l₁ l₂ =>
      refine .func (by simpa using h₁) ?_ (by simpa using h₂) ?_
      · intro i a v x y
        rw [List.getElem?_map, Option.map_eq_some_iff] at x
        obtain ⟨b, hb, rfl⟩ := x
        exact i₁ i b v hb y (l₁ b (List.mem_of_getElem? hb))
      · intro i a v x y
        rw [List.getElem?_map, Option.map_eq_some_iff] at x
        obtain ⟨b, hb, rfl⟩ := x
        exact i₂ i b v hb y (l₂ b (List.mem_of_getElem? hb))
  | nilfunc => simp only [AV.ren]; exact .nilfunc
  | iface _ ih => simp only [AV.ren]; cases hσ with | iface e => exact .iface (ih e)
  | niliface => simp only [AV.ren]; exact .niliface
  | glob => simp only [AV.ren]; exact .glob
  | agg h _ ih =>
    simp only [AV.ren, renL_eq]
    cases hσ with
    | agg l =>
      refine .agg (by simpa using h) ?_
      intro i a v x y
      rw [List.getElem?_map, Option.map_eq_some_iff] at x
      obtain ⟨b, hb, rfl⟩ := x
      exact ih i b v hb y (l b (List.mem_of_getElem? hb))
  | tuple h _ ih =>
    simp only [AV.ren, renL_eq]
    cases hσ with
    | tuple l =>
      refine .tuple (by simpa using h) ?_
      intro i a v x y
      rw [List.getElem?_map, Option.map_eq_some_iff] at x
      obtain ⟨b, hb, rfl⟩ := x
      exact ih i b v hb y (l b (List.mem_of_getElem? hb))

inductive AExit where
  | normal
  | exit (id : Nat)
  | ret
  deriving DecidableEq

inductive ACode where
  | skip
  | run (ops : List AOper)
  | mix (t : ATree)
  | seq (a b : ACode)
  | cond (c : Opd) (a b : ACode)
  | block (id : Nat) (a : ACode)
  | loop (a : ACode)
  | exit (id : Nat)
  | ret

def noOper : AOper := { dst := none, op := .lenC 0, guard := none }
def cMix (P : Program) (ops : Array Oper) (cl : List AOper) : Option ACode :=
  let pr := (List.range ops.size).map (predsOf ops)
  let cos := fun i => cl.getD i noOper
  let preds := fun i => pr.getD i []
  let t := plan cos preds (List.range ops.size) (ops.size + 1) []
  if P.follows .mixedOrders = true ∧ ((List.range ops.size).all fun i => (preds i).all fun j => decide (j < i)) = true ∧ okT ops.size cos preds [] t = true then some (.mix (fillT cos t)) else none

def cCode (P : Program) (N : Nat) : Code → Option ACode
  | .skip => some .skip
  | .region _ ops false => (ops.toList.mapM (cOper P N ops)).map .run
  | .region _ ops true => (ops.toList.mapM (cOper P N ops)).bind (cMix P ops)
  | .seq a b => do some (.seq (← cCode P N a) (← cCode P N b))
  | .cond c a b => do some (.cond (← cOpd c) (← cCode P N a) (← cCode P N b))
  | .block id a => do some (.block id (← cCode P N a))
  | .loop a => do some (.loop (← cCode P N a))
  | .exit id => some (.exit id)
  | .ret => some .ret
  | _ => none

/-- What a body does: a loop is the least relation that is closed under a round. -/
def aexec (P : Program) : ACode → (AExit → Env → AHeap → Prop) → Env → AHeap → Prop
  | .skip, Q, E, H => Q .normal E H
  | .run ops, Q, E, H => arun P ops E H (Q .normal)
  | .mix t, Q, E, H => amix P t E H (Q .normal)
  | .seq a b, Q, E, H => aexec P a (fun e E H => match e with
    | .normal => aexec P b Q E H
    | .exit id => Q (.exit id) E H
    | .ret => Q .ret E H) E H
  | .cond c a b, Q, E, H => match c.ev E with
    | .bool t => if t = true then aexec P a Q E H else aexec P b Q E H
    | _ => False
  | .block id a, Q, E, H => aexec P a (fun e E H => match e with
    | .normal => Q .normal E H
    | .exit i => if i = id then Q .normal E H else Q (.exit i) E H
    | .ret => Q .ret E H) E H
  | .loop a, Q, E, H => ∀ X : Env → AHeap → Prop, (∀ E H, aexec P a (fun e E' H' => match e with
    | .normal => X E' H'
    | .exit id => Q (.exit id) E' H'
    | .ret => Q .ret E' H') E H → X E H) → X E H
  | .exit id, Q, E, H => Q (.exit id) E H
  | .ret, Q, E, H => Q .ret E H

theorem growA_mono {H : AHeap} {os ys : List AV} {need bytes sz : Nat} {k k' : AV → AHeap → Prop} (hk : ∀ r H, k r H → k' r H) (h : growA H os ys need bytes sz k) : growA H os ys need bytes sz k' :=
  ⟨h.1, h.2.1, fun c hc => hk _ _ (h.2.2 c hc)⟩
theorem appendA_mono {H : AHeap} {sz bytes : Nat} {x y : AV} {k k' : AV → AHeap → Prop} (hk : ∀ r H, k r H → k' r H) (h : appendA H sz bytes x y k) : appendA H sz bytes x y k' := by
  unfold appendA at h ⊢
  repeat' split at h
  all_goals try exact h.elim
  all_goals try exact growA_mono hk h
  all_goals repeat rw [if_pos ‹_›]
  all_goals try exact growA_mono hk h
  all_goals repeat rw [if_neg ‹_›]
  all_goals try exact growA_mono hk h
  all_goals repeat rw [if_pos ‹_›]
  all_goals first | exact growA_mono hk h | exact hk _ _ h
theorem aeff_mono {P : Program} {E : Env} {H : AHeap} {k k' : AV → AHeap → Prop} (hk : ∀ r H, k r H → k' r H) {op : AOp} (h : aeff P E H k op) : aeff P E H k' op := by
  cases op <;> simp only [aeff] at h ⊢
  case append => exact appendA_mono hk h
  case call => exact h.mono hk
  all_goals (repeat' split at h) <;> first | exact hk _ _ h | exact h.elim | (simp_all; done) | (simp_all only []; exact hk _ _ h) | exact h.mono hk
theorem gstep_mono {P : Program} {E : Env} {H : AHeap} {c : Prop} [Decidable c] {k k' : AV → Prop} (hk : ∀ r, k r → k' r) {op : AOp} (h : gstep P E H c op k) : gstep P E H c op k' := by
  cases op
  case call f args => obtain ⟨r, h1, h2⟩ := h; exact ⟨r, h1, hk _ h2⟩
  case callV g args =>
    unfold gstep at h ⊢
    simp only [] at h ⊢
    generalize g.ev E = x at h ⊢
    cases x
    case func => obtain ⟨r, h1, h2⟩ := h; exact ⟨r, h1, hk _ h2⟩
    all_goals exact ⟨h.1, hk _ h.2⟩
  all_goals
    unfold gstep at h ⊢
    simp only [] at h ⊢
    revert h
    generalize aval E H.get _ = x
    intro h
    cases x
    · exact ⟨h.1, hk _ h.2⟩
    · exact hk _ h
theorem arun_mono {P : Program} : ∀ {ops : List AOper} {E : Env} {H : AHeap} {k k' : Env → AHeap → Prop}, (∀ E H, k E H → k' E H) → arun P ops E H k → arun P ops E H k'
  | [], _, _, _, _, hk, h => hk _ _ h
  | o :: rest, E, H, k, k', hk, h => by
    simp only [arun] at h ⊢
    split
    · rename_i hg; rw [hg] at h; exact aeff_mono (fun r H' h => arun_mono hk h) h
    · rename_i t want hg; rw [hg] at h; exact ⟨h.1, gstep_mono (fun r h => arun_mono hk h) h.2⟩
mutual
theorem amix_mono {P : Program} : ∀ {t : ATree} {E : Env} {H : AHeap} {k k' : Env → AHeap → Prop}, (∀ E H, k E H → k' E H) → amix P t E H k → amix P t E H k'
  | .node qs kids, E, H, k, k', hk, h => by
    simp only [amix] at h ⊢
    exact arun_mono (fun E H h => ⟨fun hn => hk _ _ (h.1 hn), akids_mono hk h.2⟩) h
theorem akids_mono {P : Program} : ∀ {t : AKids} {E : Env} {H : AHeap} {k k' : Env → AHeap → Prop}, (∀ E H, k E H → k' E H) → akids P t E H k → akids P t E H k'
  | .nil, _, _, _, _, _, _ => by simp only [akids]
  | .cons free o t rest, E, H, k, k', hk, h => by
    simp only [akids] at h ⊢
    exact ⟨arun_mono (fun E' H' h => ⟨h.1, amix_mono hk h.2⟩) h.1, akids_mono hk h.2⟩
end
theorem aexec_mono {P : Program} : ∀ {c : ACode} {Q Q' : AExit → Env → AHeap → Prop} {E : Env} {H : AHeap}, (∀ e E H, Q e E H → Q' e E H) → aexec P c Q E H → aexec P c Q' E H
  | .skip, _, _, _, _, hq, h => hq _ _ _ h
  | .run _, _, _, _, _, hq, h => arun_mono (fun E H h => hq _ _ _ h) h
  | .mix _, _, _, _, _, hq, h => amix_mono (fun E H h => hq _ _ _ h) h
  | .seq a b, _, _, _, _, hq, h => by
    simp only [aexec] at h ⊢
    refine aexec_mono (fun e E H h => ?_) h
    cases e with
    | normal => exact aexec_mono hq h
    | exit id => exact hq _ _ _ h
    | ret => exact hq _ _ _ h
  | .cond c a b, _, _, _, _, hq, h => by
    simp only [aexec] at h ⊢
    split
    · rename_i t ht
      rw [ht] at h
      simp only [] at h
      split
      · rename_i hc; rw [if_pos hc] at h; exact aexec_mono hq h
      · rename_i hc; rw [if_neg hc] at h; exact aexec_mono hq h
    · split at h
      · simp_all
      · exact h
  | .block id a, _, _, _, _, hq, h => by
    simp only [aexec] at h ⊢
    refine aexec_mono (fun e E H h => ?_) h
    cases e with
    | normal => exact hq _ _ _ h
    | exit i =>
      simp only [] at h ⊢
      split
      · rename_i hc; rw [if_pos hc] at h; exact hq _ _ _ h
      · rename_i hc; rw [if_neg hc] at h; exact hq _ _ _ h
    | ret => exact hq _ _ _ h
  | .loop a, _, _, _, _, hq, h => by
    simp only [aexec] at h ⊢
    intro X hX
    refine h X fun E H hb => hX E H (aexec_mono (fun e E H h => ?_) hb)
    cases e with
    | normal => exact h
    | exit id => exact hq _ _ _ h
    | ret => exact hq _ _ _ h
  | .exit _, _, _, _, _, hq, h => hq _ _ _ h
  | .ret, _, _, _, _, hq, h => hq _ _ _ h

/-- A round of a loop, then the loop again. -/
theorem aloop_step {P : Program} {a : ACode} {Q : AExit → Env → AHeap → Prop} {E : Env} {H : AHeap} (h : aexec P a (fun e E' H' => match e with
    | .normal => aexec P (.loop a) Q E' H'
    | .exit id => Q (.exit id) E' H'
    | .ret => Q .ret E' H') E H) : aexec P (.loop a) Q E H := by
  simp only [aexec]
  intro X hX
  refine hX E H (aexec_mono (fun e E H h => ?_) h)
  cases e with
  | normal => simp only [aexec] at h; exact h X hX
  | exit id => exact h
  | ret => exact h

/-- A loop by a relation that each round keeps, with a number that falls. -/
theorem aloop_inv {P : Program} {a : ACode} {Q : AExit → Env → AHeap → Prop} {E : Env} {H : AHeap} (I : Nat → Env → AHeap → Prop) (n : Nat) (h : I n E H) (hr : ∀ n E H, I n E H → aexec P a (fun e E' H' => match e with
    | .normal => ∃ m, m < n ∧ I m E' H'
    | .exit id => Q (.exit id) E' H'
    | .ret => Q .ret E' H') E H) : aexec P (.loop a) Q E H := by
  simp only [aexec]
  intro X hX
  have key : ∀ n E H, I n E H → X E H := by
    intro n
    induction n using Nat.strongRecOn with
    | _ n ih =>
      intro E H hI
      refine hX E H (aexec_mono (fun e E H h => ?_) (hr n E H hI))
      cases e with
      | normal => obtain ⟨m, hm, hI'⟩ := h; exact ih m hm E H hI'
      | exit id => exact h
      | ret => exact h
  exact key n E H h

/-- What holds behind a piece of code, exit by exit. -/
def APost (F : Nat → Prop) (N n0 : Nat) (μ0 : Mu) (w0 : World) (Q : AExit → Env → AHeap → Prop) : Exit → Act → World → Prop
  | .normal, a, w => Post F N n0 μ0 w0 (Q .normal) a w
  | .exit id, a, w => Post F N n0 μ0 w0 (Q (.exit id)) a w
  | .ret, a, w => Post F N n0 μ0 w0 (Q .ret) a w
  | _, _, _ => False

theorem mapM_get {α β : Type} {f : α → Option β} : ∀ {l : List α} {xs : List β}, l.mapM f = some xs → xs.length = l.length ∧ ∀ (i : Nat) (j : α), l[i]? = some j → ∃ x, xs[i]? = some x ∧ f j = some x
  | [], xs, h => by simp at h; subst h; simp
  | a :: l, xs, h => by
    simp only [List.mapM_cons, Option.bind_eq_bind, Option.bind_eq_some_iff, Option.pure_def, Option.some.injEq] at h
    obtain ⟨x, hx, ys, hys, rfl⟩ := h
    obtain ⟨h1, h2⟩ := mapM_get hys
    refine ⟨by simp [h1], fun i j hj => ?_⟩
    cases i with
    | zero => simp at hj; subst hj; exact ⟨x, by simp, hx⟩
    | succ i => simpa using h2 i j (by simpa using hj)

/-- A loop, entered behind its head. -/
def rounds (P : Program) (c : Code) (Q : Exit → Act → World → Prop) (a : Act) (w : World) : Prop :=
  ∀ (b : Frame) (k : List Item) (cs : List Frame), ∃ e a' w', Q e a' w' ∧ Arrives P (lone (b.at a (.code c :: .inLoop c :: k)) cs w) b k cs e a' w'

theorem rounds_wp {P : Program} {c : Code} {Q : Exit → Act → World → Prop} {a : Act} {w : World} (h : rounds P c Q a w) : (Code.loop c).wp P Q a w := by
  intro b k cs
  obtain ⟨e, a', w', hq, harr⟩ := h b k cs
  exact ⟨e, a', w', hq, .of_steps (.one step_loop) harr⟩

theorem rounds_step {P : Program} {c : Code} {Q : Exit → Act → World → Prop} {a : Act} {w : World} (h : c.wp P (Exit.then (fun a' w' => rounds P c Q a' w') Q) a w) : rounds P c Q a w := by
  intro b k cs
  obtain ⟨e, a₁, w₁, hq, harr⟩ := h b (.inLoop c :: k) cs
  cases e with
  | normal =>
    obtain ⟨e₂, a₂, w₂, hq₂, harr₂⟩ := hq b k cs
    exact ⟨e₂, a₂, w₂, hq₂, .of_steps (Steps.trans harr (.one step_inLoop)) harr₂⟩
  | exit id => exact ⟨_, a₁, w₁, hq, .pass (x := .inLoop c) rfl (fun _ _ => .inl (by simp)) harr⟩
  | goto l => exact ⟨_, a₁, w₁, hq, .pass (x := .inLoop c) rfl (fun _ _ => .inl (by simp)) harr⟩
  | ret => exact ⟨_, a₁, w₁, hq, .pass (x := .inLoop c) rfl (fun _ _ => .inl (by simp)) harr⟩
  | panic ch => exact ⟨_, a₁, w₁, hq, .pass (x := .inLoop c) rfl (fun _ _ => .inl (by simp)) harr⟩
  | outgrown => exact ⟨_, a₁, w₁, hq, .pass (x := .inLoop c) rfl (fun _ _ => .inl (by simp)) harr⟩

section
variable {P : Program} {N : Nat}

theorem aexec_sound : ∀ (c : Code) (ac : ACode) (Q : AExit → Env → AHeap → Prop) (E : Env) (H : AHeap), cCode P N c = some ac → aexec P ac Q E H →
    ∀ (F : Nat → Prop) (n0 : Nat) (μ0 : Mu) (w0 : World) (μ : Mu) (a : Act) (w : World), At F N n0 μ0 w0 μ E H a w → c.wp P (APost F N n0 μ0 w0 Q) a w := by
  intro c
  induction c with
  | skip =>
    intro ac Q E H hc h F n0 μ0 w0 μ a w hat
    simp only [cCode, Option.some.injEq] at hc
    subst hc
    exact wp_skip ⟨μ, E, H, h, hat⟩
  | region id ops draw =>
    intro ac Q E H hc h F n0 μ0 w0 μ a w hat
    cases draw with
    | true =>
      simp only [cCode, Option.bind_eq_some_iff] at hc
      obtain ⟨cl, hcl, hc⟩ := hc
      unfold cMix at hc
      simp only [] at hc
      split at hc
      · rename_i hok
        obtain ⟨h1, h2, h3⟩ := hok
        cases hc
        have hlen : cl.length = ops.size := by
          have := (mapM_get hcl).1
          simpa using this
        have hpr : (fun i => ((List.range ops.size).map (predsOf ops)).getD i []) = predsOf ops := by
          funext i
          rw [List.getD_eq_getElem?_getD, List.getElem?_map]
          by_cases hi : i < ops.size
          · rw [List.getElem?_range hi]; rfl
          · rw [List.getElem?_eq_none (by simpa using hi)]
            simp only [Option.map_none, Option.getD_none]
            unfold predsOf
            rw [Array.getElem?_eq_none (by omega)]
        rw [hpr] at h3 h
        refine mix_sound rfl h1 ?_ ?_ h3 (fun a w h => h) hat h
        · intro i o ho
          obtain ⟨c, hc1, hc2⟩ := (mapM_get hcl).2 i o (by rw [Array.getElem?_toList]; exact ho)
          rw [List.getD_eq_getElem?_getD, hc1]
          exact hc2
        · intro i hi j hj
          rw [List.all_eq_true] at h2
          have := h2 i (by simpa using hi)
          rw [show ((List.range ops.size).map (predsOf ops)).getD i [] = predsOf ops i from congrFun hpr i, List.all_eq_true] at this
          simpa using this j hj
      · cases hc
    | false =>
      simp only [cCode, Option.map_eq_some_iff] at hc
      obtain ⟨cl, hcl, rfl⟩ := hc
      refine wp_region ?_
      have := arun_sound (P := P) (ops := ops) (Q := APost F N n0 μ0 w0 Q) (k := Q .normal) (fun a w h => h) ops.toList cl 0 μ E H a w (by simp) hcl hat h
      rw [List.range_eq_range']
      simpa using this
  | seq x y ihx ihy =>
    intro ac Q E H hc h F n0 μ0 w0 μ a w hat
    simp only [cCode, Option.bind_eq_bind, Option.bind_eq_some_iff, Option.some.injEq] at hc
    obtain ⟨ax, hx, ay, hy, rfl⟩ := hc
    simp only [aexec] at h
    refine wp_seq (wp_mono (ihx ax _ E H hx h F n0 μ0 w0 μ a w hat) ?_)
    intro e a' w' hp
    cases e with
    | normal =>
      obtain ⟨μ', E', H', hq, hat'⟩ := hp
      exact ihy ay Q E' H' hy hq F n0 μ0 w0 μ' a' w' hat'
    | exit id => exact hp
    | ret => exact hp
    | goto l => exact hp.elim
    | panic c => exact hp.elim
    | outgrown => exact hp.elim
  | cond c x y ihx ihy =>
    intro ac Q E H hc h F n0 μ0 w0 μ a w hat
    simp only [cCode, Option.bind_eq_bind, Option.bind_eq_some_iff, Option.some.injEq] at hc
    obtain ⟨cc, hcc, ax, hx, ay, hy, rfl⟩ := hc
    simp only [aexec] at h
    have hR := cOpd_R hcc hat.env
    split at h
    · rename_i t ht
      rw [ht] at hR
      refine wp_cond_split (bool_inv hR) ?_ ?_
      · rintro rfl
        exact ihx ax Q E H hx (by simpa using h) F n0 μ0 w0 μ a w hat
      · rintro rfl
        exact ihy ay Q E H hy (by simpa using h) F n0 μ0 w0 μ a w hat
    · exact h.elim
  | block id x ih =>
    intro ac Q E H hc h F n0 μ0 w0 μ a w hat
    simp only [cCode, Option.bind_eq_bind, Option.bind_eq_some_iff, Option.some.injEq] at hc
    obtain ⟨ax, hx, rfl⟩ := hc
    simp only [aexec] at h
    refine wp_block (wp_mono (ih ax _ E H hx h F n0 μ0 w0 μ a w hat) ?_)
    intro e a' w' hp
    cases e with
    | normal => exact hp
    | exit i =>
      obtain ⟨μ', E', H', hq, hat'⟩ := hp
      simp only [] at hq
      show if i = id then APost F N n0 μ0 w0 Q .normal a' w' else APost F N n0 μ0 w0 Q (.exit i) a' w'
      by_cases hi : i = id
      · rw [if_pos hi] at hq ⊢; exact ⟨μ', E', H', hq, hat'⟩
      · rw [if_neg hi] at hq ⊢; exact ⟨μ', E', H', hq, hat'⟩
    | ret => exact hp
    | goto l => exact hp.elim
    | panic c => exact hp.elim
    | outgrown => exact hp.elim
  | loop x ih =>
    intro ac Q E H hc h F n0 μ0 w0 μ a w hat
    simp only [cCode, Option.bind_eq_bind, Option.bind_eq_some_iff, Option.some.injEq] at hc
    obtain ⟨ax, hx, rfl⟩ := hc
    simp only [aexec] at h
    have key := h (fun E H => ∀ (F : Nat → Prop) (n0 : Nat) (μ0 : Mu) (w0 : World) (μ : Mu) (a : Act) (w : World), At F N n0 μ0 w0 μ E H a w → rounds P x (APost F N n0 μ0 w0 Q) a w) (by
      intro E H hb F n0 μ0 w0 μ a w hat
      refine rounds_step (wp_mono (ih ax _ E H hx hb F n0 μ0 w0 μ a w hat) ?_)
      intro e a2 w2 hp
      cases e with
      | normal =>
        obtain ⟨μ2, E2, H2, hX, hat2⟩ := hp
        exact hX F n0 μ0 w0 μ2 a2 w2 hat2
      | exit i => exact hp
      | ret => exact hp
      | goto l => exact hp.elim
      | panic c => exact hp.elim
      | outgrown => exact hp.elim) F n0 μ0 w0 μ a w hat
    exact rounds_wp key
  | rangeFunc => intro ac Q E H hc; simp [cCode] at hc
  | exit id =>
    intro ac Q E H hc h F n0 μ0 w0 μ a w hat
    simp only [cCode, Option.some.injEq] at hc
    subst hc
    exact wp_exit ⟨μ, E, H, h, hat⟩
  | scope => intro ac Q E H hc; simp [cCode] at hc
  | label => intro ac Q E H hc; simp [cCode] at hc
  | goto => intro ac Q E H hc; simp [cCode] at hc
  | ret =>
    intro ac Q E H hc h F n0 μ0 w0 μ a w hat
    simp only [cCode, Option.some.injEq] at hc
    subst hc
    exact wp_ret ⟨μ, E, H, h, hat⟩
  | refuse => intro ac Q E H hc; simp [cCode] at hc
/-! ### A function -/

inductive ARes where
  | tmp (t : Nat)
  | cell (t : Nat) (ag : Bool) (n : Nat)

structure AFun where
  ntmps : Nat
  results : List ARes
  body : ACode

def cRes (P : Program) : ResultVar → Option ARes
  | .tmp t => some (.tmp t)
  | .cell t ty => do
    let (ag, n) ← tyAgg P ty
    some (.cell t ag n)

def cFun (P : Program) (f : FuncId) : Option AFun := do
  let fn ← P.funcs[f]?
  let c ← fn.body
  let rs ← fn.results.toList.mapM (cRes P)
  if fn.name == "runtime.NumGoroutine" then none else some { ntmps := fn.ntmps, results := rs, body := ← cCode P fn.ntmps c }

def ARes.val (E : Env) (H : AHeap) : ARes → Option AV
  | .tmp t => some (E t)
  | .cell t ag n => match E t with
    | .ptr l off => match H.get l with
      | some (.row cs _) => part ag n off cs
      | _ => none
    | _ => none

def aresL (E : Env) (H : AHeap) : List ARes → Option (List AV)
  | [] => some []
  | r :: rs => match r.val E H, aresL E H rs with
    | some x, some xs => some (x :: xs)
    | _, _ => none

def aresults (rs : List ARes) (E : Env) (H : AHeap) : Option AV :=
  match aresL E H rs with
  | some [x] => some x
  | some xs => some (.tuple xs)
  | none => none

/-- From what a body leaves to what the caller is told. -/
def Fin (H Hc : AHeap) (r : AV) (Q : AV → AHeap → Prop) : Prop :=
  ∃ r' H', Q r' H' ∧ H.next ≤ H'.next ∧ ∀ (F : Nat → Prop) (μ : Mu) (w : World) (v : Value), Sim F μ Hc w → R μ r v →
    (∀ (l : Nat) (b : HB) (li : LI), H.get l = some b → μ l = some li → b.On (· < H.next)) → ∃ μ', Mu.ext H.next μ μ' ∧ Sim F μ' H' w ∧ R μ' r' v

theorem entry_on {F : Nat → Prop} {μ : Mu} {H : AHeap} {w : World} (hs : Sim F μ H w) {l : Nat} {b : HB} {li : LI} (hg : H.get l = some b) (hm : μ l = some li) : b.On (· < H.next) := by
  cases b with
  | row cs wr =>
    obtain ⟨c, e, lo, hi, _, _, _, hc, _⟩ := hs.row l li cs wr hg hm
    intro a ha
    obtain ⟨i, hi', he⟩ := List.getElem_of_mem ha
    obtain ⟨v, _, hr⟩ := hc i a (by rw [List.getElem?_eq_getElem hi', he])
    exact hs.lt hr
  | mp es =>
    obtain ⟨ms, ck, _, hsz, hc⟩ := hs.mp l li es hg hm
    intro e he
    obtain ⟨i, hi', he'⟩ := List.getElem_of_mem he
    have hmi : i < ms.size := hsz ▸ hi'
    obtain ⟨h1, h2⟩ := hc i e ms[i] (by rw [List.getElem?_eq_getElem hi', he']) (by rw [Array.getElem?_eq_getElem hmi])
    exact ⟨hs.lt h1, hs.lt h2⟩

def Env.start (args : List AV) : Env := fun t => args.getD t .undef

theorem acalls_of {f : FuncId} {af : AFun} (hf : cFun P f = some af) {args : List AV} (hargs : args.length ≤ af.ntmps) {H : AHeap} {Q : AV → AHeap → Prop}
    (h : aexec P af.body (fun e E Hc => match e with
      | .exit _ => False
      | _ => ∃ r, aresults af.results E Hc = some r ∧ Fin H Hc r Q) (Env.start args) H) : ACalls P f args H Q := by
  intro F μ w vs hs ha
  unfold cFun at hf
  simp only [Option.bind_eq_bind, Option.bind_eq_some_iff] at hf
  obtain ⟨fn, hfn, c, hb, rs, hrs, hf⟩ := hf
  split at hf
  · cases hf
  · rename_i hname
    simp only [Option.bind_eq_some_iff, Option.some.injEq] at hf
    obtain ⟨ac, hac, rfl⟩ := hf
    have hcall : (callFunc f vs.toArray).run P w = .ok (.enter f vs.toArray) w := by
      unfold callFunc
      rw [bind_ok (show program.run P w = .ok P w from rfl), hfn]
      simp only []
      rw [if_neg (by simpa using hname), if_neg (by rw [hb]; simp)]
      rfl
    rw [hcall]
    simp only [NextOk]
    refine calls_of_wp hfn hb ?_
    have hat : At F fn.ntmps H.next μ w μ (Env.start args) H { tmps := vs.toArray ++ Array.replicate (fn.ntmps - vs.toArray.size) Go.undef, defers := [] } w := by
      refine ⟨hs, ?_, ?_, rfl, Keeps.refl _ _, Mu.ext_refl _ _, Nat.le_refl _⟩
      · intro t
        unfold Env.start
        by_cases ht : t < args.length
        · obtain ⟨v, hv, hR⟩ := ha.get (List.getElem?_eq_getElem ht)
          have e1 : args.getD t .undef = args[t] := by simp [List.getD, List.getElem?_eq_getElem ht]
          have e2 : (vs.toArray ++ Array.replicate (fn.ntmps - vs.toArray.size) Go.undef).getD t Go.undef = v := by
            rw [Array.getD_eq_getD_getElem?, Array.getElem?_append_left (by simpa [← ha.1] using ht)]
            simp [hv]
          rw [e1, e2]; exact hR
        · have e1 : args.getD t .undef = .undef := by simp [List.getD, List.getElem?_eq_none (Nat.le_of_not_lt ht)]
          have e2 : (vs.toArray ++ Array.replicate (fn.ntmps - vs.toArray.size) Go.undef).getD t Go.undef = Go.undef := by
            rw [Array.getD_eq_getD_getElem?, Array.getElem?_append_right (by simpa [← ha.1] using ht), Array.getElem?_replicate]
            split <;> rfl
          rw [e1, e2]; exact .undef
      · have := ha.1
        simp at this hargs ⊢
        omega
    refine wp_mono (aexec_sound c ac _ (Env.start args) H hac h F H.next μ w μ _ w hat) ?_
    have done : ∀ a' w', Post F fn.ntmps H.next μ w (fun E Hc => ∃ r, aresults rs E Hc = some r ∧ Fin H Hc r Q) a' w' →
        a'.defers = [] ∧ ∃ v, (results fn a'.tmps).run P w' = .ok v w' ∧ ∃ u, Ending.returned v = .returned u ∧ Out F μ H w Q u w' := by
      rintro a' w' ⟨μ', E', Hc, ⟨r, hr, r', H', hq, hle, hfin⟩, hat'⟩
      refine ⟨hat'.defers, ?_⟩
      obtain ⟨v, hv, hR⟩ := res_run hrs hr hat'
      refine ⟨v, hv, v, rfl, ?_⟩
      obtain ⟨μ2, h1, h2, h3⟩ := hfin F μ' w' v hat'.sim hR (fun l b li hg hm => by
        have hl := H.lt_of_get hg
        exact entry_on hs hg (by rw [← hat'.ext l hl]; exact hm))
      exact ⟨μ2, r', H', hq, hle, Mu.ext_trans hat'.ext h1 (Nat.le_refl _), h2, h3, hat'.keeps⟩
    intro e a' w' hp
    cases e with
    | normal => exact done a' w' hp
    | ret => exact done a' w' hp
    | exit id => obtain ⟨_, _, _, hf, _⟩ := hp; exact hf.elim
    | goto l => exact hp.elim
    | panic c => exact hp.elim
    | outgrown => exact hp.elim
  where
  res_run {fn : Func} {rs : List ARes} {r : AV} {F : Nat → Prop} {N n0 : Nat} {μ0 μ : Mu} {w0 w : World} {E : Env} {H : AHeap} {a : Act} (hrs : fn.results.toList.mapM (cRes P) = some rs) (hr : aresults rs E H = some r) (hat : At F N n0 μ0 w0 μ E H a w) :
      ∃ v, (results fn a.tmps).run P w = .ok v w ∧ R μ r v := by
    have list : ∀ (l : List ResultVar) (rs : List ARes) (xs : List AV), l.mapM (cRes P) = some rs → aresL E H rs = some xs →
        ∃ vs : List Value, (l.mapM (fun | .tmp t => pure (a.tmps.getD t Go.undef) | .cell t ty => do loadVar ty (← asAddr (a.tmps.getD t Go.undef)) : ResultVar → Sem Value)).run P w = .ok vs w ∧ RL μ xs vs := by
      intro l
      induction l with
      | nil => intro rs xs h1 h2; simp at h1; subst h1; simp [aresL] at h2; subst h2; exact ⟨[], rfl, RL.nil⟩
      | cons x l ih =>
        intro rs xs h1 h2
        simp only [List.mapM_cons, Option.bind_eq_bind, Option.bind_eq_some_iff, Option.pure_def, Option.some.injEq] at h1
        obtain ⟨y, hy, rs', hrs', rfl⟩ := h1
        simp only [aresL] at h2
        split at h2
        · rename_i z zs hz hzs
          cases h2
          obtain ⟨vs, g1, g2⟩ := ih rs' zs hrs' hzs
          have one : ∃ v, ((fun | .tmp t => pure (a.tmps.getD t Go.undef) | .cell t ty => do loadVar ty (← asAddr (a.tmps.getD t Go.undef)) : ResultVar → Sem Value) x).run P w = .ok v w ∧ R μ z v := by
            cases x with
            | tmp t =>
              simp only [cRes, Option.some.injEq] at hy
              subst hy
              simp only [ARes.val, Option.some.injEq] at hz
              subst hz
              exact ⟨_, rfl, hat.env t⟩
            | cell t ty =>
              simp only [cRes, Option.bind_eq_bind, Option.bind_eq_some_iff, Option.some.injEq] at hy
              obtain ⟨⟨ag, n⟩, ht, rfl⟩ := hy
              simp only [ARes.val] at hz
              have hR := hat.env t
              split at hz
              · rename_i l' off hE
                rw [hE] at hR
                split at hz
                · rename_i cs wr hg
                  obtain ⟨v, q1, q3⟩ := load_same hat.sim ht hR hg hz
                  exact ⟨v, q1, q3⟩
                · cases hz
              · cases hz
          obtain ⟨v, g3, g4⟩ := one
          refine ⟨v :: vs, ?_, RL.cons g4 g2⟩
          rw [List.mapM_cons, bind_ok g3, bind_ok g1]; rfl
        · cases h2
    unfold aresults at hr
    have key : ∀ xs, aresL E H rs = some xs → ∃ vs : Array Value, (fn.results.mapM (fun | .tmp t => pure (a.tmps.getD t Go.undef) | .cell t ty => do loadVar ty (← asAddr (a.tmps.getD t Go.undef)) : ResultVar → Sem Value)).run P w = .ok vs w ∧ RL μ xs vs.toList := by
      intro xs hx
      obtain ⟨vs, h1, h2⟩ := list fn.results.toList rs xs hrs hx
      refine ⟨vs.toArray, ?_, by simpa using h2⟩
      rw [Array.mapM_eq_mapM_toList]
      exact bind_ok (f := fun a => pure (List.toArray a)) h1
    have fin : ∀ (vs : Array Value), (fn.results.mapM (fun | .tmp t => pure (a.tmps.getD t Go.undef) | .cell t ty => do loadVar ty (← asAddr (a.tmps.getD t Go.undef)) : ResultVar → Sem Value)).run P w = .ok vs w →
        (results fn a.tmps).run P w = .ok (if h : vs.size = 1 then vs[0] else .tuple vs) w := by
      intro vs h
      unfold results
      exact bind_ok h
    split at hr
    · rename_i x hx
      cases hr
      obtain ⟨vs, h1, h2⟩ := key _ hx
      have hsz : vs.size = 1 := by simpa using h2.1.symm
      refine ⟨_, fin vs h1, ?_⟩
      rw [dif_pos hsz]
      exact h2.2 0 _ _ rfl (by simp [hsz])
    · rename_i xs hne hx
      cases hr
      obtain ⟨vs, h1, h2⟩ := key _ hx
      have hsz : vs.size ≠ 1 := by
        intro h
        have := h2.1.trans (Array.length_toList.trans h)
        obtain ⟨x, rfl⟩ := List.length_eq_one_iff.1 this
        exact hne x rfl
      refine ⟨_, fin vs h1, ?_⟩
      rw [dif_neg hsz]
      exact R.tupleL h2
    · cases hr
  load_same {F : Nat → Prop} {μ : Mu} {H : AHeap} {w : World} {ty : TypeId} {ag : Bool} {n : Nat} (hs : Sim F μ H w) (ht : tyAgg P ty = some (ag, n)) {l off : Nat} {v : Value} (hv : R μ (.ptr l off) v) {cs : List AV} {wr : Bool}
      (hg : H.get l = some (.row cs wr)) {r : AV} (hp : part ag n off cs = some r) : ∃ u, (do loadVar ty (← asAddr v) : Sem Value).run P w = .ok u w ∧ R μ r u := by
    obtain ⟨li, hm, rfl⟩ := ptr_inv hv
    obtain ⟨hA, hN⟩ := run_agg (w := w) ht
    show ∃ u, (loadVar ty ⟨li.blk, li.base + off, none⟩).run P w = .ok u w ∧ R μ r u
    unfold loadVar
    rw [bind_ok hA]
    unfold part at hp
    cases ag with
    | true =>
      simp only [if_true] at hp
      split at hp
      · rename_i hn
        cases hp
        obtain ⟨us, hl, hr, hc⟩ := row_cells hs hg hm hn
        simp only [if_true]
        rw [bind_ok hN]
        subst hl
        rw [bind_ok (run_loadCells_at hc)]
        exact ⟨_, rfl, R.aggL.2 (by simpa using hr)⟩
      · cases hp
    | false =>
      simp only [Bool.false_eq_true, if_false] at hp ⊢
      obtain ⟨c, e, lo, hi, hb, hsz, hlim, hc, _⟩ := hs.row l li cs wr hg hm
      obtain ⟨u, hu, hr⟩ := hc off r hp
      refine ⟨u, ?_, hr⟩
      rw [run_load, cell_of hb, hu]
end
end Go.Ab
