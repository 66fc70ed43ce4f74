/- Symbolic execution: operations on scalars. -/
import Derived.Test.YtgjhjemmddojfaaSx1
set_option linter.unusedVariables false
set_option linter.unusedSimpArgs false
namespace Go.Ab

theorem fop_ok {op : BinOp} {k : FloatKind} {a b : Option Nat} : fOk k (fop op k a b) := by
  intro c hc
  cases a with
  | none => cases hc
  | some a =>
    cases b with
    | none => cases hc
    | some b =>
      have hc' : floatBits op k a b = some c := hc
      have h1 := nrm_some (nrm_floatBits hc')
      refine ⟨?_, h1.2⟩
      have := floatBits_wf hc'
      cases k
      · exact (show c < 4294967296 by simpa [Lit.wf] using this)
      · exact (show c < 18446744073709551616 by simpa [Lit.wf] using this)

theorem compare_int_swap (a b : Int) : (compare a b).swap = compare b a := by
  simp only [compare, compareOfLessAndEq]
  rcases Int.lt_trichotomy a b with h | h | h
  · rw [if_pos h, if_neg (by omega), if_neg (by omega)]; rfl
  · subst h; simp
  · rw [if_neg (by omega), if_neg (by omega), if_pos h]; rfl
theorem compare_nat_swap (a b : Nat) : (compare a b).swap = compare b a := by
  simp only [compare, compareOfLessAndEq]
  rcases Nat.lt_trichotomy a b with h | h | h
  · rw [if_pos h, if_neg (by omega), if_neg (by omega)]; rfl
  · subst h; simp
  · rw [if_neg (by omega), if_neg (by omega), if_pos h]; rfl
theorem order_swap (a b : Ieee.Datum) : b.order a = (a.order b).map Ordering.swap := by
  cases a <;> cases b <;> try rfl
  · rename_i s m i t n j
    simp only [Ieee.Datum.order, Option.map_some]
    rw [compare_int_swap, Int.min_comm]
  · rename_i s m i t
    cases t <;> rfl
  · rename_i s t m i
    cases s <;> rfl
  · rename_i s t
    cases s <;> cases t <;> rfl
theorem ford_swap (k : FloatKind) (a b : Option Nat) : ford k b a = (ford k a b).map Ordering.swap := by
  cases a <;> cases b <;> try rfl
  exact order_swap _ _

section
variable {ρ : Nat → AV} {φ : Nat → List AV → AV} {s : St} {vs : List AV} {ls : List (Nat × Nat)} {H : AHeap}

/-- The negation of a bool. -/
def snot (p : SV × St) : SV × St :=
  match p.1 with
  | .lit (.bool b) => (.lit (.bool !b), p.2)
  | .nd i kd => match findA i p.2.ns with
    | some (.un .not y, _) => match kdOf y with
      | some .bool => (y, p.2)
      | _ => mk (.un .not p.1) .bool p.2
    | _ => mk (.un .not p.1) .bool p.2
  | _ => p

theorem snot_got {p : SV × St} {b : Bool} (h : Got ρ φ s vs ls H p (.bool b)) : Got ρ φ s vs ls H (snot p) (.bool !b) := by
  obtain ⟨vs1, h1, h2, h3, h4⟩ := h
  have fin : ∀ q, Got ρ φ p.2 vs1 ls H q (.bool !b) → Got ρ φ s vs ls H q (.bool !b) := by
    rintro q ⟨vs2, k1, k2, k3, k4⟩
    exact ⟨vs2, h1.trans k1, k2, k3, h4.trans k4⟩
  have fresh : ∀ i kd, p.1 = .nd i kd → Got ρ φ p.2 vs1 ls H (mk (.un .not p.1) .bool p.2) (.bool !b) := by
    intro i kd e
    refine mk_got h2 ?_ ⟨_, rfl⟩
    refine ⟨.bool b, ?_, rfl⟩
    rw [e] at h3 ⊢
    simp only [D] at h3 ⊢; exact h3
  obtain ⟨v, s1⟩ := p
  unfold snot
  simp only at *
  split
  · rename_i c
    simp only [D] at h3
    obtain ⟨h3, _⟩ := h3
    cases h3
    exact fin _ (Got.same h2 (by unfold D; exact ⟨rfl, rfl⟩))
  · rename_i i kd
    split
    · rename_i y kd2 hf
      split
      · rename_i hk
        obtain ⟨w, w1, ⟨c, w2, w3⟩, w4⟩ := h2.ns _ _ _ (findA_mem hf)
        simp only [D] at h3
        rw [h3.1] at w1
        cases w1
        obtain ⟨d, rfl⟩ := (kd_of w2 hk).1
        simp only [unA, Option.some.injEq, AV.bool.injEq] at w3
        subst w3
        have hy : D vs1 ls y (.bool (!!d)) := by rw [Bool.not_not]; exact w2.mono (LeL.refl _) (fun i x h => by simp at h)
        exact fin _ (Got.same h2 hy)
      · exact fin _ (fresh i kd rfl)
    · exact fin _ (fresh i kd rfl)
  · rename_i n1 n2
    exfalso
    cases v <;> simp only [D] at h3
    · rename_i a; exact n1 b (by rw [← h3.1])
    · exact n2 _ _ rfl
    all_goals simp at h3

def LitInt (x : SV) (p : Int → Bool) : Bool := match x with
  | .lit (.int _ n) => p n
  | _ => false
theorem litInt_of {x : SV} {p : Int → Bool} (h : LitInt x p = true) {k : IntKind} {n : Int} (hd : D vs ls x (.int k n)) : p n = true := by
  unfold LitInt at h
  split at h
  · simp only [D, AV.int.injEq] at hd; rw [hd.1.2]; exact h
  · cases h

/-- Equality, in whichever order it was asked before. -/
def mkEq (x y : SV) (s : St) : SV × St :=
  match findN (.bin .eql y x) s.ns with
  | some (i, k) => (.nd i k, s)
  | none => mk (.bin .eql x y) .bool s
theorem mkEq_got (h : Okk ρ φ s vs ls H) {x y : SV} {a b : AV} {r : Bool} (hx : D vs [] x a) (hy : D vs [] y b) (hr : binA .eql a b = some (.bool r)) (hr' : binA .eql b a = some (.bool r)) : Got ρ φ s vs ls H (mkEq x y s) (.bool r) := by
  unfold mkEq
  split
  · rename_i i k hf
    obtain ⟨v, h1, h2, h3⟩ := h.ns _ _ _ (findN_mem hf)
    have := h2.det (show NodeOk ρ φ vs (.bin .eql y x) (.bool r) from ⟨b, a, hy, hx, hr'⟩)
    subst this
    exact Got.same h (by simp only [D]; exact ⟨h1, h3⟩)
  · exact mk_got h ⟨a, b, hx, hy, hr⟩ ⟨_, rfl⟩

def ltrue : SV := .lit (.bool true)
def lfalse : SV := .lit (.bool false)
def lbool (b : Bool) : SV := .lit (.bool b)
theorem got_bool (h : Okk ρ φ s vs ls H) {b c : Bool} (e : b = c) : Got ρ φ s vs ls H (lbool b, s) (.bool c) := by
  subst e; exact Got.same h (by unfold lbool D; exact ⟨rfl, rfl⟩)

/-- Integers. -/
def sbinI (op : BinOp) (k k' : IntKind) (x y : SV) (s : St) : Option (SV × St) :=
  match decide (k = k') with
  | true => match op with
    | .add => some (mk (.bin op x y) (.int k) s)
    | .sub => some (mk (.bin op x y) (.int k) s)
    | .mul => some (mk (.bin op x y) (.int k) s)
    | .and => some (mk (.bin op x y) (.int k) s)
    | .or => some (mk (.bin op x y) (.int k) s)
    | .xor => some (mk (.bin op x y) (.int k) s)
    | .andNot => some (mk (.bin op x y) (.int k) s)
    | .quo => if LitInt y (fun n => !decide (n = 0)) then some (mk (.bin op x y) (.int k) s) else none
    | .rem => if LitInt y (fun n => !decide (n = 0)) then some (mk (.bin op x y) (.int k) s) else none
    | .shl => if LitInt y (fun n => decide (0 ≤ n)) then some (mk (.bin op x y) (.int k) s) else none
    | .shr => if LitInt y (fun n => decide (0 ≤ n)) then some (mk (.bin op x y) (.int k) s) else none
    | .eql => if x.beq y then some (lbool true, s) else some (mkEq x y s)
    | .neq => if x.beq y then some (lbool false, s) else some (snot (mkEq x y s))
    | .lss => if x.beq y then some (lbool false, s) else some (mk (.bin .lss x y) .bool s)
    | .gtr => if x.beq y then some (lbool false, s) else some (mk (.bin .lss y x) .bool s)
    | .leq => if x.beq y then some (lbool true, s) else some (snot (mk (.bin .lss y x) .bool s))
    | .geq => if x.beq y then some (lbool true, s) else some (snot (mk (.bin .lss x y) .bool s))
  | false => match op with
    | .shl => if LitInt y (fun n => decide (0 ≤ n)) then some (mk (.bin op x y) (.int k) s) else none
    | .shr => if LitInt y (fun n => decide (0 ≤ n)) then some (mk (.bin op x y) (.int k) s) else none
    | _ => none

theorem sbinI_got (h : Okk ρ φ s vs ls H) {op : BinOp} {k k' : IntKind} {x y : SV} {a b : Int} (hx : D vs [] x (.int k a)) (hy : D vs [] y (.int k' b)) {p : SV × St} (he : sbinI op k k' x y s = some p) :
    ∃ r, binA op (.int k a) (.int k' b) = some r ∧ Got ρ φ s vs ls H p r := by
  have sh : ∀ op, (op = .shl ∨ op = .shr) → (if LitInt y (fun n => decide (0 ≤ n)) then some (mk (.bin op x y) (.int k) s) else none) = some p → ∃ r, binA op (.int k a) (.int k' b) = some r ∧ Got ρ φ s vs ls H p r := by
    intro op ho he
    split at he
    · rename_i hl
      have hn : 0 ≤ b := by simpa using litInt_of hl hy
      cases he
      rcases ho with rfl | rfl
      · have e : binA .shl (.int k a) (.int k' b) = some (.int k (k.wrap (a * 2 ^ (min b.toNat k.bits)))) := by simp only [binA]; rw [if_pos hn]
        exact ⟨_, e, mk_got h ⟨_, _, hx, hy, e⟩ ⟨_, rfl⟩⟩
      · have e : binA .shr (.int k a) (.int k' b) = some (.int k (a.fdiv (2 ^ (min b.toNat k.bits)))) := by simp only [binA]; rw [if_pos hn]
        exact ⟨_, e, mk_got h ⟨_, _, hx, hy, e⟩ ⟨_, rfl⟩⟩
    · cases he
  unfold sbinI at he
  split at he
  · rename_i hk
    obtain rfl : k = k' := of_decide_eq_true hk
    have same : x.beq y = true → a = b := by
      intro hb
      have := SV.eq_of_beq hb
      subst this
      have := hx.det hy
      cases this; rfl
    have tot : ∀ op r, binA op (.int k a) (.int k b) = some (.int k r) → some (mk (.bin op x y) (.int k) s) = some p → ∃ r, binA op (.int k a) (.int k b) = some r ∧ Got ρ φ s vs ls H p r := by
      intro op r e he
      cases he
      exact ⟨_, e, mk_got h ⟨_, _, hx, hy, e⟩ ⟨_, rfl⟩⟩
    have div : ∀ op, (op = .quo ∨ op = .rem) → (if LitInt y (fun n => !decide (n = 0)) then some (mk (.bin op x y) (.int k) s) else none) = some p → ∃ r, binA op (.int k a) (.int k b) = some r ∧ Got ρ φ s vs ls H p r := by
      intro op ho he
      split at he
      · rename_i hl
        have hn : b ≠ 0 := by simpa using litInt_of hl hy
        rcases ho with rfl | rfl
        · exact tot .quo (k.wrap (a.tdiv b)) (by simp [binA, hn]) he
        · exact tot .rem (a.tmod b) (by simp [binA, hn]) he
      · cases he
    have lss : Got ρ φ s vs ls H (mk (.bin .lss x y) .bool s) (.bool (decide (a < b))) := mk_got h ⟨_, _, hx, hy, by simp [binA]⟩ ⟨_, rfl⟩
    have lss' : Got ρ φ s vs ls H (mk (.bin .lss y x) .bool s) (.bool (decide (b < a))) := mk_got h ⟨_, _, hy, hx, by simp [binA]⟩ ⟨_, rfl⟩
    have eqq : Got ρ φ s vs ls H (mkEq x y s) (.bool (decide (a = b))) := mkEq_got h hx hy (by simp [binA]) (by simp only [binA, if_true]; congr 2; simp only [eq_comm])
    have nle : ∀ a b : Int, (!decide (a < b)) = decide (b ≤ a) := fun a b => by
      by_cases e : a < b
      · rw [decide_eq_true e, decide_eq_false (by omega)]; rfl
      · rw [decide_eq_false e, decide_eq_true (by omega)]; rfl
    cases op
    case add => exact tot .add _ (by simp only [binA, if_true]; rfl) he
    case sub => exact tot .sub _ (by simp only [binA, if_true]; rfl) he
    case mul => exact tot .mul _ (by simp only [binA, if_true]; rfl) he
    case and => exact tot .and _ (by simp only [binA, if_true]; rfl) he
    case or => exact tot .or _ (by simp only [binA, if_true]; rfl) he
    case xor => exact tot .xor _ (by simp only [binA, if_true]; rfl) he
    case andNot => exact tot .andNot _ (by simp only [binA, if_true]; rfl) he
    case quo => exact div .quo (.inl rfl) he
    case rem => exact div .rem (.inr rfl) he
    case shl => exact sh .shl (.inl rfl) he
    case shr => exact sh .shr (.inr rfl) he
    all_goals
      simp only [] at he
      refine ⟨_, by simp only [binA, if_true]; rfl, ?_⟩
      split at he
      · rename_i hb
        have := same hb
        cases he
        refine got_bool h ?_
        simp [this]
      · cases he
        first
          | exact eqq
          | exact lss
          | exact lss'
          | (have := snot_got eqq; simpa using this)
          | (have := snot_got lss; rwa [nle] at this)
          | (have := snot_got lss'; rwa [nle] at this)
  · cases op <;> simp only [reduceCtorEq] at he
    · exact sh .shl (.inl rfl) he
    · exact sh .shr (.inr rfl) he

/-- Floats. -/
def sbinF (op : BinOp) (k : FloatKind) (x y : SV) (s : St) : Option (SV × St) :=
  match op with
  | .add => some (mk (.bin op x y) (.flt k) s)
  | .sub => some (mk (.bin op x y) (.flt k) s)
  | .mul => some (mk (.bin op x y) (.flt k) s)
  | .quo => some (mk (.bin op x y) (.flt k) s)
  | .eql => some (mkEq x y s)
  | .neq => some (snot (mkEq x y s))
  | .lss => some (mk (.bin .lss x y) .bool s)
  | .leq => some (mk (.bin .leq x y) .bool s)
  | .gtr => some (mk (.bin .lss y x) .bool s)
  | .geq => some (mk (.bin .leq y x) .bool s)
  | _ => none
theorem sbinF_got (h : Okk ρ φ s vs ls H) {op : BinOp} {k : FloatKind} {x y : SV} {a b : Option Nat} (hx : D vs [] x (.flt k a)) (hy : D vs [] y (.flt k b)) {p : SV × St} (he : sbinF op k x y s = some p) :
    ∃ r, binA op (.flt k a) (.flt k b) = some r ∧ Got ρ φ s vs ls H p r := by
  have tot : ∀ op, binA op (.flt k a) (.flt k b) = some (.flt k (fop op k a b)) → some (mk (.bin op x y) (.flt k) s) = some p → ∃ r, binA op (.flt k a) (.flt k b) = some r ∧ Got ρ φ s vs ls H p r := by
    intro op e he
    cases he
    exact ⟨_, e, mk_got h ⟨_, _, hx, hy, e⟩ ⟨_, rfl, fop_ok⟩⟩
  have eqq : Got ρ φ s vs ls H (mkEq x y s) (.bool (ford k a b == some .eq)) := mkEq_got h hx hy (by simp [binA]) (by
    simp only [binA, if_true]; congr 2; rw [ford_swap]
    generalize ford k a b = o
    cases o with
    | none => rfl
    | some o => cases o <;> rfl)
  cases op <;> simp only [sbinF, reduceCtorEq] at he
  case add => exact tot .add (by simp only [binA, if_true]) he
  case sub => exact tot .sub (by simp only [binA, if_true]) he
  case mul => exact tot .mul (by simp only [binA, if_true]) he
  case quo => exact tot .quo (by simp only [binA, if_true]) he
  all_goals
    cases he
    refine ⟨_, by simp only [binA, if_true]; rfl, ?_⟩
  · exact eqq
  · exact snot_got eqq
  · exact mk_got h ⟨_, _, hx, hy, by simp [binA]⟩ ⟨_, rfl⟩
  · exact mk_got h ⟨_, _, hx, hy, by simp [binA]⟩ ⟨_, rfl⟩
  · refine mk_got h ⟨_, _, hy, hx, ?_⟩ ⟨_, rfl⟩
    simp only [binA, if_true]; congr 2; rw [ford_swap]
    generalize ford k a b = o
    cases o with
    | none => rfl
    | some o => cases o <;> rfl
  · refine mk_got h ⟨_, _, hy, hx, ?_⟩ ⟨_, rfl⟩
    simp only [binA, if_true]; congr 2; rw [ford_swap]
    generalize ford k a b = o
    cases o with
    | none => rfl
    | some o => cases o <;> rfl

/-- Is it known whether this float is a NaN? -/
def nanOf (x : SV) (s : St) : Option Bool :=
  match findN (.bin .eql x x) s.ns with
  | some (j, _) => (findA j s.facts).map (!·)
  | none => none
theorem nanOf_of (h : Okk ρ φ s vs ls H) {x : SV} {k : FloatKind} {a : Option Nat} (hx : D vs [] x (.flt k a)) (ha : fOk k a) {b : Bool} (hn : nanOf x s = some b) : a.isNone = b := by
  unfold nanOf at hn
  split at hn
  · rename_i j kd hf
    rw [Option.map_eq_some_iff] at hn
    obtain ⟨c, hc, rfl⟩ := hn
    obtain ⟨v, h1, h2, _⟩ := h.ns _ _ _ (findN_mem hf)
    have h3 := h.facts _ _ (findA_mem hc)
    rw [h1] at h3
    cases h3
    have := h2.det (show NodeOk ρ φ vs (.bin .eql x x) (.bool (ford k a a == some .eq)) from ⟨_, _, hx, hx, by simp [binA]⟩)
    rw [ford_self ha] at this
    cases this
    cases a <;> rfl
  · cases hn

/-- Bits of narrow floats, held against each other. -/
def sbitsEq (x y : SV) (s : St) : Option (SV × St) :=
  match x, y with
  | .nd i _, .nd j _ => match findA i s.ns, findA j s.ns with
    | some (.bits fx, _), some (.bits fy, _) => match nanOf fx s, nanOf fy s with
      | some true, some false => some (lbool false, s)
      | some false, some true => some (lbool false, s)
      | some false, _ => if fx.beq fy then some (lbool true, s) else some (mkEq x y s)
      | _, some false => some (mkEq x y s)
      | _, _ => none
    | _, _ => none
  | _, _ => none
theorem sbitsEq_got (h : Okk ρ φ s vs ls H) {x y : SV} {a b : AV} (hx : D vs [] x a) (hy : D vs [] y b) (ka : HasKd .bits a) (kb : HasKd .bits b) {p : SV × St} (he : sbitsEq x y s = some p) : ∃ r : Bool, binA .eql a b = some (.bool r) ∧ Got ρ φ s vs ls H p (.bool r) := by
  unfold sbitsEq at he
  split at he
  · rename_i i k1 j k2
    split at he
    · rename_i fx k3 fy k4 hf1 hf2
      obtain ⟨v, v1, ⟨c, v2, rfl⟩, _⟩ := h.ns _ _ _ (findA_mem hf1)
      obtain ⟨w, w1, ⟨d, w2, rfl⟩, _⟩ := h.ns _ _ _ (findA_mem hf2)
      have hx0 := hx
      have hy0 := hy
      simp only [D] at hx hy
      rw [hx.1] at v1
      rw [hy.1] at w1
      cases v1
      cases w1
      have nx : ∀ c : Option Nat, ∀ x : Option Nat, bits32 c = bits32 x → fOk .f32 x → fOk .f32 c := by
        intro c x e hx
        cases c <;> cases x <;> simp only [bits32, AV.int.injEq, reduceCtorEq, true_and] at e
        · exact hx
        · obtain rfl := Int.ofNat_inj.1 e; exact hx
      have oc : fOk .f32 c := by obtain ⟨x, e, hx⟩ := ka; exact nx _ _ e hx
      have od : fOk .f32 d := by obtain ⟨x, e, hx⟩ := kb; exact nx _ _ e hx
      have hne : ¬ (c = none ∧ d = none) → binA .eql (bits32 c) (bits32 d) = some (.bool (decide (c = d))) := bits32_eq oc od
      have meq : ¬ (c = none ∧ d = none) → Got ρ φ s vs ls H (mkEq (.nd i k1) (.nd j k2) s) (.bool (decide (c = d))) := fun hn => mkEq_got h hx0 hy0 (hne hn) (by
        rw [bits32_eq od oc (fun e => hn ⟨e.2, e.1⟩)]; simp only [eq_comm])
      split at he
      · rename_i hn1 hn2
        cases he
        have e1 := nanOf_of h v2 oc hn1
        have e2 := nanOf_of h w2 od hn2
        cases c <;> cases d <;> simp at e1 e2
        exact ⟨_, hne (by simp), got_bool h (by simp)⟩
      · rename_i hn1 hn2
        cases he
        have e1 := nanOf_of h v2 oc hn1
        have e2 := nanOf_of h w2 od hn2
        cases c <;> cases d <;> simp at e1 e2
        exact ⟨_, hne (by simp), got_bool h (by simp)⟩
      · rename_i hn1 _
        have e1 := nanOf_of h v2 oc hn1
        have hc : ¬ (c = none ∧ d = none) := by rintro ⟨rfl, _⟩; cases e1
        split at he
        · rename_i hb
          cases he
          have := SV.eq_of_beq hb
          subst this
          have := v2.det w2
          cases this
          exact ⟨_, hne hc, got_bool h (by simp)⟩
        · cases he
          exact ⟨_, hne hc, meq hc⟩
      · rename_i hn2 _ _
        have e2 := nanOf_of h w2 od hn2
        have hc : ¬ (c = none ∧ d = none) := by rintro ⟨_, rfl⟩; cases e2
        cases he
        exact ⟨_, hne hc, meq hc⟩
      · cases he
    · cases he
  · cases he

def isFltLit : AV → Bool
  | .flt _ _ => true
  | _ => false

/-- Two scalars. -/
def sbin (op : BinOp) (x y : SV) (s : St) : Option (SV × St) :=
  match kdOf x, kdOf y with
  | some (.int k), some (.int k') => match x, y with
    | .lit a, .lit b => match binA op a b with
      | some r => if litOk r then some (.lit r, s) else none
      | none => none
    | _, _ => sbinI op k k' x y s
  | some .str, some .str => match x, y with
    | .lit a, .lit b => match binA op a b with
      | some r => if litOk r then some (.lit r, s) else none
      | none => none
    | _, _ => match op with
      | .eql => if x.beq y then some (lbool true, s) else some (mkEq x y s)
      | .neq => if x.beq y then some (lbool false, s) else some (snot (mkEq x y s))
      | _ => none
  | some .bits, some .bits => match op with
    | .eql => sbitsEq x y s
    | _ => none
  | some a, some b => match fltK a, fltK b with
    | some k, some k' => match decide (k = k') with
      | true => sbinF op k x y s
      | false => none
    | _, _ => none
  | _, _ => none

theorem sbin_got (h : Okk ρ φ s vs ls H) {op : BinOp} {x y : SV} {a b : AV} (hx : D vs ls x a) (hy : D vs ls y b) {p : SV × St} (he : sbin op x y s = some p) :
    ∃ r, binA op a b = some r ∧ Got ρ φ s vs ls H p r := by
  have lits : ∀ c d, x = .lit c → y = .lit d → (match binA op c d with
      | some r => if litOk r then some (SV.lit r, s) else none
      | none => none) = some p → ∃ r, binA op a b = some r ∧ Got ρ φ s vs ls H p r := by
    rintro c d rfl rfl he
    simp only [D] at hx hy
    rw [hx.1, hy.1]
    split at he
    · rename_i r hr
      split at he
      · rename_i ho
        cases he
        exact ⟨r, hr, Got.same h (by unfold D; exact ⟨rfl, ho⟩)⟩
      · cases he
    · cases he
  unfold sbin at he
  split at he
  · rename_i k k' h1 h2
    obtain ⟨a, rfl⟩ := (kd_of hx h1).1
    obtain ⟨b, rfl⟩ := (kd_of hy h2).1
    split at he
    · exact lits _ _ rfl rfl he
    · exact sbinI_got h ((kd_of hx h1).2) ((kd_of hy h2).2) he
  · rename_i h1 h2
    split at he
    · exact lits _ _ rfl rfl he
    · obtain ⟨a, rfl⟩ := (kd_of hx h1).1
      obtain ⟨b, rfl⟩ := (kd_of hy h2).1
      have hx' := (kd_of hx h1).2
      have hy' := (kd_of hy h2).2
      have eqq : Got ρ φ s vs ls H (mkEq x y s) (.bool (decide (a = b))) := mkEq_got h hx' hy' (by simp [binA]) (by simp only [binA]; congr 2; simp only [eq_comm])
      have same : x.beq y = true → a = b := by
        intro hb
        have := SV.eq_of_beq hb
        subst this
        have := hx.det hy
        cases this; rfl
      split at he
      · refine ⟨_, by simp only [binA]; rfl, ?_⟩
        split at he
        · rename_i hb; cases he; exact got_bool h (by simp [same hb])
        · cases he; exact eqq
      · refine ⟨_, by simp only [binA]; rfl, ?_⟩
        split at he
        · rename_i hb; cases he; exact got_bool h (by simp [same hb])
        · cases he; have := snot_got eqq; simpa using this
      · cases he
  · rename_i h1 h2
    split at he
    · obtain ⟨r, h3, h4⟩ := sbitsEq_got h ((kd_of hx h1).2) ((kd_of hy h2).2) (kd_of hx h1).1 (kd_of hy h2).1 he
      exact ⟨_, h3, h4⟩
    · cases he
  · rename_i ka kb _ _ _ h1 h2
    split at he
    · rename_i k k' e1 e2
      split at he
      · rename_i hk
        obtain rfl : k = k' := of_decide_eq_true hk
        obtain ⟨a, rfl, _⟩ := fltK_of (kd_of hx h1).1 e1
        obtain ⟨b, rfl, _⟩ := fltK_of (kd_of hy h2).1 e2
        exact sbinF_got h ((kd_of hx h1).2) ((kd_of hy h2).2) he
      · cases he
    · cases he
  · cases he
end
end Go.Ab
