/- Symbolic execution: quiet operations. -/
import Derived.Test.YtgjhjemmddojfaaSx2
import Derived.Test.YtgjhjemmddojfaaSxF
set_option linter.unusedVariables false
set_option linter.unusedSimpArgs false
namespace Go.Ab

section
variable {ρ : Nat → AV} {φ : Nat → List AV → AV} {s : St} {vs : List AV} {ls : List (Nat × Nat)} {H : AHeap}

/-- Both ways of a bool that is not known; a fact more on each. -/
def splitB (v : SV) (s : St) : List (Bool × St) :=
  match v with
  | .lit (.bool b) => [(b, s)]
  | .nd i _ => match findA i s.facts with
    | some b => [(b, s)]
    | none => match findA i s.ns with
      | some (.un .not (.nd j .bool), _) => match findA j s.facts with
        | some b => [(!b, s)]
        | none => [(true, { s with facts := (j, false) :: s.facts }), (false, { s with facts := (j, true) :: s.facts })]
      | _ => [(true, { s with facts := (i, true) :: s.facts }), (false, { s with facts := (i, false) :: s.facts })]
  | _ => []

theorem Okk.fact (h : Okk ρ φ s vs ls H) {i : Nat} {b : Bool} (hi : vs[i]? = some (.bool b)) : Okk ρ φ { s with facts := (i, b) :: s.facts } vs ls H :=
  ⟨h.nn, h.ns, fun j c hc => by
    rcases List.mem_cons.1 hc with e | hc
    · cases e; exact hi
    · exact h.facts j c hc, h.nl, h.sep, h.lt, h.heap⟩

theorem splitB_of (h : Okk ρ φ s vs ls H) {v : SV} {b : Bool} (hd : D vs ls v (.bool b)) : ∃ s', (b, s') ∈ splitB v s ∧ Okk ρ φ s' vs ls H ∧ Same s s' := by
  unfold splitB
  split
  · rename_i c
    simp only [D, AV.bool.injEq] at hd
    obtain ⟨rfl, _⟩ := hd
    exact ⟨s, by simp, h, Same.refl _⟩
  · rename_i i kd
    simp only [D] at hd
    have two : ∀ (j : Nat) (c : Bool), vs[j]? = some (.bool c) → ∀ (f : Bool → Bool), (∀ c, f (f c) = c) → ∃ s', (f c, s') ∈ [(true, { s with facts := (j, f true) :: s.facts }), (false, { s with facts := (j, f false) :: s.facts })] ∧ Okk ρ φ s' vs ls H ∧ Same s s' := by
      intro j c hj f hf
      refine ⟨{ s with facts := (j, f (f c)) :: s.facts }, ?_, h.fact (by rw [hf]; exact hj), rfl, rfl, rfl, rfl⟩
      generalize f c = d
      cases d <;> simp
    split
    · rename_i c hc
      have := h.facts _ _ (findA_mem hc)
      rw [hd.1] at this
      cases this
      exact ⟨s, by simp, h, Same.refl _⟩
    · split
      · rename_i j kd2 hf
        obtain ⟨w, w1, ⟨c, w2, w3⟩, _⟩ := h.ns _ _ _ (findA_mem hf)
        rw [hd.1] at w1
        cases w1
        simp only [D] at w2
        obtain ⟨w2, d, rfl⟩ := w2
        simp only [unA, Option.some.injEq, AV.bool.injEq] at w3
        subst w3
        split
        · rename_i c' hc'
          have := h.facts _ _ (findA_mem hc')
          rw [w2] at this
          cases this
          exact ⟨s, by simp, h, Same.refl _⟩
        · exact two j d w2 (!·) (by simp)
      · exact two i b hd.1 id (by simp)
  · rename_i n1 n2
    exfalso
    cases v <;> simp only [D] at hd
    · rename_i a; exact n1 b (by rw [← hd.1])
    · exact n2 _ _ rfl
    all_goals simp at hd

/-- Several ways, of which one is the case. -/
def GotL (ρ : Nat → AV) (φ : Nat → List AV → AV) (s : St) (vs : List AV) (ls : List (Nat × Nat)) (H : AHeap) (ps : List (SV × St)) (a : AV) : Prop := ∃ p ∈ ps, Got ρ φ s vs ls H p a
theorem Got.one {p : SV × St} {a : AV} (h : Got ρ φ s vs ls H p a) : GotL ρ φ s vs ls H [p] a := ⟨p, by simp, h⟩
theorem Got.via {s1 : St} {p : SV × St} {a : AV} (hs : Same s s1) (h : Got ρ φ s1 vs ls H p a) : Got ρ φ s vs ls H p a := by
  obtain ⟨vs', h1, h2, h3, h4⟩ := h
  exact ⟨vs', h1, h2, h3, hs.trans h4⟩

def seqL {α β : Type} (f : α → Option (List β)) : List α → Option (List β)
  | [] => some []
  | x :: xs => match f x with
    | some ys => match seqL f xs with
      | some zs => some (ys ++ zs)
      | none => none
    | none => none
theorem seqL_mem {α β : Type} {f : α → Option (List β)} : ∀ {xs : List α} {zs : List β}, seqL f xs = some zs → ∀ x ∈ xs, ∃ ys, f x = some ys ∧ ∀ y ∈ ys, y ∈ zs
  | [], _, _, x, hx => by cases hx
  | a :: xs, zs, h, x, hx => by
    unfold seqL at h
    split at h
    · rename_i ys hy
      split at h
      · rename_i zs' hz
        cases h
        rcases List.mem_cons.1 hx with rfl | hx
        · exact ⟨ys, hy, fun y h => List.mem_append_left _ h⟩
        · obtain ⟨ys', h1, h2⟩ := seqL_mem hz x hx
          exact ⟨ys', h1, fun y h => List.mem_append_right _ (h2 y h)⟩
      · cases h
    · cases h

def one (p : Option (SV × St)) : Option (List (SV × St)) := p.map fun p => [p]

/-- The same bool, or not. -/
def seqB (neg : Bool) (x y : SV) (s : St) : Option (List (SV × St)) :=
  match kdOf x, kdOf y with
  | some .bool, some .bool =>
    if x.beq y then some [(lbool (!neg), s)] else
    some (((splitB x s).map fun (b, s1) => (splitB y s1).map fun (c, s2) => (lbool ((b == c) != neg), s2)).flatten)
  | _, _ => none
theorem seqB_got (h : Okk ρ φ s vs ls H) {neg : Bool} {x y : SV} {a b : AV} (hx : D vs ls x a) (hy : D vs ls y b) {ps : List (SV × St)} (he : seqB neg x y s = some ps) :
    ∃ c d : Bool, a = .bool c ∧ b = .bool d ∧ GotL ρ φ s vs ls H ps (.bool ((c == d) != neg)) := by
  unfold seqB at he
  split at he
  · rename_i h1 h2
    obtain ⟨c, rfl⟩ := (kd_of hx h1).1
    obtain ⟨d, rfl⟩ := (kd_of hy h2).1
    refine ⟨c, d, rfl, rfl, ?_⟩
    split at he
    · rename_i hb
      have := SV.eq_of_beq hb
      subst this
      have := hx.det hy
      cases this
      cases he
      exact (got_bool h (by cases neg <;> simp)).one
    · cases he
      obtain ⟨s1, m1, o1, e1⟩ := splitB_of h hx
      obtain ⟨s2, m2, o2, e2⟩ := splitB_of o1 hy
      refine ⟨(lbool ((c == d) != neg), s2), ?_, (got_bool o2 rfl).via (e1.trans e2)⟩
      exact List.mem_flatten.2 ⟨_, List.mem_map.2 ⟨(c, s1), m1, rfl⟩, List.mem_map.2 ⟨(d, s2), m2, rfl⟩⟩
  · cases he

/-- Aggregates, cell by cell. -/
def seqA (neg : Bool) (kind : Nat) : List SV → List SV → St → Option (List (SV × St))
  | [], [], s => some [(lbool (!neg), s)]
  | x :: xs, y :: ys, s =>
    match (match kind, kdOf x, kdOf y with
      | 0, some (.int k), some (.int k') => if decide (k = k') then sbin .eql x y s else none
      | 1, some a, some b => match fltK a, fltK b with
        | some k, some k' => if decide (k = k') then sbin .eql x y s else none
        | _, _ => none
      | _, _, _ => none) with
    | some (v, s1) => seqL (fun (p : Bool × St) => match p.1 with
        | true => seqA neg kind xs ys p.2
        | false => if kdsA kind xs ys then some [(lbool neg, p.2)] else none) (splitB v s1)
    | none => none
  | _, _, _ => none
where
  kdsA (kind : Nat) : List SV → List SV → Bool
    | [], [] => true
    | x :: xs, y :: ys => (match kind, kdOf x, kdOf y with
      | 0, some (.int k), some (.int k') => decide (k = k')
      | 1, some a, some b => match fltK a, fltK b with
        | some k, some k' => decide (k = k')
        | _, _ => false
      | _, _, _ => false) && kdsA kind xs ys
    | _, _ => false

theorem kdsA_of {kind : Nat} : ∀ {xs ys : List SV} {as bs : List AV}, DL vs ls xs as → DL vs ls ys bs → seqA.kdsA kind xs ys = true → ∃ r, cellsEq kind as bs = some r
  | [], [], as, bs, hx, hy, _ => by simp only [DL] at hx hy; subst hx; subst hy; exact ⟨true, rfl⟩
  | x :: xs, y :: ys, as, bs, hx, hy, h => by
    simp only [DL] at hx hy
    obtain ⟨a, as', rfl, hx1, hx2⟩ := hx
    obtain ⟨b, bs', rfl, hy1, hy2⟩ := hy
    simp only [seqA.kdsA, Bool.and_eq_true] at h
    obtain ⟨r, hr⟩ := kdsA_of hx2 hy2 h.2
    have h1 := h.1
    have : ∃ c, cellEq kind a b = some c := by
      split at h1
      · rename_i k k' e1 e2
        obtain ⟨a, rfl⟩ := (kd_of hx1 e1).1
        obtain ⟨b, rfl⟩ := (kd_of hy1 e2).1
        have := of_decide_eq_true h1
        subst this
        exact ⟨_, by simp only [cellEq, and_self, if_true]; rfl⟩
      · rename_i ka kb e1 e2
        split at h1
        · rename_i k k' f1 f2
          obtain ⟨a, rfl, _⟩ := fltK_of (kd_of hx1 e1).1 f1
          obtain ⟨b, rfl, _⟩ := fltK_of (kd_of hy1 e2).1 f2
          have := of_decide_eq_true h1
          subst this
          exact ⟨_, by simp only [cellEq, and_self, if_true]; rfl⟩
        · cases h1
      · cases h1
    obtain ⟨c, hc⟩ := this
    exact ⟨_, by simp only [cellsEq, hc, hr]; rfl⟩
  | [], _ :: _, _, _, _, _, h => by simp [seqA.kdsA] at h
  | _ :: _, [], _, _, _, _, h => by simp [seqA.kdsA] at h

theorem seqA_got {neg : Bool} {kind : Nat} : ∀ {xs ys : List SV} {s : St} {vs : List AV} {as bs : List AV} {ps : List (SV × St)}, Okk ρ φ s vs ls H → DL vs ls xs as → DL vs ls ys bs → seqA neg kind xs ys s = some ps →
    ∃ r, cellsEq kind as bs = some r ∧ GotL ρ φ s vs ls H ps (.bool (r != neg))
  | [], [], s, vs, as, bs, ps, h, hx, hy, he => by
    simp only [DL] at hx hy
    subst hx; subst hy
    simp only [seqA, Option.some.injEq] at he
    subst he
    exact ⟨true, rfl, (got_bool h (by simp)).one⟩
  | x :: xs, y :: ys, s, vs, as, bs, ps, h, hx, hy, he => by
    simp only [DL] at hx hy
    obtain ⟨a, as', rfl, hx1, hx2⟩ := hx
    obtain ⟨b, bs', rfl, hy1, hy2⟩ := hy
    unfold seqA at he
    split at he
    · rename_i v s1 hv
      have key : ∃ r : Bool, cellEq kind a b = some r ∧ Got ρ φ s vs ls H (v, s1) (.bool r) := by
        split at hv
        · rename_i k k' e1 e2
          obtain ⟨a, rfl⟩ := (kd_of hx1 e1).1
          obtain ⟨b, rfl⟩ := (kd_of hy1 e2).1
          split at hv
          · rename_i hk
            have := of_decide_eq_true hk
            subst this
            obtain ⟨r, h1, h2⟩ := sbin_got h hx1 hy1 hv
            simp only [binA, if_true, Option.some.injEq] at h1
            subst h1
            exact ⟨_, by simp only [cellEq, and_self, if_true], h2⟩
          · cases hv
        · rename_i ka kb e1 e2
          split at hv
          · rename_i k k' f1 f2
            obtain ⟨a, rfl, _⟩ := fltK_of (kd_of hx1 e1).1 f1
            obtain ⟨b, rfl, _⟩ := fltK_of (kd_of hy1 e2).1 f2
            split at hv
            · rename_i hk
              have := of_decide_eq_true hk
              subst this
              obtain ⟨r, h1, h2⟩ := sbin_got h hx1 hy1 hv
              simp only [binA, if_true, Option.some.injEq] at h1
              subst h1
              exact ⟨_, by simp only [cellEq, and_self, if_true], h2⟩
            · cases hv
          · cases hv
        · cases hv
      obtain ⟨r, h1, vs1, g1, g2, g3, g4⟩ := key
      obtain ⟨s2, m2, o2, e2⟩ := splitB_of g2 g3
      obtain ⟨ys', y1, y2⟩ := seqL_mem he (r, s2) m2
      have hx2' := hx2.mono g1 (LeL.refl ls)
      have hy2' := hy2.mono g1 (LeL.refl ls)
      cases r with
      | true =>
        simp only [] at y1
        obtain ⟨q, q1, p, q2, vs2, q3, q4, q5, q6⟩ := seqA_got o2 hx2' hy2' y1
        exact ⟨q, by simp [cellsEq, h1, q1], p, y2 p q2, vs2, g1.trans q3, q4, q5, g4.trans (e2.trans q6)⟩
      | false =>
        simp only [] at y1
        split at y1
        · rename_i hk
          cases y1
          obtain ⟨r2, hr2⟩ := kdsA_of hx2' hy2' hk
          refine ⟨false, by simp [cellsEq, h1, hr2], (lbool neg, s2), y2 _ (by simp), vs1, g1, o2, ?_, g4.trans e2⟩
          unfold lbool D
          exact ⟨by simp, rfl⟩
        · cases y1
    · cases he
  | [], _ :: _, _, _, _, _, _, _, _, _, h => by simp [seqA] at h
  | _ :: _, [], _, _, _, _, _, _, _, _, h => by simp [seqA] at h

/-- One operand. -/
def sun (op : UnOp) (x : SV) (s : St) : Option (SV × St) :=
  match op, x, kdOf x with
  | .not, _, some .bool => some (snot (x, s))
  | .neg, .lit (.int k n), _ => some (.lit (.int k (k.wrap (0 - n))), s)
  | .neg, _, some (.int k) => some (mk (.un .neg x) (.int k) s)
  | _, _, _ => none
theorem sun_got (h : Okk ρ φ s vs ls H) {op : UnOp} {x : SV} {a : AV} (hx : D vs ls x a) {p : SV × St} (he : sun op x s = some p) : ∃ r, unA op a = some r ∧ Got ρ φ s vs ls H p r := by
  unfold sun at he
  split at he
  · rename_i h1
    obtain ⟨b, rfl⟩ := (kd_of hx h1).1
    cases he
    exact ⟨.bool (!b), rfl, snot_got (Got.same h hx)⟩
  · rename_i _ k n
    cases he
    simp only [D] at hx
    rw [hx.1]
    exact ⟨.int k (k.wrap (0 - n)), rfl, Got.same h (by unfold D; exact ⟨rfl, rfl⟩)⟩
  · rename_i k _ h1
    obtain ⟨n, rfl⟩ := (kd_of hx h1).1
    cases he
    exact ⟨.int k (k.wrap (0 - n)), rfl, mk_got h ⟨_, (kd_of hx h1).2, rfl⟩ ⟨_, rfl⟩⟩
  · cases he

/-- Conversions that touch no memory. -/
def sconv (c : Cv) (x : SV) (s : St) : Option (SV × St) :=
  match c, x, kdOf x with
  | .ii k, .lit (.int _ n), _ => some (.lit (.int k (k.wrap n)), s)
  | .ii k, _, some (.int _) => some (mk (.conv c x) (.int k) s)
  | .toF k, .lit (.int _ n), _ => if litOk (.flt k (some (floatOfInt k n))) then some (.lit (.flt k (some (floatOfInt k n))), s) else none
  | .ff .f64, _, some (.flt .f32) => some (mk (.conv c x) .f64n s)
  | .ff .f32, _, some .f64n => some (mk (.conv c x) (.flt .f32) s)
  | .ff .f32, _, some (.flt .f32) => some (x, s)
  | .ff .f64, _, some (.flt .f64) => some (x, s)
  | .ff .f64, _, some .f64n => some (x, s)
  | _, _, _ => none
theorem f2f_ok {s k : FloatKind} {x y : Option Nat} (hx : fOk s x) (h : f2f s x k = some y) : fOk k y := by
  cases x with
  | none => cases h; intro c hc; cases hc
  | some b =>
    obtain ⟨h1, h2⟩ := hx b rfl
    simp only [f2f, Option.map_eq_some_iff] at h
    obtain ⟨r, hr, rfl⟩ := h
    intro c hc
    cases hc
    have wf : (Lit.float s b).wf = true := by
      cases s <;> (simp only [Lit.wf, decide_eq_true_eq]; exact h1)
    have w2 := floatToFloatBits_wf wf hr
    refine ⟨by cases k <;> (simp only [Lit.wf, decide_eq_true_eq] at w2; exact w2), ?_⟩
    unfold floatToFloatBits at hr
    split at hr
    · rename_i e; cases hr; subst e; exact h2
    · split at hr
      · cases hr
      · cases hr; exact (nrm_some (nrm_write k (d := .infinity _) rfl)).2
      · split at hr
        · cases hr
        · cases hr; exact (nrm_some (nrm_write k (d := .number _ _ _) rfl)).2
theorem f2f_self {k : FloatKind} {x : Option Nat} : f2f k x k = some x := by
  cases x with
  | none => rfl
  | some b => simp [f2f, floatToFloatBits]
theorem sconv_got (h : Okk ρ φ s vs ls H) {c : Cv} {get : Nat → Option HB} {x : SV} {a : AV} (hx : D vs ls x a) {p : SV × St} (he : sconv c x s = some p) : ∃ r, convA c get a = some r ∧ Got ρ φ s vs ls H p r := by
  unfold sconv at he
  split at he
  · rename_i _ k k0 n
    cases he
    simp only [D] at hx
    rw [hx.1]
    exact ⟨.int k (k.wrap n), rfl, Got.same h (by unfold D; exact ⟨rfl, rfl⟩)⟩
  · rename_i k _ k0 h1
    obtain ⟨n, rfl⟩ := (kd_of hx h1).1
    cases he
    exact ⟨.int k (k.wrap n), rfl, mk_got h ⟨_, (kd_of hx h1).2, rfl⟩ ⟨_, rfl⟩⟩
  · rename_i _ k k0 n
    simp only [D] at hx
    rw [hx.1]
    split at he
    · rename_i ho
      cases he
      exact ⟨.flt k (some (floatOfInt k n)), rfl, Got.same h (by unfold D; exact ⟨rfl, ho⟩)⟩
    · cases he
  · rename_i h1
    obtain ⟨n, rfl, ho⟩ := (kd_of hx h1).1
    cases he
    obtain ⟨y, hy1, hy2, hy3⟩ := widen_ok ho
    have e : ∀ g, convA (.ff .f64) g (.flt .f32 n) = some (.flt .f64 y) := fun g => by simp only [convA, hy1]; rfl
    exact ⟨_, e _, mk_got h ⟨_, (kd_of hx h1).2, e _⟩ ⟨y, rfl, hy2, hy3⟩⟩
  · rename_i h1
    obtain ⟨n, rfl, ho, hn⟩ := (kd_of hx h1).1
    cases he
    obtain ⟨y, hy⟩ := Option.isSome_iff_exists.1 hn
    have e : ∀ g, convA (.ff .f32) g (.flt .f64 n) = some (.flt .f32 y) := fun g => by simp only [convA, hy]; rfl
    exact ⟨_, e _, mk_got h ⟨_, (kd_of hx h1).2, e _⟩ ⟨y, rfl, f2f_ok ho hy⟩⟩
  · rename_i h1
    obtain ⟨n, rfl, ho⟩ := (kd_of hx h1).1
    cases he
    exact ⟨.flt .f32 n, by simp only [convA, f2f_self]; rfl, Got.same h hx⟩
  · rename_i h1
    obtain ⟨n, rfl, ho⟩ := (kd_of hx h1).1
    cases he
    exact ⟨.flt .f64 n, by simp only [convA, f2f_self]; rfl, Got.same h hx⟩
  · rename_i h1
    obtain ⟨n, rfl, ho, _⟩ := (kd_of hx h1).1
    cases he
    exact ⟨.flt .f64 n, by simp only [convA, f2f_self]; rfl, Got.same h hx⟩
  · cases he

/-- The less, the greater. -/
def smm (mx : Bool) (x y : SV) (s : St) : Option (SV × St) :=
  match x, y, kdOf x, kdOf y with
  | .lit a, .lit b, some (.int _), some (.int _) => match mmA mx a b with
    | some r => if litOk r then some (.lit r, s) else none
    | none => none
  | _, _, some (.int k), some (.int k') => if decide (k = k') then some (mk (.mm mx x y) (.int k) s) else none
  | _, _, some a, some b => match fltK a, fltK b with
    | some k, some k' => if decide (k = k') then some (mk (.mm mx x y) (.flt k) s) else none
    | _, _ => none
  | _, _, _, _ => none
theorem smm_got (h : Okk ρ φ s vs ls H) {mx : Bool} {x y : SV} {a b : AV} (hx : D vs ls x a) (hy : D vs ls y b) {p : SV × St} (he : smm mx x y s = some p) : ∃ r, mmA mx a b = some r ∧ Got ρ φ s vs ls H p r := by
  unfold smm at he
  split at he
  · simp only [D] at hx hy
    rw [hx.1, hy.1]
    split at he
    · rename_i r hr
      split at he
      · rename_i ho
        cases he
        exact ⟨r, hr, Got.same h (by unfold D; exact ⟨rfl, ho⟩)⟩
      · cases he
    · cases he
  · rename_i k k' _ h1 h2
    obtain ⟨a, rfl⟩ := (kd_of hx h1).1
    obtain ⟨b, rfl⟩ := (kd_of hy h2).1
    split at he
    · rename_i hk
      have := of_decide_eq_true hk
      subst this
      cases he
      have e : ∃ r, mmA mx (.int k a) (.int k b) = some (.int k r) := by
        cases mx
        · exact ⟨_, by simp only [mmA, min2A, if_true, Bool.false_eq_true, if_false]; rfl⟩
        · exact ⟨_, by simp only [mmA, max2A, if_true]; rfl⟩
      obtain ⟨r, e⟩ := e
      exact ⟨_, e, mk_got h ⟨_, _, (kd_of hx h1).2, (kd_of hy h2).2, e⟩ ⟨_, rfl⟩⟩
    · cases he
  · rename_i ka kb _ _ h1 h2
    split at he
    · rename_i k k' e1 e2
      split at he
      · rename_i hk
        have := of_decide_eq_true hk
        subst this
        cases he
        obtain ⟨a, rfl, oa⟩ := fltK_of (kd_of hx h1).1 e1
        obtain ⟨b, rfl, ob⟩ := fltK_of (kd_of hy h2).1 e2
        have on : fOk k none := fun c hc => by cases hc
        have e : ∃ r, mmA mx (.flt k a) (.flt k b) = some (.flt k r) ∧ fOk k r := by
          cases mx
          · refine ⟨_, by simp only [mmA, min2A, if_true, Bool.false_eq_true, if_false]; rfl, ?_⟩
            split
            · exact on
            · exact oa
            · exact ob
            · split
              · exact oa
              · exact ob
          · refine ⟨_, by simp only [mmA, max2A, if_true]; rfl, ?_⟩
            split
            · exact on
            · exact ob
            · exact oa
            · split
              · exact ob
              · exact oa
        obtain ⟨r, e, o⟩ := e
        exact ⟨_, e, mk_got h ⟨_, _, (kd_of hx h1).2, (kd_of hy h2).2, e⟩ ⟨_, rfl, o⟩⟩
      · cases he
    · cases he
  · cases he
end
end Go.Ab
