/- A law's contract out of what its abstract call answers; ends of bodies. -/
import Derived.Test.YtgjhjemmddojfaaAb16
set_option linter.unusedVariables false
set_option linter.unusedSimpArgs false
namespace Go.Ab
open Go.RowKit Go.ChangeShapes

def FitArg (H : AHeap) (x : Bool × List Sh) (a : AV) : Prop := match x with
  | (true, ss) => ∃ cs, a = .agg cs ∧ FitsL H ss cs
  | (false, ss) => ∃ s, ss = [s] ∧ Fits H s a
def FitArgs (H : AHeap) : List (Bool × List Sh) → List AV → Prop
  | [], [] => True
  | x :: xs, a :: as => FitArg H x a ∧ FitArgs H xs as
  | _, _ => False

theorem FitArg.grew {H H' : AHeap} (g : Grew H H') {x : Bool × List Sh} {a : AV} (h : FitArg H x a) : FitArg H' x a := by
  obtain ⟨b, ss⟩ := x
  cases b with
  | true => obtain ⟨cs, h1, h2⟩ := h; exact ⟨cs, h1, h2.grew g⟩
  | false => obtain ⟨s, h1, h2⟩ := h; exact ⟨s, h1, h2.grew g⟩

section
variable (P : Program)
def shapeA (t : TypeId) : Option (Bool × List Sh) := do
  let ss ← shapeT P 12 t
  match P.underlying t with
  | some (.struct _) => some (true, ss)
  | some (.array _ _) => some (true, ss)
  | _ => if ss.length = 1 then some (false, ss) else none
def shapesA (ts : List TypeId) : Option (List (Bool × List Sh)) := ts.mapM (shapeA P)
end

section
variable {F : Nat → Prop} {μ : Mu} {H : AHeap} {w : World} {P : Program} {D : Type} {enc : TypeId × Value → D}

theorem open_arg {base : Nat} {t : TypeId} {x : Bool × List Sh} (hx : shapeA P t = some x) {v : Value} {d : DataW D} {ps : List MemPlace} (hok : Value.okWide P w .any base t v) (h : DataW.Trod enc P w 0 (fun _ => true) true t v d ps) (hs : Sim F μ H w) (hc : Calm H) :
    ∃ μ' H' a, Sim F μ' H' w ∧ Calm H' ∧ Mu.ext H.next μ μ' ∧ Grew H H' ∧ R μ' a v ∧ FitArg H' x a := by
  unfold shapeA at hx
  simp only [Option.bind_eq_bind, Option.bind_eq_some_iff] at hx
  obtain ⟨ss, hss, hx⟩ := hx
  obtain ⟨fuel, hf⟩ := h
  obtain ⟨μ', H', as, h1, h2, h3, h4, h5, h6⟩ := opens (F := F) 12 t ss hss fuel _ _ hf μ H hs hc
  have agg : (∃ cs, v = .agg cs) → x = (true, ss) → ∃ μ' H' a, Sim F μ' H' w ∧ Calm H' ∧ Mu.ext H.next μ μ' ∧ Grew H H' ∧ R μ' a v ∧ FitArg H' x a := by
    rintro ⟨cs, rfl⟩ rfl
    exact ⟨μ', H', .agg as, h1, h2, h3, h4, R.aggL.2 h5, as, rfl, h6⟩
  split at hx
  · rename_i fs ht
    simp only [Value.okWide, ht] at hok
    obtain ⟨cs, hv, _⟩ := hok
    cases hx
    exact agg ⟨cs, hv⟩ rfl
  · rename_i n e ht
    simp only [Value.okWide, ht] at hok
    obtain ⟨cs, hv, _⟩ := hok
    cases hx
    exact agg ⟨cs, hv⟩ rfl
  · rename_i n1 n2
    split at hx
    · rename_i hlen
      cases hx
      obtain ⟨s, rfl⟩ := List.length_eq_one_iff.1 hlen
      have hal : as.length = 1 := h6.1
      obtain ⟨a, rfl⟩ := List.length_eq_one_iff.1 hal
      have hv : v.cells.toList = [v] := by
        cases v <;> first | rfl | skip
        · exfalso
          unfold Value.okWide at hok
          split at hok
          · rename_i fs ht; exact n1 _ ht
          · rename_i ht; exact n2 _ _ ht
          · unfold Cell.okWide at hok
            split at hok <;> simp_all [Cell.ok]
      rw [hv] at h5
      exact ⟨μ', H', a, h1, h2, h3, h4, h5.head, s, rfl, h6.2 0 s a rfl rfl⟩
    · cases hx


theorem open_args {base : Nat} : ∀ {ts : List TypeId} {xs : List (Bool × List Sh)} {vs : List Value} {ds : List (DataW D)} {ps : List MemPlace} {μ : Mu} {H : AHeap}, shapesA P ts = some xs → (∀ (j : Nat) t v, ts[j]? = some t → vs[j]? = some v → Value.okWide P w .any base t v) →
    DataW.TrodAll enc P w 0 (fun _ => true) true ts vs ds ps → Sim F μ H w → Calm H → ∃ μ' H' as, Sim F μ' H' w ∧ Mu.ext H.next μ μ' ∧ Grew H H' ∧ RL μ' as vs ∧ FitArgs H' xs as
  | [], xs, vs, ds, ps, μ, H, hx, hok, h, hs, hc => by
    simp [shapesA] at hx
    subst hx
    obtain ⟨rfl, rfl, rfl⟩ := trodAll_nil h
    exact ⟨μ, H, [], hs, Mu.ext_refl _ _, Grew.refl _, RL.nil, trivial⟩
  | t :: ts, xs, vs, ds, ps, μ, H, hx, hok, h, hs, hc => by
    simp only [shapesA, List.mapM_cons, Option.bind_eq_bind, Option.bind_eq_some_iff, Option.pure_def, Option.some.injEq] at hx
    obtain ⟨x, hx1, xs', hxs, rfl⟩ := hx
    obtain ⟨v, vs', d, ds', p, q, rfl, rfl, rfl, h1, h2⟩ := trodAll_cons h
    obtain ⟨μ1, H1, a, a1, a2, a3, a4, a5, a6⟩ := open_arg (F := F) hx1 (hok 0 t v rfl rfl) h1 hs hc
    obtain ⟨μ2, H2, as, b1, b3, b4, b5, b6⟩ := open_args (xs := xs') hxs (fun j t v x y => hok (j + 1) t v (by simpa using x) (by simpa using y)) h2 a1 a2
    exact ⟨μ2, H2, a :: as, b1, Mu.ext_trans a3 b3 a4.next, a4.trans b4, RL.cons (a1.lift b3 a5) b5, a6.grew b4, b6⟩

theorem trodAll_len : ∀ {ts : List TypeId} {vs : List Value} {ds : List (DataW D)} {ps : List MemPlace}, DataW.TrodAll enc P w 0 (fun _ => true) true ts vs ds ps → ds.length = ts.length ∧ vs.length = ts.length
  | [], vs, ds, ps, h => by obtain ⟨rfl, rfl, rfl⟩ := trodAll_nil h; simp
  | t :: ts, vs, ds, ps, h => by
    obtain ⟨v, vs', d, ds', p, q, rfl, rfl, rfl, h1, h2⟩ := trodAll_cons h
    have := trodAll_len h2
    simp [this.1, this.2]

theorem trodAll_stays {W W' : World} (hl : laidOutB P = true) (hb : Below W.heap.size W W') {sp : Nat → Bool} : ∀ {ts : List TypeId} {vs : List Value} {ds : List (DataW D)} {ps : List MemPlace}, (∀ t ∈ ts, P.readableRec t = true ∧ t < P.types.size) →
    DataW.TrodAll enc P W 0 (fun _ => true) true ts vs ds ps → (∀ p ∈ ps, p.block < W.heap.size ∧ sp p.block = true) → DataW.TrodAll enc P W' 0 sp true ts vs ds ps
  | [], vs, ds, ps, hr, h, hp => by obtain ⟨rfl, rfl, rfl⟩ := trodAll_nil h; rfl
  | t :: ts, vs, ds, ps, hr, h, hp => by
    obtain ⟨v, vs', d, ds', p, q, rfl, rfl, rfl, h1, h2⟩ := trodAll_cons h
    refine ⟨p, q, ?_, trodAll_stays hl hb (fun t ht => hr t (by simp [ht])) h2 (fun x hx => hp x (by simp [hx])), rfl⟩
    exact WideElems.Trod_stays hl (hr t (by simp)).1 (hr t (by simp)).2 h1 (fun x hx => hb.same (hp x (by simp [hx])).1) (fun x hx => (hp x (by simp [hx])).2)

/-- WHAT IS TO BE SHOWN OF A LAW's CALL when it has returned true and turned nothing that was there. -/
theorem post_true {fn : Func} {s : ChangeSpec} {apart fresh handsOn again : Bool} {W W' : World} {args : Array Value} {ds gs : List (DataW D)} {before : List MemPlace} {tb : TypeId}
    (hW : DataW.Whole enc P fn.params.toList s.vars apart W args.toList ds gs before) (hvars : s.vars = [])
    (hl : laidOutB P = true) (hr : ∀ t ∈ fn.params.toList, P.readableRec t = true ∧ t < P.types.size)
    (hspec : ∀ ds : List (DataW D), ds.length = fn.params.size → (s.fn D ds).results = [.lit (.bool true)] ∧ (s.fn D ds).args = ds ∧ (s.fn D ds).vars = [])
    (hrt : fn.resultTypes = #[tb]) (htb : P.underlying tb = some .bool) (hb : Below W.heap.size W W') :
    s.post enc P fn apart fresh handsOn again W args (.bool true) W' := by
  have hW0 := hW
  have hlt := hW.lt
  obtain ⟨p, q, hA, hV, rfl, hz, hn⟩ := hW
  rw [hvars] at hV
  obtain ⟨rfl, rfl⟩ := trodVars_none hV
  have hds : ds.length = fn.params.size := by simpa using (trodAll_len hA).1
  obtain ⟨e1, e2, e3⟩ := hspec ds hds
  have hres : ∀ (b : Nat) (sp : Nat → Bool) (hd : Bool), DataW.TrodAll enc P W' b sp hd fn.resultTypes.toList ((Value.bool true).resultList fn.resultTypes.size) (s.fn D (ds ++ [])).results [] := by
    intro b sp hd
    rw [List.append_nil, e1, hrt]
    exact trodAll_mk1 (shut_bool htb true)
  have hargs : ∀ sp : Nat → Bool, (∀ x ∈ p, sp x.block = true) → DataW.TrodAll enc P W' 0 sp true fn.params.toList args.toList (s.fn D (ds ++ [])).args p := by
    intro sp hsp
    rw [List.append_nil, e2]
    exact trodAll_stays hl hb hr hA (fun x hx => ⟨hlt x (by simpa using hx), hsp x hx⟩)
  refine ⟨ds, [], p ++ [], [], p, [], hW0, hres _ _ _, hargs _ (fun x hx => by simpa using hlt x (by simpa using hx)), by rw [hvars, List.append_nil, e3]; rfl, World.keptBut_mono (fun x hx => hx) (hb.frame _), fun _ => ?_⟩
  refine ⟨?_, _, [], ([] ++ p) ++ [], ⟨[] ++ p, [], trodAll_append (hargs _ (fun _ _ => rfl)) (hres _ _ _), by rw [hvars]; rfl, rfl, ?_, ?_⟩, ?_⟩
  · intro j t r hj hv
    rw [hrt] at hj hv
    have : j = 0 := by
      rcases Nat.eq_zero_or_pos j with h | h
      · exact h
      · rw [Array.getElem?_eq_none (by simp; omega)] at hj; cases hj
    subst this
    simp at hj
    subst hj
    have : r = .bool true := by simpa [Value.resultList] using hv.symm
    subst this
    exact okWide_bool_mk htb true
  · intro b off hp
    have hp' : MemPlace.cell b off ∈ p := by simpa using hp
    rw [hb.frozen (p := ⟨b, off, none⟩) (show b < W.heap.size from hlt (.cell b off) (by simpa using hp'))]
    exact hz b off (by simpa using hp')
  · intro ha
    simpa using hn ha
  · intro x hx _
    simpa using hx

theorem call_enter {f : FuncId} {af : AFun} (hf : cFun P f = some af) (vs : Array Value) : (callFunc f vs).run P w = .ok (.enter f vs) w := by
  unfold cFun at hf
  simp only [Option.bind_eq_bind, Option.bind_eq_some_iff] at hf
  obtain ⟨fn, hfn, c, hb, rs, hrs, hf⟩ := hf
  split at hf
  · cases hf
  · rename_i hname
    unfold callFunc
    rw [bind_ok (show program.run P w = .ok P w from rfl), hfn]
    simp only []
    rw [if_neg (by simpa using hname), if_neg (by rw [hb]; simp)]
    rfl

theorem law_contract {f : FuncId} {fn : Func} {af : AFun} {s : ChangeSpec} {apart fresh handsOn again : Bool} {W : World} {base : Nat} {args : Array Value} {ds gs : List (DataW D)} {before : List MemPlace} {tb : TypeId} {xs : List (Bool × List Sh)}
    (hf : cFun P f = some af) (hW : DataW.Whole enc P fn.params.toList s.vars apart W args.toList ds gs before) (hvars : s.vars = [])
    (hval : ∀ (j : Nat) t v, fn.params[j]? = some t → args[j]? = some v → Value.okWide P W .any base t v)
    (hl : laidOutB P = true) (hr : (fn.params.toList.all fun t => P.readableRec t && decide (t < P.types.size)) = true)
    (hspec : ∀ ds : List (DataW D), ds.length = fn.params.size → (s.fn D ds).results = [.lit (.bool true)] ∧ (s.fn D ds).args = ds ∧ (s.fn D ds).vars = [])
    (hrt : fn.resultTypes = #[tb]) (htb : P.underlying tb = some .bool) (hx : shapesA P fn.params.toList = some xs)
    (h : ∀ H as, FitArgs H xs as → ACalls P f as H fun r _ => r = .bool true) :
    Calls P f args W fun e W' => ∃ v, e = .returned v ∧ s.post enc P fn apart fresh handsOn again W args v W' := by
  have hW0 := hW
  obtain ⟨p, q, hA, hV, rfl, hz, hn⟩ := hW
  have hs0 : Sim (fun b => W.heap.size ≤ b) (fun _ => none) ⟨0, fun _ => none, fun _ _ => rfl⟩ W :=
    ⟨fun _ _ h => by simp at h, fun _ _ _ _ h => by simp at h, fun _ _ _ h => by simp at h, fun _ _ _ _ _ _ _ h => by simp at h, fun _ _ _ h => by simp at h, fun b hb => hb⟩
  have hc0 : Calm ⟨0, fun _ => none, fun _ _ => rfl⟩ := fun _ _ h => by simp at h
  obtain ⟨μ, H, as, h1, h2, h3, h4, h5⟩ := open_args (base := base) hx (fun j t v x y => hval j t v (by simpa using x) (by simpa using y)) hA hs0 hc0
  have hcall := h H as h5 _ μ W args.toList h1 h4
  rw [Array.toArray_toList, call_enter hf] at hcall
  simp only [NextOk] at hcall
  refine Calls.mono hcall ?_
  rintro e W' ⟨v, rfl, μ', r, H', rfl, _, _, _, hR, hk⟩
  obtain rfl := bool_inv hR
  refine ⟨_, rfl, post_true hW0 hvars hl (fun t ht => by simpa using List.all_eq_true.1 hr t ht) hspec hrt htb ⟨hk.os, hk.tape, hk.output, hk.size, fun b hb => hk.block b hb (by omega)⟩⟩

end
end Go.Ab
