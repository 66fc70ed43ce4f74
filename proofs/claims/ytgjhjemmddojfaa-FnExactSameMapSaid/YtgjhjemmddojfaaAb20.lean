/- Library functions that the model answers itself. -/
import Derived.Test.YtgjhjemmddojfaaAb19
import Derived.Laws.Externs
import Derived.Laws.FloatBits
set_option linter.unusedVariables false
set_option linter.unusedSimpArgs false
namespace Go.Ab

def bits32 : Option Nat → AV
  | some b => .int .u32 b
  | none => .nanbits
/-- A float rounded to an integral one. -/
def fInt (way : Ieee.Toward) (x : Option Nat) : Option Nat := x.map fun b => FloatKind.f64.encode ((FloatKind.f64.decode b).integral way)
def fSqrt (x : Option Nat) : Option Nat := x.bind fun b => FloatKind.f64.format.sqrt b

theorem quiet_nan (s : Bool) (t : Nat) : nrm .f64 (FloatKind.f64.encode (.nan s (FloatKind.f64.format.quiet t))) = none := by
  have h : (FloatKind.f64.decode (FloatKind.f64.encode (.nan s (FloatKind.f64.format.quiet t)))).isNaN = true := by
    have hs : Ieee.Format.signWeight Ieee.double = 9223372036854775808 := rfl
    have hi : Ieee.Format.infRung Ieee.double = 9218868437227405312 := rfl
    have hbin : Ieee.Format.binade Ieee.double = 4503599627370496 := rfl
    have hq : ∃ m, (Ieee.Format.quiet Ieee.double t) % 4503599627370496 = m ∧ 0 < m ∧ m < 4503599627370496 := by
      refine ⟨_, rfl, ?_, Nat.mod_lt _ (by decide)⟩
      have hbit : ((Ieee.Format.quiet Ieee.double t) % 2 ^ 52).testBit 51 = true := by
        rw [Nat.testBit_mod_two_pow]
        show (decide (51 < 52) && (t ||| 2 ^ 51).testBit 51) = true
        rw [Nat.testBit_or, Nat.testBit_two_pow_self]
        simp
      rcases Nat.eq_zero_or_pos ((Ieee.Format.quiet Ieee.double t) % 4503599627370496) with h | h
      · rw [show (2 : Nat) ^ 52 = 4503599627370496 from rfl, h] at hbit
        simp at hbit
      · exact h
    obtain ⟨m, hm, h0, h1⟩ := hq
    unfold FloatKind.encode FloatKind.decode FloatKind.format Ieee.Format.write Ieee.Format.word
    simp only [hs, hi, hbin, hm]
    generalize hb : (if s = true then 9223372036854775808 + (9218868437227405312 + m) else 9218868437227405312 + m) = b
    have hmod : b % 9223372036854775808 = 9218868437227405312 + m := by subst hb; split <;> omega
    unfold Ieee.Format.read
    simp only [hs, hi, hbin, hmod]
    rw [if_neg (by omega), if_neg (by omega), if_neg (by omega)]
    rfl
  unfold nrm; rw [h]; rfl

section
variable {P : Program} {f : FuncId} {fn : Func} {H : AHeap}

theorem acalls_extern {e : Array Value → Sem Value} {args : List AV} {r : AV} (hf : P.funcs[f]? = some fn) (hname : (fn.name == "runtime.NumGoroutine") = false) (hb : fn.body.isNone = true) (hn : Extern.findNext fn = none) (he : Extern.find fn = some e)
    (h : ∀ (μ : Mu) (w : World) (vs : List Value), RL μ args vs → ∃ v w', (e vs.toArray).run P w = .ok v w' ∧ Drew w w' ∧ R μ r v) : APure P f args H r := by
  intro F μ w vs hs ha
  obtain ⟨v, w', h1, h2, h3⟩ := h μ w vs ha
  rw [run_callFunc_extern hf hname hb hn he, h1]
  exact Out.drew ⟨rfl, rfl⟩ hs h3 h2

theorem one_inv {μ : Mu} {a : AV} {vs : List Value} (h : RL μ [a] vs) : ∃ v, vs = [v] ∧ R μ a v := by
  obtain ⟨v, us, rfl, h1, h2⟩ := h.cons_inv
  rw [h2.nil_inv]
  exact ⟨v, rfl, h1⟩

variable (hf : P.funcs[f]? = some fn) (hname : (fn.name == "runtime.NumGoroutine") = false) (hb : fn.body.isNone = true) (hn : Extern.findNext fn = none)
include hf hname hb hn

theorem x_bits32 (he : Extern.find fn = some Extern.MathFloatBits.float32bits) (x : Option Nat) : APure P f [.flt .f32 x] H (bits32 x) := by
  refine acalls_extern hf hname hb hn he fun μ w vs h => ?_
  obtain ⟨v, rfl, hR⟩ := one_inv h
  obtain ⟨b, rfl, hx, hlt⟩ := flt_inv hR
  refine ⟨_, w, rfl, .inl rfl, ?_⟩
  cases x with
  | none => exact .nanbits hx hlt
  | some c => obtain ⟨rfl, _⟩ := nrm_some hx; exact .int _ _

theorem x_frombits32 (he : Extern.find fn = some Extern.MathFloatBits.float32frombits) (n : Int) (h0 : 0 ≤ n) (h1 : n < 4294967296) : APure P f [.int .u32 n] H (.flt .f32 (nrm .f32 n.toNat)) := by
  refine acalls_extern hf hname hb hn he fun μ w vs h => ?_
  obtain ⟨v, rfl, hR⟩ := one_inv h
  cases hR
  exact ⟨_, w, rfl, .inl rfl, .flt rfl (show n.toNat < 2 ^ 32 by omega)⟩

theorem x_bits64 (he : Extern.find fn = some Extern.MathFloatBits.float64bits) (b : Nat) : APure P f [.flt .f64 (some b)] H (.int .u64 b) := by
  refine acalls_extern hf hname hb hn he fun μ w vs h => ?_
  obtain ⟨v, rfl, hR⟩ := one_inv h
  obtain ⟨c, rfl, hx, hlt⟩ := flt_inv hR
  obtain ⟨rfl, _⟩ := nrm_some hx
  exact ⟨_, w, rfl, .inl rfl, .int _ _⟩

theorem x_frombits64 (he : Extern.find fn = some Extern.MathFloatBits.float64frombits) (n : Int) (h0 : 0 ≤ n) (h1 : n < 18446744073709551616) : APure P f [.int .u64 n] H (.flt .f64 (nrm .f64 n.toNat)) := by
  refine acalls_extern hf hname hb hn he fun μ w vs h => ?_
  obtain ⟨v, rfl, hR⟩ := one_inv h
  cases hR
  exact ⟨_, w, rfl, .inl rfl, .flt rfl (show n.toNat < 2 ^ 64 by omega)⟩

theorem x_integral (way : Ieee.Toward) (nm : String) (he : Extern.find fn = some (Extern.MathFloor.toIntegral nm way)) (x : Option Nat) : APure P f [.flt .f64 x] H (.flt .f64 (fInt way x)) := by
  refine acalls_extern hf hname hb hn he fun μ w vs h => ?_
  obtain ⟨v, rfl, hR⟩ := one_inv h
  obtain ⟨b, rfl, hx, hlt⟩ := flt_inv hR
  show ∃ v w', (match FloatKind.f64.decode b with
    | .nan s t =>
      if FloatKind.f64.format.quiet t = t then (pure (.float .f64 b) : Sem Value) else do
      let kept ← choose (.extern "math.Floor,Ceil,Trunc,RoundToEven.signallingNaN kept" 2)
      pure (.float .f64 (if kept == 1 then b else FloatKind.f64.encode (.nan s (FloatKind.f64.format.quiet t))))
    | d => pure (.float .f64 (FloatKind.f64.encode (d.integral way)))).run P w = .ok v w' ∧ Drew w w' ∧ R μ (.flt .f64 (fInt way x)) v
  cases x with
  | none =>
    obtain ⟨s, t, hd⟩ := isNaN_form (nrm_none hx)
    rw [hd]
    simp only [fInt, Option.map_none]
    split
    · exact ⟨_, w, rfl, .inl rfl, .flt hx hlt⟩
    · refine ⟨_, _, bind_ok (run_choose _ rfl), .inr ⟨_, rfl⟩, ?_⟩
      split
      · exact .flt hx hlt
      · refine .flt ?_ (Ieee.Format.write_lt _ _)
        exact quiet_nan s t
  | some c =>
    obtain ⟨rfl, hn⟩ := nrm_some hx
    have hd : ∀ d : Ieee.Datum, d.isNaN = false → (d.integral way).isNaN = false := fun d hd => by
      cases d <;> first | (cases hd; done) | (unfold Ieee.Datum.integral; repeat' split) <;> rfl
    have : (match FloatKind.f64.decode c with
    | .nan s t =>
      if FloatKind.f64.format.quiet t = t then (pure (.float .f64 c) : Sem Value) else do
      let kept ← choose (.extern "math.Floor,Ceil,Trunc,RoundToEven.signallingNaN kept" 2)
      pure (.float .f64 (if kept == 1 then c else FloatKind.f64.encode (.nan s (FloatKind.f64.format.quiet t))))
    | d => pure (.float .f64 (FloatKind.f64.encode (d.integral way)))) = pure (.float .f64 (FloatKind.f64.encode ((FloatKind.f64.decode c).integral way))) := by
      generalize FloatKind.f64.decode c = d at hn
      cases d <;> first | rfl | (cases hn; done)
    rw [this]
    exact ⟨_, w, rfl, .inl rfl, .flt (nrm_write _ (hd _ hn)) (Ieee.Format.write_lt _ _)⟩

theorem x_sqrt (he : Extern.find fn = some Extern.MathSqrt.sqrt) (x : Option Nat) : APure P f [.flt .f64 x] H (.flt .f64 (fSqrt x)) := by
  refine acalls_extern hf hname hb hn he fun μ w vs h => ?_
  obtain ⟨v, rfl, hR⟩ := one_inv h
  obtain ⟨b, rfl, hx, hlt⟩ := flt_inv hR
  show ∃ v w', (match FloatKind.f64.format.sqrt b with
    | some r => (pure (.float .f64 r) : Sem Value)
    | none => do pure (.float .f64 (← choose (.nanBits .f64 b b)))).run P w = .ok v w' ∧ Drew w w' ∧ R μ (.flt .f64 (fSqrt x)) v
  have hnone : x = none → FloatKind.f64.format.sqrt b = none := by
    rintro rfl
    obtain ⟨s, t, hd⟩ := isNaN_form (nrm_none hx)
    have : FloatKind.f64.format.read b = .nan s t := hd
    unfold Ieee.Format.sqrt
    rw [this]
    rfl
  cases hs : FloatKind.f64.format.sqrt b with
  | some r =>
    have : fSqrt x = some r := by
      cases x with
      | none => rw [hnone rfl] at hs; cases hs
      | some c => obtain ⟨rfl, _⟩ := nrm_some hx; exact hs
    rw [this]
    exact ⟨_, w, rfl, .inl rfl, .flt (sqrt_nrm hs) (Ieee.Format.sqrt_lt _ hs)⟩
  | none =>
    have : fSqrt x = none := by
      cases x with
      | none => rfl
      | some c => obtain ⟨rfl, _⟩ := nrm_some hx; exact hs
    rw [this]
    refine ⟨_, _, bind_ok (run_choose _ rfl), .inr ⟨_, rfl⟩, ?_⟩
    exact .flt (nan_cut ..).1 (nan_cut ..).2
end
end Go.Ab
