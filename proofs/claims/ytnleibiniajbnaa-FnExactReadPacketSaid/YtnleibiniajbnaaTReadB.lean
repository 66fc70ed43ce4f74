/- Contracts: numbers of bytes, by impl. -/
import Derived.Test.YtnleibiniajbnaaTReadL
import Derived.Test.YtnleibiniajbnaaSxE
set_option linter.unusedVariables false
set_option linter.unusedSimpArgs false
namespace Go.Proofs.Ytnleibiniajbnaa
open Go.Ab
set_option maxRecDepth 100000
set_option maxHeartbeats 1000000
attribute [local irreducible] Res
theorem rule_iaAt {c : Cx} {x i : SV} {j l o n cap sz k : Nat} (hx : D c.vs c.ls x (.slice l o n cap sz)) (hi : D c.vs c.ls i (.int .i64 (k : Int))) (hk : k < n) (hj : c.ls[j]? = some (l, o)) : RuleOk c (.ia sz x i) (.ptr j (k * sz)) := by
 refine ⟨_, _, .ptr l (o + k * sz), hx, hi, by simp only [D]; exact ⟨l, o, hj, rfl⟩, fun E get => ?_⟩
 simp only [aval, Opd.ev]
 rw [if_pos ⟨trivial, by omega, by omega⟩, Int.toNat_natCast]
theorem or_add (a b k : Nat) (ha : a < 2 ^ k) (h : a + b * 2 ^ k < 2 ^ 63) : IntKind.i64.wrap (BitVec.ofInt IntKind.i64.bits (a : Int) ||| BitVec.ofInt IntKind.i64.bits ((b * 2 ^ k : Nat) : Int)).toNat = ((a + b * 2 ^ k : Nat) : Int) := by
 have e : a ||| b * 2 ^ k = a + b * 2 ^ k := by
  have := Nat.two_pow_add_eq_or_of_lt ha b
  rw [Nat.or_comm, Nat.mul_comm b, ← this, Nat.add_comm]
 have e2 : (BitVec.ofInt IntKind.i64.bits (a : Int) ||| BitVec.ofInt IntKind.i64.bits ((b * 2 ^ k : Nat) : Int)).toNat = a + b * 2 ^ k := by
  rw [BitVec.toNat_or, BitVec.ofInt_natCast, BitVec.ofInt_natCast, BitVec.toNat_ofNat, BitVec.toNat_ofNat]
  show a % 2 ^ 64 ||| b * 2 ^ k % 2 ^ 64 = _
  rw [Nat.mod_eq_of_lt om, Nat.mod_eq_of_lt om, e]
 rw [e2]
 exact wrap_i64 om om
theorem orw (a x k : Nat) (ha : a < 2 ^ k) (hx : x < 256) (hk : k ≤ 24) : IntKind.wrap .i64 (BitVec.ofInt (IntKind.bits .i64) (a : Int) ||| BitVec.ofInt (IntKind.bits .i64) (IntKind.wrap .i64 ((IntKind.wrap .i64 (x : Int)) * 2 ^ (min (Int.toNat (k : Int)) (IntKind.bits .i64))))).toNat = ((a + x * 2 ^ k : Nat) : Int) := by
 have h1 : (2 : Nat) ^ k ≤ 2 ^ 24 := Nat.pow_le_pow_right (by decide) hk
 have h2 : x * 2 ^ k ≤ 255 * 2 ^ 24 := Nat.mul_le_mul om h1
 have e1 : IntKind.wrap .i64 (x : Int) = (x : Int) := wrap_i64 om om
 have e2 : min (Int.toNat (k : Int)) (IntKind.bits .i64) = k := by
  show min (Int.toNat (k : Int)) 64 = k
  rw [Int.toNat_natCast]; omega
 have e4 : (x : Int) * 2 ^ k = ((x * 2 ^ k : Nat) : Int) := by push_cast; rfl
 have e3 : IntKind.wrap .i64 ((x * 2 ^ k : Nat) : Int) = ((x * 2 ^ k : Nat) : Int) := wrap_i64 om om
 rw [e1, e2, e4, e3]
 exact or_add a x k ha om
theorem k_number2 (H : AHeap) (l o cap : Nat) (x0 x1 : Nat) (b0 : x0 < 256) (b1 : x1 < 256) (wr : Bool) (pre post : List AV) (hg : H.get l = some (.row (pre ++ ([.int .u8 (x0 : Int), .int .u8 (x1 : Int)] ++ post)) wr)) (hp : pre.length = o) : APure Try.prog 80 [.slice l o 2 cap 1] H (.int .i64 ((x0 : Int) + 256 * (x1 : Int))) := by
 refine res_start h_impl_number (by simp) ?_
 have q1 : KdsL [.one, .int .u8, .int .u8] [.slice l o 2 cap 1, .int .u8 (x0 : Int), .int .u8 (x1 : Int)] := .cons rfl (.cons kA (.cons kA .nil))
 refine run_mc (φ := φ0) (pm := pmR 1 [(.len (n1 0), .lit (.int .i64 2)), (.ia 1 (n1 0) (.lit (.int .i64 0)), .ptr 0 0), (.ia 1 (n1 0) (.lit (.int .i64 1)), .ptr 0 1)] 6) 20 (ws := [⟨l, o, [.nd 1 (.int .u8), .nd 2 (.int .u8)], false⟩]) (env := [(0, n1 0)]) q1 (.cons (win_mid hg hp (dL q1)) .nil) (sepOk_ro rfl) (.cons (rule_len (l := l) (o := o) (n := 2) (cap := cap) (sz := 1) (dE q1) (dE q1)) (.cons (rule_iaAt (l := l) (o := o) (n := 2) (cap := cap) (sz := 1) (k := 0) (dE q1) (dE q1) (by decide) rfl) (.cons (rule_iaAt (l := l) (o := o) (n := 2) (cap := cap) (sz := 1) (k := 1) (dE q1) (dE q1) (by decide) rfl) .nil))) (eC q1 (.cons (t := 0) rfl .nil)) tb_ok ap_ok ?_
 refine all1 kr fun vs ls H2 E2 st hE => ?_
 refine rf st hE (.int .i64 (IntKind.wrap .i64 (BitVec.ofInt (IntKind.bits .i64) (IntKind.wrap .i64 (BitVec.ofInt (IntKind.bits .i64) 0 ||| BitVec.ofInt (IntKind.bits .i64) (IntKind.wrap .i64 ((IntKind.wrap .i64 (x0 : Int)) * 2 ^ (min (Int.toNat 0) (IntKind.bits .i64))))).toNat) ||| BitVec.ofInt (IntKind.bits .i64) (IntKind.wrap .i64 ((IntKind.wrap .i64 (x1 : Int)) * 2 ^ (min (Int.toNat 8) (IntKind.bits .i64))))).toNat)) (Grew.trans (Grew.refl _) (gk st)) ?_
 have e0 : IntKind.wrap .i64 (BitVec.ofInt (IntKind.bits .i64) 0 ||| BitVec.ofInt (IntKind.bits .i64) (IntKind.wrap .i64 ((IntKind.wrap .i64 (x0 : Int)) * 2 ^ (min (Int.toNat 0) (IntKind.bits .i64))))).toNat = (((0 + x0 * 2 ^ 0) : Nat) : Int) := orw 0 x0 0 om om om
 rw [e0]
 have e1 : IntKind.wrap .i64 (BitVec.ofInt (IntKind.bits .i64) (((0 + x0 * 2 ^ 0) : Nat) : Int) ||| BitVec.ofInt (IntKind.bits .i64) (IntKind.wrap .i64 ((IntKind.wrap .i64 (x1 : Int)) * 2 ^ (min (Int.toNat 8) (IntKind.bits .i64))))).toNat = ((((0 + x0 * 2 ^ 0) + x1 * 2 ^ 8) : Nat) : Int) := orw _ x1 8 om om om
 rw [e1]
 congr 1; omega
theorem k_number4 (H : AHeap) (l o cap : Nat) (x0 x1 x2 x3 : Nat) (b0 : x0 < 256) (b1 : x1 < 256) (b2 : x2 < 256) (b3 : x3 < 256) (wr : Bool) (pre post : List AV) (hg : H.get l = some (.row (pre ++ ([.int .u8 (x0 : Int), .int .u8 (x1 : Int), .int .u8 (x2 : Int), .int .u8 (x3 : Int)] ++ post)) wr)) (hp : pre.length = o) : APure Try.prog 80 [.slice l o 4 cap 1] H (.int .i64 ((x0 : Int) + 256 * (x1 : Int) + 65536 * (x2 : Int) + 16777216 * (x3 : Int))) := by
 refine res_start h_impl_number (by simp) ?_
 have q1 : KdsL [.one, .int .u8, .int .u8, .int .u8, .int .u8] [.slice l o 4 cap 1, .int .u8 (x0 : Int), .int .u8 (x1 : Int), .int .u8 (x2 : Int), .int .u8 (x3 : Int)] := .cons rfl (.cons kA (.cons kA (.cons kA (.cons kA .nil))))
 refine run_mc (φ := φ0) (pm := pmR 1 [(.len (n1 0), .lit (.int .i64 4)), (.ia 1 (n1 0) (.lit (.int .i64 0)), .ptr 0 0), (.ia 1 (n1 0) (.lit (.int .i64 1)), .ptr 0 1), (.ia 1 (n1 0) (.lit (.int .i64 2)), .ptr 0 2), (.ia 1 (n1 0) (.lit (.int .i64 3)), .ptr 0 3)] 8) 20 (ws := [⟨l, o, [.nd 1 (.int .u8), .nd 2 (.int .u8), .nd 3 (.int .u8), .nd 4 (.int .u8)], false⟩]) (env := [(0, n1 0)]) q1 (.cons (win_mid hg hp (dL q1)) .nil) (sepOk_ro rfl) (.cons (rule_len (l := l) (o := o) (n := 4) (cap := cap) (sz := 1) (dE q1) (dE q1)) (.cons (rule_iaAt (l := l) (o := o) (n := 4) (cap := cap) (sz := 1) (k := 0) (dE q1) (dE q1) (by decide) rfl) (.cons (rule_iaAt (l := l) (o := o) (n := 4) (cap := cap) (sz := 1) (k := 1) (dE q1) (dE q1) (by decide) rfl) (.cons (rule_iaAt (l := l) (o := o) (n := 4) (cap := cap) (sz := 1) (k := 2) (dE q1) (dE q1) (by decide) rfl) (.cons (rule_iaAt (l := l) (o := o) (n := 4) (cap := cap) (sz := 1) (k := 3) (dE q1) (dE q1) (by decide) rfl) .nil))))) (eC q1 (.cons (t := 0) rfl .nil)) tb_ok ap_ok ?_
 refine all1 kr fun vs ls H2 E2 st hE => ?_
 refine rf st hE (.int .i64 (IntKind.wrap .i64 (BitVec.ofInt (IntKind.bits .i64) (IntKind.wrap .i64 (BitVec.ofInt (IntKind.bits .i64) (IntKind.wrap .i64 (BitVec.ofInt (IntKind.bits .i64) (IntKind.wrap .i64 (BitVec.ofInt (IntKind.bits .i64) 0 ||| BitVec.ofInt (IntKind.bits .i64) (IntKind.wrap .i64 ((IntKind.wrap .i64 (x0 : Int)) * 2 ^ (min (Int.toNat 0) (IntKind.bits .i64))))).toNat) ||| BitVec.ofInt (IntKind.bits .i64) (IntKind.wrap .i64 ((IntKind.wrap .i64 (x1 : Int)) * 2 ^ (min (Int.toNat 8) (IntKind.bits .i64))))).toNat) ||| BitVec.ofInt (IntKind.bits .i64) (IntKind.wrap .i64 ((IntKind.wrap .i64 (x2 : Int)) * 2 ^ (min (Int.toNat 16) (IntKind.bits .i64))))).toNat) ||| BitVec.ofInt (IntKind.bits .i64) (IntKind.wrap .i64 ((IntKind.wrap .i64 (x3 : Int)) * 2 ^ (min (Int.toNat 24) (IntKind.bits .i64))))).toNat)) (Grew.trans (Grew.refl _) (gk st)) ?_
 have e0 : IntKind.wrap .i64 (BitVec.ofInt (IntKind.bits .i64) 0 ||| BitVec.ofInt (IntKind.bits .i64) (IntKind.wrap .i64 ((IntKind.wrap .i64 (x0 : Int)) * 2 ^ (min (Int.toNat 0) (IntKind.bits .i64))))).toNat = (((0 + x0 * 2 ^ 0) : Nat) : Int) := orw 0 x0 0 om om om
 rw [e0]
 have e1 : IntKind.wrap .i64 (BitVec.ofInt (IntKind.bits .i64) (((0 + x0 * 2 ^ 0) : Nat) : Int) ||| BitVec.ofInt (IntKind.bits .i64) (IntKind.wrap .i64 ((IntKind.wrap .i64 (x1 : Int)) * 2 ^ (min (Int.toNat 8) (IntKind.bits .i64))))).toNat = ((((0 + x0 * 2 ^ 0) + x1 * 2 ^ 8) : Nat) : Int) := orw _ x1 8 om om om
 rw [e1]
 have e2 : IntKind.wrap .i64 (BitVec.ofInt (IntKind.bits .i64) ((((0 + x0 * 2 ^ 0) + x1 * 2 ^ 8) : Nat) : Int) ||| BitVec.ofInt (IntKind.bits .i64) (IntKind.wrap .i64 ((IntKind.wrap .i64 (x2 : Int)) * 2 ^ (min (Int.toNat 16) (IntKind.bits .i64))))).toNat = (((((0 + x0 * 2 ^ 0) + x1 * 2 ^ 8) + x2 * 2 ^ 16) : Nat) : Int) := orw _ x2 16 om om om
 rw [e2]
 have e3 : IntKind.wrap .i64 (BitVec.ofInt (IntKind.bits .i64) (((((0 + x0 * 2 ^ 0) + x1 * 2 ^ 8) + x2 * 2 ^ 16) : Nat) : Int) ||| BitVec.ofInt (IntKind.bits .i64) (IntKind.wrap .i64 ((IntKind.wrap .i64 (x3 : Int)) * 2 ^ (min (Int.toNat 24) (IntKind.bits .i64))))).toNat = ((((((0 + x0 * 2 ^ 0) + x1 * 2 ^ 8) + x2 * 2 ^ 16) + x3 * 2 ^ 24) : Nat) : Int) := orw _ x3 24 om om om
 rw [e3]
 congr 1; omega
end Go.Proofs.Ytnleibiniajbnaa
