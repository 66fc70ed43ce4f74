/- Plain law: the packet of what is read from a packet. -/
import Derived.Test.YtnleibiniajbnaaTReadD
import Derived.Test.YtnleibiniajbnaaTReadE
import Derived.Test.YtnleibiniajbnaaSxE
set_option linter.unusedVariables false
set_option linter.unusedSimpArgs false
namespace Go.Proofs.Ytnleibiniajbnaa
open Go.Ab
set_option maxRecDepth 100000
theorem wr_i16 (n : Int) : IntKind.wrap .i16 n = (n + 32768) % 65536 - 32768 := by
 simp only [IntKind.wrap]
 show (if (true && decide (n % 65536 ≥ 32768)) = true then n % 65536 - 65536 else n % 65536) = _
 by_cases h : n % 65536 ≥ 32768
 ·
  rw [decide_eq_true h, Bool.true_and, if_pos rfl]; omega
 ·
  rw [decide_eq_false h, Bool.true_and, if_neg (by decide)]; omega
theorem take_add {α : Type} (l : List α) (a b : Nat) : l.take (a + b) = l.take a ++ (l.drop a).take b := by
 rw [List.take_add]
theorem bytes_at {ms : List (List AV)} (h : RngB ms) (o n : Nat) (hn : o + n ≤ ms.length) : (ms.drop o).take n = (List.range n).map fun i => [AV.int .u8 (byN ms (o + i) : Int)] := by
 apply List.ext_getElem
 ·
  simp; omega
 ·
  intro i h1 h2
  have hi : i < n := by simpa using h2
  rw [List.getElem_take, List.getElem_drop, List.getElem_map, List.getElem_range]
  exact (byN_get h om).1
theorem enR_rdM {ms : List (List AV)} (h : RngB ms) {i : Nat} (hi : 4 + 10 * i + 10 ≤ ms.length) : enR (rdM ms i) = (ms.drop (4 + 10 * i)).take 10 := by
 rw [bytes_at h _ _ hi]
 have b : ∀ k, k < 10 → byN ms (4 + 10 * i + k) < 256 := fun k hk => (byN_get h om).2
 have zb0 := b 0 om
 have zb1 := b 1 om
 have zb2 := b 2 om
 have zb3 := b 3 om
 have zb4 := b 4 om
 have zb5 := b 5 om
 have zb6 := b 6 om
 have zb7 := b 7 om
 have zb8 := b 8 om
 have zb9 := b 9 om
 show ((enT (num4 ms (4 + 10 * i)) ++ enC (IntKind.wrap .i16 (num2 ms (8 + 10 * i)))) ++ enC (IntKind.wrap .i16 (num2 ms (10 + 10 * i)))) ++ enC (IntKind.wrap .i16 (num2 ms (12 + 10 * i))) = _
 have e8 : num2 ms (8 + 10 * i) = (byN ms (4 + 10 * i + 4) : Int) + 256 * (byN ms (4 + 10 * i + 5) : Int) := by unfold num2; rw [show 8 + 10 * i = 4 + 10 * i + 4 by omega]
 have e10 : num2 ms (10 + 10 * i) = (byN ms (4 + 10 * i + 6) : Int) + 256 * (byN ms (4 + 10 * i + 7) : Int) := by unfold num2; rw [show 10 + 10 * i = 4 + 10 * i + 6 by omega]
 have e12 : num2 ms (12 + 10 * i) = (byN ms (4 + 10 * i + 8) : Int) + 256 * (byN ms (4 + 10 * i + 9) : Int) := by unfold num2; rw [show 12 + 10 * i = 4 + 10 * i + 8 by omega]
 have e4 : num4 ms (4 + 10 * i) = (byN ms (4 + 10 * i + 0) : Int) + 256 * (byN ms (4 + 10 * i + 1) : Int) + 65536 * (byN ms (4 + 10 * i + 2) : Int) + 16777216 * (byN ms (4 + 10 * i + 3) : Int) := rfl
 show _ = [[AV.int .u8 (byN ms (4 + 10 * i + 0) : Int)], [AV.int .u8 (byN ms (4 + 10 * i + 1) : Int)], [AV.int .u8 (byN ms (4 + 10 * i + 2) : Int)], [AV.int .u8 (byN ms (4 + 10 * i + 3) : Int)], [AV.int .u8 (byN ms (4 + 10 * i + 4) : Int)], [AV.int .u8 (byN ms (4 + 10 * i + 5) : Int)], [AV.int .u8 (byN ms (4 + 10 * i + 6) : Int)], [AV.int .u8 (byN ms (4 + 10 * i + 7) : Int)], [AV.int .u8 (byN ms (4 + 10 * i + 8) : Int)], [AV.int .u8 (byN ms (4 + 10 * i + 9) : Int)]]
 rw [e8, e10, e12, e4, wr_i16, wr_i16, wr_i16]
 generalize byN ms (4 + 10 * i + 0) = x0 at *
 generalize byN ms (4 + 10 * i + 1) = x1 at *
 generalize byN ms (4 + 10 * i + 2) = x2 at *
 generalize byN ms (4 + 10 * i + 3) = x3 at *
 generalize byN ms (4 + 10 * i + 4) = x4 at *
 generalize byN ms (4 + 10 * i + 5) = x5 at *
 generalize byN ms (4 + 10 * i + 6) = x6 at *
 generalize byN ms (4 + 10 * i + 7) = x7 at *
 generalize byN ms (4 + 10 * i + 8) = x8 at *
 generalize byN ms (4 + 10 * i + 9) = x9 at *
 show [[AV.int .u8 _], [AV.int .u8 _], [AV.int .u8 _], [AV.int .u8 _], [AV.int .u8 _], [AV.int .u8 _], [AV.int .u8 _], [AV.int .u8 _], [AV.int .u8 _], [AV.int .u8 _]] = _
 simp only [List.cons.injEq, AV.int.injEq, true_and, and_true]
 clear e4 e8 e10 e12 b h hi
 refine ⟨?_, ?_, ?_, ?_, ?_, ?_, ?_, ?_, ?_, ?_⟩ <;> omega
theorem pkL_at {ms : List (List AV)} (h : RngB ms) (hh : hdrR ms) {n : Nat} (hn : num2 ms 2 = (n : Int)) (hl : ms.length = 10 * n + 6) : ∀ i, i ≤ n → pkL (rdL ms n) i = ms.take (4 + 10 * i)
 | 0, _ => by
  have zb2 := (byN_get h (show 2 < ms.length by omega)).2
  have zb3 := (byN_get h (show 3 < ms.length by omega)).2
  obtain ⟨_, h0, h1, _⟩ := hh
  have e := bytes_at h 0 4 om
  rw [List.drop_zero] at e
  rw [show 4 + 10 * 0 = 4 from rfl, e]
  show hdL ((rdL ms n).length : Int) = _
  rw [rdL_len]
  have hn2 : (byN ms 2 : Int) + 256 * (byN ms 3 : Int) = (n : Int) := hn
  show [[AV.int .u8 82], [AV.int .u8 68], [AV.int .u8 _], [AV.int .u8 _]] = [[AV.int .u8 (byN ms (0 + 0) : Int)], [AV.int .u8 (byN ms (0 + 1) : Int)], [AV.int .u8 (byN ms (0 + 2) : Int)], [AV.int .u8 (byN ms (0 + 3) : Int)]]
  rw [Nat.zero_add, Nat.zero_add, Nat.zero_add, Nat.zero_add, h0, h1]
  simp only [List.cons.injEq, AV.int.injEq, true_and, and_true]
  refine ⟨rfl, rfl, ?_, ?_⟩ <;> omega
 | i + 1, hi => by
  have ih := pkL_at h hh hn hl i om
  show pkL (rdL ms n) i ++ enR ((rdL ms n).getD i []) = _
  have e : (rdL ms n).getD i [] = rdM ms i := by
   rw [List.getD_eq_getElem?_getD, List.getElem?_eq_getElem (by rw [rdL_len]; omega)]
   simp [rdL]
  rw [ih, e, enR_rdM h om, show 4 + 10 * (i + 1) = 4 + 10 * i + 10 by omega, take_add ms (4 + 10 * i) 10]
theorem pkt_law {ms : List (List AV)} (h : RngB ms) (hh : hdrR ms) {n : Nat} (hn : num2 ms 2 = (n : Int)) (hl : ms.length = 10 * n + 6) : pktL (rdL ms n) = bodR ms ++ chk2 (sumB (bodR ms) (bodR ms).length % 65521) := by
 have e : pkL (rdL ms n) n = bodR ms := by rw [pkL_at h hh hn hl n (Nat.le_refl _)]; unfold bodR; congr 1; omega
 unfold pktL
 rw [rdL_len, e]
theorem pkt_rng {rs : List (List AV)} : RngB (pktL rs) := by
 have := sumB_rng (pkL_rng rs rs.length) (pkL rs rs.length).length (Nat.le_refl _)
 exact RngB.app (pkL_rng rs _) (chk2_rng om om)
theorem prf_iff {ms : List (List AV)} (h : RngB ms) (hh : hdrR ms) {n : Nat} (hn : num2 ms 2 = (n : Int)) (hl : ms.length = 10 * n + 6) : strOf (pktL (rdL ms n)) = strOf ms ↔ prfR ms := by
 unfold prfR
 rw [← pkt_law h hh hn hl]
 exact ⟨fun e => strOf_inj pkt_rng h e, fun e => by rw [e]⟩
end Go.Proofs.Ytnleibiniajbnaa
