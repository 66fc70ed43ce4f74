/- Contracts: graphs that are swept once, or until nothing changes, by both. -/
import Derived.Test.YtcmoeocemmeofaaTSweep
import Derived.Test.YtcmoeocemmeofaaTAddLinkC
set_option linter.unusedVariables false
set_option linter.unusedSimpArgs false
namespace Go.Proofs.Ytcmoeocemmeofaa
open Go.Ab
set_option maxRecDepth 100000
set_option maxHeartbeats 1000000
attribute [local irreducible] Res
noncomputable def relT (ms ks : List (List AV)) : Nat → List (List AV)
 | 0 => ms
 | i + 1 => (sweepF (relT ms ks i) ks).1
noncomputable def relI (ms ks : List (List AV)) (n : Nat) : Int := idxF (fun j => decide ((sweepF (relT ms ks j) ks).2 = 0)) n
noncomputable def relaxF (ms ks : List (List AV)) (n : Int) : List (List AV) × List (List AV) × Int × Int :=
 if okG ms ks = true then (if 0 ≤ n ∧ n ≤ 50 then (if relI ms ks n.toNat < 0 then (relT ms ks n.toNat, ks, n, 0) else (relT ms ks ((relI ms ks n.toNat).toNat + 1), ks, relI ms ks n.toNat + 1, 0)) else ([], [], 0, 2)) else ([], [], 0, 1)
theorem sweepF_inv {ms ks : List (List AV)} (hr : Recs KP ms) (hok : okG ms ks = true) : Recs KP (sweepF ms ks).1 ∧ (sweepF ms ks).1.length = ms.length ∧ okG (sweepF ms ks).1 ks = true := ⟨(sweepT_inv hr hok _).1, (sweepT_inv hr hok _).2.1, (sweepT_inv hr hok _).2.2.1⟩
theorem relT_inv {ms ks : List (List AV)} (hr : Recs KP ms) (hok : okG ms ks = true) : ∀ i, Recs KP (relT ms ks i) ∧ (relT ms ks i).length = ms.length ∧ okG (relT ms ks i) ks = true
 | 0 => ⟨hr, rfl, hok⟩
 | i + 1 => by
  obtain ⟨h1, h2, h3⟩ := relT_inv hr hok i
  obtain ⟨k1, k2, k3⟩ := sweepF_inv h1 h3
  exact ⟨k1, k2.trans h2, k3⟩
end Go.Proofs.Ytcmoeocemmeofaa
