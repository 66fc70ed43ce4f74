/- Contracts: sorting readings by their times, stable, by the library. -/
import Derived.Test.YtnleibiniajbnaaTSrtD
import Derived.Test.YtnleibiniajbnaaTSrtP
import Derived.Test.YtnleibiniajbnaaSxE
set_option linter.unusedVariables false
set_option linter.unusedSimpArgs false
namespace Go.Proofs.Ytnleibiniajbnaa
open Go.Ab
set_option maxRecDepth 100000
set_option maxHeartbeats 1000000
attribute [local irreducible] Res
theorem k_sym (H : AHeap) (L0 : List (List AV)) (hr : Recs KR L0) (S : AV) (hS : SlF H 4 L0 S) (hmx : L0.length < 2 ^ 20) (a m b : Nat) (h1 : a < m) (h2 : m < b) (h3 : b ≤ L0.length) (s1 : Srt a m L0) (s2 : Srt m b L0) : ACalls Try.prog 130 [S, .int .i64 (a : Int), .int .i64 (m : Int), .int .i64 (b : Int), .func 87 [] []] H fun r H' => r = .tuple [] ∧ OnlyS S H H' ∧ ∃ M, SlF H' 4 M S ∧ Recs KR M ∧ St a b L0 M ∧ Srt a b M := k_symN (b - a) H L0 hr S hS hmx a m b h1 h2 h3 (Nat.le_refl _) s1 s2
theorem k_stable (H : AHeap) (L0 : List (List AV)) (hr : Recs KR L0) (S : AV) (hS : SlF H 4 L0 S) (hmx : L0.length < 2 ^ 20) : ACalls Try.prog 116 [S, .int .i64 (L0.length : Int), .func 87 [] []] H fun r H' => r = .tuple [] ∧ OnlyS S H H' ∧ ∃ M, SlF H' 4 M S ∧ Recs KR M ∧ St 0 L0.length L0 M ∧ Srt 0 L0.length M := by
 refine res_start h_slices_stableCmpFunc_impl_Reading (by simp) ?_
 have q1 : KdsL [.one, KI] [S, .int .i64 (L0.length : Int)] := kL
 refine run_mc (φ := φ0) (pm := pmS 0 [] 0) 20 (ws := []) (env := [(0, n1 0), (1, nI 1), (2, .fn 87 [] [])]) q1 .nil (sepOk_ro rfl) .nil (eC q1 (.cons (t := 0) rfl (.cons (t := 1) rfl (.cons (t := 2) rfl .nil)))) tbS_ok ap_ok ?_
 refine all1 kr fun vs ls H2 E2 st hE => ?_
 have b3 := eo st hE 8 (.int .i64 20)
 have b4 := eo st hE 1 (.int .i64 (L0.length : Int))
 have b5 := eo st hE 0 S
 have b6 := eo st hE 7 (.int .i64 0)
 have b7 := eo st hE 2 (.func 87 [] [])
 have b8 := eo st hE 6 (.int .i64 20)
 have g9 : Grew H H2 := (gk st)
 have g10 : OnlyS S H H2 := (OnlyS.of_grew (Grew.refl H)).grewR g9
 have s11 := hS.grew g9
 refine res_loop kr (fun z E H' => ∃ (a12 : Nat) (b12 : Nat) (L12 : List (List AV)), z = L0.length + L0.length - a12 ∧ E 1 = .int .i64 (L0.length : Int) ∧ E 0 = S ∧ E 2 = .func 87 [] [] ∧ E 6 = .int .i64 20 ∧ E 7 = .int .i64 (a12 : Int) ∧ E 8 = .int .i64 (b12 : Int) ∧ OnlyS S H H' ∧ SlF H' 4 L12 S ∧ Recs KR L12 ∧ b12 = a12 + 20 ∧ a12 ≤ L0.length ∧ a12 % 20 = 0 ∧ St 0 L0.length L0 L12 ∧ BR 20 0 a12 L12) (L0.length + L0.length - 0) ⟨0, 20, L0, rfl, b4, b5, b7, b8, (b6.trans rfl), (b3.trans rfl), g10, s11, hr, ⟨by omega, by omega, rfl, St.refl _ _ _, fun p q _ _ h _ => absurd h (Nat.not_lt_zero _)⟩⟩ ?_
 rintro z12 E12 Hx12 ⟨a12, b12, L12, hz12, c12_1, c12_0, c12_2, c12_6, cv12_7, cv12_8, gt12, so12_0, hr12_0, iv12⟩
 obtain ⟨haba12, hana12, hmda12, hsta12, hbra12⟩ := iv12
 have hla12 := hsta12.len
 have q13 := q1.app (kL : KdsL [KI, KI] [.int .i64 (a12 : Int), .int .i64 (b12 : Int)])
 refine run_mc (φ := φ0) (pm := pmS 0 [] 0) 20 (ws := []) (env := [(1, nI 1), (0, n1 0), (2, .fn 87 [] []), (6, .lit (.int .i64 20)), (7, nI 2), (8, nI 3)]) q13 .nil (sepOk_ro rfl) .nil (eC q13 (.cons c12_1 (.cons c12_0 (.cons c12_2 (.cons c12_6 (.cons cv12_7 (.cons cv12_8 .nil))))))) tbS_ok ap_ok ?_
 refine all2 kr ?_ ?_
 ·
  intro vs ls H14 E14 st hE
  have f15 : ¬ ((L0.length : Int) < (b12 : Int)) := df st 0
  have b16 := eo st hE 14 S
  have b17 := eo st hE 15 (.int .i64 (a12 : Int))
  have b18 := eo st hE 16 (.int .i64 (b12 : Int))
  have b19 := eo st hE 17 (.func 87 [] [])
  have B1 := es st hE [(14, S), (15, .int .i64 (a12 : Int)), (16, .int .i64 (b12 : Int)), (17, .func 87 [] []), (8, .int .i64 (b12 : Int)), (6, .int .i64 20), (7, .int .i64 (a12 : Int)), (1, .int .i64 (L0.length : Int)), (0, S), (2, .func 87 [] [])]
  have g27 : Grew Hx12 H14 := (gk st)
  have g28 : OnlyS S H H14 := gt12.grewR g27
  have s29 := so12_0.grew g27
  refine res_call (d := (some 18)) (f := 129) (args := [.tmp 14, .tmp 15, .tmp 16, .tmp 17]) kr (R := fun z H' => z = .tuple [] ∧ OnlyS S H14 H' ∧ ∃ M, SlF H' 4 M S ∧ Recs KR M ∧ St a12 b12 L12 M ∧ Srt a12 b12 M) ?_ ?_
  ·
   show ACalls _ _ [E14 14, E14 15, E14 16, E14 17] _ _
   rw [b16, b17, b18, b19]
   exact (k_insSort H14 L12 hr12_0 S s29 om a12 b12 om om)
  rintro z H30 ⟨rfl, oo30, M30, s30, hr30, hp30⟩
  have g31 : OnlyS S H H30 := g28.trans oo30
  have hlM30 : M30.length = L12.length := hp30.1.len
  refine run_mc (φ := φ0) (pm := pmS 0 [] 0) 20 (ws := []) (env := [(14, n1 0), (15, nI 2), (16, nI 3), (17, .fn 87 [] []), (8, nI 3), (6, .lit (.int .i64 20)), (7, nI 2), (1, nI 1), (0, n1 0), (2, .fn 87 [] []), (18, .tup [])]) q13 .nil (sepOk_ro rfl) .nil (eC q13 (sc (sp B1) (.cons put_same .nil))) tbS_ok ap_ok ?_
  refine all1 kr fun vs ls H33 E33 st hE => ?_
  have b34 := eo st hE 7 (.int .i64 (b12 : Int))
  obtain ⟨w35, hw35⟩ : ∃ z, z = (IntKind.wrap .i64 ((b12 : Int) + 20)) := ⟨_, rfl⟩
  have b36 : E33 8 = .int .i64 w35 := by rw [hw35]; exact eo st hE 8 _
  have b37 := eo st hE 1 (.int .i64 (L0.length : Int))
  have b38 := eo st hE 0 S
  have b39 := eo st hE 2 (.func 87 [] [])
  have b40 := eo st hE 6 (.int .i64 20)
  have g41 : Grew H30 H33 := (gk st)
  have g42 : OnlyS S H H33 := g31.grewR g41
  have s43 := s30.grew g41
  have nw35 : w35 = ((b12 : Int) + 20) := by
   rw [hw35]
   rw [show (IntKind.wrap .i64 ((b12 : Int) + 20)) = (b12 : Int) + 20 from wrap_i64 om om]
  obtain ⟨k44, hk44⟩ : ∃ k : Nat, w35 = (k : Int) := ⟨Int.toNat w35, by omega⟩
  have hm9 : L0.length + L0.length - b12 < z12 := by omega
  exact res_norm kr ⟨L0.length + L0.length - b12, hm9, b12, k44, M30, rfl, b37, b38, b39, b40, b34, (b36.trans (by rw [hk44])), g42, s43, hr30, ⟨by omega, by omega, by rw [show b12 = a12 + 20 by omega]; exact mod_add1 hmda12, hsta12.trans (hp30.1.wide om om), br_step om hmda12 om hbra12 hp30.1 hp30.2 |> fun h9 => (by rw [show b12 = b12 by omega]; exact h9)⟩⟩
 ·
  intro vs ls H45 E45 st hE
  have f46 : (L0.length : Int) < (b12 : Int) := dt st 0
  obtain ⟨w51, hw51⟩ : ∃ z, z = (!(decide ((L0.length : Int) < (b12 : Int)))) := ⟨_, rfl⟩
  have b52 : E45 13 = .bool w51 := by rw [hw51]; exact eo st hE 13 _
  have B2 := es st hE [(8, .int .i64 (b12 : Int)), (1, .int .i64 (L0.length : Int)), (11, .int .i64 (b12 : Int)), (12, .int .i64 (L0.length : Int)), (0, S), (7, .int .i64 (a12 : Int)), (2, .func 87 [] []), (6, .int .i64 20)]
  have g57 : Grew Hx12 H45 := (gk st)
  have g58 : OnlyS S H H45 := gt12.grewR g57
  have s59 := so12_0.grew g57
  refine res_exit (id := 0) kr ?_
  have q60 := q13.app (kL : KdsL [.bool] [.bool w51])
  refine run_mc (φ := φ0) (pm := pmS 0 [] 0) 20 (ws := []) (env := [(8, nI 3), (1, nI 1), (11, nI 3), (12, nI 1), (0, n1 0), (7, nI 2), (2, .fn 87 [] []), (6, .lit (.int .i64 20)), (13, nB 4)]) q60 .nil (sepOk_ro rfl) .nil (eC q60 (sc B2 (.cons b52 .nil))) tbS_ok ap_ok ?_
  refine all1 kr fun vs ls H61 E61 st hE => ?_
  have b62 := eo st hE 23 S
  have b63 := eo st hE 24 (.int .i64 (a12 : Int))
  have b64 := eo st hE 25 (.int .i64 (L0.length : Int))
  have b65 := eo st hE 26 (.func 87 [] [])
  have B3 := es st hE [(23, S), (24, .int .i64 (a12 : Int)), (25, .int .i64 (L0.length : Int)), (26, .func 87 [] []), (6, .int .i64 20), (1, .int .i64 (L0.length : Int)), (8, .int .i64 (b12 : Int)), (0, S), (7, .int .i64 (a12 : Int)), (2, .func 87 [] [])]
  have g72 : Grew H45 H61 := (gk st)
  have g73 : OnlyS S H H61 := g58.grewR g72
  have s74 := s59.grew g72
  refine res_call (d := (some 27)) (f := 129) (args := [.tmp 23, .tmp 24, .tmp 25, .tmp 26]) kr (R := fun z H' => z = .tuple [] ∧ OnlyS S H61 H' ∧ ∃ M, SlF H' 4 M S ∧ Recs KR M ∧ St a12 L0.length L12 M ∧ Srt a12 L0.length M) ?_ ?_
  ·
   show ACalls _ _ [E61 23, E61 24, E61 25, E61 26] _ _
   rw [b62, b63, b64, b65]
   exact (k_insSort H61 L12 hr12_0 S s74 om a12 L0.length om om)
  rintro z H75 ⟨rfl, oo75, M75, s75, hr75, hp75⟩
  have g76 : OnlyS S H H75 := g73.trans oo75
  have hlM75 : M75.length = L12.length := hp75.1.len
  refine run_mc (φ := φ0) (pm := pmS 0 [] 0) 20 (ws := []) (env := [(23, n1 0), (24, nI 2), (25, nI 1), (26, .fn 87 [] []), (6, .lit (.int .i64 20)), (1, nI 1), (8, nI 3), (0, n1 0), (7, nI 2), (2, .fn 87 [] []), (27, .tup [])]) q60 .nil (sepOk_ro rfl) .nil (eC q60 (sc (sp B3) (.cons put_same .nil))) tbS_ok ap_ok ?_
  refine all1 kr fun vs ls H78 E78 st hE => ?_
  have b79 := eo st hE 6 (.int .i64 20)
  have b80 := eo st hE 1 (.int .i64 (L0.length : Int))
  have b82 := eo st hE 0 S
  have b84 := eo st hE 2 (.func 87 [] [])
  have g85 : Grew H75 H78 := (gk st)
  have g86 : OnlyS S H H78 := g76.grewR g85
  have s87 := s75.grew g85
  refine res_loop kr (fun z E H' => ∃ (bs88 : Nat) (L88 : List (List AV)), z = L0.length - bs88 ∧ E 1 = .int .i64 (L0.length : Int) ∧ E 0 = S ∧ E 2 = .func 87 [] [] ∧ E 6 = .int .i64 (bs88 : Int) ∧ OnlyS S H H' ∧ SlF H' 4 L88 S ∧ Recs KR L88 ∧ 0 < bs88 ∧ bs88 < 2 ^ 22 ∧ St 0 L0.length L0 L88 ∧ BR bs88 0 L0.length L88) (L0.length - 20) ⟨20, M75, rfl, b80, b82, b84, (b79.trans rfl), g86, s87, hr75, ⟨by omega, by omega, hsta12.trans (hp75.1.wide om om), br_step om hmda12 om hbra12 hp75.1 hp75.2⟩⟩ ?_
  rintro z88 E88 Hx88 ⟨bs88, L88, hz88, c88_1, c88_0, c88_2, cv88_6, gt88, so88_0, hr88_0, iv88⟩
  obtain ⟨hb0bs88, hb1bs88, hsubs88, hbubs88⟩ := iv88
  have hlbs88 := hsubs88.len
  have q89 := q60.app (kL : KdsL [KI] [.int .i64 (bs88 : Int)])
  refine run_mc (φ := φ0) (pm := pmS 0 [] 0) 20 (ws := []) (env := [(1, nI 1), (0, n1 0), (2, .fn 87 [] []), (6, nI 5)]) q89 .nil (sepOk_ro rfl) .nil (eC q89 (.cons c88_1 (.cons c88_0 (.cons c88_2 (.cons cv88_6 .nil))))) tbS_ok ap_ok ?_
  refine all2 kr ?_ ?_
  ·
   intro vs ls H90 E90 st hE
   have f91 : (bs88 : Int) < (L0.length : Int) := dt st 0
   obtain ⟨w92, hw92⟩ : ∃ z, z = (IntKind.wrap .i64 (2 * (bs88 : Int))) := ⟨_, rfl⟩
   have b93 : E90 8 = .int .i64 w92 := by rw [hw92]; exact eo st hE 8 _
   have b94 := eo st hE 1 (.int .i64 (L0.length : Int))
   have b95 := eo st hE 0 S
   have b96 := eo st hE 7 (.int .i64 0)
   have b97 := eo st hE 6 (.int .i64 (bs88 : Int))
   have b98 := eo st hE 2 (.func 87 [] [])
   have g99 : Grew Hx88 H90 := (gk st)
   have g100 : OnlyS S H H90 := gt88.grewR g99
   have s101 := so88_0.grew g99
   have nw92 : w92 = (2 * (bs88 : Int)) := by
    rw [hw92]
    rw [show (IntKind.wrap .i64 (2 * (bs88 : Int))) = 2 * (bs88 : Int) from wrap_i64 om om]
   obtain ⟨k102, hk102⟩ : ∃ k : Nat, w92 = (k : Int) := ⟨Int.toNat w92, by omega⟩
   refine res_loop kr (fun z E H' => ∃ (a103 : Nat) (b103 : Nat) (L103 : List (List AV)), z = L0.length + L0.length - a103 ∧ E 1 = .int .i64 (L0.length : Int) ∧ E 0 = S ∧ E 6 = .int .i64 (bs88 : Int) ∧ E 2 = .func 87 [] [] ∧ E 7 = .int .i64 (a103 : Int) ∧ E 8 = .int .i64 (b103 : Int) ∧ OnlyS S H H' ∧ SlF H' 4 L103 S ∧ Recs KR L103 ∧ b103 = a103 + 2 * bs88 ∧ a103 ≤ L0.length ∧ a103 % (2 * bs88) = 0 ∧ St 0 L0.length L0 L103 ∧ BR (2 * bs88) 0 a103 L103 ∧ BR bs88 a103 L0.length L103) (L0.length + L0.length - 0) ⟨0, k102, L88, rfl, b94, b95, b97, b98, (b96.trans rfl), (b93.trans (by rw [hk102])), g100, s101, hr88_0, ⟨by omega, by omega, Nat.zero_mod _, hsubs88, fun p q _ _ h _ => absurd h (Nat.not_lt_zero _), hbubs88⟩⟩ ?_
   rintro z103 E103 Hx103 ⟨a103, b103, L103, hz103, c103_1, c103_0, c103_6, c103_2, cv103_7, cv103_8, gt103, so103_0, hr103_0, iv103⟩
   obtain ⟨haba103, hana103, hmda103, hsta103, hbra103, hrea103⟩ := iv103
   have hla103 := hsta103.len
   have q104 := q89.app (kL : KdsL [KI, KI, KI] [.int .i64 w92, .int .i64 (a103 : Int), .int .i64 (b103 : Int)])
   refine run_mc (φ := φ0) (pm := pmS 0 [] 0) 20 (ws := []) (env := [(1, nI 1), (0, n1 0), (6, nI 5), (2, .fn 87 [] []), (7, nI 7), (8, nI 8)]) q104 .nil (sepOk_ro rfl) .nil (eC q104 (.cons c103_1 (.cons c103_0 (.cons c103_6 (.cons c103_2 (.cons cv103_7 (.cons cv103_8 .nil))))))) tbS_ok ap_ok ?_
   refine all2 kr ?_ ?_
   ·
    intro vs ls H105 E105 st hE
    have f106 : ¬ ((L0.length : Int) < (b103 : Int)) := df st 0
    have b107 := eo st hE 36 S
    have b108 := eo st hE 37 (.int .i64 (a103 : Int))
    obtain ⟨w109, hw109⟩ : ∃ z, z = (IntKind.wrap .i64 ((a103 : Int) + (bs88 : Int))) := ⟨_, rfl⟩
    have b110 : E105 40 = .int .i64 w109 := by rw [hw109]; exact eo st hE 40 _
    have b111 := eo st hE 41 (.int .i64 (b103 : Int))
    have b112 := eo st hE 42 (.func 87 [] [])
    have B4 := es st hE [(36, S), (37, .int .i64 (a103 : Int)), (41, .int .i64 (b103 : Int)), (42, .func 87 [] []), (8, .int .i64 (b103 : Int)), (6, .int .i64 (bs88 : Int)), (1, .int .i64 (L0.length : Int)), (0, S), (2, .func 87 [] []), (7, .int .i64 (a103 : Int))]
    have g120 : Grew Hx103 H105 := (gk st)
    have g121 : OnlyS S H H105 := gt103.grewR g120
    have s122 := so103_0.grew g120
    have nw109 : w109 = ((a103 : Int) + (bs88 : Int)) := by
     rw [hw109]
     rw [show (IntKind.wrap .i64 ((a103 : Int) + (bs88 : Int))) = (a103 : Int) + (bs88 : Int) from wrap_i64 om om]
    obtain ⟨k123, hk123⟩ : ∃ k : Nat, w109 = (k : Int) := ⟨Int.toNat w109, by omega⟩
    refine res_call (d := (some 43)) (f := 130) (args := [.tmp 36, .tmp 37, .tmp 40, .tmp 41, .tmp 42]) kr (R := fun z H' => z = .tuple [] ∧ OnlyS S H105 H' ∧ ∃ M, SlF H' 4 M S ∧ Recs KR M ∧ St a103 b103 L103 M ∧ Srt a103 b103 M) ?_ ?_
    ·
     show ACalls _ _ [E105 36, E105 37, E105 40, E105 41, E105 42] _ _
     rw [b107, b108, b110, b111, b112]
     exact (by rw [hk123]; exact k_sym H105 L103 hr103_0 S s122 om a103 k123 b103 om om om (br_srt (bs := bs88) om (by have h9 := (mod_add2 hmda103).1; rwa [show a103 = a103 by omega] at h9) om om (show k123 ≤ L0.length by omega) hrea103) (br_srt (bs := bs88) om (by have h9 := (mod_add2 hmda103).2.1; rwa [show a103 + bs88 = k123 by omega] at h9) om om (show b103 ≤ L0.length by omega) hrea103))
    rintro z H124 ⟨rfl, oo124, M124, s124, hr124, hp124⟩
    have g125 : OnlyS S H H124 := g121.trans oo124
    have hlM124 : M124.length = L103.length := hp124.1.len
    have q126 := q104.app (kL : KdsL [KI] [.int .i64 w109])
    refine run_mc (φ := φ0) (pm := pmS 0 [] 0) 20 (ws := []) (env := [(36, n1 0), (37, nI 7), (41, nI 8), (42, .fn 87 [] []), (8, nI 8), (6, nI 5), (1, nI 1), (0, n1 0), (2, .fn 87 [] []), (7, nI 7), (40, nI 9), (43, .tup [])]) q126 .nil (sepOk_ro rfl) .nil (eC q126 (sc (sp B4) (.cons (put_ne rfl b110) (.cons put_same .nil)))) tbS_ok ap_ok ?_
    refine all1 kr fun vs ls H127 E127 st hE => ?_
    have b128 := eo st hE 7 (.int .i64 (b103 : Int))
    obtain ⟨w129, hw129⟩ : ∃ z, z = (IntKind.wrap .i64 ((b103 : Int) + (IntKind.wrap .i64 (2 * (bs88 : Int))))) := ⟨_, rfl⟩
    have b130 : E127 8 = .int .i64 w129 := by rw [hw129]; exact eo st hE 8 _
    have b131 := eo st hE 1 (.int .i64 (L0.length : Int))
    have b132 := eo st hE 0 S
    have b133 := eo st hE 6 (.int .i64 (bs88 : Int))
    have b134 := eo st hE 2 (.func 87 [] [])
    have g135 : Grew H124 H127 := (gk st)
    have g136 : OnlyS S H H127 := g125.grewR g135
    have s137 := s124.grew g135
    have nw129 : w129 = ((b103 : Int) + (2 * (bs88 : Int))) := by
     rw [hw129]
     rw [show (IntKind.wrap .i64 (2 * (bs88 : Int))) = 2 * (bs88 : Int) from wrap_i64 om om]
     rw [show (IntKind.wrap .i64 ((b103 : Int) + (2 * (bs88 : Int)))) = (b103 : Int) + (2 * (bs88 : Int)) from wrap_i64 om om]
    obtain ⟨k138, hk138⟩ : ∃ k : Nat, w129 = (k : Int) := ⟨Int.toNat w129, by omega⟩
    have hm9 : L0.length + L0.length - b103 < z103 := by omega
    exact res_norm kr ⟨L0.length + L0.length - b103, hm9, b103, k138, M124, rfl, b131, b132, b133, b134, b128, (b130.trans (by rw [hk138])), g136, s137, hr124, ⟨by omega, by omega, by rw [show b103 = a103 + 2 * bs88 by omega]; exact (mod_add2 hmda103).2.2, hsta103.trans (hp124.1.wide om om), br_step om hmda103 om hbra103 hp124.1 hp124.2 |> fun h9 => (by rw [show b103 = b103 by omega]; exact h9), br_rest om hrea103 (by have h9 := hp124.1; rwa [show b103 = b103 by omega] at h9)⟩⟩
   ·
    intro vs ls H139 E139 st hE
    have f140 : (L0.length : Int) < (b103 : Int) := dt st 0
    obtain ⟨w145, hw145⟩ : ∃ z, z = (!(decide ((L0.length : Int) < (b103 : Int)))) := ⟨_, rfl⟩
    have b146 : E139 35 = .bool w145 := by rw [hw145]; exact eo st hE 35 _
    have B5 := es st hE [(8, .int .i64 (b103 : Int)), (1, .int .i64 (L0.length : Int)), (33, .int .i64 (b103 : Int)), (34, .int .i64 (L0.length : Int)), (0, S), (7, .int .i64 (a103 : Int)), (6, .int .i64 (bs88 : Int)), (2, .func 87 [] [])]
    have g151 : Grew Hx103 H139 := (gk st)
    have g152 : OnlyS S H H139 := gt103.grewR g151
    have s153 := so103_0.grew g151
    refine res_exit (id := 4) kr ?_
    have q154 := q104.app (kL : KdsL [.bool] [.bool w145])
    refine run_mc (φ := φ0) (pm := pmS 0 [] 0) 20 (ws := []) (env := [(8, nI 8), (1, nI 1), (33, nI 8), (34, nI 1), (0, n1 0), (7, nI 7), (6, nI 5), (2, .fn 87 [] []), (35, nB 9)]) q154 .nil (sepOk_ro rfl) .nil (eC q154 (sc B5 (.cons b146 .nil))) tbS_ok ap_ok ?_
    refine all2 kr ?_ ?_
    ·
     intro vs ls H155 E155 st hE
     have f156 : (IntKind.wrap .i64 ((a103 : Int) + (bs88 : Int))) < (L0.length : Int) := dt st 0
     rw [show (IntKind.wrap .i64 ((a103 : Int) + (bs88 : Int))) = (a103 : Int) + (bs88 : Int) from wrap_i64 om om] at f156
     have b157 := eo st hE 55 S
     have b158 := eo st hE 56 (.int .i64 (a103 : Int))
     obtain ⟨w159, hw159⟩ : ∃ z, z = (IntKind.wrap .i64 ((a103 : Int) + (bs88 : Int))) := ⟨_, rfl⟩
     have b160 : E155 57 = .int .i64 w159 := by rw [hw159]; exact eo st hE 57 _
     have b161 := eo st hE 58 (.int .i64 (L0.length : Int))
     have b162 := eo st hE 59 (.func 87 [] [])
     have B6 := es st hE [(55, S), (56, .int .i64 (a103 : Int)), (58, .int .i64 (L0.length : Int)), (59, .func 87 [] []), (6, .int .i64 (bs88 : Int)), (1, .int .i64 (L0.length : Int)), (0, S), (2, .func 87 [] [])]
     have g167 : Grew H139 H155 := (gk st)
     have g168 : OnlyS S H H155 := g152.grewR g167
     have s169 := s153.grew g167
     have nw159 : w159 = ((a103 : Int) + (bs88 : Int)) := by
      rw [hw159]
      rw [show (IntKind.wrap .i64 ((a103 : Int) + (bs88 : Int))) = (a103 : Int) + (bs88 : Int) from wrap_i64 om om]
     obtain ⟨k170, hk170⟩ : ∃ k : Nat, w159 = (k : Int) := ⟨Int.toNat w159, by omega⟩
     refine res_call (d := (some 60)) (f := 130) (args := [.tmp 55, .tmp 56, .tmp 57, .tmp 58, .tmp 59]) kr (R := fun z H' => z = .tuple [] ∧ OnlyS S H155 H' ∧ ∃ M, SlF H' 4 M S ∧ Recs KR M ∧ St a103 L0.length L103 M ∧ Srt a103 L0.length M) ?_ ?_
     ·
      show ACalls _ _ [E155 55, E155 56, E155 57, E155 58, E155 59] _ _
      rw [b157, b158, b160, b161, b162]
      exact (by rw [hk170]; exact k_sym H155 L103 hr103_0 S s169 om a103 k170 L0.length om om om (br_srt (bs := bs88) om (by have h9 := (mod_add2 hmda103).1; rwa [show a103 = a103 by omega] at h9) om om (show k170 ≤ L0.length by omega) hrea103) (br_srt (bs := bs88) om (by have h9 := (mod_add2 hmda103).2.1; rwa [show a103 + bs88 = k170 by omega] at h9) om om (show L0.length ≤ L0.length by omega) hrea103))
     rintro z H171 ⟨rfl, oo171, M171, s171, hr171, hp171⟩
     have g172 : OnlyS S H H171 := g168.trans oo171
     have hlM171 : M171.length = L103.length := hp171.1.len
     have q173 := q154.app (kL : KdsL [KI] [.int .i64 w159])
     refine run_mc (φ := φ0) (pm := pmS 0 [] 0) 20 (ws := []) (env := [(55, n1 0), (56, nI 7), (58, nI 1), (59, .fn 87 [] []), (6, nI 5), (1, nI 1), (0, n1 0), (2, .fn 87 [] []), (57, nI 10), (60, .tup [])]) q173 .nil (sepOk_ro rfl) .nil (eC q173 (sc (sp B6) (.cons (put_ne rfl b160) (.cons put_same .nil)))) tbS_ok ap_ok ?_
     refine all1 kr fun vs ls H174 E174 st hE => ?_
     obtain ⟨w175, hw175⟩ : ∃ z, z = (IntKind.wrap .i64 ((bs88 : Int) * 2)) := ⟨_, rfl⟩
     have b176 : E174 6 = .int .i64 w175 := by rw [hw175]; exact eo st hE 6 _
     have b177 := eo st hE 1 (.int .i64 (L0.length : Int))
     have b178 := eo st hE 0 S
     have b179 := eo st hE 2 (.func 87 [] [])
     have g180 : Grew H171 H174 := (gk st)
     have g181 : OnlyS S H H174 := g172.grewR g180
     have s182 := s171.grew g180
     have nw175 : w175 = ((bs88 : Int) * 2) := by
      rw [hw175]
      rw [show (IntKind.wrap .i64 ((bs88 : Int) * 2)) = (bs88 : Int) * 2 from wrap_i64 om om]
     obtain ⟨k183, hk183⟩ : ∃ k : Nat, w175 = (k : Int) := ⟨Int.toNat w175, by omega⟩
     have hz9 : BR (2 * bs88) 0 L0.length M171 := br_step om hmda103 om hbra103 hp171.1 hp171.2
     have hm9 : L0.length - k183 < z88 := by omega
     exact res_norm kr ⟨L0.length - k183, hm9, k183, M171, rfl, b177, b178, b179, (b176.trans (by rw [hk183])), g181, s182, hr171, ⟨by omega, by omega, hsta103.trans (hp171.1.wide om om), by rw [show k183 = 2 * bs88 by omega]; exact hz9⟩⟩
    ·
     intro vs ls H184 E184 st hE
     have f185 : ¬ ((IntKind.wrap .i64 ((a103 : Int) + (bs88 : Int))) < (L0.length : Int)) := df st 0
     rw [show (IntKind.wrap .i64 ((a103 : Int) + (bs88 : Int))) = (a103 : Int) + (bs88 : Int) from wrap_i64 om om] at f185
     obtain ⟨w186, hw186⟩ : ∃ z, z = (IntKind.wrap .i64 ((bs88 : Int) * 2)) := ⟨_, rfl⟩
     have b187 : E184 6 = .int .i64 w186 := by rw [hw186]; exact eo st hE 6 _
     have b188 := eo st hE 1 (.int .i64 (L0.length : Int))
     have b189 := eo st hE 0 S
     have b190 := eo st hE 2 (.func 87 [] [])
     have g191 : Grew H139 H184 := (gk st)
     have g192 : OnlyS S H H184 := g152.grewR g191
     have s193 := s153.grew g191
     have nw186 : w186 = ((bs88 : Int) * 2) := by
      rw [hw186]
      rw [show (IntKind.wrap .i64 ((bs88 : Int) * 2)) = (bs88 : Int) * 2 from wrap_i64 om om]
     obtain ⟨k194, hk194⟩ : ∃ k : Nat, w186 = (k : Int) := ⟨Int.toNat w186, by omega⟩
     have hz9 : BR (2 * bs88) 0 L0.length L103 := br_step om hmda103 om hbra103 (St.refl _ _ _) (br_srt (bs := bs88) om (mod_add2 hmda103).1 (Nat.le_refl _) om (Nat.le_refl _) hrea103)
     have hm9 : L0.length - k194 < z88 := by omega
     exact res_norm kr ⟨L0.length - k194, hm9, k194, L103, rfl, b188, b189, b190, (b187.trans (by rw [hk194])), g192, s193, hr103_0, ⟨by omega, by omega, hsta103, by rw [show k194 = 2 * bs88 by omega]; exact hz9⟩⟩
  ·
   intro vs ls H195 E195 st hE
   have f196 : ¬ ((bs88 : Int) < (L0.length : Int)) := df st 0
   obtain ⟨w201, hw201⟩ : ∃ z, z = (decide ((bs88 : Int) < (L0.length : Int))) := ⟨_, rfl⟩
   have b202 : E195 30 = .bool w201 := by rw [hw201]; exact eo st hE 30 _
   have B7 := es st hE [(6, .int .i64 (bs88 : Int)), (1, .int .i64 (L0.length : Int)), (28, .int .i64 (bs88 : Int)), (29, .int .i64 (L0.length : Int)), (0, S), (2, .func 87 [] [])]
   have g205 : Grew Hx88 H195 := (gk st)
   have g206 : OnlyS S H H195 := gt88.grewR g205
   have s207 := so88_0.grew g205
   refine res_exit (id := 2) kr ?_
   have q208 := q89.app (kL : KdsL [.bool] [.bool w201])
   refine run_mc (φ := φ0) (pm := pmS 0 [] 0) 20 (ws := []) (env := [(6, nI 5), (1, nI 1), (28, nI 5), (29, nI 1), (0, n1 0), (2, .fn 87 [] []), (30, nB 6)]) q208 .nil (sepOk_ro rfl) .nil (eC q208 (sc B7 (.cons b202 .nil))) tbS_ok ap_ok ?_
   refine all1 kr fun vs ls H209 E209 st hE => ?_
   have gz : OnlyS S H H209 := (g206.grewR (gk st))
   exact res_ex kr (end_same st.inn hE (.inl rfl) (a := .tuple []) kr gz.next ⟨rfl, gz, _, (s207.grew (st.inn.kept.grew (Nat.le_refl _))), hr88_0, hsubs88, br_all om hbubs88⟩)
theorem k_SortStable (H : AHeap) (L0 : List (List AV)) (hr : Recs KR L0) (S : AV) (hS : SlF H 4 L0 S) (hmx : L0.length < 2 ^ 20) : ACalls Try.prog 86 [S, .func 87 [] []] H fun r H' => r = .tuple [] ∧ OnlyS S H H' ∧ ∃ M, SlF H' 4 M S ∧ Recs KR M ∧ St 0 L0.length L0 M ∧ Srt 0 L0.length M := by
 refine res_start h_slices_SortStableFunc_impl_Reading_impl_Reading (by simp) ?_
 have q1 : KdsL [.one, KI] [S, .int .i64 (L0.length : Int)] := kL
 refine run_mc (φ := φ0) (pm := pmS 0 [(.len (n1 0), nI 1)] 0) 20 (ws := []) (env := [(0, n1 0), (1, .fn 87 [] [])]) q1 .nil (sepOk_ro rfl) (.cons (⟨_, _, (dE q1), (dE q1), slLen (hS.toL)⟩) .nil) (eC q1 (.cons (t := 0) rfl (.cons (t := 1) rfl .nil))) tbS_ok ap_ok ?_
 refine all1 kr fun vs ls H2 E2 st hE => ?_
 have b3 := eo st hE 4 S
 have b4 := eo st hE 6 (.int .i64 (L0.length : Int))
 have b5 := eo st hE 7 (.func 87 [] [])
 have B1 := es st hE [(4, S), (6, .int .i64 (L0.length : Int)), (7, .func 87 [] [])]
 have g6 : Grew H H2 := (gk st)
 have g7 : OnlyS S H H2 := (OnlyS.of_grew (Grew.refl H)).grewR g6
 have s8 := hS.grew g6
 refine res_call (d := (some 8)) (f := 116) (args := [.tmp 4, .tmp 6, .tmp 7]) kr (R := fun z H' => z = .tuple [] ∧ OnlyS S H2 H' ∧ ∃ M, SlF H' 4 M S ∧ Recs KR M ∧ St 0 L0.length L0 M ∧ Srt 0 L0.length M) ?_ ?_
 ·
  show ACalls _ _ [E2 4, E2 6, E2 7] _ _
  rw [b3, b4, b5]
  exact (k_stable H2 L0 hr S s8 om  )
 rintro z H9 ⟨rfl, oo9, M9, s9, hr9, hp9⟩
 have g10 : OnlyS S H H9 := g7.trans oo9
 have hlM9 : M9.length = L0.length := hp9.1.len
 refine run_mc (φ := φ0) (pm := pmS 0 [] 0) 20 (ws := []) (env := [(4, n1 0), (6, nI 1), (7, .fn 87 [] []), (8, .tup [])]) q1 .nil (sepOk_ro rfl) .nil (eC q1 (sc (sp B1) (.cons put_same .nil))) tbS_ok ap_ok ?_
 refine all1 kr fun vs ls H12 E12 st hE => ?_
 have gz : OnlyS S H H12 := (g10.grewR (gk st))
 exact res_ex kr (end_same st.inn hE (.inl rfl) (a := .tuple []) kr gz.next ⟨rfl, gz, _, (s9.grew (st.inn.kept.grew (Nat.le_refl _))), hr9, hp9⟩)
end Go.Proofs.Ytnleibiniajbnaa
