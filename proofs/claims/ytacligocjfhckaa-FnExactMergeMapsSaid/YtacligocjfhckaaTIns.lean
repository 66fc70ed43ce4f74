/- Contracts: a mark inserted into an own list. -/
import Derived.Test.YtacligocjfhckaaTClone
import Derived.Test.YtacligocjfhckaaSxE
set_option linter.unusedVariables false
set_option linter.unusedSimpArgs false
namespace Go.Proofs.Ytacligocjfhckaa
open Go.Ab
set_option maxRecDepth 100000
set_option maxHeartbeats 1000000
attribute [local irreducible] Res
theorem k_InsRoom (H : AHeap) (ms : List (List AV)) (hr : ∀ m ∈ ms, m.length = 9) (h1 : ms.flatten.all AV.one = true) (mx : ms.length ≤ 1048576) (l cap : Nat) (hg : H.get l = some (.row ms.flatten true)) (i : Nat) (hi : i < ms.length) (m : List AV) (hm : m.length = 9) (h1m : m.all AV.one = true) (lv : Nat) (hv : H.get lv = some (.row m true)) (hne : l ≠ lv) (hc : ms.length + 1 ≤ cap) : ACalls Try.prog 63 [.slice l 0 ms.length cap 9, .int .i64 (i : Int), .slice lv 0 1 1 9] H fun r H' => r = .slice l 0 (ms.length + 1) cap 9 ∧ Only l H H' ∧ H'.get l = some (.row (ms.take i ++ [m] ++ ms.drop i).flatten true) := by
 have hF := flat_len_z hr
 have hlA : (ms.flatten ++ List.replicate 9 AV.any).length = (ms.length + 1) * 9 := by rw [List.length_append, List.length_replicate, hF]; omega
 have hlB : (laid (ms.flatten ++ List.replicate 9 AV.any) ((i + 1) * 9) (ms.flatten.drop (i * 9))).length = (ms.length + 1) * 9 := by unfold laid; simp only [List.length_append, List.length_take, List.length_drop, List.length_replicate]; omega
 have min19 : Nat.min 1 (ms.length + 1 - i) * 9 = 9 := by show min _ _ * 9 = 9; omega
 refine acalls_room (j := 0) (k := 9) rfl hg (by omega) (by omega) ?_
 obtain ⟨HA, eHA⟩ : ∃ z, z = H.put l (.row (ms.flatten ++ List.replicate 9 .any) true) := ⟨_, rfl⟩
 rw [← eHA]
 have nA : HA.next = H.next := by rw [eHA]; rfl
 have hgA : HA.get l = some (.row (ms.flatten ++ List.replicate 9 .any) true) := by rw [eHA]; exact get_put_eq rfl (H.lt_of_get hg)
 have hvA : HA.get lv = some (.row m true) := by rw [eHA, get_put_ne (Ne.symm hne)]; exact hv
 have oA : Only l H HA := by rw [eHA]; exact ⟨Nat.le_refl _, fun l' _ hn => get_put_ne hn⟩
 refine res_start h_slices_Insert_impl_Mark_impl_Mark (by simp) ?_
 have q1 : KdsL [.one, KI, .one, KI] [.slice l 0 ms.length cap 9, .int .i64 (i : Int), .slice lv 0 1 1 9, .int .i64 (ms.length : Int)] := .cons rfl (.cons ⟨_, rfl⟩ (.cons rfl (.cons ⟨_, rfl⟩ .nil)))
 refine run_mc (φ := φ0) (pm := pmR 0 [] 0) 20 (ws := []) (env := [(0, n1 0), (1, nI 1), (2, n1 2)]) q1 .nil (sepOk_ro rfl) .nil (eC q1 (.cons (t := 0) rfl (.cons (t := 1) rfl (.cons (t := 2) rfl .nil)))) tb_ok ap_ok ?_
 refine all1 (by kernel_rfl) ?_
 intro vs ls H2 E2 st hE
 have b3 := eo st hE 10 (.slice l 0 ms.length cap 9)
 have b4 := eo st hE 11 (.int .i64 (i : Int))
 have b5 := eo st hE 2 (.slice lv 0 1 1 9)
 have b6 := eo st hE 0 (.slice l 0 ms.length cap 9)
 have b7 := eo st hE 1 (.int .i64 (i : Int))
 have g8 : Grew HA H2 := (gk st)
 have g9 : Grew HA H2 := Grew.trans (Grew.refl _) g8
 clear st hE vs ls
 have v10 : aval E2 H2.get (.slSl 9 (.tmp 10) (some (.tmp 11)) none none) = some (.slice l (i * 9) (ms.length - i) (cap - i) 9) := by
  have h9 := sub_val (H := H2) (lo := (some (.tmp 11))) (hi := none) (a := i) (b := ms.length) b3 (.inr (congrArg some b4)) (.inl ⟨rfl, rfl⟩) (by omega) (by omega)
  simpa using h9
 refine res_q (d := some 12) (op := .slSl 9 (.tmp 10) (some (.tmp 11)) none none) (r := .slice l (i * 9) (ms.length - i) (cap - i) 9) (by kernel_rfl) rfl v10 ?_
 have q11 := q1.app (.cons rfl .nil : KdsL [.one] [.slice l (i * 9) (ms.length - i) (cap - i) 9])
 refine run_mc (φ := φ0) (pm := pmR 0 [(.len (n1 2), .lit (.int .i64 1)), (.len (n1 0), nI 3)] 0) 20 (ws := []) (env := [(10, n1 0), (11, nI 1), (2, n1 2), (0, n1 0), (1, nI 1), (12, n1 4)]) q11 .nil (sepOk_ro rfl) (.cons (rule_len (l := lv) (o := 0) (n := 1) (cap := 1) (sz := 9) (dE q11) (dE q11)) (.cons (rule_len (l := l) (o := 0) (n := ms.length) (cap := cap) (sz := 9) (dE q11) (dE q11)) .nil)) (eC q11 (.cons (put_ne rfl b3) (.cons (put_ne rfl b4) (.cons (put_ne rfl b5) (.cons (put_ne rfl b6) (.cons (put_ne rfl b7) (.cons put_same .nil))))))) tb_ok ap_ok ?_
 refine all2 (by kernel_rfl) ?_ ?_
 ·
  intro vs ls H12 E12 st hE
  have f13 : (i : Int) = (ms.length : Int) := dt st 0
  clear st hE vs ls
  try rw [wrap_i64 (by omega) (by omega)] at f13
  exfalso; omega
 ·
  intro vs ls H23 E23 st hE
  have f24 : ¬ ((i : Int) = (ms.length : Int)) := df st 0
  have b25 := eo st hE 29 (.slice l 0 ms.length cap 9)
  obtain ⟨w26, hw26⟩ : ∃ z, z = (IntKind.wrap .i64 ((ms.length : Int) + 1)) := ⟨_, rfl⟩
  have b27 : E23 28 = .int .i64 w26 := by rw [hw26]; exact eo st hE 28 _
  have b28 := eo st hE 0 (.slice l 0 ms.length cap 9)
  have b29 := eo st hE 1 (.int .i64 (i : Int))
  have b30 := eo st hE 8 (.int .i64 (ms.length : Int))
  have b31 := eo st hE 7 (.int .i64 1)
  have b32 := eo st hE 2 (.slice lv 0 1 1 9)
  have g33 : Grew H2 H23 := (gk st)
  have g34 : Grew HA H23 := Grew.trans g9 g33
  clear st hE vs ls
  have nw26 : w26 = ((ms.length : Int) + 1) := by
   rw [hw26]
   rw [show (IntKind.wrap .i64 ((ms.length : Int) + 1)) = (ms.length : Int) + 1 from wrap_i64 (by omega) (by omega)]
  refine res_q (d := some 30) (op := .cap (.tmp 29)) (r := .int .i64 (cap : Int)) (by kernel_rfl) rfl (cap_val b25) ?_
  have q35 := q11.app (.cons ⟨_, rfl⟩ (.cons ⟨_, rfl⟩ .nil) : KdsL [KI, KI] [.int .i64 w26, .int .i64 (cap : Int)])
  refine run_mc (φ := φ0) (pm := pmR 0 [] 0) 20 (ws := []) (env := [(29, n1 0), (28, nI 5), (0, n1 0), (1, nI 1), (8, nI 3), (7, .lit (.int .i64 1)), (2, n1 2), (30, nI 6)]) q35 .nil (sepOk_ro rfl) .nil (eC q35 (.cons (put_ne rfl b25) (.cons (put_ne rfl b27) (.cons (put_ne rfl b28) (.cons (put_ne rfl b29) (.cons (put_ne rfl b30) (.cons (put_ne rfl b31) (.cons (put_ne rfl b32) (.cons put_same .nil))))))))) tb_ok ap_ok ?_
  refine all2 (by kernel_rfl) ?_ ?_
  ·
   intro vs ls H36 E36 st hE
   have f37 : (cap : Int) < w26 := dt st 0
   have b38 := eo st hE 32 (.slice l 0 ms.length cap 9)
   have b39 := eo st hE 33 (.int .i64 (i : Int))
   have b40 := eo st hE 8 (.int .i64 (ms.length : Int))
   have b41 := eo st hE 7 (.int .i64 1)
   have b42 := eo st hE 1 (.int .i64 (i : Int))
   have b43 := eo st hE 2 (.slice lv 0 1 1 9)
   have b44 := eo st hE 0 (.slice l 0 ms.length cap 9)
   clear st hE vs ls
   have v47 : aval E36 H36.get (.slSl 9 (.tmp 32) none (some (.tmp 33)) none) = some (.slice l 0 i cap 9) := by
    have h9 := sub_val (H := H36) (lo := none) (hi := (some (.tmp 33))) (a := 0) (b := i) b38 (.inl ⟨rfl, rfl⟩) (.inr (congrArg some b39)) (by omega) (by omega)
    simpa using h9
   refine res_q (d := some 34) (op := .slSl 9 (.tmp 32) none (some (.tmp 33)) none) (r := .slice l 0 i cap 9) (by kernel_rfl) rfl v47 ?_
   have q48 := q35.app (.cons rfl .nil : KdsL [.one] [.slice l 0 i cap 9])
   refine run_mc (φ := φ0) (pm := pmR 0 [] 0) 20 (ws := []) (env := [(32, n1 0), (33, nI 1), (8, nI 3), (7, .lit (.int .i64 1)), (1, nI 1), (2, n1 2), (0, n1 0), (34, n1 7)]) q48 .nil (sepOk_ro rfl) .nil (eC q48 (.cons (put_ne rfl b38) (.cons (put_ne rfl b39) (.cons (put_ne rfl b40) (.cons (put_ne rfl b41) (.cons (put_ne rfl b42) (.cons (put_ne rfl b43) (.cons (put_ne rfl b44) (.cons put_same .nil))))))))) tb_ok ap_ok ?_
   refine all1 (by kernel_rfl) ?_
   intro vs ls H49 E49 st hE
   obtain ⟨w51, hw51⟩ : ∃ z, z = (IntKind.wrap .i64 ((IntKind.wrap .i64 ((ms.length : Int) + 1)) - (i : Int))) := ⟨_, rfl⟩
   clear st hE vs ls
   have nw51 : w51 = (((ms.length : Int) + 1) - (i : Int)) := by
    rw [hw51]
    rw [show (IntKind.wrap .i64 ((ms.length : Int) + 1)) = (ms.length : Int) + 1 from wrap_i64 (by omega) (by omega)]
    rw [show (IntKind.wrap .i64 (((ms.length : Int) + 1) - (i : Int))) = ((ms.length : Int) + 1) - (i : Int) from wrap_i64 (by omega) (by omega)]
   exfalso; omega
  ·
   intro vs ls H60 E60 st hE
   have f61 : ¬ ((cap : Int) < w26) := df st 0
   have b62 := eo st hE 56 (.slice l 0 ms.length cap 9)
   obtain ⟨w63, hw63⟩ : ∃ z, z = (IntKind.wrap .i64 ((ms.length : Int) + 1)) := ⟨_, rfl⟩
   have b64 : E60 59 = .int .i64 w63 := by rw [hw63]; exact eo st hE 59 _
   have b65 := eo st hE 2 (.slice lv 0 1 1 9)
   have b66 := eo st hE 0 (.slice l 0 ms.length cap 9)
   have b67 := eo st hE 1 (.int .i64 (i : Int))
   have b68 := eo st hE 7 (.int .i64 1)
   have b69 := eo st hE 8 (.int .i64 (ms.length : Int))
   have g70 : Grew H23 H60 := (gk st)
   have g71 : Grew HA H60 := Grew.trans g34 g70
   clear st hE vs ls
   have nw63 : w63 = ((ms.length : Int) + 1) := by
    rw [hw63]
    rw [show (IntKind.wrap .i64 ((ms.length : Int) + 1)) = (ms.length : Int) + 1 from wrap_i64 (by omega) (by omega)]
   have e72 : E60 59 = .int .i64 (((ms.length + 1) : Nat) : Int) := by
    rw [b64, hw63]
    rw [show (IntKind.wrap .i64 ((ms.length : Int) + 1)) = (ms.length : Int) + 1 from wrap_i64 (by omega) (by omega)]
    first | rfl | (congr 1; done) | (congr 1; omega)
   have v73 : aval E60 H60.get (.slSl 9 (.tmp 56) none (some (.tmp 59)) none) = some (.slice l 0 (ms.length + 1) cap 9) := by
    have h9 := sub_val (H := H60) (lo := none) (hi := (some (.tmp 59))) (a := 0) (b := (ms.length + 1)) b62 (.inl ⟨rfl, rfl⟩) (.inr (congrArg some e72)) (by omega) (by omega)
    simpa using h9
   refine res_q (d := some 60) (op := .slSl 9 (.tmp 56) none (some (.tmp 59)) none) (r := .slice l 0 (ms.length + 1) cap 9) (by kernel_rfl) rfl v73 ?_
   have q74 := q35.app (.cons ⟨_, rfl⟩ (.cons rfl .nil) : KdsL [KI, .one] [.int .i64 w63, .slice l 0 (ms.length + 1) cap 9])
   refine run_mc (φ := φ0) (pm := pmR 0 [] 0) 20 (ws := []) (env := [(56, n1 0), (59, nI 7), (2, n1 2), (0, n1 0), (1, nI 1), (7, .lit (.int .i64 1)), (8, nI 3), (60, n1 8)]) q74 .nil (sepOk_ro rfl) .nil (eC q74 (.cons (put_ne rfl b62) (.cons (put_ne rfl b64) (.cons (put_ne rfl b65) (.cons (put_ne rfl b66) (.cons (put_ne rfl b67) (.cons (put_ne rfl b68) (.cons (put_ne rfl b69) (.cons put_same .nil))))))))) tb_ok ap_ok ?_
   refine all1 (by kernel_rfl) ?_
   intro vs ls H75 E75 st hE
   have b76 := eo st hE 62 (.slice l 0 (ms.length + 1) cap 9)
   obtain ⟨w77, hw77⟩ : ∃ z, z = (IntKind.wrap .i64 ((i : Int) + 1)) := ⟨_, rfl⟩
   have b78 : E75 65 = .int .i64 w77 := by rw [hw77]; exact eo st hE 65 _
   have b79 := eo st hE 61 (.slice lv 0 1 1 9)
   have b80 := eo st hE 0 (.slice l 0 (ms.length + 1) cap 9)
   have b81 := eo st hE 1 (.int .i64 (i : Int))
   have b82 := eo st hE 7 (.int .i64 1)
   have b83 := eo st hE 2 (.slice lv 0 1 1 9)
   have b84 := eo st hE 8 (.int .i64 (ms.length : Int))
   have g85 : Grew H60 H75 := (gk st)
   have g86 : Grew HA H75 := Grew.trans g71 g85
   clear st hE vs ls
   have nw77 : w77 = ((i : Int) + 1) := by
    rw [hw77]
    rw [show (IntKind.wrap .i64 ((i : Int) + 1)) = (i : Int) + 1 from wrap_i64 (by omega) (by omega)]
   have e87 : E75 65 = .int .i64 (((i + 1) : Nat) : Int) := by
    rw [b78, hw77]
    rw [show (IntKind.wrap .i64 ((i : Int) + 1)) = (i : Int) + 1 from wrap_i64 (by omega) (by omega)]
    first | rfl | (congr 1; done) | (congr 1; omega)
   have v88 : aval E75 H75.get (.slSl 9 (.tmp 62) (some (.tmp 65)) none none) = some (.slice l ((i + 1) * 9) ((ms.length + 1) - (i + 1)) (cap - (i + 1)) 9) := by
    have h9 := sub_val (H := H75) (lo := (some (.tmp 65))) (hi := none) (a := (i + 1)) (b := (ms.length + 1)) b76 (.inr (congrArg some e87)) (.inl ⟨rfl, rfl⟩) (by omega) (by omega)
    simpa using h9
   refine res_q (d := some 66) (op := .slSl 9 (.tmp 62) (some (.tmp 65)) none none) (r := .slice l ((i + 1) * 9) ((ms.length + 1) - (i + 1)) (cap - (i + 1)) 9) (by kernel_rfl) rfl v88 ?_
   have q89 := q74.app (.cons ⟨_, rfl⟩ (.cons rfl .nil) : KdsL [KI, .one] [.int .i64 w77, .slice l ((i + 1) * 9) ((ms.length + 1) - (i + 1)) (cap - (i + 1)) 9])
   refine run_mc (φ := φ0) (pm := pmR 0 [(.call 79 [n1 2, n1 10], .lit (.bool false))] 0) 20 (ws := []) (env := [(62, n1 8), (65, nI 9), (61, n1 2), (0, n1 8), (1, nI 1), (7, .lit (.int .i64 1)), (2, n1 2), (8, nI 3), (66, n1 10)]) q89 .nil (sepOk_ro rfl) (.cons (rule_call (args := [.slice lv 0 1 1 9, .slice l ((i + 1) * 9) ((ms.length + 1) - (i + 1)) (cap - (i + 1)) 9]) (r := .bool false) (dL q89) (dE q89) (fun H9 hk => x_overlaps Try.func79 (by kernel_rfl) (by kernel_rfl) (by kernel_rfl) (tS := 31) (tR := 4) (e := 40) (size := 9) (by kernel_rfl) (by kernel_rfl) (by kernel_rfl) (hk.grew (Nat.le_refl _) |>.at (Grew.at g86 hvA)) (hk.grew (Nat.le_refl _) |>.at (Grew.at g86 hgA)) (Ne.symm hne) (by omega) (by omega) (by omega))) .nil) (eC q89 (.cons (put_ne rfl b76) (.cons (put_ne rfl b78) (.cons (put_ne rfl b79) (.cons (put_ne rfl b80) (.cons (put_ne rfl b81) (.cons (put_ne rfl b82) (.cons (put_ne rfl b83) (.cons (put_ne rfl b84) (.cons put_same .nil)))))))))) tb_ok ap_ok ?_
   refine all1 (by kernel_rfl) ?_
   intro vs ls H90 E90 st hE
   have b91 := eo st hE 69 (.slice l 0 (ms.length + 1) cap 9)
   obtain ⟨w92, hw92⟩ : ∃ z, z = (IntKind.wrap .i64 ((i : Int) + 1)) := ⟨_, rfl⟩
   have b93 : E90 72 = .int .i64 w92 := by rw [hw92]; exact eo st hE 72 _
   have b94 := eo st hE 0 (.slice l 0 (ms.length + 1) cap 9)
   have b95 := eo st hE 1 (.int .i64 (i : Int))
   have b96 := eo st hE 2 (.slice lv 0 1 1 9)
   have b97 := eo st hE 8 (.int .i64 (ms.length : Int))
   have b98 := eo st hE 7 (.int .i64 1)
   have g99 : Grew H75 H90 := (gk st)
   have g100 : Grew HA H90 := Grew.trans g86 g99
   clear st hE vs ls
   have nw92 : w92 = ((i : Int) + 1) := by
    rw [hw92]
    rw [show (IntKind.wrap .i64 ((i : Int) + 1)) = (i : Int) + 1 from wrap_i64 (by omega) (by omega)]
   have e101 : E90 72 = .int .i64 (((i + 1) : Nat) : Int) := by
    rw [b93, hw92]
    rw [show (IntKind.wrap .i64 ((i : Int) + 1)) = (i : Int) + 1 from wrap_i64 (by omega) (by omega)]
    first | rfl | (congr 1; done) | (congr 1; omega)
   have v102 : aval E90 H90.get (.slSl 9 (.tmp 69) (some (.tmp 72)) none none) = some (.slice l ((i + 1) * 9) ((ms.length + 1) - (i + 1)) (cap - (i + 1)) 9) := by
    have h9 := sub_val (H := H90) (lo := (some (.tmp 72))) (hi := none) (a := (i + 1)) (b := (ms.length + 1)) b91 (.inr (congrArg some e101)) (.inl ⟨rfl, rfl⟩) (by omega) (by omega)
    simpa using h9
   refine res_qM (d := some 73) (op := .slSl 9 (.tmp 69) (some (.tmp 72)) none none) (r := .slice l ((i + 1) * 9) ((ms.length + 1) - (i + 1)) (cap - (i + 1)) 9) (by kernel_rfl) rfl v102 ?_
   have q103 := q89.app (.cons ⟨_, rfl⟩ (.cons rfl .nil) : KdsL [KI, .one] [.int .i64 w92, .slice l ((i + 1) * 9) ((ms.length + 1) - (i + 1)) (cap - (i + 1)) 9])
   refine run_mc (φ := φ0) (pm := pmR 0 [] 0) 20 (ws := []) (env := [(69, n1 8), (72, nI 11), (0, n1 8), (1, nI 1), (2, n1 2), (8, nI 3), (7, .lit (.int .i64 1)), (73, n1 12)]) q103 .nil (sepOk_ro rfl) .nil (eC q103 (.cons (put_ne rfl b91) (.cons (put_ne rfl b93) (.cons (put_ne rfl b94) (.cons (put_ne rfl b95) (.cons (put_ne rfl b96) (.cons (put_ne rfl b97) (.cons (put_ne rfl b98) (.cons put_same .nil))))))))) tb_ok ap_ok ?_
   refine all1 (by kernel_rfl) ?_
   intro vs ls H104 E104 st hE
   have b105 := eo st hE 74 (.slice l 0 (ms.length + 1) cap 9)
   have b106 := eo st hE 75 (.int .i64 (i : Int))
   have b107 := eo st hE 73 (.slice l ((i + 1) * 9) ((ms.length + 1) - (i + 1)) (cap - (i + 1)) 9)
   have b108 := eo st hE 0 (.slice l 0 (ms.length + 1) cap 9)
   have b109 := eo st hE 1 (.int .i64 (i : Int))
   have b110 := eo st hE 2 (.slice lv 0 1 1 9)
   have b111 := eo st hE 8 (.int .i64 (ms.length : Int))
   have b112 := eo st hE 7 (.int .i64 1)
   have g113 : Grew H90 H104 := (gk st)
   have g114 : Grew HA H104 := Grew.trans g100 g113
   clear st hE vs ls
   have v115 : aval E104 H104.get (.slSl 9 (.tmp 74) (some (.tmp 75)) none none) = some (.slice l (i * 9) ((ms.length + 1) - i) (cap - i) 9) := by
    have h9 := sub_val (H := H104) (lo := (some (.tmp 75))) (hi := none) (a := i) (b := (ms.length + 1)) b105 (.inr (congrArg some b106)) (.inl ⟨rfl, rfl⟩) (by omega) (by omega)
    simpa using h9
   refine res_qM (d := some 76) (op := .slSl 9 (.tmp 74) (some (.tmp 75)) none none) (r := .slice l (i * 9) ((ms.length + 1) - i) (cap - i) 9) (by kernel_rfl) rfl v115 ?_
   have q116 := q103.app (.cons rfl .nil : KdsL [.one] [.slice l (i * 9) ((ms.length + 1) - i) (cap - i) 9])
   refine run_mc (φ := φ0) (pm := pmR 0 [] 0) 20 (ws := []) (env := [(74, n1 8), (75, nI 1), (73, n1 12), (0, n1 8), (1, nI 1), (2, n1 2), (8, nI 3), (7, .lit (.int .i64 1)), (76, n1 13)]) q116 .nil (sepOk_ro rfl) .nil (eC q116 (.cons (put_ne rfl b105) (.cons (put_ne rfl b106) (.cons (put_ne rfl b107) (.cons (put_ne rfl b108) (.cons (put_ne rfl b109) (.cons (put_ne rfl b110) (.cons (put_ne rfl b111) (.cons (put_ne rfl b112) (.cons put_same .nil)))))))))) tb_ok ap_ok ?_
   refine all1 (by kernel_rfl) ?_
   intro vs ls H117 E117 st hE
   have b118 := eo st hE 73 (.slice l ((i + 1) * 9) ((ms.length + 1) - (i + 1)) (cap - (i + 1)) 9)
   have b119 := eo st hE 76 (.slice l (i * 9) ((ms.length + 1) - i) (cap - i) 9)
   have b120 := eo st hE 0 (.slice l 0 (ms.length + 1) cap 9)
   have b121 := eo st hE 1 (.int .i64 (i : Int))
   have b122 := eo st hE 2 (.slice lv 0 1 1 9)
   have b123 := eo st hE 8 (.int .i64 (ms.length : Int))
   have b124 := eo st hE 7 (.int .i64 1)
   have g125 : Grew H104 H117 := (gk st)
   have g126 : Grew HA H117 := Grew.trans g114 g125
   clear st hE vs ls
   have rw9 := g126.at hgA
   have rv9 := g126.at hvA
   refine res_copyK (d := some 77) (x := .tmp 73) (y := .tmp 76) (by kernel_rfl) b118 (by show srcCells _ _ (E117 76) = _; rw [b119]; exact src_part rw9 (by omega) (by rw [hlA]; omega)) (by show min _ _ ≠ 0; omega) rw9 (by rw [hlA]; omega) (by rw [shift_src hF hi]; exact List.all_eq_true.2 fun x hx => List.all_eq_true.1 h1 x (List.mem_of_mem_drop hx)) ?_
   rw [shift_src hF hi]
   obtain ⟨H127, eH127⟩ : ∃ z, z = H117.put l (.row (laid (ms.flatten ++ List.replicate 9 .any) ((i + 1) * 9) (ms.flatten.drop (i * 9))) true) := ⟨_, rfl⟩
   rw [← eH127]
   have rH127 : H127.get l = some (.row (laid (ms.flatten ++ List.replicate 9 .any) ((i + 1) * 9) (ms.flatten.drop (i * 9))) true) := by rw [eH127]; exact get_put_eq rfl (H117.lt_of_get rw9)
   have vH127 : H127.get lv = some (.row m true) := by rw [eH127, get_put_ne (Ne.symm hne)]; exact rv9
   have oH127 : Only l HA H127 := by rw [eH127]; exact ⟨g126.next, fun l' hl hn => by rw [get_put_ne hn]; exact g126.get l' hl⟩
   have qH127 : Only l H H127 := oA.trans oH127
   refine run_mc (φ := φ0) (pm := pmR 0 [] 0) 20 (ws := []) (env := [(73, n1 12), (76, n1 13), (0, n1 8), (1, nI 1), (2, n1 2), (8, nI 3), (7, .lit (.int .i64 1))]) q116 .nil (sepOk_ro rfl) .nil (eC q116 (.cons (put_ne rfl b118) (.cons (put_ne rfl b119) (.cons (put_ne rfl b120) (.cons (put_ne rfl b121) (.cons (put_ne rfl b122) (.cons (put_ne rfl b123) (.cons (put_ne rfl b124) .nil)))))))) tb_ok ap_ok ?_
   refine all1 (by kernel_rfl) ?_
   intro vs ls H129 E129 st hE
   have b130 := eo st hE 78 (.slice l 0 (ms.length + 1) cap 9)
   have b131 := eo st hE 79 (.int .i64 (i : Int))
   have b132 := eo st hE 2 (.slice lv 0 1 1 9)
   have b133 := eo st hE 0 (.slice l 0 (ms.length + 1) cap 9)
   have b134 := eo st hE 8 (.int .i64 (ms.length : Int))
   have b135 := eo st hE 1 (.int .i64 (i : Int))
   have b136 := eo st hE 7 (.int .i64 1)
   have g137 : Grew H127 H129 := (gk st)
   have g138 : Grew H127 H129 := Grew.trans (Grew.refl _) g137
   clear st hE vs ls
   have v139 : aval E129 H129.get (.slSl 9 (.tmp 78) (some (.tmp 79)) none none) = some (.slice l (i * 9) ((ms.length + 1) - i) (cap - i) 9) := by
    have h9 := sub_val (H := H129) (lo := (some (.tmp 79))) (hi := none) (a := i) (b := (ms.length + 1)) b130 (.inr (congrArg some b131)) (.inl ⟨rfl, rfl⟩) (by omega) (by omega)
    simpa using h9
   refine res_q (d := some 80) (op := .slSl 9 (.tmp 78) (some (.tmp 79)) none none) (r := .slice l (i * 9) ((ms.length + 1) - i) (cap - i) 9) (by kernel_rfl) rfl v139 ?_
   have q140 := q116.app (.cons rfl .nil : KdsL [.one] [.slice l (i * 9) ((ms.length + 1) - i) (cap - i) 9])
   refine run_mc (φ := φ0) (pm := pmR 0 [] 0) 20 (ws := []) (env := [(78, n1 8), (79, nI 1), (2, n1 2), (0, n1 8), (8, nI 3), (1, nI 1), (7, .lit (.int .i64 1)), (80, n1 14)]) q140 .nil (sepOk_ro rfl) .nil (eC q140 (.cons (put_ne rfl b130) (.cons (put_ne rfl b131) (.cons (put_ne rfl b132) (.cons (put_ne rfl b133) (.cons (put_ne rfl b134) (.cons (put_ne rfl b135) (.cons (put_ne rfl b136) (.cons put_same .nil))))))))) tb_ok ap_ok ?_
   refine all1 (by kernel_rfl) ?_
   intro vs ls H141 E141 st hE
   have b142 := eo st hE 80 (.slice l (i * 9) ((ms.length + 1) - i) (cap - i) 9)
   have b143 := eo st hE 81 (.slice lv 0 1 1 9)
   have b144 := eo st hE 0 (.slice l 0 (ms.length + 1) cap 9)
   have b145 := eo st hE 8 (.int .i64 (ms.length : Int))
   have b146 := eo st hE 2 (.slice lv 0 1 1 9)
   have b147 := eo st hE 1 (.int .i64 (i : Int))
   have b148 := eo st hE 7 (.int .i64 1)
   have g149 : Grew H129 H141 := (gk st)
   have g150 : Grew H127 H141 := Grew.trans g138 g149
   clear st hE vs ls
   have rw9 := g150.at rH127
   have rv9 := g150.at vH127
   refine res_copy (d := some 82) (x := .tmp 80) (y := .tmp 81) (m := 1) (ys := m) (by kernel_rfl) b142 (by show srcCells _ _ (E141 81) = _; rw [b143]; rw [src_part (n := 1) rv9 (by omega) (by omega)]; rw [List.drop_zero, List.take_of_length_le (by omega)]) (by show min _ _ ≠ 0; omega) rw9 (by rw [hlB]; omega) (by rw [min19, List.take_of_length_le (by omega)]; exact h1m) ?_
   rw [min19, List.take_of_length_le (show m.length ≤ 9 by omega)]
   obtain ⟨H151, eH151⟩ : ∃ z, z = H141.put l (.row (laid (laid (ms.flatten ++ List.replicate 9 .any) ((i + 1) * 9) (ms.flatten.drop (i * 9))) (i * 9) m) true) := ⟨_, rfl⟩
   rw [← eH151]
   have rH151 : H151.get l = some (.row (laid (laid (ms.flatten ++ List.replicate 9 .any) ((i + 1) * 9) (ms.flatten.drop (i * 9))) (i * 9) m) true) := by rw [eH151]; exact get_put_eq rfl (H141.lt_of_get rw9)
   have vH151 : H151.get lv = some (.row m true) := by rw [eH151, get_put_ne (Ne.symm hne)]; exact rv9
   have oH151 : Only l H127 H151 := by rw [eH151]; exact ⟨g150.next, fun l' hl hn => by rw [get_put_ne hn]; exact g150.get l' hl⟩
   have qH151 : Only l H H151 := qH127.trans oH151
   refine run_mc (φ := φ0) (pm := pmR 0 [] 0) 20 (ws := []) (env := [(80, n1 14), (81, n1 2), (0, n1 8), (8, nI 3), (2, n1 2), (1, nI 1), (7, .lit (.int .i64 1))]) q140 .nil (sepOk_ro rfl) .nil (eC q140 (.cons (put_ne rfl b142) (.cons (put_ne rfl b143) (.cons (put_ne rfl b144) (.cons (put_ne rfl b145) (.cons (put_ne rfl b146) (.cons (put_ne rfl b147) (.cons (put_ne rfl b148) .nil)))))))) tb_ok ap_ok ?_
   refine all1 (by kernel_rfl) ?_
   intro vs ls H153 E153 st hE
   have g9 : Grew H151 H153 := (Grew.trans (Grew.refl _) (gk st))
   refine res_ex (by kernel_rfl) (end_same st.inn hE (.inr rfl) (a := .slice l 0 (ms.length + 1) cap 9) (by kernel_rfl) (by rw [nA]; exact Nat.le_trans qH151.next g9.next) ⟨rfl, qH151.trans (.of_grew g9), ?_⟩)
   rw [← flat_ins_z hr m i (Nat.le_of_lt hi), ← shift_room (R := List.replicate 9 .any) hF (by simp) hm hi]; exact g9.at rH151
theorem k_InsGrow (H : AHeap) (ms : List (List AV)) (hr : ∀ m ∈ ms, m.length = 9) (h1 : ms.flatten.all AV.one = true) (mx : ms.length ≤ 1048576) (l cap : Nat) (hg : H.get l = some (.row ms.flatten true)) (i : Nat) (hi : i < ms.length) (m : List AV) (hm : m.length = 9) (h1m : m.all AV.one = true) (lv : Nat) (hv : H.get lv = some (.row m true)) (hne : l ≠ lv) (hc : cap = ms.length) : ACalls Try.prog 63 [.slice l 0 ms.length cap 9, .int .i64 (i : Int), .slice lv 0 1 1 9] H fun r H' => ∃ l2 c, H.next ≤ l2 ∧ ms.length + 1 ≤ c ∧ r = .slice l2 0 (ms.length + 1) c 9 ∧ Grew H H' ∧ H'.get l2 = some (.row (ms.take i ++ [m] ++ ms.drop i).flatten true) := by
 have hF := flat_len_z hr
 have min19 : Nat.min 1 (ms.length + 1 - i) * 9 = 9 := by show min _ _ * 9 = 9; omega
 refine res_start h_slices_Insert_impl_Mark_impl_Mark (by simp) ?_
 have q1 : KdsL [.one, KI, .one, KI] [.slice l 0 ms.length cap 9, .int .i64 (i : Int), .slice lv 0 1 1 9, .int .i64 (ms.length : Int)] := .cons rfl (.cons ⟨_, rfl⟩ (.cons rfl (.cons ⟨_, rfl⟩ .nil)))
 refine run_mc (φ := φ0) (pm := pmR 0 [] 0) 20 (ws := []) (env := [(0, n1 0), (1, nI 1), (2, n1 2)]) q1 .nil (sepOk_ro rfl) .nil (eC q1 (.cons (t := 0) rfl (.cons (t := 1) rfl (.cons (t := 2) rfl .nil)))) tb_ok ap_ok ?_
 refine all1 (by kernel_rfl) ?_
 intro vs ls H2 E2 st hE
 have b3 := eo st hE 10 (.slice l 0 ms.length cap 9)
 have b4 := eo st hE 11 (.int .i64 (i : Int))
 have b5 := eo st hE 2 (.slice lv 0 1 1 9)
 have b6 := eo st hE 0 (.slice l 0 ms.length cap 9)
 have b7 := eo st hE 1 (.int .i64 (i : Int))
 have g8 : Grew H H2 := (gk st)
 have g9 : Grew H H2 := Grew.trans (Grew.refl _) g8
 clear st hE vs ls
 have v10 : aval E2 H2.get (.slSl 9 (.tmp 10) (some (.tmp 11)) none none) = some (.slice l (i * 9) (ms.length - i) (cap - i) 9) := by
  have h9 := sub_val (H := H2) (lo := (some (.tmp 11))) (hi := none) (a := i) (b := ms.length) b3 (.inr (congrArg some b4)) (.inl ⟨rfl, rfl⟩) (by omega) (by omega)
  simpa using h9
 refine res_q (d := some 12) (op := .slSl 9 (.tmp 10) (some (.tmp 11)) none none) (r := .slice l (i * 9) (ms.length - i) (cap - i) 9) (by kernel_rfl) rfl v10 ?_
 have q11 := q1.app (.cons rfl .nil : KdsL [.one] [.slice l (i * 9) (ms.length - i) (cap - i) 9])
 refine run_mc (φ := φ0) (pm := pmR 0 [(.len (n1 2), .lit (.int .i64 1)), (.len (n1 0), nI 3)] 0) 20 (ws := []) (env := [(10, n1 0), (11, nI 1), (2, n1 2), (0, n1 0), (1, nI 1), (12, n1 4)]) q11 .nil (sepOk_ro rfl) (.cons (rule_len (l := lv) (o := 0) (n := 1) (cap := 1) (sz := 9) (dE q11) (dE q11)) (.cons (rule_len (l := l) (o := 0) (n := ms.length) (cap := cap) (sz := 9) (dE q11) (dE q11)) .nil)) (eC q11 (.cons (put_ne rfl b3) (.cons (put_ne rfl b4) (.cons (put_ne rfl b5) (.cons (put_ne rfl b6) (.cons (put_ne rfl b7) (.cons put_same .nil))))))) tb_ok ap_ok ?_
 refine all2 (by kernel_rfl) ?_ ?_
 ·
  intro vs ls H12 E12 st hE
  have f13 : (i : Int) = (ms.length : Int) := dt st 0
  clear st hE vs ls
  try rw [wrap_i64 (by omega) (by omega)] at f13
  exfalso; omega
 ·
  intro vs ls H23 E23 st hE
  have f24 : ¬ ((i : Int) = (ms.length : Int)) := df st 0
  have b25 := eo st hE 29 (.slice l 0 ms.length cap 9)
  obtain ⟨w26, hw26⟩ : ∃ z, z = (IntKind.wrap .i64 ((ms.length : Int) + 1)) := ⟨_, rfl⟩
  have b27 : E23 28 = .int .i64 w26 := by rw [hw26]; exact eo st hE 28 _
  have b28 := eo st hE 0 (.slice l 0 ms.length cap 9)
  have b29 := eo st hE 1 (.int .i64 (i : Int))
  have b30 := eo st hE 8 (.int .i64 (ms.length : Int))
  have b31 := eo st hE 7 (.int .i64 1)
  have b32 := eo st hE 2 (.slice lv 0 1 1 9)
  have g33 : Grew H2 H23 := (gk st)
  have g34 : Grew H H23 := Grew.trans g9 g33
  clear st hE vs ls
  have nw26 : w26 = ((ms.length : Int) + 1) := by
   rw [hw26]
   rw [show (IntKind.wrap .i64 ((ms.length : Int) + 1)) = (ms.length : Int) + 1 from wrap_i64 (by omega) (by omega)]
  refine res_q (d := some 30) (op := .cap (.tmp 29)) (r := .int .i64 (cap : Int)) (by kernel_rfl) rfl (cap_val b25) ?_
  have q35 := q11.app (.cons ⟨_, rfl⟩ (.cons ⟨_, rfl⟩ .nil) : KdsL [KI, KI] [.int .i64 w26, .int .i64 (cap : Int)])
  refine run_mc (φ := φ0) (pm := pmR 0 [] 0) 20 (ws := []) (env := [(29, n1 0), (28, nI 5), (0, n1 0), (1, nI 1), (8, nI 3), (7, .lit (.int .i64 1)), (2, n1 2), (30, nI 6)]) q35 .nil (sepOk_ro rfl) .nil (eC q35 (.cons (put_ne rfl b25) (.cons (put_ne rfl b27) (.cons (put_ne rfl b28) (.cons (put_ne rfl b29) (.cons (put_ne rfl b30) (.cons (put_ne rfl b31) (.cons (put_ne rfl b32) (.cons put_same .nil))))))))) tb_ok ap_ok ?_
  refine all2 (by kernel_rfl) ?_ ?_
  ·
   intro vs ls H36 E36 st hE
   have f37 : (cap : Int) < w26 := dt st 0
   have b38 := eo st hE 32 (.slice l 0 ms.length cap 9)
   have b39 := eo st hE 33 (.int .i64 (i : Int))
   have b40 := eo st hE 8 (.int .i64 (ms.length : Int))
   have b41 := eo st hE 7 (.int .i64 1)
   have b42 := eo st hE 1 (.int .i64 (i : Int))
   have b43 := eo st hE 2 (.slice lv 0 1 1 9)
   have b44 := eo st hE 0 (.slice l 0 ms.length cap 9)
   have g45 : Grew H23 H36 := (gk st)
   have g46 : Grew H H36 := Grew.trans g34 g45
   clear st hE vs ls
   have v47 : aval E36 H36.get (.slSl 9 (.tmp 32) none (some (.tmp 33)) none) = some (.slice l 0 i cap 9) := by
    have h9 := sub_val (H := H36) (lo := none) (hi := (some (.tmp 33))) (a := 0) (b := i) b38 (.inl ⟨rfl, rfl⟩) (.inr (congrArg some b39)) (by omega) (by omega)
    simpa using h9
   refine res_q (d := some 34) (op := .slSl 9 (.tmp 32) none (some (.tmp 33)) none) (r := .slice l 0 i cap 9) (by kernel_rfl) rfl v47 ?_
   have q48 := q35.app (.cons rfl .nil : KdsL [.one] [.slice l 0 i cap 9])
   refine run_mc (φ := φ0) (pm := pmR 0 [] 0) 20 (ws := []) (env := [(32, n1 0), (33, nI 1), (8, nI 3), (7, .lit (.int .i64 1)), (1, nI 1), (2, n1 2), (0, n1 0), (34, n1 7)]) q48 .nil (sepOk_ro rfl) .nil (eC q48 (.cons (put_ne rfl b38) (.cons (put_ne rfl b39) (.cons (put_ne rfl b40) (.cons (put_ne rfl b41) (.cons (put_ne rfl b42) (.cons (put_ne rfl b43) (.cons (put_ne rfl b44) (.cons put_same .nil))))))))) tb_ok ap_ok ?_
   refine all1 (by kernel_rfl) ?_
   intro vs ls H49 E49 st hE
   have b50 := eo st hE 34 (.slice l 0 i cap 9)
   obtain ⟨w51, hw51⟩ : ∃ z, z = (IntKind.wrap .i64 ((IntKind.wrap .i64 ((ms.length : Int) + 1)) - (i : Int))) := ⟨_, rfl⟩
   have b52 : E49 39 = .int .i64 w51 := by rw [hw51]; exact eo st hE 39 _
   have b53 := eo st hE 1 (.int .i64 (i : Int))
   have b54 := eo st hE 2 (.slice lv 0 1 1 9)
   have b55 := eo st hE 7 (.int .i64 1)
   have b56 := eo st hE 0 (.slice l 0 ms.length cap 9)
   have b57 := eo st hE 8 (.int .i64 (ms.length : Int))
   have g58 : Grew H36 H49 := (gk st)
   have g59 : Grew H H49 := Grew.trans g46 g58
   clear st hE vs ls
   have nw51 : w51 = (((ms.length : Int) + 1) - (i : Int)) := by
    rw [hw51]
    rw [show (IntKind.wrap .i64 ((ms.length : Int) + 1)) = (ms.length : Int) + 1 from wrap_i64 (by omega) (by omega)]
    rw [show (IntKind.wrap .i64 (((ms.length : Int) + 1) - (i : Int))) = ((ms.length : Int) + 1) - (i : Int) from wrap_i64 (by omega) (by omega)]
   have e60 : E49 39 = .int .i64 ((((ms.length + 1) - i) : Nat) : Int) := by
    rw [b52, hw51]
    rw [show (IntKind.wrap .i64 ((ms.length : Int) + 1)) = (ms.length : Int) + 1 from wrap_i64 (by omega) (by omega)]
    rw [show (IntKind.wrap .i64 (((ms.length : Int) + 1) - (i : Int))) = ((ms.length : Int) + 1) - (i : Int) from wrap_i64 (by omega) (by omega)]
    first | rfl | (congr 1; done) | (congr 1; omega)
   have rw9 := g59.at hg
   have rv9 := g59.at hv
   refine res_appendZ (sz := 9) (bytes := 48) (zs := [AV.int .i32 0, .int .i32 0, .int .i32 0, .flt .f32 (some 0), .flt .f32 (some 0), .flt .f32 (some 0), .flt .f32 (some 0), .int .i64 0, .int .i64 0]) (d := some 40) (x := .tmp 34) (y := .tmp 39) (m := ms.length + 1 - i) (by kernel_rfl) b50 (by show E49 39 = _; rw [e60]) rw9 (by rw [hF]; omega) (by decide) (by omega) (by omega) (by omega) (by show (2 * (i + (ms.length + 1 - i)) + 192) * 48 ≤ 281474976710656; omega) rfl ?_
   intro c hc9
   rw [show i + (ms.length + 1 - i) = ms.length + 1 by omega] at hc9 ⊢
   rw [List.drop_zero]
   obtain ⟨Z, hZe⟩ : ∃ z, z = (List.replicate (ms.length + 1 - i) [AV.int .i32 0, .int .i32 0, .int .i32 0, .flt .f32 (some 0), .flt .f32 (some 0), .flt .f32 (some 0), .flt .f32 (some 0), .int .i64 0, .int .i64 0]).flatten := ⟨_, rfl⟩
   rw [← hZe]
   have hZ : Z.length = (ms.length + 1 - i) * 9 := by rw [hZe]; simp
   have hlB0 : (ms.flatten.take (i * 9) ++ Z).length = (ms.length + 1) * 9 := by rw [List.length_append, List.length_take, hZ, hF]; omega
   have hlB : (laid (ms.flatten.take (i * 9) ++ Z) (i * 9) m).length = (ms.length + 1) * 9 := by unfold laid; simp only [List.length_append, List.length_take, List.length_drop]; omega
   obtain ⟨l2, el2⟩ : ∃ z, z = H49.next := ⟨_, rfl⟩
   obtain ⟨HB, eHB⟩ : ∃ z, z = H49.new (.row (ms.flatten.take (i * 9) ++ Z) true) := ⟨_, rfl⟩
   rw [← eHB, ← el2]
   have rHB : HB.get l2 = some (.row (ms.flatten.take (i * 9) ++ Z) true) := by rw [eHB, el2]; exact get_new_eq rfl
   have gHB : Grew H49 HB := by rw [eHB]; exact (Grew.refl _).new _
   have gAB : Grew H HB := Grew.trans g59 gHB
   have l2l : l2 ≠ l := by rw [el2]; exact Nat.ne_of_gt (H49.lt_of_get rw9)
   have l2v : l2 ≠ lv := by rw [el2]; exact Nat.ne_of_gt (H49.lt_of_get rv9)
   have l2n : H.next ≤ l2 := by rw [el2]; exact g59.next
   have q61 := q48.app (.cons ⟨_, rfl⟩ (.cons rfl .nil) : KdsL [KI, .one] [.int .i64 w51, .slice l2 0 (ms.length + 1) c 9])
   refine run_mc (φ := φ0) (pm := pmR 0 [] 0) 20 (ws := []) (env := [(34, n1 7), (39, nI 8), (1, nI 1), (2, n1 2), (7, .lit (.int .i64 1)), (0, n1 0), (8, nI 3), (40, n1 9)]) q61 .nil (sepOk_ro rfl) .nil (eC q61 (.cons (put_ne rfl b50) (.cons (put_ne rfl b52) (.cons (put_ne rfl b53) (.cons (put_ne rfl b54) (.cons (put_ne rfl b55) (.cons (put_ne rfl b56) (.cons (put_ne rfl b57) (.cons put_same .nil))))))))) tb_ok ap_ok ?_
   refine all1 (by kernel_rfl) ?_
   intro vs ls H62 E62 st hE
   have b63 := eo st hE 41 (.slice l2 0 (ms.length + 1) c 9)
   have b64 := eo st hE 42 (.int .i64 (i : Int))
   have b65 := eo st hE 2 (.slice lv 0 1 1 9)
   have b66 := eo st hE 9 (.slice l2 0 (ms.length + 1) c 9)
   have b67 := eo st hE 1 (.int .i64 (i : Int))
   have b68 := eo st hE 7 (.int .i64 1)
   have b69 := eo st hE 0 (.slice l 0 ms.length cap 9)
   have b70 := eo st hE 8 (.int .i64 (ms.length : Int))
   have g71 : Grew HB H62 := (gk st)
   have g72 : Grew HB H62 := Grew.trans (Grew.refl _) g71
   clear st hE vs ls
   have v73 : aval E62 H62.get (.slSl 9 (.tmp 41) (some (.tmp 42)) none none) = some (.slice l2 (i * 9) ((ms.length + 1) - i) (c - i) 9) := by
    have h9 := sub_val (H := H62) (lo := (some (.tmp 42))) (hi := none) (a := i) (b := (ms.length + 1)) b63 (.inr (congrArg some b64)) (.inl ⟨rfl, rfl⟩) (by omega) (by omega)
    simpa using h9
   refine res_q (d := some 43) (op := .slSl 9 (.tmp 41) (some (.tmp 42)) none none) (r := .slice l2 (i * 9) ((ms.length + 1) - i) (c - i) 9) (by kernel_rfl) rfl v73 ?_
   have q74 := q61.app (.cons rfl .nil : KdsL [.one] [.slice l2 (i * 9) ((ms.length + 1) - i) (c - i) 9])
   refine run_mc (φ := φ0) (pm := pmR 0 [] 0) 20 (ws := []) (env := [(41, n1 9), (42, nI 1), (2, n1 2), (9, n1 9), (1, nI 1), (7, .lit (.int .i64 1)), (0, n1 0), (8, nI 3), (43, n1 10)]) q74 .nil (sepOk_ro rfl) .nil (eC q74 (.cons (put_ne rfl b63) (.cons (put_ne rfl b64) (.cons (put_ne rfl b65) (.cons (put_ne rfl b66) (.cons (put_ne rfl b67) (.cons (put_ne rfl b68) (.cons (put_ne rfl b69) (.cons (put_ne rfl b70) (.cons put_same .nil)))))))))) tb_ok ap_ok ?_
   refine all1 (by kernel_rfl) ?_
   intro vs ls H75 E75 st hE
   have b76 := eo st hE 43 (.slice l2 (i * 9) ((ms.length + 1) - i) (c - i) 9)
   have b77 := eo st hE 44 (.slice lv 0 1 1 9)
   have b78 := eo st hE 9 (.slice l2 0 (ms.length + 1) c 9)
   have b79 := eo st hE 1 (.int .i64 (i : Int))
   have b80 := eo st hE 7 (.int .i64 1)
   have b81 := eo st hE 0 (.slice l 0 ms.length cap 9)
   have b82 := eo st hE 8 (.int .i64 (ms.length : Int))
   have b83 := eo st hE 2 (.slice lv 0 1 1 9)
   have g84 : Grew H62 H75 := (gk st)
   have g85 : Grew HB H75 := Grew.trans g72 g84
   clear st hE vs ls
   have rw9 := g85.at rHB
   have gA9 : Grew H H75 := Grew.trans gAB g85
   refine res_copy (d := some 45) (x := .tmp 43) (y := .tmp 44) (m := 1) (ys := m) (by kernel_rfl) b76 (by show srcCells _ _ (E75 44) = _; rw [b77]; rw [src_part (n := 1) (gA9.at hv) (by omega) (by omega)]; rw [List.drop_zero, List.take_of_length_le (by omega)]) (by show min _ _ ≠ 0; omega) rw9 (by rw [hlB0]; omega) (by rw [min19, List.take_of_length_le (by omega)]; exact h1m) ?_
   rw [min19, List.take_of_length_le (show m.length ≤ 9 by omega)]
   obtain ⟨H86, eH86⟩ : ∃ z, z = H75.put l2 (.row (laid (ms.flatten.take (i * 9) ++ Z) (i * 9) m) true) := ⟨_, rfl⟩
   rw [← eH86]
   have rH86 : H86.get l2 = some (.row (laid (ms.flatten.take (i * 9) ++ Z) (i * 9) m) true) := by rw [eH86]; exact get_put_eq rfl (H75.lt_of_get rw9)
   have qH86 : Grew H H86 := by rw [eH86]; exact gA9.put l2n _
   refine run_mc (φ := φ0) (pm := pmR 0 [] 0) 20 (ws := []) (env := [(43, n1 10), (44, n1 2), (9, n1 9), (1, nI 1), (7, .lit (.int .i64 1)), (0, n1 0), (8, nI 3), (2, n1 2)]) q74 .nil (sepOk_ro rfl) .nil (eC q74 (.cons (put_ne rfl b76) (.cons (put_ne rfl b77) (.cons (put_ne rfl b78) (.cons (put_ne rfl b79) (.cons (put_ne rfl b80) (.cons (put_ne rfl b81) (.cons (put_ne rfl b82) (.cons (put_ne rfl b83) .nil))))))))) tb_ok ap_ok ?_
   refine all1 (by kernel_rfl) ?_
   intro vs ls H88 E88 st hE
   have b89 := eo st hE 46 (.slice l2 0 (ms.length + 1) c 9)
   obtain ⟨w90, hw90⟩ : ∃ z, z = (IntKind.wrap .i64 ((i : Int) + 1)) := ⟨_, rfl⟩
   have b91 : E88 49 = .int .i64 w90 := by rw [hw90]; exact eo st hE 49 _
   have b92 := eo st hE 0 (.slice l 0 ms.length cap 9)
   have b93 := eo st hE 1 (.int .i64 (i : Int))
   have b94 := eo st hE 9 (.slice l2 0 (ms.length + 1) c 9)
   have b95 := eo st hE 8 (.int .i64 (ms.length : Int))
   have b96 := eo st hE 7 (.int .i64 1)
   have b97 := eo st hE 2 (.slice lv 0 1 1 9)
   have g98 : Grew H86 H88 := (gk st)
   have g99 : Grew H86 H88 := Grew.trans (Grew.refl _) g98
   clear st hE vs ls
   have nw90 : w90 = ((i : Int) + 1) := by
    rw [hw90]
    rw [show (IntKind.wrap .i64 ((i : Int) + 1)) = (i : Int) + 1 from wrap_i64 (by omega) (by omega)]
   have e100 : E88 49 = .int .i64 (((i + 1) : Nat) : Int) := by
    rw [b91, hw90]
    rw [show (IntKind.wrap .i64 ((i : Int) + 1)) = (i : Int) + 1 from wrap_i64 (by omega) (by omega)]
    first | rfl | (congr 1; done) | (congr 1; omega)
   have v101 : aval E88 H88.get (.slSl 9 (.tmp 46) (some (.tmp 49)) none none) = some (.slice l2 ((i + 1) * 9) ((ms.length + 1) - (i + 1)) (c - (i + 1)) 9) := by
    have h9 := sub_val (H := H88) (lo := (some (.tmp 49))) (hi := none) (a := (i + 1)) (b := (ms.length + 1)) b89 (.inr (congrArg some e100)) (.inl ⟨rfl, rfl⟩) (by omega) (by omega)
    simpa using h9
   refine res_qM (d := some 50) (op := .slSl 9 (.tmp 46) (some (.tmp 49)) none none) (r := .slice l2 ((i + 1) * 9) ((ms.length + 1) - (i + 1)) (c - (i + 1)) 9) (by kernel_rfl) rfl v101 ?_
   have q102 := q74.app (.cons ⟨_, rfl⟩ (.cons rfl .nil) : KdsL [KI, .one] [.int .i64 w90, .slice l2 ((i + 1) * 9) ((ms.length + 1) - (i + 1)) (c - (i + 1)) 9])
   refine run_mc (φ := φ0) (pm := pmR 0 [] 0) 20 (ws := []) (env := [(46, n1 9), (49, nI 11), (0, n1 0), (1, nI 1), (9, n1 9), (8, nI 3), (7, .lit (.int .i64 1)), (2, n1 2), (50, n1 12)]) q102 .nil (sepOk_ro rfl) .nil (eC q102 (.cons (put_ne rfl b89) (.cons (put_ne rfl b91) (.cons (put_ne rfl b92) (.cons (put_ne rfl b93) (.cons (put_ne rfl b94) (.cons (put_ne rfl b95) (.cons (put_ne rfl b96) (.cons (put_ne rfl b97) (.cons put_same .nil)))))))))) tb_ok ap_ok ?_
   refine all1 (by kernel_rfl) ?_
   intro vs ls H103 E103 st hE
   have b104 := eo st hE 51 (.slice l 0 ms.length cap 9)
   have b105 := eo st hE 52 (.int .i64 (i : Int))
   have b106 := eo st hE 50 (.slice l2 ((i + 1) * 9) ((ms.length + 1) - (i + 1)) (c - (i + 1)) 9)
   have b107 := eo st hE 9 (.slice l2 0 (ms.length + 1) c 9)
   have b108 := eo st hE 0 (.slice l 0 ms.length cap 9)
   have b109 := eo st hE 8 (.int .i64 (ms.length : Int))
   have b110 := eo st hE 7 (.int .i64 1)
   have b111 := eo st hE 2 (.slice lv 0 1 1 9)
   have b112 := eo st hE 1 (.int .i64 (i : Int))
   have g113 : Grew H88 H103 := (gk st)
   have g114 : Grew H86 H103 := Grew.trans g99 g113
   clear st hE vs ls
   have v115 : aval E103 H103.get (.slSl 9 (.tmp 51) (some (.tmp 52)) none none) = some (.slice l (i * 9) (ms.length - i) (cap - i) 9) := by
    have h9 := sub_val (H := H103) (lo := (some (.tmp 52))) (hi := none) (a := i) (b := ms.length) b104 (.inr (congrArg some b105)) (.inl ⟨rfl, rfl⟩) (by omega) (by omega)
    simpa using h9
   refine res_qM (d := some 53) (op := .slSl 9 (.tmp 51) (some (.tmp 52)) none none) (r := .slice l (i * 9) (ms.length - i) (cap - i) 9) (by kernel_rfl) rfl v115 ?_
   have q116 := q102.app (.cons rfl .nil : KdsL [.one] [.slice l (i * 9) (ms.length - i) (cap - i) 9])
   refine run_mc (φ := φ0) (pm := pmR 0 [] 0) 20 (ws := []) (env := [(51, n1 0), (52, nI 1), (50, n1 12), (9, n1 9), (0, n1 0), (8, nI 3), (7, .lit (.int .i64 1)), (2, n1 2), (1, nI 1), (53, n1 13)]) q116 .nil (sepOk_ro rfl) .nil (eC q116 (.cons (put_ne rfl b104) (.cons (put_ne rfl b105) (.cons (put_ne rfl b106) (.cons (put_ne rfl b107) (.cons (put_ne rfl b108) (.cons (put_ne rfl b109) (.cons (put_ne rfl b110) (.cons (put_ne rfl b111) (.cons (put_ne rfl b112) (.cons put_same .nil))))))))))) tb_ok ap_ok ?_
   refine all1 (by kernel_rfl) ?_
   intro vs ls H117 E117 st hE
   have b118 := eo st hE 50 (.slice l2 ((i + 1) * 9) ((ms.length + 1) - (i + 1)) (c - (i + 1)) 9)
   have b119 := eo st hE 53 (.slice l (i * 9) (ms.length - i) (cap - i) 9)
   have b120 := eo st hE 9 (.slice l2 0 (ms.length + 1) c 9)
   have b121 := eo st hE 0 (.slice l 0 ms.length cap 9)
   have b122 := eo st hE 8 (.int .i64 (ms.length : Int))
   have b123 := eo st hE 7 (.int .i64 1)
   have b124 := eo st hE 2 (.slice lv 0 1 1 9)
   have b125 := eo st hE 1 (.int .i64 (i : Int))
   have g126 : Grew H103 H117 := (gk st)
   have g127 : Grew H86 H117 := Grew.trans g114 g126
   clear st hE vs ls
   have rw9 := g127.at rH86
   have gA9 : Grew H H117 := Grew.trans qH86 g127
   refine res_copyK (d := some 54) (x := .tmp 50) (y := .tmp 53) (by kernel_rfl) b118 (by show srcCells _ _ (E117 53) = _; rw [b119]; exact src_part (gA9.at hg) (by omega) (by rw [hF]; omega)) (by show min _ _ ≠ 0; omega) rw9 (by rw [hlB]; omega) (by rw [shift_src2 hF hi]; exact List.all_eq_true.2 fun x hx => List.all_eq_true.1 h1 x (List.mem_of_mem_drop hx)) ?_
   rw [shift_src2 hF hi]
   obtain ⟨H128, eH128⟩ : ∃ z, z = H117.put l2 (.row (laid (laid (ms.flatten.take (i * 9) ++ Z) (i * 9) m) ((i + 1) * 9) (ms.flatten.drop (i * 9))) true) := ⟨_, rfl⟩
   rw [← eH128]
   have rH128 : H128.get l2 = some (.row (laid (laid (ms.flatten.take (i * 9) ++ Z) (i * 9) m) ((i + 1) * 9) (ms.flatten.drop (i * 9))) true) := by rw [eH128]; exact get_put_eq rfl (H117.lt_of_get rw9)
   have qH128 : Grew H H128 := by rw [eH128]; exact gA9.put l2n _
   refine run_mc (φ := φ0) (pm := pmR 0 [] 0) 20 (ws := []) (env := [(50, n1 12), (53, n1 13), (9, n1 9), (0, n1 0), (8, nI 3), (7, .lit (.int .i64 1)), (2, n1 2), (1, nI 1)]) q116 .nil (sepOk_ro rfl) .nil (eC q116 (.cons (put_ne rfl b118) (.cons (put_ne rfl b119) (.cons (put_ne rfl b120) (.cons (put_ne rfl b121) (.cons (put_ne rfl b122) (.cons (put_ne rfl b123) (.cons (put_ne rfl b124) (.cons (put_ne rfl b125) .nil))))))))) tb_ok ap_ok ?_
   refine all1 (by kernel_rfl) ?_
   intro vs ls H130 E130 st hE
   have g9 : Grew H128 H130 := (Grew.trans (Grew.refl _) (gk st))
   refine res_ex (by kernel_rfl) (end_same st.inn hE (.inr rfl) (a := .slice l2 0 (ms.length + 1) c 9) (by kernel_rfl) (Grew.trans qH128 g9).next ⟨l2, c, l2n, hc9, rfl, Grew.trans qH128 g9, ?_⟩)
   rw [← flat_ins_z hr m i (Nat.le_of_lt hi), ← shift_grow (Z := Z) hF hZ hm hi]; exact g9.at rH128
  ·
   intro vs ls H131 E131 st hE
   have f132 : ¬ ((cap : Int) < w26) := df st 0
   obtain ⟨w134, hw134⟩ : ∃ z, z = (IntKind.wrap .i64 ((ms.length : Int) + 1)) := ⟨_, rfl⟩
   clear st hE vs ls
   have nw134 : w134 = ((ms.length : Int) + 1) := by
    rw [hw134]
    rw [show (IntKind.wrap .i64 ((ms.length : Int) + 1)) = (ms.length : Int) + 1 from wrap_i64 (by omega) (by omega)]
   try rw [wrap_i64 (by omega) (by omega)] at f132
   exfalso; omega
theorem k_InsEnd (H : AHeap) (ms : List (List AV)) (hr : ∀ m ∈ ms, m.length = 9) (mx : ms.length ≤ 1048576) (S : AV) (hS : SlF H 9 ms S) (m : List AV) (hm : m.length = 9) (h1m : m.all AV.one = true) (lv : Nat) (hv : H.get lv = some (.row m true)) : ACalls Try.prog 63 [S, .int .i64 (ms.length : Int), .slice lv 0 1 1 9] H fun r H' => SlF H' 9 (ms ++ [m]) r ∧ FromS H.next S r ∧ OnlyS S H H' := by
 cases hS with
 | nil h0 =>
  subst h0
  refine res_start h_slices_Insert_impl_Mark_impl_Mark (by simp) ?_
  have q1 : KdsL [.one] [.slice lv 0 1 1 9] := .cons rfl .nil
  refine run_mc (φ := φ0) (pm := pmR 0 [(.len (n1 0), .lit (.int .i64 1))] 0) 20 (ws := []) (env := [(0, .lit .nilslice), (1, .lit (.int .i64 0)), (2, n1 0)]) q1 .nil (sepOk_ro rfl) (.cons (rule_len (l := lv) (o := 0) (n := 1) (cap := 1) (sz := 9) (dE q1) (dE q1)) .nil) (eC q1 (.cons (t := 0) rfl (.cons (t := 1) rfl (.cons (t := 2) rfl .nil)))) tb_ok ap_ok ?_
  refine all1 (by kernel_rfl) ?_
  intro vs ls H2 E2 st hE
  have b3 := eo st hE 23 (.nilslice)
  have b4 := eo st hE 24 (.slice lv 0 1 1 9)
  have b5 := eo st hE 8 (.int .i64 0)
  have b6 := eo st hE 7 (.int .i64 1)
  have b7 := eo st hE 0 (.nilslice)
  have b8 := eo st hE 1 (.int .i64 0)
  have b9 := eo st hE 2 (.slice lv 0 1 1 9)
  have g10 : Grew H H2 := (gk st)
  have g11 : Grew H H2 := Grew.trans (Grew.refl _) g10
  clear st hE vs ls
  refine res_append0 (d := some 25) (sz := 9) (bytes := 48) (x := .tmp 23) (y := .tmp 24) (by kernel_rfl) (S := .nilslice) (ys := [m]) b3 (.nil rfl) (.inl rfl) (by show srcCells _ _ (E2 24) = _; rw [b4]; exact src_one (g11.at hv) hm) (by simpa using h1m) (by show (2 * 1 + 192) * 48 ≤ 281474976710656; decide) ?_
  intro S9 H12 s9 f9 o9
  have f8 := f9.mono g11.next
  have o8 : OnlyS .nilslice H H12 := (OnlyS.of_grew g11).trans' (OnlyS.of_grew o9)
  have q13 := q1.app (.cons s9.one .nil : KdsL [.one] [S9])
  refine run_mc (φ := φ0) (pm := pmR 0 [] 0) 20 (ws := []) (env := [(23, .lit .nilslice), (24, n1 0), (8, .lit (.int .i64 0)), (7, .lit (.int .i64 1)), (0, .lit .nilslice), (1, .lit (.int .i64 0)), (2, n1 0), (25, n1 1)]) q13 .nil (sepOk_ro rfl) .nil (eC q13 (.cons (put_ne rfl b3) (.cons (put_ne rfl b4) (.cons (put_ne rfl b5) (.cons (put_ne rfl b6) (.cons (put_ne rfl b7) (.cons (put_ne rfl b8) (.cons (put_ne rfl b9) (.cons put_same .nil))))))))) tb_ok ap_ok ?_
  refine all1 (by kernel_rfl) ?_
  intro vs ls H14 E14 st hE
  have g9 : Grew H12 H14 := (Grew.trans (Grew.refl _) (gk st))
  exact res_ex (by kernel_rfl) (end_same st.inn hE (.inr rfl) (a := S9) (by kernel_rfl) (Nat.le_trans o8.next g9.next) ⟨by simpa using s9.grew g9, f8, o8.trans' (.of_grew g9)⟩)
 | @sl l n cap hg hn hcc =>
  subst hn
  have hS : SlF H 9 ms (.slice l 0 ms.length cap 9) := .sl hg rfl hcc
  refine res_start h_slices_Insert_impl_Mark_impl_Mark (by simp) ?_
  have q1 : KdsL [.one, KI, .one, KI] [.slice l 0 ms.length cap 9, .int .i64 (0 : Int), .slice lv 0 1 1 9, .int .i64 (ms.length : Int)] := .cons rfl (.cons ⟨_, rfl⟩ (.cons rfl (.cons ⟨_, rfl⟩ .nil)))
  refine run_mc (φ := φ0) (pm := pmR 0 [] 0) 20 (ws := []) (env := [(0, n1 0), (1, nI 3), (2, n1 2)]) q1 .nil (sepOk_ro rfl) .nil (eC q1 (.cons (t := 0) rfl (.cons (t := 1) rfl (.cons (t := 2) rfl .nil)))) tb_ok ap_ok ?_
  refine all1 (by kernel_rfl) ?_
  intro vs ls H2 E2 st hE
  have b3 := eo st hE 10 (.slice l 0 ms.length cap 9)
  have b4 := eo st hE 11 (.int .i64 (ms.length : Int))
  have b5 := eo st hE 2 (.slice lv 0 1 1 9)
  have b6 := eo st hE 0 (.slice l 0 ms.length cap 9)
  have b7 := eo st hE 1 (.int .i64 (ms.length : Int))
  have g8 : Grew H H2 := (gk st)
  have g9 : Grew H H2 := Grew.trans (Grew.refl _) g8
  clear st hE vs ls
  have v10 : aval E2 H2.get (.slSl 9 (.tmp 10) (some (.tmp 11)) none none) = some (.slice l (ms.length * 9) (ms.length - ms.length) (cap - ms.length) 9) := by
   have h9 := sub_val (H := H2) (lo := (some (.tmp 11))) (hi := none) (a := ms.length) (b := ms.length) b3 (.inr (congrArg some b4)) (.inl ⟨rfl, rfl⟩) (by omega) (by omega)
   simpa using h9
  refine res_q (d := some 12) (op := .slSl 9 (.tmp 10) (some (.tmp 11)) none none) (r := .slice l (ms.length * 9) (ms.length - ms.length) (cap - ms.length) 9) (by kernel_rfl) rfl v10 ?_
  have q11 := q1.app (.cons rfl .nil : KdsL [.one] [.slice l (ms.length * 9) (ms.length - ms.length) (cap - ms.length) 9])
  refine run_mc (φ := φ0) (pm := pmR 0 [(.len (n1 2), .lit (.int .i64 1)), (.len (n1 0), nI 3)] 0) 20 (ws := []) (env := [(10, n1 0), (11, nI 3), (2, n1 2), (0, n1 0), (1, nI 3), (12, n1 4)]) q11 .nil (sepOk_ro rfl) (.cons (rule_len (l := lv) (o := 0) (n := 1) (cap := 1) (sz := 9) (dE q11) (dE q11)) (.cons (rule_len (l := l) (o := 0) (n := ms.length) (cap := cap) (sz := 9) (dE q11) (dE q11)) .nil)) (eC q11 (.cons (put_ne rfl b3) (.cons (put_ne rfl b4) (.cons (put_ne rfl b5) (.cons (put_ne rfl b6) (.cons (put_ne rfl b7) (.cons put_same .nil))))))) tb_ok ap_ok ?_
  refine all1 (by kernel_rfl) ?_
  intro vs ls H12 E12 st hE
  have b13 := eo st hE 23 (.slice l 0 ms.length cap 9)
  have b14 := eo st hE 24 (.slice lv 0 1 1 9)
  have b15 := eo st hE 8 (.int .i64 (ms.length : Int))
  have b16 := eo st hE 7 (.int .i64 1)
  have b17 := eo st hE 0 (.slice l 0 ms.length cap 9)
  have b18 := eo st hE 1 (.int .i64 (ms.length : Int))
  have b19 := eo st hE 2 (.slice lv 0 1 1 9)
  have g20 : Grew H2 H12 := (gk st)
  have g21 : Grew H H12 := Grew.trans g9 g20
  clear st hE vs ls
  refine res_append (d := some 25) (sz := 9) (bytes := 48) (x := .tmp 23) (y := .tmp 24) (by kernel_rfl) (S := .slice l 0 ms.length cap 9) (ms := ms) (ys := [m]) b13 (hS.grew g21) hr (by show srcCells _ _ (E12 24) = _; rw [b14]; exact src_one (g21.at hv) hm) (by simpa using h1m) (by show (2 * (ms.length + 1) + 192) * 48 ≤ 281474976710656; omega) ?_
  intro S9 H22 s9 f9 o9
  have f8 := f9.mono g21.next
  have o8 : OnlyS (.slice l 0 ms.length cap 9) H H22 := (OnlyS.of_grew g21).trans' o9
  have q23 := q11.app (.cons s9.one .nil : KdsL [.one] [S9])
  refine run_mc (φ := φ0) (pm := pmR 0 [] 0) 20 (ws := []) (env := [(23, n1 0), (24, n1 2), (8, nI 3), (7, .lit (.int .i64 1)), (0, n1 0), (1, nI 3), (2, n1 2), (25, n1 5)]) q23 .nil (sepOk_ro rfl) .nil (eC q23 (.cons (put_ne rfl b13) (.cons (put_ne rfl b14) (.cons (put_ne rfl b15) (.cons (put_ne rfl b16) (.cons (put_ne rfl b17) (.cons (put_ne rfl b18) (.cons (put_ne rfl b19) (.cons put_same .nil))))))))) tb_ok ap_ok ?_
  refine all1 (by kernel_rfl) ?_
  intro vs ls H24 E24 st hE
  have g9 : Grew H22 H24 := (Grew.trans (Grew.refl _) (gk st))
  exact res_ex (by kernel_rfl) (end_same st.inn hE (.inr rfl) (a := S9) (by kernel_rfl) (Nat.le_trans o8.next g9.next) ⟨s9.grew g9, f8, o8.trans' (.of_grew g9)⟩)
/-- A record inserted. -/
theorem k_Insert (H : AHeap) (ms : List (List AV)) (hr : Recs KM ms) (mx : ms.length ≤ 1048576) (S : AV) (hS : SlF H 9 ms S) (i : Nat) (hi : i ≤ ms.length) (m : List AV) (hk : KdsL KM m) (lv : Nat) (hv : H.get lv = some (.row m true)) (hap : ApartL S lv) : ACalls Try.prog 63 [S, .int .i64 (i : Int), .slice lv 0 1 1 9] H fun r H' => SlF H' 9 (ms.take i ++ [m] ++ ms.drop i) r ∧ FromS H.next S r ∧ OnlyS S H H' := by
 have hrm : Recs KM [m] := fun x hx => by rw [List.mem_singleton.1 hx]; exact hk
 have hm : m.length = 9 := hrm.len _ (by simp)
 have h1m : m.all AV.one = true := by have := recs_one hrm rfl; simpa using this
 by_cases hl : i = ms.length
 ·
  subst hl
  have := k_InsEnd H ms hr.len mx S hS m hm h1m lv hv
  rw [List.take_length, List.drop_length, List.append_nil]
  exact this
 ·
  have hlt : i < ms.length := by omega
  cases hS with
  | nil h0 => subst h0; simp at hlt
  | @sl l n cap hg hn hcc =>
   subst hn
   have hne : l ≠ lv := fun e => hap.ne ⟨_, _, _, _, by rw [e]⟩
   have h1 := recs_one hr rfl
   have hlen : (ms.take i ++ [m] ++ ms.drop i).length = ms.length + 1 := by simp; omega
   by_cases hc : ms.length + 1 ≤ cap
   ·
    refine (k_InsRoom H ms hr.len h1 mx l cap hg i hlt m hm h1m lv hv hne hc).mono ?_
    rintro r H' ⟨rfl, ho, row⟩
    exact ⟨.sl row hlen hc, ⟨fun l' hl' => .inr (by rw [atS hl']; exact ⟨_, _, _, _, rfl⟩)⟩, .of_only ho⟩
   ·
    refine (k_InsGrow H ms hr.len h1 mx l cap hg i hlt m hm h1m lv hv hne (by omega)).mono ?_
    rintro r H' ⟨l2, c, h2, h3, rfl, g, row⟩
    exact ⟨.sl row hlen h3, ⟨fun l' hl' => .inl (by rw [atS hl']; exact h2)⟩, .of_grew g⟩
end Go.Proofs.Ytacligocjfhckaa
