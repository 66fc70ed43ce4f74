/- Plain laws: a mark put into sorted marks; marks put one behind the other. -/
import Derived.Test.YtacligocjfhckaaTPutD
set_option linter.unusedVariables false
set_option linter.unusedSimpArgs false
namespace Go.Proofs.Ytacligocjfhckaa
open Go.Ab
set_option maxRecDepth 100000
attribute [local irreducible] Res
theorem lin_spec (a b c : Int) : ∀ ms : List (List AV), (∀ j, j < lin ms a b c → cmpM (ms.getD j []) (plc a b c) < 0) ∧ (lin ms a b c < ms.length → ¬ cmpM (ms.getD (lin ms a b c) []) (plc a b c) < 0)
 | [] => by simp [lin]
 | m :: ms => by
  obtain ⟨h1, h2⟩ := lin_spec a b c ms
  by_cases h : cmpM m (plc a b c) < 0
  ·
   have e : lin (m :: ms) a b c = lin ms a b c + 1 := by
    unfold lin
    rw [List.takeWhile_cons, if_pos (by simpa using h)]; rfl
   rw [e]
   refine ⟨fun j hj => ?_, fun hl => ?_⟩
   ·
    cases j with
    | zero => simpa using h
    | succ j => simpa using h1 j (by omega)
   ·
    simpa using h2 (by simpa using hl)
  ·
   have e : lin (m :: ms) a b c = 0 := by
    unfold lin
    rw [List.takeWhile_cons, if_neg (by simpa using h)]; rfl
   rw [e]
   exact ⟨fun j hj => by omega, fun _ => by simpa using h⟩
theorem cmp3_neg (a b c a' b' c' : Int) : cmp3 a b c a' b' c' = - cmp3 a' b' c' a b c := by
 unfold cmp3 cmpI
 (repeat' split) <;> omega
theorem get_rec {ms : List (List AV)} (hr : Recs KM ms) {t : Nat} (h : t < ms.length) : ∃ (v0 v1 v2 : Int) (r : List AV), ms.getD t [] = .int .i32 v0 :: .int .i32 v1 :: .int .i32 v2 :: r := by
 obtain ⟨v0, v1, v2, v3, v4, v5, v6, v7, v8, hm, _⟩ := partsMark (hr.get h)
 exact ⟨v0, v1, v2, _, by rw [List.getD_eq_getElem?_getD, List.getElem?_eq_getElem h]; exact hm⟩
theorem ins_get (ms : List (List AV)) (m : List AV) (p : Nat) (hp : p ≤ ms.length) (t : Nat) : (ms.take p ++ [m] ++ ms.drop p).getD t [] = if t < p then ms.getD t [] else if t = p then m else ms.getD (t - 1) [] := by
 simp only [List.getD_eq_getElem?_getD, List.append_assoc]
 by_cases h : t < p
 ·
  rw [if_pos h, List.getElem?_append_left (by rw [List.length_take]; omega), List.getElem?_take, if_pos h]
 ·
  rw [if_neg h, List.getElem?_append_right (by rw [List.length_take]; omega), List.length_take, Nat.min_eq_left hp]
  by_cases h2 : t = p
  ·
   subst h2; simp
  ·
   rw [if_neg h2, List.getElem?_append_right (by simp; omega), List.getElem?_drop]
   simp only [List.length_cons, List.length_nil]
   rw [show p + (t - p - (0 + 1)) = t - 1 by omega]
theorem set_get (ms : List (List AV)) (m : List AV) (p : Nat) (hp : p < ms.length) (t : Nat) : (ms.set p m).getD t [] = if t = p then m else ms.getD t [] := by
 simp only [List.getD_eq_getElem?_getD, List.getElem?_set]
 by_cases h : t = p
 ·
  subst h; simp [hp]
 ·
  rw [if_neg h, if_neg (Ne.symm h)]
theorem putL_sort {ms : List (List AV)} (hr : Recs KM ms) (hs : SortM ms) {m : List AV} (hk : KdsL KM m) : SortM (putL ms m) := by
 obtain ⟨a, b, c, v3, v4, v5, v6, v7, v8, rfl, _⟩ := partsMark hk
 obtain ⟨p, hp⟩ : ∃ p, lin ms a b c = p := ⟨_, rfl⟩
 obtain ⟨l1, l2⟩ := lin_spec a b c ms
 have hle := lin_le ms a b c
 rw [hp] at l1 l2 hle
 show SortM (if fnd ms a b c = true then (if betX _ (ms.getD (lin ms a b c) []) = true then ms.set (lin ms a b c) _ else ms) else ms.take (lin ms a b c) ++ [_] ++ ms.drop (lin ms a b c))
 rw [hp]
 split
 ·
  rename_i hf
  have hlt : p < ms.length := by rw [← hp]; exact fnd_lt hf
  have h0 : cmpM (ms.getD p []) (plc a b c) = 0 := by
   unfold fnd at hf
   rw [Bool.and_eq_true, hp] at hf
   exact of_decide_eq_true hf.2
  obtain ⟨w0, w1, w2, r, hw⟩ := get_rec hr hlt
  rw [hw] at h0
  obtain ⟨rfl, rfl, rfl⟩ := cmp3_zero.1 (show cmp3 w0 w1 w2 a b c = 0 from h0)
  split
  ·
   intro t ht
   rw [List.length_set] at ht
   rw [set_get _ _ _ hlt, set_get _ _ _ hlt]
   have h9 := hs t ht
   by_cases e1 : t = p
   ·
    subst e1
    rw [if_pos rfl, if_neg (by omega)]
    obtain ⟨u0, u1, u2, s, hu⟩ := get_rec hr ht
    rw [hw, hu] at h9
    rw [hu]; exact h9
   ·
    rw [if_neg e1]
    by_cases e2 : t + 1 = p
    ·
     rw [if_pos e2]
     obtain ⟨u0, u1, u2, s, hu⟩ := get_rec hr (show t < ms.length by omega)
     rw [e2, hw, hu] at h9
     rw [hu]; exact h9
    ·
     rw [if_neg e2]; exact h9
  ·
   exact hs
 ·
  rename_i hf
  intro t ht
  have hlen : (ms.take p ++ [_] ++ ms.drop p).length = ms.length + 1 := (show (ms.take p ++ [[AV.int .i32 a, .int .i32 b, .int .i32 c, .flt .f32 v3, .flt .f32 v4, .flt .f32 v5, .flt .f32 v6, .int .i64 v7, .int .i64 v8]] ++ ms.drop p).length = ms.length + 1 by simp; omega)
  rw [hlen] at ht
  rw [ins_get _ _ _ hle, ins_get _ _ _ hle]
  by_cases e1 : t + 1 < p
  ·
   rw [if_pos (by omega), if_pos e1]; exact hs t (by omega)
  ·
   by_cases e2 : t + 1 = p
   ·
    rw [if_pos (by omega), if_neg (by omega), if_pos e2]
    obtain ⟨u0, u1, u2, s, hu⟩ := get_rec hr (show t < ms.length by omega)
    have := l1 t (by omega)
    rw [hu] at this
    rw [hu]; exact this
   ·
    by_cases e3 : t = p
    ·
     subst e3
     rw [if_neg (by omega), if_pos rfl, if_neg (by omega), if_neg (by omega), Nat.add_sub_cancel]
     have hlt : t < ms.length := by omega
     obtain ⟨u0, u1, u2, s, hu⟩ := get_rec hr hlt
     have h3 := l2 hlt
     have h4 : cmpM (ms.getD t []) (plc a b c) ≠ 0 := by
      intro h0
      apply hf
      unfold fnd
      rw [hp, Bool.and_eq_true]
      exact ⟨decide_eq_true hlt, decide_eq_true h0⟩
     rw [hu] at h3 h4
     rw [hu]
     have h3' : ¬ cmp3 u0 u1 u2 a b c < 0 := h3
     have h4' : cmp3 u0 u1 u2 a b c ≠ 0 := h4
     show cmp3 a b c u0 u1 u2 < 0
     rw [cmp3_neg]; omega
    ·
     rw [if_neg (by omega), if_neg e3, if_neg (by omega), if_neg (by omega), Nat.add_sub_cancel]
     have := hs (t - 1) (by omega)
     rw [show t - 1 + 1 = t by omega] at this
     exact this

theorem putL_markX {ms : List (List AV)} (h : ∀ m ∈ ms, markX m = true) {m : List AV} (hm : markX m = true) : ∀ m' ∈ putL ms m, markX m' = true := by
 intro m' hm'
 unfold putL at hm'
 split at hm'
 ·
  split at hm'
  ·
   rcases List.mem_or_eq_of_mem_set hm' with h1 | h1
   ·
    exact h _ h1
   ·
    rw [h1]; exact hm
  ·
   exact h _ hm'
 ·
  simp only [List.mem_append, List.mem_singleton] at hm'
  rcases hm' with (hm' | hm') | hm'
  ·
   exact h _ (List.mem_of_mem_take hm')
  ·
   rw [hm']; exact hm
  ·
   exact h _ (List.mem_of_mem_drop hm')
/-- The first k marks put into a list, one behind the other. -/
def mrg (ms ns : List (List AV)) : Nat → List (List AV)
 | 0 => ms
 | k + 1 => putL (mrg ms ns k) (ns.getD k [])
theorem getD_mem {ns : List (List AV)} {k : Nat} (h : k < ns.length) : ns.getD k [] ∈ ns := by
 rw [List.getD_eq_getElem?_getD, List.getElem?_eq_getElem h]; exact List.getElem_mem h
theorem mrg_recs {ms ns : List (List AV)} (hr : Recs KM ms) (hn : Recs KM ns) : ∀ k, k ≤ ns.length → Recs KM (mrg ms ns k)
 | 0, _ => hr
 | k + 1, h => putL_recs (mrg_recs hr hn k (by omega)) (hn _ (getD_mem (by omega)))
theorem mrg_sort {ms ns : List (List AV)} (hr : Recs KM ms) (hn : Recs KM ns) (hs : SortM ms) : ∀ k, k ≤ ns.length → SortM (mrg ms ns k)
 | 0, _ => hs
 | k + 1, h => putL_sort (mrg_recs hr hn k (by omega)) (mrg_sort hr hn hs k (by omega)) (hn _ (getD_mem (by omega)))
theorem mrg_markX {ms ns : List (List AV)} (h : ∀ m ∈ ms, markX m = true) (hn : ∀ m ∈ ns, markX m = true) : ∀ k, k ≤ ns.length → ∀ m ∈ mrg ms ns k, markX m = true
 | 0, _ => h
 | k + 1, hk => putL_markX (mrg_markX h hn k (by omega)) (hn _ (getD_mem (by omega)))
theorem putL_len_le (ms : List (List AV)) (m : List AV) : ms.length ≤ (putL ms m).length ∧ (putL ms m).length ≤ ms.length + 1 := by
 rw [putL_len]; split <;> omega
theorem mrg_len (ms ns : List (List AV)) : ∀ k, (mrg ms ns k).length ≤ ms.length + k
 | 0 => Nat.le_refl _
 | k + 1 => by
  have := (putL_len_le (mrg ms ns k) (ns.getD k [])).2
  have h2 := mrg_len ms ns k
  show (putL (mrg ms ns k) (ns.getD k [])).length ≤ _
  omega
theorem mrg_mono (ms ns : List (List AV)) (k : Nat) : ∀ d, (mrg ms ns k).length ≤ (mrg ms ns (k + d)).length
 | 0 => Nat.le_refl _
 | d + 1 => Nat.le_trans (mrg_mono ms ns k d) (putL_len_le (mrg ms ns (k + d)) (ns.getD (k + d) [])).1
theorem mrg_bad {ms ns : List (List AV)} {k : Nat} (hk : k < ns.length) (h : putOk (mrg ms ns k) (ns.getD k []) = false) (hl : (mrg ms ns k).length ≤ 200) : ¬ (mrg ms ns ns.length).length ≤ 200 := by
 have h1 := putOk_len (m := ns.getD k []) hl
 rw [h] at h1
 have h2 : ¬ ((putL (mrg ms ns k) (ns.getD k [])).length : Int) ≤ 200 := of_decide_eq_false h1.symm
 have h3 := mrg_mono ms ns (k + 1) (ns.length - (k + 1))
 rw [show k + 1 + (ns.length - (k + 1)) = ns.length by omega] at h3
 have h4 : (mrg ms ns (k + 1)).length = (putL (mrg ms ns k) (ns.getD k [])).length := rfl
 omega
theorem mrg_good {ms ns : List (List AV)} {k : Nat} (h : putOk (mrg ms ns k) (ns.getD k []) = true) (hl : (mrg ms ns k).length ≤ 200) : (mrg ms ns (k + 1)).length ≤ 200 := by
 have h1 := putOk_len (m := ns.getD k []) hl
 rw [h] at h1
 have h2 : ((putL (mrg ms ns k) (ns.getD k [])).length : Int) ≤ 200 := of_decide_eq_true h1.symm
 have h4 : (mrg ms ns (k + 1)).length = (putL (mrg ms ns k) (ns.getD k [])).length := rfl
 omega
theorem okMap_sideX {x : Option Nat} (hx : fOk .f32 x) {ms : List (List AV)} (h : okMap x ms = true) : sideX x = true := by
 simp only [okMap, Bool.and_eq_true] at h
 obtain ⟨z, hz⟩ := kd_val (μ := fun _ => none) (show HasKd (.flt .f32) (.flt .f32 x) from ⟨_, rfl, hx⟩) (by decide)
 have e := uniqB h_impl_isSide (by kernel_rfl) ⟨[z], .cons hz RL.nil⟩ (k_isSide x hx) (k_isSideX x hx)
 rw [← e]; exact h.1
theorem side_some {x : Option Nat} (h : sideX x = true) : x.isSome = true := (ford_isSome (o := .lt) (by simpa using (sideX_pos h).2)).2
theorem side_eq {x y : Option Nat} (hx : fOk .f32 x) (hy : fOk .f32 y) (sx : sideX x = true) (sy : sideX y = true) : (ford .f32 x y == some .eq) = decide (x = y) := by
 obtain ⟨u, rfl⟩ := Option.isSome_iff_exists.1 (side_some sx)
 obtain ⟨v, rfl⟩ := Option.isSome_iff_exists.1 (side_some sy)
 by_cases h : u = v
 ·
  subst h
  rw [feq_self hx rfl, decide_eq_true rfl]
 ·
  rw [decide_eq_false (fun e => h (Option.some.inj e))]
  cases hb : (ford .f32 (some u) (some v) == some .eq) with
  | false => rfl
  | true =>
   have z1 := (sideX_pos sx).2
   have z2 := (sideX_pos sy).2
   rcases feq_word hx hy hb with e | ⟨rfl, _⟩ | ⟨_, rfl⟩
   ·
    exact absurd e h
   ·
    exact absurd z1 (by decide +kernel)
   ·
    exact absurd z2 (by decide +kernel)
open Classical in
/-- The code of two maps. -/
noncomputable def twoV (x : Option Nat) (ms : List (List AV)) (y : Option Nat) (ns : List (List AV)) : Int :=
 if okMap x ms = true then (if okMap y ns = true then (if x = y then 0 else 4) else 1) else 1
open Classical in
noncomputable def mergeV (x : Option Nat) (ms : List (List AV)) (y : Option Nat) (ns : List (List AV)) : Option Nat × List (List AV) × Int :=
 if twoV x ms y ns = 0 then (if (mrg ms ns ns.length).length ≤ 200 then (x, mrg ms ns ns.length, 0) else (some 0, [], 3)) else (some 0, [], twoV x ms y ns)
theorem twoV_0 {x y : Option Nat} {ms ns : List (List AV)} (h : twoV x ms y ns = 0) : okMap x ms = true ∧ okMap y ns = true ∧ x = y := by
 unfold twoV at h
 split at h
 ·
  split at h
  ·
   split at h
   ·
    exact ⟨by assumption, by assumption, by assumption⟩
   ·
    cases h
  ·
   cases h
 ·
  cases h
end Go.Proofs.Ytacligocjfhckaa
