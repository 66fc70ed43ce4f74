/- Operations with effects, together. -/
import Derived.Test.YtgjhjemmddojfaaAb9
set_option linter.unusedVariables false
set_option linter.unusedSimpArgs false
namespace Go.Ab

section
variable {P : Program} {μ : Mu} {E : Env} {a : Act} {F : Nat → Prop} {H : AHeap} {w : World} {k : AV → AHeap → Prop}

/-- A store of some cells behind a place. -/
theorem store_sound (hs : Sim F μ H w) {l o : Nat} {li : LI} {cs vs : List AV} {us : List Value} (hg : H.get l = some (.row cs true)) (hm : μ l = some li) (hr : RL μ vs us) (h1 : vs.all AV.one = true)
    (hl : o ≤ cs.length) (hlim : o + vs.length ≤ li.lim) :
    ∃ w', (storeCells ⟨li.blk, li.base + o, none⟩ us).run P w = .ok () w' ∧ Sim F μ (H.put l (.row (laid cs o vs) true)) w' ∧ Keeps F w w' := by
  obtain ⟨c, e, lo, hi, g1, g2, g3, g4, g5⟩ := hs.row l li cs true hg hm
  have hlen := hr.1
  obtain ⟨c', hst, hc'⟩ := store_run (P := P) (o := li.base + o) us 0 c w g1 (by omega) (fun j h h' => g5 rfl j (by omega) (by omega)) (all_one hr h1)
  have hsz : c'.size = c.size := by
    have := congrArg List.length hc'
    simp at this
    omega
  obtain ⟨hsim, hk⟩ := hs.write (ds := laid cs o vs) hg hm g1 hsz (by unfold laid; simp; omega) (by
    intro i x hx
    have hg' : c'[li.base + i]? = (c.toList.take (li.base + o + 0) ++ us ++ c.toList.drop (li.base + o + 0 + us.length))[li.base + i]? := by rw [← Array.getElem?_toList, hc']
    unfold laid at hx
    rw [hg']
    simp only [Nat.add_zero, List.getElem?_append, List.getElem?_take, List.getElem?_drop, List.length_append, List.length_take, Array.length_toList] at hx ⊢
    have m1 : min o cs.length = o := by omega
    have m2 : min (li.base + o) c.size = li.base + o := by omega
    rw [m1] at hx
    rw [m2]
    by_cases i1 : i < o
    · rw [if_pos (by omega), if_pos (by omega), if_pos (by omega)] at hx
      obtain ⟨v, hv, hR⟩ := g4 i x hx
      exact ⟨v, by rw [if_pos (by omega), if_pos (by omega), if_pos (by omega), Array.getElem?_toList]; exact hv, hR⟩
    · by_cases i2 : i < o + vs.length
      · rw [if_pos (by omega), if_neg (by omega)] at hx
        obtain ⟨v, hv, hR⟩ := hr.get hx
        exact ⟨v, by rw [if_pos (by omega), if_neg (by omega), show li.base + i - (li.base + o) = i - o by omega]; exact hv, hR⟩
      · rw [if_neg (by omega)] at hx
        have e1 : o + vs.length + (i - (o + vs.length)) = i := by omega
        rw [e1] at hx
        obtain ⟨v, hv, hR⟩ := g4 i x hx
        refine ⟨v, ?_, hR⟩
        rw [if_neg (by omega)]
        have e2 : li.base + o + us.length + (li.base + i - (li.base + o + us.length)) = li.base + i := by omega
        rw [e2, Array.getElem?_toList]; exact hv)
  exact ⟨_, hst, hsim, hk⟩

theorem laid_end (cs vs : List AV) : laid cs cs.length vs = cs ++ vs := by
  unfold laid
  rw [List.take_length, List.drop_eq_nil_of_le (by omega), List.append_nil]

theorem src_of (hs : Sim F μ H w) {sz n : Nat} {tx : TypeId} {y : AV} {ys : List AV} {v : Value} (h : srcCells H.get sz y = some (ys, n)) (hr : R μ y v) (h1 : ys.all AV.one = true)
    (hk : (∃ e', P.underlying tx = some (.slice e')) ∨ P.underlying tx = some .string) : ∃ us, Src P sz tx v n us w ∧ RL μ ys us := by
  obtain ⟨hl, hlen, hc⟩ := src_run (P := P) hs h hr
  obtain ⟨us, hrun, hR⟩ := hc n (Nat.le_refl _)
  rw [List.take_of_length_le (by omega)] at hR
  refine ⟨us, ⟨hk, ?_, hrun w.drawn, hrun (w.drawn + 1), by rw [← hR.1]; exact hlen, all_one hR h1⟩, hR⟩
  intro w'
  cases v <;> first | (cases hl; done) | skip
  all_goals (cases hl; rfl)

theorem append_room (t tx ty e : TypeId) {i : TypeInfo} (ht : P.underlying t = some (.slice e)) (hi : P.info? e = some i) {p : Addr} {sLen sCap n : Nat} {x : Value} {news : List Value} (hs : Src P i.size tx x n news w)
    (hroom : sLen + n ≤ sCap) {w' : World} (hst : (storeCells (p.add (sLen * i.size)) news).run P w = .ok () w') :
    (Builtin.append_ #[t, tx] ty #[.slice (some p) sLen sCap, x]).run P w = .ok (.slice (some p) (sLen + n) sCap) w' := by
  rcases hs.kind with ⟨e', hk⟩ | hk <;> simp [Builtin.append_, run_underlying ht, run_underlying hk, sizeOf, typeInfo, hi, hs.len, hroom, hs.cells, hst]

theorem append_nothing (t tx ty e : TypeId) {i : TypeInfo} (ht : P.underlying t = some (.slice e)) (hi : P.info? e = some i) {p : Option Addr} {x : Value} (hs : Src P i.size tx x 0 [] w) :
    (Builtin.append_ #[t, tx] ty #[.slice p 0 0, x]).run P w = .ok (.slice p 0 0) w := by
  cases p <;> rcases hs.kind with ⟨e', hk⟩ | hk <;> simp [Builtin.append_, run_underlying ht, run_underlying hk, sizeOf, typeInfo, hi, hs.len, hs.cells, storeCells]

theorem zeroCells_len (z : Array Value) (n : Nat) : (Builtin.zeroCells z n).size = n * z.size := by simp [Builtin.zeroCells]

/-- What is grown. -/
theorem grow_sound (hs : Sim F μ H w) {t tx ty e : TypeId} {i : TypeInfo} {z : Value} (ht : P.underlying t = some (.slice e)) (hi : P.info? e = some i) (hz : i.zero = some z) (hzs : z.cells.size = i.size) {H1 : AHeap} (hs1 : Sim F μ H1 w) (hn1 : H1.next = H.next)
    {p : Option Addr} {sLen sCap n : Nat} {os ys : List AV} {olds us : List Value} {x : Value} (hold : ∀ dn, (Builtin.firstCells i.size sLen (.slice p sLen sCap)).run P { w with drawn := dn } = .ok olds.toArray { w with drawn := dn })
    (ho : RL μ os olds) (hol : os.length = sLen * i.size) (hsrc : Src P i.size tx x n us w) (hy : RL μ ys us) (hg : sCap < sLen + n) (hb : 0 < i.bytes) (hfit : (2 * (sLen + n) + 192) * i.bytes ≤ 2 ^ 48)
    (hk : ∀ c, sLen + n ≤ c → k (.slice H.next 0 (sLen + n) c i.size) (H1.new (.row (os ++ ys) true))) :
    ∃ v w', (Builtin.append_ #[t, tx] ty #[.slice p sLen sCap, x]).run P w = .ok v w' ∧ Out F μ H w k v w' := by
  have hnc := Ab.nextslicecap_le hg
  have hmul : Builtin.nextslicecap (sLen + n) sCap * i.bytes ≤ (2 * (sLen + n) + 192) * i.bytes := Nat.mul_le_mul_right _ hnc
  have hone : sLen + n ≤ (2 * (sLen + n) + 192) * i.bytes := Nat.le_trans (by omega) (Nat.le_mul_of_pos_right _ hb)
  have hrun := run_append_grow_src (P := P) w t tx ty e i z ht hi hz p sLen sCap olds (hold (w.drawn + 1)) x n us hsrc hg (by omega) (by omega)
  have hcap : sLen + n ≤ grownCap w (sLen + n) sCap e := by unfold grownCap Question.cut; exact Nat.le_add_right _ _
  refine ⟨_, _, hrun, ?_⟩
  generalize grownCap w (sLen + n) sCap e = cp at hcap
  have hul : us.length = n * i.size := hsrc.newsLen
  have hyl : ys.length = n * i.size := by rw [hy.1]; exact hul
  have hoo : olds.length = sLen * i.size := by rw [← ho.1]; exact hol
  have hsz : ((olds ++ us).toArray ++ Builtin.zeroCells z.cells (cp - (sLen + n))).size = cp * i.size := by
    simp only [Array.size_append, List.size_toArray, List.length_append, zeroCells_len, hzs, hul, hoo]
    rw [← Nat.add_mul, ← Nat.add_mul]
    congr 1
    omega
  have hcs : (sLen + n) * i.size ≤ cp * i.size := Nat.mul_le_mul_right _ hcap
  have hal : (os ++ ys).length = (sLen + n) * i.size := by rw [List.length_append, hol, hyl, Nat.add_mul]
  have := out_new (F := F) (μ := μ) (H := H1) (w := w) (k := k) (cs := os ++ ys) (c := (olds ++ us).toArray ++ Builtin.zeroCells z.cells (cp - (sLen + n))) (e := e) (r := .slice H.next 0 (sLen + n) cp i.size)
    (v := .slice (some ⟨w.heap.size, 0, none⟩) (sLen + n) cp) hs1 (w.drawn + 1) (by rw [hsz, hal]; exact hcs) (by
      intro j x hx
      have hR := RL.append ho hy
      obtain ⟨v, hv, hR'⟩ := hR.get hx
      refine ⟨v, ?_, hR'⟩
      rw [Array.getElem?_append_left]
      · simpa using hv
      · have : j < (olds ++ us).length := by
          rcases Nat.lt_or_ge j (olds ++ us).length with h | h
          · exact h
          · rw [List.getElem?_eq_none h] at hv; cases hv
        simpa using this) (hk cp hcap) (by
      rw [hn1]
      exact .slice (plus_self _ _ _) rfl rfl (.inr rfl) (by simp only [Nat.zero_add]; rw [hsz]; exact Nat.le_refl _) hcap)
  obtain ⟨μ', r, H', a1, a2, a3, a4⟩ := this
  exact ⟨μ', r, H', a1, by rw [← hn1]; exact a2, by rw [← hn1]; exact a3, a4⟩
end
end Go.Ab
