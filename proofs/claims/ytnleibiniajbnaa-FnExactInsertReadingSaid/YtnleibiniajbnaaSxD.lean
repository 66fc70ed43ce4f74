/- Symbolic execution: lemmas for printed walks. -/
import Derived.Test.YtnleibiniajbnaaSxC
set_option linter.unusedVariables false
set_option linter.unusedSimpArgs false
section
namespace Go.Ab
theorem envEq {xs : List AV} {ls : List (Nat × Nat)} {E : Env} {env : List (Nat × SV)} {t : Nat} {v : SV} {a : AV} (h : E t = a) (d : D xs ls v a) (k : EnvOk env xs ls E) : EnvOk ((t, v) :: env) xs ls E := envCons (by rw [h]; exact d) k
theorem put_ne {E : Env} {d t : Nat} {r a : AV} (hne : Nat.beq d t = false) (h : E t = a) : (E.put (some d) r) t = a := by
 rw [Env.put_some, if_neg (fun e => by subst e; simp at hne)]; exact h
theorem put_same {E : Env} {d : Nat} {r : AV} : (E.put (some d) r) d = r := by rw [Env.put_some, if_pos rfl]
theorem put_no {E : Env} {t : Nat} {r a : AV} (h : E t = a) : (E.put none r) t = a := h
theorem sepOk_ro : ∀ {ws : List Win}, ws.all (fun w => !w.wr) = true → sepOk ws
 | [], _ => trivial
 | w :: ws, h => by
  simp only [List.all_cons, Bool.and_eq_true] at h
  refine ⟨fun v hv e => ?_, sepOk_ro h.2⟩
  rcases e with e | e
  ·
   simp [e] at h
  ·
   have := List.all_eq_true.1 h.2 v hv
   simp [e] at this
def OwnW (H : AHeap) : List Win → Prop
 | [] => True
 | w :: ws => H.next ≤ w.l ∧ OwnW H ws
theorem OwnW.get {H : AHeap} : ∀ {ws : List Win}, OwnW H ws → ∀ (j l b : Nat), (winLs ws)[j]? = some (l, b) → H.next ≤ l
 | [], _, j, l, b, e => by simp [winLs] at e
 | w :: ws, h, 0, l, b, e => by simp [winLs] at e; rw [← e.1]; exact h.1
 | w :: ws, h, j + 1, l, b, e => by
  simp only [winLs, List.map_cons, List.getElem?_cons_succ] at e
  exact OwnW.get h.2 j l b e
structure Apart (a b : Nat) : Prop where
  ne : a ≠ b
theorem Apart.symm {a b : Nat} (h : Apart a b) : Apart b a := ⟨h.ne.symm⟩
def NotW (l : Nat) : List Win → Prop
 | [] => True
 | w :: ws => Apart l w.l ∧ NotW l ws
theorem NotW.get {l : Nat} : ∀ {ws : List Win}, NotW l ws → ∀ (j b : Nat), (winLs ws)[j]? ≠ some (l, b)
 | [], _, j, b => by simp [winLs]
 | w :: ws, h, 0, b => by simp [winLs]; intro e; exact absurd e.symm h.1.ne
 | w :: ws, h, j + 1, b => by
  simp only [winLs, List.map_cons, List.getElem?_cons_succ]
  exact NotW.get h.2 j b
theorem kept_at {H1 H2 : AHeap} {f l : Nat} {x : HB} {ws : List Win} (hk : Kept f (winLs ws) H1 H2) (hg : H1.get l = some x) (hn : NotW l (ws.drop f)) : H2.get l = some x := by
 rw [hk.2 l (H1.lt_of_get hg) fun j b hj => ?_]
 ·
  exact hg
 ·
  have h := NotW.get hn (j - f) b
  rw [winLs, List.map_drop, List.getElem?_drop, show f + (j - f) = j by omega] at h
  exact h
end Go.Ab
namespace Go.Ab
theorem SlL.isSl {H : AHeap} {sz : Nat} {ms : List (List AV)} {S : AV} (h : SlL H sz ms S) {i : Nat} (hi : i < ms.length) : ∃ l cap rest wr, S = .slice l 0 ms.length cap sz ∧ H.get l = some (.row (ms.flatten ++ rest) wr) := by
 cases h with
 | nil h => rw [h] at hi; simp at hi
 | @sl l n cap rest wr hg hn hc => subst hn; exact ⟨l, cap, rest, wr, rfl, hg⟩
theorem rule_iaS {c : Cx} {x i : SV} {S : AV} {j l n cap sz k : Nat} (hx : D c.vs c.ls x S) (hS : S = .slice l 0 n cap sz) (hi : D c.vs c.ls i (.int .i64 (k : Int))) (hk : k < n) (hj : c.ls[j]? = some (l, k * sz)) : RuleOk c (.ia sz x i) (.ptr j 0) := rule_ia (hS ▸ hx) hi hk hj
end Go.Ab
namespace Go.Ab
theorem SlL.lt {H : AHeap} {sz n cap l : Nat} {ms : List (List AV)} (h : SlL H sz ms (.slice l 0 n cap sz)) : l < H.next := by
 cases h with
 | sl hg hn hc => exact H.lt_of_get hg
theorem SlL.keep {H1 H2 : AHeap} {sz n cap l f : Nat} {ms : List (List AV)} {ws : List Win} (h : SlL H1 sz ms (.slice l 0 n cap sz)) (hk : Kept f (winLs ws) H1 H2) (hn : NotW l (ws.drop f)) : SlL H2 sz ms (.slice l 0 n cap sz) := by
 cases h with
 | sl hg h1 h2 => exact .sl (kept_at hk hg hn) h1 h2
end Go.Ab
namespace Go.Ab
theorem mx40 {n : Nat} (h : n ≤ 1048576) : n < 2 ^ 40 := Nat.lt_of_le_of_lt h (by decide)
end Go.Ab
namespace Go.Ab
theorem SlotsOk.at {E : Env} {sl : List (Nat × AV)} (h : SlotsOk E sl) {t : Nat} {a : AV} (k : Nat) (e : sl[k]? = some (t, a)) : E t = a := h t a (List.mem_of_getElem? e)
end Go.Ab
namespace Go.Ab
structure Only (l : Nat) (H H' : AHeap) : Prop where
  next : H.next ≤ H'.next
  get : ∀ l', l' < H.next → l' ≠ l → H'.get l' = H.get l'
theorem Only.refl (l : Nat) (H : AHeap) : Only l H H := ⟨Nat.le_refl _, fun _ _ _ => rfl⟩
theorem Only.trans {l : Nat} {A B C : AHeap} (h : Only l A B) (k : Only l B C) : Only l A C := ⟨Nat.le_trans h.next k.next, fun l' hl hn => (k.get l' (Nat.lt_of_lt_of_le hl h.next) hn).trans (h.get l' hl hn)⟩
theorem Only.of_grew {l : Nat} {A B : AHeap} (h : Grew A B) : Only l A B := ⟨h.next, fun l' hl _ => h.get l' hl⟩
theorem Only.grew {l : Nat} {A B C : AHeap} (h : Only l A B) (k : Grew B C) : Only l A C := h.trans (.of_grew k)
theorem Only.put {l : Nat} {A B : AHeap} (h : Only l A B) (b : HB) : Only l A (B.put l b) := ⟨h.next, fun l' hl hn => by rw [get_put_ne hn]; exact h.get l' hl hn⟩
theorem Only.own {l : Nat} {A B C : AHeap} (g : Grew A B) (hl : A.next ≤ l) (h : Only l B C) : Grew A C := ⟨Nat.le_trans g.next h.next, fun l' hl' => (h.get l' (Nat.lt_of_lt_of_le hl' g.next) (by omega)).trans (g.get l' hl')⟩
theorem Only.at {l l' : Nat} {A B : AHeap} (h : Only l A B) {b : HB} (hg : A.get l' = some b) (hn : Apart l' l) : B.get l' = some b := by rw [h.get l' (A.lt_of_get hg) hn.ne]; exact hg
theorem laid_in {P C Q vs : List AV} {b off : Nat} (hP : P.length = b) (h : off + vs.length ≤ C.length) : laid (P ++ (C ++ Q)) (b + off) vs = P ++ (laid C off vs ++ Q) := by
 unfold laid
 subst hP
 rw [List.take_append, List.take_of_length_le (by omega), show P.length + off - P.length = off by omega, List.take_append_of_le_length (by omega), List.drop_append, List.drop_eq_nil_of_le (by omega), List.nil_append, show P.length + off + vs.length - P.length = off + vs.length by omega, List.drop_append_of_le_length (by omega)]
 simp only [List.append_assoc]
theorem laid_le {P C Q : List AV} {b off n : Nat} (hP : P.length = b) (h : off + n ≤ C.length) : b + off + n ≤ (P ++ (C ++ Q)).length := by
 simp only [List.length_append]; omega
theorem win_mid {H : AHeap} {l b : Nat} {P C Q : List AV} {wr : Bool} (hg : H.get l = some (.row (P ++ (C ++ Q)) wr)) (hP : P.length = b) {xs : List AV} {ls : List (Nat × Nat)} {svs : List SV} (hd : DL xs ls svs C) : WinOk H xs ls ⟨l, b, svs, false⟩ := ⟨P, C, Q, wr, hg, hP, hd, fun h => by cases h⟩
theorem put_at {H : AHeap} {l : Nat} {b b' : HB} (hg : H.get l = some b) : (H.put l b').get l = some b' := get_put_eq rfl (H.lt_of_get hg)
end Go.Ab
namespace Go.Ab
theorem res_store_in {P : Program} {o : Pt} {d : Option Nat} {n : Nat} {x y : Opd} (ho : o = .ops (⟨d, .store n x y, none⟩ :: ptRest o) (ptFr o)) {Q : AExit → Env → AHeap → Prop} {E : Env} {H : AHeap} {l b off : Nat} {p C q vs C' : List AV} (hx : x.ev E = .ptr l (b + off)) (hg : H.get l = some (.row (p ++ (C ++ q)) true)) (hp : p.length = b) (hy : (y.ev E).cells = some vs) (hn : vs.length = n) (hl : off + n ≤ C.length) (h1 : vs.all AV.one = true) (hC : laid C off vs = C')
  (h : ∀ H', H'.get l = some (.row (p ++ (C' ++ q)) true) → Only l H H' → Res P (.ops (ptRest o) (ptFr o)) Q (E.put d .undef) H') : Res P o Q E H := by
 refine res_store ho hx hg hy hn (laid_le hp hl) h1 ?_
 rw [laid_in hp (by rw [hn]; exact hl), hC]
 exact h _ (put_at hg) ((Only.refl l H).put _)
end Go.Ab
end
/- Slices in memory of their own: what is fresh, what is apart, what a change leaves. -/
section
namespace Go.Ab
def AtS (S : AV) (l : Nat) : Prop := ∃ o n c z, S = .slice l o n c z
inductive SlW (H : AHeap) (sz : Nat) (ms : List (List AV)) : AV → Prop where
  | nil (h : ms = []) : SlW H sz ms .nilslice
  | sl {l n cap : Nat} {rest : List AV} (hg : H.get l = some (.row (ms.flatten ++ rest) true)) (hn : ms.length = n) (hc : n ≤ cap) : SlW H sz ms (.slice l 0 n cap sz)
structure FreshS (b : Nat) (S : AV) : Prop where
  le : ∀ l, AtS S l → b ≤ l
structure ApartL (S : AV) (l : Nat) : Prop where
  ne : ¬ AtS S l
structure ApartS (S S' : AV) : Prop where
  ne : ∀ l, AtS S l → ¬ AtS S' l
structure OnlyS (S : AV) (H H' : AHeap) : Prop where
  next : H.next ≤ H'.next
  get : ∀ l, l < H.next → ¬ AtS S l → H'.get l = H.get l
theorem atS {l o n c z l' : Nat} (h : AtS (.slice l o n c z) l') : l' = l := by obtain ⟨_, _, _, _, e⟩ := h; cases e; rfl
theorem atS_nil {l' : Nat} (h : AtS .nilslice l') : False := by obtain ⟨_, _, _, _, e⟩ := h; cases e
theorem ApartS.symm {S S' : AV} (h : ApartS S S') : ApartS S' S := ⟨fun l h1 h2 => h.ne l h2 h1⟩
section
variable {H H' : AHeap} {sz : Nat} {ms : List (List AV)} {S : AV}
theorem SlW.toL (h : SlW H sz ms S) : SlL H sz ms S := by
 cases h with
 | nil h => exact .nil h
 | sl hg hn hc => exact .sl hg hn hc
theorem SlW.grew (g : Grew H H') (h : SlW H sz ms S) : SlW H' sz ms S := by
 cases h with
 | nil h => exact .nil h
 | sl hg hn hc => exact .sl (g.at hg) hn hc
theorem SlW.lt (h : SlW H sz ms S) : ∀ l, AtS S l → l < H.next := by
 intro l hl
 cases h with
 | nil h => exact (atS_nil hl).elim
 | sl hg hn hc => rw [atS hl]; exact H.lt_of_get hg
theorem OnlyS.at (h : OnlyS S H H') {l : Nat} {b : HB} (hg : H.get l = some b) (hn : ApartL S l) : H'.get l = some b := by rw [h.get l (H.lt_of_get hg) hn.ne]; exact hg
theorem SlW.only {S1 : AV} (h : SlW H sz ms S) (k : OnlyS S1 H H') (hn : ApartS S S1) : SlW H' sz ms S := by
 cases h with
 | nil h => exact .nil h
 | sl hg h1 h2 => exact .sl (k.at hg ⟨hn.ne _ ⟨_, _, _, _, rfl⟩⟩) h1 h2
theorem SlL.only {S1 : AV} (h : SlL H sz ms S) (k : OnlyS S1 H H') (hn : ApartS S S1) : SlL H' sz ms S := by
 cases h with
 | nil h => exact .nil h
 | sl hg h1 h2 => exact .sl (k.at hg ⟨hn.ne _ ⟨_, _, _, _, rfl⟩⟩) h1 h2
theorem OnlyS.own {A B C : AHeap} (g : Grew A B) (hf : FreshS A.next S) (k : OnlyS S B C) : Grew A C := ⟨Nat.le_trans g.next k.next, fun l hl => (k.get l (Nat.lt_of_lt_of_le hl g.next) fun ha => Nat.lt_irrefl _ (Nat.lt_of_lt_of_le hl (hf.le l ha))).trans (g.get l hl)⟩
theorem OnlyS.of_grew (g : Grew H H') : OnlyS S H H' := ⟨g.next, fun l hl _ => g.get l hl⟩
theorem OnlyS.of_only {l o n c z : Nat} (g : Only l H H') : OnlyS (.slice l o n c z) H H' := ⟨g.next, fun l' hl hn => g.get l' hl fun e => hn (by subst e; exact ⟨_, _, _, _, rfl⟩)⟩
theorem FreshS.mono {a b : Nat} (h : FreshS b S) (hb : a ≤ b) : FreshS a S := ⟨fun l hl => Nat.le_trans hb (h.le l hl)⟩
theorem FreshS.apartL {b l : Nat} (h : FreshS b S) (hl : l < b) : ApartL S l := ⟨fun ha => Nat.lt_irrefl _ (Nat.lt_of_lt_of_le hl (h.le l ha))⟩
theorem FreshS.apartS {b : Nat} {S' : AV} (h : FreshS b S) (hs : ∀ l, AtS S' l → l < b) : ApartS S S' := ⟨fun l h1 h2 => Nat.lt_irrefl _ (Nat.lt_of_lt_of_le (hs l h2) (h.le l h1))⟩
theorem FreshS.of_le {b l o n c z : Nat} (h : b ≤ l) : FreshS b (.slice l o n c z) := ⟨fun l' hl => by rw [atS hl]; exact h⟩
theorem FreshS.nil {b : Nat} : FreshS b .nilslice := ⟨fun l' hl => (atS_nil hl).elim⟩
theorem SlW.apart_new (h : SlW H sz ms S) {l : Nat} (hl : H.next ≤ l) : ApartL S l := ⟨fun ha => Nat.lt_irrefl _ (Nat.lt_of_lt_of_le (h.lt l ha) hl)⟩
def NotS (S : AV) : List Win → Prop
 | [] => True
 | w :: ws => ApartL S w.l ∧ NotS S ws
theorem SlW.keep {f : Nat} {ws : List Win} (h : SlW H sz ms S) (hk : Kept f (winLs ws) H H') (hn : NotS S (ws.drop f)) : SlW H' sz ms S := by
 cases h with
 | nil h => exact .nil h
 | @sl l n cap rest hg h1 h2 =>
  refine .sl (kept_at hk hg ?_) h1 h2
  generalize ws.drop f = us at hn
  induction us with
  | nil => trivial
  | cons w us ih => exact ⟨⟨fun e => hn.1.ne ⟨_, _, _, _, by rw [e]⟩⟩, ih hn.2⟩
theorem SlW.one (h : SlW H sz ms S) : S.one = true := by cases h <;> rfl
end
end Go.Ab
namespace Go.Ab
theorem dFn' {xs : List AV} {ls : List (Nat × Nat)} {f : FuncId} {a b : List SV} {as bs : List AV} (h : DL xs ls a as) (k : DL xs ls b bs) : D xs ls (.fn f a b) (.func f as bs) := by simp only [D]; exact ⟨as, bs, rfl, h, k⟩
def allB (p : Nat → Bool) (n : Nat) : Bool := (List.range n).all p
theorem allB_true {p : Nat → Bool} {n : Nat} (h : ∀ i, i < n → p i = true) : allB p n = true := by simp only [allB, List.all_eq_true, List.mem_range]; exact h
theorem allB_at {p : Nat → Bool} {n i : Nat} (hi : i < n) (h : p i = false) : allB p n = false := by
 cases hb : allB p n with
 | false => rfl
 | true =>
  simp only [allB, List.all_eq_true, List.mem_range] at hb
  rw [hb i hi] at h; cases h
theorem upTo {p : Nat → Prop} {i : Nat} (h : ∀ j, j < i → p j) (hi : p i) : ∀ j, j < i + 1 → p j := by
 intro j hj
 rcases Nat.lt_or_ge j i with h1 | h1
 ·
  exact h j h1
 ·
  obtain rfl : j = i := by omega
  exact hi
theorem upTo0 {p : Nat → Prop} : ∀ j, j < 0 → p j := fun j hj => by omega
end Go.Ab
namespace Go.Ab
end Go.Ab
namespace Go.Ab
end Go.Ab
end
/- Slices that fill their rows; appending. -/
section
namespace Go.Ab
inductive SlF (H : AHeap) (sz : Nat) (ms : List (List AV)) : AV → Prop where
  | nil (h : ms = []) : SlF H sz ms .nilslice
  | sl {l n cap : Nat} (hg : H.get l = some (.row ms.flatten true)) (hn : ms.length = n) (hc : n ≤ cap) : SlF H sz ms (.slice l 0 n cap sz)
section
variable {H H' : AHeap} {sz : Nat} {ms : List (List AV)} {S : AV}
theorem SlF.toW (h : SlF H sz ms S) : SlW H sz ms S := by
 cases h with
 | nil h => exact .nil h
 | sl hg hn hc => exact .sl (rest := []) (by simpa using hg) hn hc
theorem SlF.toL (h : SlF H sz ms S) : SlL H sz ms S := h.toW.toL
theorem SlF.grew (g : Grew H H') (h : SlF H sz ms S) : SlF H' sz ms S := by
 cases h with
 | nil h => exact .nil h
 | sl hg hn hc => exact .sl (g.at hg) hn hc
theorem SlF.lt (h : SlF H sz ms S) : ∀ l, AtS S l → l < H.next := h.toW.lt
theorem SlF.only {S1 : AV} (h : SlF H sz ms S) (k : OnlyS S1 H H') (hn : ApartS S S1) : SlF H' sz ms S := by
 cases h with
 | nil h => exact .nil h
 | sl hg h1 h2 => exact .sl (k.at hg ⟨hn.ne _ ⟨_, _, _, _, rfl⟩⟩) h1 h2
theorem SlF.apart_new (h : SlF H sz ms S) {l : Nat} (hl : H.next ≤ l) : ApartL S l := h.toW.apart_new hl
theorem SlF.one (h : SlF H sz ms S) : S.one = true := h.toW.one
theorem SlF.keep {f : Nat} {ws : List Win} (h : SlF H sz ms S) (hk : Kept f (winLs ws) H H') (hn : NotS S (ws.drop f)) : SlF H' sz ms S := by
 cases h with
 | nil h => exact .nil h
 | @sl l n cap hg h1 h2 =>
  refine .sl (kept_at hk hg ?_) h1 h2
  generalize ws.drop f = us at hn
  induction us with
  | nil => trivial
  | cons w us ih => exact ⟨⟨fun e => hn.1.ne ⟨_, _, _, _, by rw [e]⟩⟩, ih hn.2⟩
end
theorem sl_of {c : Cx} {s : St} {vs : List AV} {ls : List (Nat × Nat)} {H : AHeap} {E : Env} (h : In c s vs ls H) (hE : EnvOk s.env vs ls E) (t j n cp z : Nat) (he : findA t s.env = some (.sl j 0 n cp z)) {ds : List AV} (e : (findA j s.heap).bind (fun p => (dnL c.ρ c.φ s.ns c.ls 300 p.1).map fun x => (x, p.2)) = some (ds, true)) :
  ∃ l, E t = .slice l 0 n cp z ∧ H.get l = some (.row ds true) ∧ (c.ls.length ≤ j → c.H.next ≤ l) := by
 rw [Option.bind_eq_some_iff] at e
 obtain ⟨p, h1, h2⟩ := e
 rw [Option.map_eq_some_iff] at h2
 obtain ⟨x, h2, h3⟩ := h2
 obtain ⟨rfl, h4⟩ := Prod.mk.inj h3
 obtain ⟨l, b, pre, es, post, wr', k1, k2, k3, k4, k5⟩ := h.ok.heap j p.1 p.2 (by rw [h1])
 obtain ⟨rfl, rfl, rfl⟩ := k5 h4
 have := dnL_of h h.lel 300 k4 h2
 subst this
 have hd := hE t _ he
 simp only [D] at hd
 obtain ⟨l', o', g1, g2⟩ := hd
 rw [k1] at g1
 cases g1
 have hb : b = 0 := k3.symm
 subst hb
 exact ⟨l, by simpa using g2, by simpa using k2, fun hj => h.new j l 0 hj k1⟩
theorem src_list {H : AHeap} {sz : Nat} {ms : List (List AV)} {S : AV} (hm : ∀ m ∈ ms, m.length = sz) (h : SlL H sz ms S) : srcCells H.get sz S = some (ms.flatten, ms.length) := by
 have hl : ms.flatten.length = ms.length * sz := by
  have := take_flat_len hm (i := ms.length) (Nat.le_refl _)
  rwa [List.take_length] at this
 cases h with
 | nil h => subst h; rfl
 | @sl l n cap rest wr hg hn hc =>
  subst hn
  simp only [srcCells]
  rw [if_pos trivial]
  split
  ·
   rename_i h0
   have : ms = [] := List.eq_nil_of_length_eq_zero h0
   subst this; rfl
  ·
   rw [hg]
   simp only [Nat.zero_add, List.drop_zero]
   rw [if_pos (by rw [List.length_append]; omega), List.take_append_of_le_length (by omega), List.take_of_length_le (by omega)]
structure FromS (b : Nat) (S S' : AV) : Prop where
  at_ : ∀ l, AtS S' l → b ≤ l ∨ AtS S l
theorem FromS.apartL {b l : Nat} {S S' : AV} (h : FromS b S S') (hl : l < b) (hn : ApartL S l) : ApartL S' l := ⟨fun ha => by
  rcases h.at_ l ha with h1 | h1
  · omega
  · exact hn.ne h1⟩
theorem FromS.apartS {b : Nat} {S S' S2 : AV} (h : FromS b S S') (hl : ∀ l, AtS S2 l → l < b) (hn : ApartS S S2) : ApartS S' S2 := ⟨fun l ha h2 => by
  rcases h.at_ l ha with h1 | h1
  · have := hl l h2; omega
  · exact hn.ne l h1 h2⟩
theorem FromS.fresh {a b : Nat} {S S' : AV} (h : FromS b S S') (hf : FreshS a S) (hab : a ≤ b) : FreshS a S' := ⟨fun l ha => by
  rcases h.at_ l ha with h1 | h1
  · omega
  · exact hf.le l h1⟩
theorem ApartL.nil {l : Nat} : ApartL .nilslice l := ⟨fun h => atS_nil h⟩
theorem ApartS.nil {S : AV} : ApartS .nilslice S := ⟨fun _ h => (atS_nil h).elim⟩
theorem ApartL.of {l l' o n c z : Nat} (h : Apart l l') : ApartL (.slice l o n c z) l' := ⟨fun e => h.ne (atS e).symm⟩
theorem ApartS.of {l o n c z : Nat} {S : AV} (h : ApartL S l) : ApartS (.slice l o n c z) S := ⟨fun l' h1 h2 => h.ne (by rw [atS h1] at h2; exact h2)⟩
theorem ar_append {P : Program} {d : Option Nat} {sz bytes : Nat} {x y : Opd} {rest : List AOper} {E : Env} {H : AHeap} {k : Env → AHeap → Prop} {S : AV} {ms ys : List (List AV)} (hx : x.ev E = S) (hS : SlF H sz ms S) (hm : ∀ m ∈ ms, m.length = sz) (hy : srcCells H.get sz (y.ev E) = some (ys.flatten, ys.length)) (h1 : ys.flatten.all AV.one = true) (hb : (2 * (ms.length + ys.length) + 192) * bytes ≤ 281474976710656)
  (h : ∀ S' H', SlF H' sz (ms ++ ys) S' → FromS H.next S S' → OnlyS S H H' → arun P rest (E.put d S') H' k) : arun P (⟨d, .append sz bytes x y, none⟩ :: rest) E H k := by
 have hl : ms.flatten.length = ms.length * sz := by
  have := take_flat_len hm (i := ms.length) (Nat.le_refl _)
  rwa [List.take_length] at this
 simp only [arun, aeff]
 rw [hx]
 unfold appendA
 rw [hy]
 have fresh : ∀ (c : Nat), ms = [] → ys.length ≤ c → arun P rest (E.put d (.slice H.next 0 ys.length c sz)) (H.new (.row ([] ++ ys.flatten) true)) k := by
  intro c h0 hc
  subst h0
  refine h _ _ (.sl (by rw [AHeap.new_get, if_pos rfl]; simp) (by simp) hc) ⟨fun l hl => .inl (by rw [atS hl]; exact Nat.le_refl _)⟩ ⟨by rw [AHeap.new_next]; omega, fun l hl _ => by rw [AHeap.new_get, if_neg (by omega)]⟩
 cases hS with
 | nil h0 =>
  subst h0
  simp only []
  split
  ·
   rename_i hn
   have : ys = [] := List.eq_nil_of_length_eq_zero hn
   subst this
   exact h _ _ (.nil rfl) ⟨fun l hl => .inr hl⟩ ⟨Nat.le_refl _, fun _ _ _ => rfl⟩
  ·
   exact ⟨by simpa using hb, h1, fun c hc => fresh c rfl hc⟩
 | @sl l n cap hg hn hc =>
  subst hn
  simp only []
  rw [if_pos trivial]
  split
  ·
   rename_i h0
   have : ms = [] := List.eq_nil_of_length_eq_zero (by omega)
   subst this
   split
   ·
    rename_i hn
    have : ys = [] := List.eq_nil_of_length_eq_zero hn
    subst this
    exact h _ _ (.sl hg rfl hc) ⟨fun l hl => .inr hl⟩ ⟨Nat.le_refl _, fun _ _ _ => rfl⟩
   ·
    exact ⟨by simpa using hb, h1, fun c hc => fresh c rfl hc⟩
  ·
   rw [hg]
   simp only [Nat.zero_add, List.drop_zero]
   rw [if_pos hl.symm]
   refine ⟨by simpa using hb, h1, fun c hc2 => ?_⟩
   have hll := H.lt_of_get hg
   refine h _ _ (.sl (by rw [AHeap.new_get, if_pos rfl]; simp) (by simp) hc2) ⟨fun l hl => .inl (by rw [atS hl]; exact Nat.le_refl _)⟩ ⟨?_, fun l' hl' hn => ?_⟩
   ·
    rw [AHeap.new_next]; show H.next ≤ H.next + 1; omega
   ·
    have hne : l' ≠ l := fun e => hn (by subst e; exact ⟨_, _, _, _, rfl⟩)
    rw [AHeap.new_get, if_neg (by show l' ≠ H.next; omega), get_del_ne hne]
theorem res_append {P : Program} {o : Pt} {d : Option Nat} {sz bytes : Nat} {x y : Opd} (ho : o = .ops (⟨d, .append sz bytes x y, none⟩ :: ptRest o) (ptFr o)) {Q : AExit → Env → AHeap → Prop} {E : Env} {H : AHeap} {S : AV} {ms ys : List (List AV)} (hx : x.ev E = S) (hS : SlF H sz ms S) (hm : ∀ m ∈ ms, m.length = sz) (hy : srcCells H.get sz (y.ev E) = some (ys.flatten, ys.length)) (h1 : ys.flatten.all AV.one = true) (hb : (2 * (ms.length + ys.length) + 192) * bytes ≤ 281474976710656)
  (h : ∀ S' H', SlF H' sz (ms ++ ys) S' → FromS H.next S S' → OnlyS S H H' → Res P (.ops (ptRest o) (ptFr o)) Q (E.put d S') H') : Res P o Q E H := by
 rw [ho]
 exact ar_append hx hS hm hy h1 hb h
theorem res_appendK {P : Program} {o : Pt} {free : Bool} {d : Option Nat} {sz bytes : Nat} {x y : Opd} (ho : o = .kids (.cons free ⟨d, .append sz bytes x y, none⟩ (.node (kQs o) (kKids o)) .nil) (ptFr o)) {Q : AExit → Env → AHeap → Prop} {E : Env} {H : AHeap} {S : AV} {ms ys : List (List AV)} (hx : x.ev E = S) (hS : SlF H sz ms S) (hm : ∀ m ∈ ms, m.length = sz) (hy : srcCells H.get sz (y.ev E) = some (ys.flatten, ys.length)) (h1 : ys.flatten.all AV.one = true) (hb : (2 * (ms.length + ys.length) + 192) * bytes ≤ 281474976710656)
  (h : ∀ S' H', SlF H' sz (ms ++ ys) S' → FromS H.next S S' → OnlyS S H H' → (free = true ∨ Grew H H') ∧ Res P (.mixq (kQs o) (kKids o) (ptFr o)) Q (E.put d S') H') : Res P o Q E H := by
 rw [ho]
 refine mk_one (ar_append hx hS hm hy h1 hb fun S' H' a b c => ?_)
 obtain ⟨g1, g2⟩ := h S' H' a b c
 refine ar_nil ⟨g1, ?_⟩
 simp only [amix]
 exact g2
end Go.Ab
namespace Go.Ab
theorem dSl' {xs : List AV} {ls : List (Nat × Nat)} {j off n c z l o : Nat} (hl : ls[j]? = some (l, o)) : D xs ls (.sl j off n c z) (.slice l (o + off) n c z) := by simp only [D]; exact ⟨l, o, hl, rfl⟩
theorem Recs.append {ks : List Kd} {ms ys : List (List AV)} (h : Recs ks ms) (k : Recs ks ys) : Recs ks (ms ++ ys) := by
  intro m hm
  rcases List.mem_append.1 hm with h1 | h1
  · exact h m h1
  · exact k m h1
theorem Recs.one {ks : List Kd} {m : List AV} (h : KdsL ks m) : Recs ks [m] := by
 intro x hx
 rw [List.mem_singleton.1 hx]; exact h
theorem Recs.nil {ks : List Kd} : Recs ks [] := by
 intro x hx; cases hx
theorem recs_one {ks : List Kd} {ms : List (List AV)} (h : Recs ks ms) (hk : ks.all (fun k => !decide (k = .any)) = true) : ms.flatten.all AV.one = true := by
 rw [List.all_eq_true]
 intro a ha
 obtain ⟨m, hm, ham⟩ := List.mem_flatten.1 ha
 exact List.all_eq_true.1 (kdsL_one (h m hm) hk) a ham
end Go.Ab
namespace Go.Ab
end Go.Ab
namespace Go.Ab
theorem ar_append0 {P : Program} {d : Option Nat} {sz bytes : Nat} {x y : Opd} {rest : List AOper} {E : Env} {H : AHeap} {k : Env → AHeap → Prop} {S : AV} {ys : List (List AV)} (hx : x.ev E = S) (hS : SlF H sz [] S) (h0 : S = .nilslice ∨ ∃ l, S = .slice l 0 0 0 sz) (hy : srcCells H.get sz (y.ev E) = some (ys.flatten, ys.length)) (h1 : ys.flatten.all AV.one = true) (hb : (2 * ys.length + 192) * bytes ≤ 281474976710656)
  (h : ∀ S' H', SlF H' sz ys S' → FromS H.next S S' → Grew H H' → arun P rest (E.put d S') H' k) : arun P (⟨d, .append sz bytes x y, none⟩ :: rest) E H k := by
 simp only [arun, aeff]
 rw [hx]
 unfold appendA
 rw [hy]
 have fresh : ∀ (c : Nat), ys.length ≤ c → arun P rest (E.put d (.slice H.next 0 ys.length c sz)) (H.new (.row ([] ++ ys.flatten) true)) k := by
  intro c hc
  exact h _ _ (.sl (by rw [AHeap.new_get, if_pos rfl]; simp) (by simp) hc) ⟨fun l hl => .inl (by rw [atS hl]; exact Nat.le_refl _)⟩ ((Grew.refl H).new _)
 rcases h0 with rfl | ⟨l, rfl⟩
 ·
  simp only []
  split
  ·
   rename_i hn
   have : ys = [] := List.eq_nil_of_length_eq_zero hn
   subst this
   exact h _ _ (.nil rfl) ⟨fun l hl => .inr hl⟩ (Grew.refl _)
  ·
   exact ⟨hb, h1, fresh⟩
 ·
  simp only []
  rw [if_pos trivial, if_pos trivial]
  split
  ·
   rename_i hn
   have : ys = [] := List.eq_nil_of_length_eq_zero hn
   subst this
   exact h _ _ hS ⟨fun l hl => .inr hl⟩ (Grew.refl _)
  ·
   exact ⟨hb, h1, fresh⟩
theorem res_append0 {P : Program} {o : Pt} {d : Option Nat} {sz bytes : Nat} {x y : Opd} (ho : o = .ops (⟨d, .append sz bytes x y, none⟩ :: ptRest o) (ptFr o)) {Q : AExit → Env → AHeap → Prop} {E : Env} {H : AHeap} {S : AV} {ys : List (List AV)} (hx : x.ev E = S) (hS : SlF H sz [] S) (h0 : S = .nilslice ∨ ∃ l, S = .slice l 0 0 0 sz) (hy : srcCells H.get sz (y.ev E) = some (ys.flatten, ys.length)) (h1 : ys.flatten.all AV.one = true) (hb : (2 * ys.length + 192) * bytes ≤ 281474976710656)
  (h : ∀ S' H', SlF H' sz ys S' → FromS H.next S S' → Grew H H' → Res P (.ops (ptRest o) (ptFr o)) Q (E.put d S') H') : Res P o Q E H := by
 rw [ho]
 exact ar_append0 hx hS h0 hy h1 hb h
end Go.Ab
namespace Go.Ab
end Go.Ab
namespace Go.Ab
structure Only2 (S T : AV) (H H' : AHeap) : Prop where
  next : H.next ≤ H'.next
  get : ∀ l, l < H.next → ¬ AtS S l → ¬ AtS T l → H'.get l = H.get l
section
variable {H H' : AHeap} {sz : Nat} {ms : List (List AV)} {S T : AV}
theorem Only2.of {H1 : AHeap} (h : OnlyS S H H1) (k : OnlyS T H1 H') : Only2 S T H H' := ⟨Nat.le_trans h.next k.next, fun l hl h1 h2 => (k.get l (Nat.lt_of_lt_of_le hl h.next) h2).trans (h.get l hl h1)⟩
theorem Only2.at (h : Only2 S T H H') {l : Nat} {b : HB} (hg : H.get l = some b) (hn : ApartL S l) (hm : ApartL T l) : H'.get l = some b := by rw [h.get l (H.lt_of_get hg) hn.ne hm.ne]; exact hg
theorem Only2.own {A B C : AHeap} (g : Grew A B) (hf : FreshS A.next S) (hf2 : FreshS A.next T) (k : Only2 S T B C) : Grew A C := ⟨Nat.le_trans g.next k.next, fun l hl => (k.get l (Nat.lt_of_lt_of_le hl g.next) (fun ha => Nat.lt_irrefl _ (Nat.lt_of_lt_of_le hl (hf.le l ha))) (fun ha => Nat.lt_irrefl _ (Nat.lt_of_lt_of_le hl (hf2.le l ha)))).trans (g.get l hl)⟩
theorem OnlyS.grewR {H1 : AHeap} (h : OnlyS S H H1) (k : Grew H1 H') : OnlyS S H H' := ⟨Nat.le_trans h.next k.next, fun l hl hn => (k.get l (Nat.lt_of_lt_of_le hl h.next)).trans (h.get l hl hn)⟩
theorem Only2.grewR {H1 : AHeap} (h : Only2 S T H H1) (k : Grew H1 H') : Only2 S T H H' := ⟨Nat.le_trans h.next k.next, fun l hl hn hm => (k.get l (Nat.lt_of_lt_of_le hl h.next)).trans (h.get l hl hn hm)⟩
end
end Go.Ab
namespace Go.Ab
theorem res_clear {P : Program} {o : Pt} {d : Option Nat} {sz : Nat} {zs : List AV} {x : Opd} (ho : o = .ops (⟨d, .clear sz zs x, none⟩ :: ptRest o) (ptFr o)) {Q : AExit → Env → AHeap → Prop} {E : Env} {H : AHeap} {l b n cap : Nat} {p C q : List AV} (hx : x.ev E = .slice l b n cap sz) (hg : H.get l = some (.row (p ++ (C ++ q)) true)) (hp : p.length = b) (hC : C.length = n * sz) (hz : zs.length = sz) (h1 : zs.all AV.one = true)
  (h : ∀ H' C', H'.get l = some (.row (p ++ (C' ++ q)) true) → Only l H H' → Res P (.ops (ptRest o) (ptFr o)) Q (E.put d .undef) H') : Res P o Q E H := by
 rw [ho]
 show arun P _ _ _ _
 simp only [arun, aeff]
 rw [hx]
 simp only []
 split
 ·
  exact h H C hg (Only.refl l H)
 ·
  rw [if_pos trivial, hg]
  simp only []
  rw [if_pos ⟨by simp only [List.length_append]; omega, hz, h1⟩]
  have e : laid (p ++ (C ++ q)) b (List.replicate n zs).flatten = p ++ ((List.replicate n zs).flatten ++ q) := by
   have hl : (List.replicate n zs).flatten.length = C.length := by
    rw [hC]
    have := take_flat_len (sz := sz) (ms := List.replicate n zs) (fun m hm => by rw [List.eq_of_mem_replicate hm]; exact hz) (i := (List.replicate n zs).length) (Nat.le_refl _)
    rwa [List.take_length, List.length_replicate] at this
   have := laid_in (P := p) (C := C) (Q := q) (vs := (List.replicate n zs).flatten) (off := 0) hp (by omega)
   rw [Nat.add_zero] at this
   rw [this]
   congr 2
   unfold laid
   simp [hl]
  rw [e]
  exact h _ _ (put_at hg) ((Only.refl l H).put _)
end Go.Ab
namespace Go.Ab
end Go.Ab
namespace Go.Ab
end Go.Ab
end
/- Making slices. -/
section
namespace Go.Ab
end Go.Ab
namespace Go.Ab
end Go.Ab
namespace Go.Ab
end Go.Ab
namespace Go.Ab
theorem end_tmps {t1 t2 : Nat} {H0 H : AHeap} {E : Env} {e : AExit} {R : AV → AHeap → Prop} (he : e = .normal ∨ e = .ret) {a1 a2 : AV} (e1 : E t1 = a1) (e2 : E t2 = a2) (hg : H0.next ≤ H.next) (hR : R (.tuple [a1, a2]) H) : endK [.tmp t1, .tmp t2] H0 R e E H := by
 have hr : aresults [.tmp t1, .tmp t2] E H = some (.tuple [a1, a2]) := by
  simp only [aresults, aresL, ARes.val, e1, e2]
 rcases he with rfl | rfl
 ·
  exact ⟨_, hr, fin_same hg hR⟩
 ·
  exact ⟨_, hr, fin_same hg hR⟩
end Go.Ab
end
/- Bytes and strings. -/
section
namespace Go.Ab
end Go.Ab
namespace Go.Ab
end Go.Ab
end
/- Loops that change plain values: these as functions of the place. -/
section
namespace Go.Ab
end Go.Ab
end
/- Writing an element of a slice of our own. -/
section
namespace Go.Ab
theorem laid_cons {m X m' : List AV} {j : Nat} : laid (m ++ X) (m.length + j) m' = m ++ laid X j m' := by
 unfold laid
 rw [List.take_append, List.take_of_length_le (by omega), show m.length + j - m.length = j by omega, Nat.add_assoc, List.drop_append, List.drop_eq_nil_of_le (by omega), List.nil_append, show m.length + (j + m'.length) - m.length = j + m'.length by omega]
 simp only [List.append_assoc]
theorem flat_set {sz : Nat} : ∀ {ms : List (List AV)} {k : Nat} (_ : ∀ m ∈ ms, m.length = sz) (_ : k < ms.length) {m' : List AV} (_ : m'.length = sz) (rest : List AV), laid (ms.flatten ++ rest) (k * sz) m' = (ms.set k m').flatten ++ rest
 | [], k, _, hk, _, _, _ => by simp at hk
 | m :: ms, 0, h, _, m', hm', rest => by
  have hm := h m (by simp)
  have e : laid (m ++ (ms.flatten ++ rest)) (0 * sz) m' = m' ++ (ms.flatten ++ rest) := by
   unfold laid
   rw [Nat.zero_mul, List.take_zero, Nat.zero_add, hm', ← hm, List.drop_left]; rfl
  rw [List.flatten_cons, List.append_assoc, e]
  simp
 | m :: ms, k + 1, h, hk, m', hm', rest => by
  have hm := h m (by simp)
  have ih := flat_set (ms := ms) (k := k) (fun x hx => h x (by simp [hx])) (by simpa using hk) hm' rest
  rw [List.flatten_cons, List.append_assoc, Nat.succ_mul, Nat.add_comm (k * sz) sz, ← hm, laid_cons, hm, ih]
  simp
theorem flat_room {sz : Nat} {ms : List (List AV)} (h : ∀ m ∈ ms, m.length = sz) {k : Nat} (hk : k < ms.length) (rest : List AV) : k * sz + sz ≤ (ms.flatten ++ rest).length := by
 obtain ⟨pre, post, h1, h2⟩ := flat_split h hk rest
 rw [h1]; simp only [List.length_append]
 have := h ms[k] (List.getElem_mem hk)
 omega
section
variable {P : Program} {o : Pt} {d : Option Nat} {n : Nat} {x y : Opd} {Q : AExit → Env → AHeap → Prop} {E : Env} {H : AHeap} {S : AV} {sz k l cap : Nat} {ms : List (List AV)} {m' : List AV}
end
theorem OnlyS.trans {S : AV} {A B C : AHeap} (h : OnlyS S A B) (k : OnlyS S B C) : OnlyS S A C := ⟨Nat.le_trans h.next k.next, fun l hl hn => (k.get l (Nat.lt_of_lt_of_le hl h.next) hn).trans (h.get l hl hn)⟩
theorem Recs.set {ks : List Kd} {ms : List (List AV)} {k : Nat} {m : List AV} (h : Recs ks ms) (hm : KdsL ks m) : Recs ks (ms.set k m) := by
  intro x hx
  rcases List.mem_or_eq_of_mem_set hx with h1 | h1
  · exact h x h1
  · rw [h1]; exact hm
end Go.Ab
end
/- Symbolic execution: short forms for printed walks. -/
section
namespace Go.Ab
@[reducible] def KI : Kd := .int .i64
@[reducible] def K2 : Kd := .int .i32
def nI (i : Nat) : SV := .nd i (.int .i64)
def n2 (i : Nat) : SV := .nd i (.int .i32)
def n1 (i : Nat) : SV := .nd i .one
def nB (i : Nat) : SV := .nd i .bool
def nkA : Nat → List Kd → List (Node × Kd)
 | _, [] => []
 | i, k :: ks => (.atom i, k) :: nkA (i + 1) ks
mutual
def dv (ks : List Kd) (xs : List AV) (ls : List (Nat × Nat)) : SV → Option AV
 | .lit a => if litOk a = true then some a else none
 | .nd i kd => match ks[i]?, xs[i]? with
  | some k, some a => if k = kd then some a else none
  | _, _ => none
 | .agg cs => (dvL ks xs ls cs).map .agg
 | .tup cs => (dvL ks xs ls cs).map .tuple
 | .ptr j off => (ls[j]?).map fun p => .ptr p.1 (p.2 + off)
 | .sl j off n c z => (ls[j]?).map fun p => .slice p.1 (p.2 + off) n c z
 | .fn f a b => match dvL ks xs ls a, dvL ks xs ls b with
  | some as, some bs => some (.func f as bs)
  | _, _ => none
 | .ifc _ _ => none
def dvL (ks : List Kd) (xs : List AV) (ls : List (Nat × Nat)) : List SV → Option (List AV)
 | [] => some []
 | v :: vs => match dv ks xs ls v, dvL ks xs ls vs with
  | some a, some as => some (a :: as)
  | _, _ => none
end
theorem KdsL.at {ks : List Kd} {xs : List AV} (h : KdsL ks xs) : ∀ {i : Nat} {k : Kd} {a : AV}, ks[i]? = some k → xs[i]? = some a → HasKd k a := by
 induction h with
 | nil => intro i k a h; simp at h
 | cons h _ ih =>
  intro i k a h1 h2
  cases i with
  | zero => simp at h1 h2; subst h1; subst h2; exact h
  | succ i => exact ih (by simpa using h1) (by simpa using h2)
mutual
theorem dC {ks : List Kd} {xs : List AV} {ls : List (Nat × Nat)} (hk : KdsL ks xs) : ∀ {v : SV} {a : AV}, dv ks xs ls v = some a → D xs ls v a
 | .lit b, a, h => by
  simp only [dv] at h
  split at h
  ·
   rename_i h1; cases h; exact dLit h1
  ·
   cases h
 | .nd i kd, a, h => by
  simp only [dv] at h
  split at h
  ·
   rename_i k b h1 h2
   split at h
   ·
    rename_i h3; subst h3; cases h; exact dNd h2 (hk.at h1 h2)
   ·
    cases h
  ·
   cases h
 | .agg cs, a, h => by
  simp only [dv, Option.map_eq_some_iff] at h
  obtain ⟨as, h1, rfl⟩ := h
  exact dAgg (dlC hk h1)
 | .tup cs, a, h => by
  simp only [dv, Option.map_eq_some_iff] at h
  obtain ⟨as, h1, rfl⟩ := h
  simp only [D]
  exact ⟨as, rfl, dlC hk h1⟩
 | .ptr j off, a, h => by
  simp only [dv, Option.map_eq_some_iff] at h
  obtain ⟨⟨l, o⟩, h1, rfl⟩ := h
  exact dPtr h1
 | .sl j off n c z, a, h => by
  simp only [dv, Option.map_eq_some_iff] at h
  obtain ⟨⟨l, o⟩, h1, rfl⟩ := h
  exact dSl' h1
 | .fn f x y, a, h => by
  simp only [dv] at h
  split at h
  ·
   rename_i as bs h1 h2; cases h; exact dFn' (dlC hk h1) (dlC hk h2)
  ·
   cases h
 | .ifc _ _, a, h => by simp only [dv] at h; cases h
theorem dlC {ks : List Kd} {xs : List AV} {ls : List (Nat × Nat)} (hk : KdsL ks xs) : ∀ {vs : List SV} {as : List AV}, dvL ks xs ls vs = some as → DL xs ls vs as
 | [], as, h => by simp only [dvL] at h; cases h; exact dlNil
 | v :: vs, as, h => by
  simp only [dvL] at h
  split at h
  ·
   rename_i a bs h1 h2; cases h; exact dlCons (dC hk h1) (dlC hk h2)
  ·
   cases h
end
def envV (ks : List Kd) (xs : List AV) (ls : List (Nat × Nat)) : List (Nat × SV) → Option (List (Nat × AV))
 | [] => some []
 | (t, v) :: e => match dv ks xs ls v, envV ks xs ls e with
  | some a, some r => some ((t, a) :: r)
  | _, _ => none
theorem envC {ks : List Kd} {xs : List AV} {ls : List (Nat × Nat)} {E : Env} (hk : KdsL ks xs) : ∀ {env : List (Nat × SV)} {sl : List (Nat × AV)}, envV ks xs ls env = some sl → SlotsOk E sl → EnvOk env xs ls E
 | [], sl, _, _ => envNil
 | (t, v) :: e, sl, h, hs => by
  simp only [envV] at h
  split at h
  ·
   rename_i a r h1 h2; cases h; exact envEq hs.head (dC hk h1) (envC hk h2 hs.tail)
  ·
   cases h
def seps1 (w : Win) : List Win → List (Nat × Nat)
 | [] => []
 | v :: vs => if (w.wr || v.wr) = true then (w.l, v.l) :: seps1 w vs else seps1 w vs
def seps : List Win → List (Nat × Nat)
 | [] => []
 | w :: ws => seps1 w ws ++ seps ws
inductive ApL : List (Nat × Nat) → Prop where
  | nil : ApL []
  | cons {a b : Nat} {ps : List (Nat × Nat)} (h : Apart a b) (t : ApL ps) : ApL ((a, b) :: ps)
theorem ApL.mem {ps : List (Nat × Nat)} (h : ApL ps) : ∀ p ∈ ps, p.1 ≠ p.2 := by
 induction h with
 | nil => intro p hp; cases hp
 | cons h _ ih =>
  intro p hp
  rcases List.mem_cons.1 hp with rfl | hp
  ·
   exact h.ne
  ·
   exact ih p hp
theorem seps1_mem {w : Win} : ∀ {ws : List Win} {v : Win}, v ∈ ws → (w.wr = true ∨ v.wr = true) → (w.l, v.l) ∈ seps1 w ws
 | u :: us, v, h, hw => by
  unfold seps1
  rcases List.mem_cons.1 h with rfl | h
  ·
   rw [if_pos (by simpa using hw)]; exact List.mem_cons_self
  ·
   split
   ·
    exact List.mem_cons_of_mem _ (seps1_mem h hw)
   ·
    exact seps1_mem h hw
theorem sepC' : ∀ {ws : List Win}, (∀ p ∈ seps ws, p.1 ≠ p.2) → sepOk ws
 | [], _ => trivial
 | w :: ws, h => ⟨fun v hv hw => h (w.l, v.l) (List.mem_append_left _ (seps1_mem hv hw)), sepC' fun p hp => h p (List.mem_append_right _ hp)⟩
theorem sepD {ws : List Win} (h : ApL (seps ws)) : sepOk ws := sepC' h.mem
theorem nkA_ok {ρ : Nat → AV} {φ : Nat → List AV → AV} {vs : List AV} {ks : List Kd} {xs : List AV} (h : KdsL ks xs) : ∀ i, (∀ j, ρ (i + j) = xs.getD j .undef) → NkL ρ φ vs (nkA i ks) xs := by
 induction h with
 | nil => intro i _; exact .nil
 | @cons k a ks as h1 _ ih =>
  intro i hr
  refine .cons ?_ h1 (ih (i + 1) fun j => ?_)
  ·
   have := hr 0
   simp only [Nat.add_zero] at this
   show ρ i = a
   rw [this]; rfl
  ·
   have := hr (j + 1)
   rw [show i + 1 + j = i + (j + 1) by omega, this]; rfl
theorem run_mc {P : Program} {φ : Nat → List AV → AV} {ks : List Kd} {xs : List AV} {ws : List Win} {H : AHeap} {E : Env} {pm : Pm} (d : Nat) {o : Pt} {Q : AExit → Env → AHeap → Prop} {env : List (Nat × SV)} (hk : KdsL ks xs)
  (hw : WinL H xs (winLs ws) ws) (hs : sepOk ws) (hr : RuL (midCx P φ xs ws H pm.fl pm.ru) pm.ru) (hE : EnvOk env xs (winLs ws) E) (htb : TbOk P pm.tb) (hap : ApOk P φ pm.ap)
  (h : ∀ p ∈ sxGo (sxCall pm d) pm o (midN (nkA 0 ks) [] env ws), ∀ vs ls H' E', Step (midCx P φ xs ws H pm.fl pm.ru) (midN (nkA 0 ks) [] env ws) xs (winLs ws) H p.2 vs ls H' → EnvOk p.2.env vs ls E' → Res P p.1 Q E' H') : Res P o Q E H :=
 run_mn d (midN_in (nkA_ok hk 0 (fun j => by rw [Nat.zero_add]; rfl)) .nil env hw hs hr) hE htb hap h
theorem KdsL.app {ks ks' : List Kd} {xs xs' : List AV} (h : KdsL ks xs) (k : KdsL ks' xs') : KdsL (ks ++ ks') (xs ++ xs') := by
 induction h with
 | nil => exact k
 | cons h1 _ ih => exact .cons h1 ih
section
variable {c : Cx} {s0 s : St} {vs0 vs : List AV} {ls0 ls : List (Nat × Nat)} {H0 H : AHeap} {E : Env}
theorem eo (st : Step c s0 vs0 ls0 H0 s vs ls H) (hE : EnvOk s.env vs ls E) (t : Nat) (a : AV) (e : (findA t s.env).bind (dn c.ρ c.φ s.ns c.ls 100) = some a := by kernel_rfl) : E t = a := env_of st.inn hE t e
theorem gk (st : Step c s0 vs0 ls0 H0 s vs ls H) (e : Nat.ble ls0.length s.wm = true := by kernel_rfl) : Grew H0 H := st.kept.grew (Nat.le_of_ble_eq_true e)
theorem bf (st : Step c s0 vs0 ls0 H0 s vs ls H) (k : Nat) {x b : Bool} (e : (s.facts[k]?).bind (fun p => (dn c.ρ c.φ s.ns c.ls 100 (.nd p.1 .bool)).map fun x => (x, p.2)) = some (.bool x, b) := by kernel_rfl) : x = b := bfact st.inn k e
theorem dt (st : Step c s0 vs0 ls0 H0 s vs ls H) (k : Nat) {p : Prop} [Decidable p] (e : (s.facts[k]?).bind (fun p => (dn c.ρ c.φ s.ns c.ls 100 (.nd p.1 .bool)).map fun x => (x, p.2)) = some (.bool (decide p), true) := by kernel_rfl) : p := of_decide_eq_true (bfact st.inn k e)
theorem df (st : Step c s0 vs0 ls0 H0 s vs ls H) (k : Nat) {p : Prop} [Decidable p] (e : (s.facts[k]?).bind (fun p => (dn c.ρ c.φ s.ns c.ls 100 (.nd p.1 .bool)).map fun x => (x, p.2)) = some (.bool (decide p), false) := by kernel_rfl) : ¬ p := of_decide_eq_false (bfact st.inn k e)
end
theorem dL {ks : List Kd} {xs : List AV} {ls : List (Nat × Nat)} (hk : KdsL ks xs) {vs : List SV} {as : List AV} (h : dvL ks xs ls vs = some as := by kernel_rfl) : DL xs ls vs as := dlC hk h
theorem dE {ks : List Kd} {xs : List AV} {ls : List (Nat × Nat)} (hk : KdsL ks xs) {v : SV} {a : AV} (h : dv ks xs ls v = some a := by kernel_rfl) : D xs ls v a := dC hk h
theorem eC {ks : List Kd} {xs : List AV} {ls : List (Nat × Nat)} {E : Env} (hk : KdsL ks xs) {env : List (Nat × SV)} {sl : List (Nat × AV)} (hs : SlotsOk E sl) (h : envV ks xs ls env = some sl := by kernel_rfl) : EnvOk env xs ls E := envC hk h hs
theorem wR {H : AHeap} {l : Nat} {cs : List AV} {wr : Bool} (hg : H.get l = some (.row cs wr)) {ks : List Kd} {xs : List AV} {ls : List (Nat × Nat)} (hk : KdsL ks xs) {svs : List SV} (h : dvL ks xs ls svs = some cs := by kernel_rfl) : WinOk H xs ls ⟨l, 0, svs, false⟩ := win_row hg (dlC hk h)
theorem wO {H : AHeap} {l : Nat} {cs : List AV} (hg : H.get l = some (.row cs true)) {ks : List Kd} {xs : List AV} {ls : List (Nat × Nat)} (hk : KdsL ks xs) {svs : List SV} (h : dvL ks xs ls svs = some cs := by kernel_rfl) : WinOk H xs ls ⟨l, 0, svs, true⟩ := win_own hg (dlC hk h)
theorem apn {H : AHeap} {l p : Nat} {b : HB} (r : H.get l = some b) (h : H.next ≤ p) : Apart p l := ⟨Nat.ne_of_gt (Nat.lt_of_lt_of_le (H.lt_of_get r) h)⟩
end Go.Ab
end
/- Lists with so many elements. -/
section
namespace Go.Ab
end Go.Ab
end
