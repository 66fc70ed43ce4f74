/- All quiet operations. -/
import Derived.Test.YtgjhjemmddojfaaAb5
set_option linter.unusedVariables false
set_option linter.unusedSimpArgs false
namespace Go.Ab

section
variable {P : Program} {μ : Mu} {E : Env} {a : Act} {F : Nat → Prop} {H : AHeap} {w : World}

theorem fill_sound {place : Nat → Option (Nat × Nat)} : ∀ {ps : List (Nat × Operand)} {qs : List (Nat × Nat × Opd)} {cs ds : List AV} {vs : Array Value},
    ps.mapM (fun (i, x) => do let y ← cOpd x; let p ← place i; some (p.1, p.2, y)) = some qs → RE μ E a → RL μ cs vs.toList → fillA E cs qs = some ds →
    ∃ us : Array Value, Instr.fill place vs (ps.map fun (i, x) => (i, a.eval x)) = some us ∧ RL μ ds us.toList
  | [], qs, cs, ds, vs, hm, he, hr, hf => by
    simp at hm; subst hm
    simp [fillA] at hf; subst hf
    exact ⟨vs, rfl, hr⟩
  | (i, x) :: ps, qs, cs, ds, vs, hm, he, hr, hf => by
    simp only [List.mapM_cons, Option.bind_eq_bind, Option.bind_eq_some_iff, Option.pure_def, Option.some.injEq] at hm
    obtain ⟨q, ⟨y, hy, p, hp, rfl⟩, qs', hqs, rfl⟩ := hm
    simp only [fillA] at hf
    split at hf
    · rename_i ws hws
      split at hf
      · rename_i hl
        have hR := cells_R (cOpd_R hy he) hws
        have hsz : (a.eval x).cells.size = p.2 := by rw [← hl.1, hR.1]; simp
        have A1 : cs.length = vs.size := by rw [hr.1]; simp
        have A2 : ws.length = (a.eval x).cells.size := by rw [hR.1]; simp
        have A3 := hl.1
        have A4 := hl.2
        have hR2 : RL μ (laid cs p.1 ws) ((a.eval x).cells.zipIdx.foldl (fun cs (c, j) => cs.setIfInBounds (p.1 + j) c) vs).toList := by
          rw [← Array.foldl_toList, Array.toList_zipIdx, laid_foldl]
          simp only [Nat.add_zero]
          rw [List.take_of_length_le (by
            simp only [List.length_append, List.length_take, List.length_drop, Array.length_toList]
            omega)]
          exact laid_RL hr hR
        obtain ⟨us, h1, h2⟩ := fill_sound hqs he hR2 hf
        refine ⟨us, ?_, h2⟩
        simp only [List.map_cons, Instr.fill, hp]
        rw [if_neg (by
          simp only [Bool.or_eq_true, decide_eq_true_eq, not_or]
          constructor <;> omega)]
        exact h1
      · cases hf
    · cases hf

theorem zero_run {t : TypeId} {zs : List AV} (h : tyZero P t = some zs) : ∃ z, (zeroValue t).run P w = .ok z w ∧ RL μ zs z.cells.toList := by
  unfold tyZero at h
  split at h
  · rename_i z hz
    cases hi : P.info? t with
    | none => rw [hi] at hz; cases hz
    | some i =>
      rw [hi] at hz
      refine ⟨z, ?_, mapM_RL (fun v x => absCell_R) h⟩
      unfold zeroValue
      rw [bind_ok (run_info hi)]
      have : i.zero = some z := hz
      rw [this]; rfl
  · cases h

theorem mapM_run {α β : Type} {f : α → Option β} {g : α → Sem β} (hg : ∀ x y, f x = some y → (g x).run P w = .ok y w) : ∀ {xs : List α} {ys : List β}, xs.mapM f = some ys → (xs.mapM g).run P w = .ok ys w
  | [], ys, h => by simp at h; subst h; rfl
  | x :: xs, ys, h => by
    simp only [List.mapM_cons, Option.bind_eq_bind, Option.bind_eq_some_iff, Option.pure_def, Option.some.injEq] at h
    obtain ⟨y, hy, ys', hys, rfl⟩ := h
    rw [List.mapM_cons, bind_ok (hg x y hy), bind_ok (mapM_run hg hys)]; rfl

theorem mapM_two {f : Nat × Operand → Option (Nat × Nat × Opd)} {g : Nat × Operand → Option (Nat × Nat × Opd)} (hfg : ∀ x y, f x = some y → g x = some y) : ∀ {xs : List (Nat × Operand)} {ys}, xs.mapM f = some ys → xs.mapM g = some ys
  | [], ys, h => by simpa using h
  | x :: xs, ys, h => by
    simp only [List.mapM_cons, Option.bind_eq_bind, Option.bind_eq_some_iff, Option.pure_def, Option.some.injEq] at h ⊢
    obtain ⟨y, hy, ys', hys, rfl⟩ := h
    exact ⟨y, hfg x y hy, ys', mapM_two hfg hys, rfl⟩

/-- A float's bits in another width. -/
theorem f2f_sound {s k : FloatKind} {x : Option Nat} {y : Option Nat} (h : f2f s x k = some y) {b : Nat} (hb : b < 2 ^ s.format.width) (hx : nrm s b = x) : Gets P μ w (Conv.floatToFloat s b k) (.flt k y) := by
  unfold f2f at h
  split at h
  · cases h
    have hn := nrm_none hx
    obtain ⟨sg, fr, hd⟩ := isNaN_form hn
    unfold Conv.floatToFloat
    by_cases hsk : s = k
    · subst hsk
      simp only [if_true]
      exact Gets.pure (.flt hx hb)
    · rw [if_neg hsk, hd]
      have hc := run_choose (P := P) (w := w) (.nanConv k b) rfl
      refine ⟨_, _, ?_, .inr ⟨w.drawn + 1, rfl⟩, .flt (nanConv_cut k b (w.tape w.drawn (.nanConv k b))).1 (nanConv_cut k b (w.tape w.drawn (.nanConv k b))).2⟩
      rw [bind_ok' hc]; rfl
  · rename_i c
    obtain ⟨rfl, hn⟩ := nrm_some hx
    simp only [Option.map_eq_some_iff] at h
    obtain ⟨r, hr, rfl⟩ := h
    have hwf : r < 2 ^ k.format.width := by
      have := floatToFloatBits_wf (src := s) (dst := k) (by
        cases s
        · exact (show _ by simpa [Lit.wf] using (show c < 4294967296 from hb))
        · exact (show _ by simpa [Lit.wf] using (show c < 18446744073709551616 from hb))) hr
      cases k
      · exact (show r < 4294967296 by simpa [Lit.wf] using this)
      · exact (show r < 18446744073709551616 by simpa [Lit.wf] using this)
    unfold floatToFloatBits at hr
    unfold Conv.floatToFloat
    by_cases hsk : s = k
    · subst hsk
      simp only [if_true, Option.some.injEq] at hr ⊢
      subst hr
      exact Gets.pure (.flt hx hb)
    · rw [if_neg hsk] at hr ⊢
      split at hr
      · cases hr
      · rename_i sg hd
        cases hr
        rw [hd]
        exact Gets.pure (.flt (nrm_write k rfl) hwf)
      · rename_i sg m e hd
        split at hr
        · cases hr
        · rename_i ho
          cases hr
          rw [hd]
          simp only [ho, Bool.false_eq_true, if_false]
          exact Gets.pure (.flt (nrm_write k rfl) hwf)
  where
  bind_ok' {α β : Type} {P : Program} {s : Sem α} {f : α → Sem β} {w w' : World} {a : α} (h : s.run P w = .ok a w') : (s >>= f).run P w = (f a).run P w' := bind_ok h

theorem bytes_map : ∀ {cs : List AV} {bs : List UInt8} {us : List Value}, cs.mapM byteA = some bs → RL μ cs us → ∃ ns : List Int, us = ns.map (Value.int .u8) ∧ bs = ns.map fun n => UInt8.ofNat n.toNat
  | [], bs, us, h, hr => by simp at h; subst h; rw [hr.nil_inv]; exact ⟨[], rfl, rfl⟩
  | c :: cs, bs, us, h, hr => by
    simp only [List.mapM_cons, Option.bind_eq_bind, Option.bind_eq_some_iff, Option.pure_def, Option.some.injEq] at h
    obtain ⟨b, hb, bs', hbs, rfl⟩ := h
    obtain ⟨v, us', rfl, hR, hr'⟩ := hr.cons_inv
    obtain ⟨ns, rfl, rfl⟩ := bytes_map hbs hr'
    unfold byteA at hb
    split at hb
    · rename_i n
      cases hb
      obtain rfl := int_inv hR
      exact ⟨n :: ns, rfl, rfl⟩
    · cases hb

theorem push_bytes : ∀ (ns : List Int) (s : ByteArray), (ns.foldl (fun r n => r.push (UInt8.ofNat n.toNat)) s).data.toList = s.data.toList ++ ns.map fun n => UInt8.ofNat n.toNat
  | [], s => by simp
  | n :: ns, s => by rw [List.foldl_cons, push_bytes ns]; simp [ByteArray.push]

theorem conv_sound {src dst : TypeId} {x : Operand} {c : Cv} {y : Opd} (hc : comp P (.convert src dst x) = some (.conv c y)) {r : AV} (hv : convA c H.get (y.ev E) = some r) (hs : Sim F μ H w) (he : RE μ E a) :
    Gets P μ w (convert src dst (a.eval x)) r := by
  simp only [comp] at hc
  have hR : ∀ {z : Opd}, cOpd x = some z → R μ (z.ev E) (a.eval x) := fun h => cOpd_R h he
  split at hc
  · rename_i k0 k hu hu'
    simp only [Option.bind_eq_bind, Option.bind_eq_some_iff, Option.some.injEq, AOp.conv.injEq] at hc
    obtain ⟨z, hz, rfl, rfl⟩ := hc
    have hR := hR hz
    unfold convert
    refine Gets.bind (run_under hu) (Gets.bind (run_under hu') ?_)
    unfold convA at hv
    split at hv
    · rename_i e1 e2
      cases e1; cases hv
      rw [e2] at hR
      rw [int_inv hR]
      exact Gets.pure (.int _ _)
    · rename_i e1 e2
      cases e1; cases hv
      rw [e2] at hR
      obtain ⟨n, e3, _, _⟩ := nanbits_inv hR
      rw [e3]
      exact Gets.pure (.any _)
    all_goals first | (rename_i e1 e2; cases e1; done) | (rename_i e1; cases e1; done) | cases hv
  · rename_i k0 k hu hu'
    simp only [Option.bind_eq_bind, Option.bind_eq_some_iff, Option.some.injEq, AOp.conv.injEq] at hc
    obtain ⟨z, hz, rfl, rfl⟩ := hc
    have hR := hR hz
    unfold convert
    refine Gets.bind (run_under hu) (Gets.bind (run_under hu') ?_)
    unfold convA at hv
    split at hv
    all_goals first | (rename_i e1 e2; cases e1; done) | (rename_i e1; cases e1; done) | skip
    · rename_i e1 e2
      cases e1; cases hv
      rw [e2] at hR
      rw [int_inv hR]
      refine Gets.pure (.flt (nrm_write _ rfl) ?_)
      unfold FloatKind.nearest
      exact k.format.write_lt _
    · cases hv
  · rename_i k0 k hu hu'
    simp only [Option.bind_eq_bind, Option.bind_eq_some_iff, Option.some.injEq, AOp.conv.injEq] at hc
    obtain ⟨z, hz, rfl, rfl⟩ := hc
    have hR := hR hz
    unfold convA at hv
    split at hv
    all_goals first | (rename_i e1 e2; cases e1; done) | (rename_i e1; cases e1; done) | skip
    · rename_i e1 e2
      cases e1
      rw [e2] at hR
      obtain ⟨b, e3, hb, hl⟩ := flt_inv hR
      rw [e3]
      simp only [f2i, Option.map_eq_some_iff, Option.bind_eq_some_iff] at hv
      obtain ⟨n, ⟨b', hb', hn⟩, rfl⟩ := hv
      subst hb
      obtain ⟨rfl, _⟩ := nrm_some hb'
      exact ⟨_, w, run_convert_float_int w src dst _ k b' n (by rw [hu]; rfl) hu' hn, .inl rfl, .int _ _⟩
    · cases hv
  · rename_i k0 k hu hu'
    simp only [Option.bind_eq_bind, Option.bind_eq_some_iff, Option.some.injEq, AOp.conv.injEq] at hc
    obtain ⟨z, hz, rfl, rfl⟩ := hc
    have hR := hR hz
    unfold convert
    refine Gets.bind (run_under hu) (Gets.bind (run_under hu') ?_)
    unfold convA at hv
    split at hv
    all_goals first | (rename_i e1 e2; cases e1; done) | (rename_i e1; cases e1; done) | skip
    · rename_i e1 e2
      cases e1
      rw [e2] at hR
      obtain ⟨b, e3, hb, hl⟩ := flt_inv hR
      rw [e3]
      simp only [Option.map_eq_some_iff] at hv
      obtain ⟨y', hy', rfl⟩ := hv
      exact f2f_sound hy' hl hb
    · cases hv
  · rename_i e hu hu'
    split at hc
    · rename_i hue
      simp only [Option.bind_eq_bind, Option.bind_eq_some_iff, Option.some.injEq, AOp.conv.injEq] at hc
      obtain ⟨z, hz, rfl, rfl⟩ := hc
      have hR := hR hz
      unfold convert
      refine Gets.bind (run_under hu) (Gets.bind (run_under hu') ?_)
      have go : Gets P μ w (Conv.bytesToString (a.eval x)) r := by
        unfold convA at hv
        split at hv
        all_goals first | (rename_i e1 e2; cases e1; done) | (rename_i e1; cases e1; done) | skip
        · rename_i e1 e2
          cases hv
          rw [e2] at hR
          cases hR' : a.eval x <;> rw [hR'] at hR <;> cases hR
          exact Gets.pure (.str rfl)
        · rename_i l o n cp sz e1 e2
          rw [e2] at hR
          split at hv
          · rename_i hsz
            obtain ⟨rfl, hn0⟩ := hsz
            split at hv
            · rename_i cs wr hg
              split at hv
              · rename_i hon
                simp only [Option.map_eq_some_iff] at hv
                obtain ⟨bs, hbs, rfl⟩ := hv
                generalize a.eval x = v at hR
                generalize hsl : AV.slice l o n cp 1 = sl at hR
                cases hR with
                | @slice l' o' n' cp' sz' li ad hμ hb hsp ho hl hc' =>
                  cases hsl
                  have ho' : ad.off = li.base + o := ho.resolve_left (by omega)
                  have had : ad = ⟨li.blk, li.base + o, none⟩ := by cases ad; simp at *; simp [hb, ho', hsp]
                  subst had
                  obtain ⟨us, hul, hur, huc⟩ := row_cells hs hg hμ hon
                  obtain ⟨ns, rfl, rfl⟩ := bytes_map hbs hur
                  have hld := run_loadCells_at (P := P) huc
                  rw [hul] at hld
                  refine ⟨_, w, run_bytesToString w _ _ _ ns hld, .inl rfl, .str ?_⟩
                  rw [push_bytes]; rfl
                | slice0 p => cases hsl; omega
                | _ => cases hsl
              · cases hv
            · cases hv
          · split at hv
            · rename_i hn0
              cases hv
              subst hn0
              generalize a.eval x = v at hR
              generalize hsl : AV.slice l o 0 cp sz = sl at hR
              cases hR with
              | @slice l' o' n' cp' sz' li ad hμ hb hsp ho hl hc' =>
                cases hsl
                exact ⟨_, w, run_bytesToString w ad 0 cp [] rfl, .inl rfl, .str rfl⟩
              | slice0 p =>
                cases hsl
                cases p with
                | none => exact Gets.pure (.str rfl)
                | some ad => exact ⟨_, w, run_bytesToString w ad 0 0 [] rfl, .inl rfl, .str rfl⟩
              | _ => cases hsl
            · cases hv
        · cases hv
      generalize hv' : a.eval x = v at go hR
      cases v with
      | slice p n c =>
        simp only []
        refine Gets.bind (run_under hue) go
      | _ => exact (by
          obtain ⟨v', w', h1, _⟩ := go
          simp only [Conv.bytesToString] at h1
          cases h1)
    · cases hc
  · cases hc
end
end Go.Ab
