/- Contracts: the ground of a seat. -/
import Derived.Test.YtgjggkgafdnhcaaSxD
import Derived.Test.YtgjggkgafdnhcaaC
import Derived.Test.YtgjggkgafdnhcaaAbD
import Derived.Test.YtgjggkgafdnhcaaSxC
import Derived.Test.YtgjggkgafdnhcaaSxE
set_option linter.unusedVariables false
set_option linter.unusedSimpArgs false
namespace Go.Proofs.Ytgjggkgafdnhcaa
open Go.Ab
set_option maxRecDepth 100000
set_option maxHeartbeats 1000000
attribute [local irreducible] Res
theorem qIS (H:AHeap) (x:ON):zG Try.prog 42 [.flt .f32 x] H (yK x):=qJx Try.func42 kr kr kr kr x
def ap:List (Nat × Nat × List Kd × Kd):=[(42,0,[.flt .f32],.bits)]
def φ0:Nat->List AV->AV:=fun _ _=>.undef
theorem xC:qCf Try.prog φ0 ap:=.bits (fun x H _=>qIS H x) .nil
def pm:Pm:=⟨0,[],tb,ap,1000⟩
def pmR (fl:Nat) (ru:List (RK × SV)) (un:Nat):Pm:=⟨fl,ru,tb,ap,un⟩
theorem wI (n:Int) (h1:-9223372036854775808<=n) (h2:n<=9223372036854775807):IntKind.wrap .i64 n=n:=wrap_i64 h1 h2
theorem rC (fl un:Nat) (ws:List Win) (env:List (Nat × SV)) {ks:List Kd} {xs:List AV} {H:AHeap} {E:Env} {o:Pt} {Q:PK} (hk:KdsL ks xs) {sl:List (Nat × AV)} (hs:zJ E sl) (h:∀ p ∈ qJL (wK (pmR fl [] un) 20) (pmR fl [] un) o (qEb (nkA 0 ks) [] env ws),∀ vs ls H' E',Step (mH Try.prog φ0 xs ws H (pmR fl [] un).fl (pmR fl [] un).ru) (qEb (nkA 0 ks) [] env ws) xs (zQ ws) H p.2 vs ls H'->zB p.2.env vs ls E'->Res Try.prog p.1 Q E' H') (hw:WinL H xs (zQ ws) ws:=by exact wA) (hp:qAJ ws:=by first | exact kZ rfl | exact sd) (he:qJU ks xs (zQ ws) env=some sl:=by kernel_rfl):Res Try.prog o Q E H:=qFF 20 hk hw hp .nil (qKZ hk he hs) jR xC h
theorem rD (fl un:Nat) (ru:List (RK × SV)) (ws:List Win) (env:List (Nat × SV)) {ks:List Kd} {xs:List AV} {H:AHeap} {E:Env} {o:Pt} {Q:PK} (hk:KdsL ks xs) (hr:RuL (mH Try.prog φ0 xs ws H (pmR fl ru un).fl (pmR fl ru un).ru) (pmR fl ru un).ru) {sl:List (Nat × AV)} (hs:zJ E sl) (h:∀ p ∈ qJL (wK (pmR fl ru un) 20) (pmR fl ru un) o (qEb (nkA 0 ks) [] env ws),∀ vs ls H' E',Step (mH Try.prog φ0 xs ws H (pmR fl ru un).fl (pmR fl ru un).ru) (qEb (nkA 0 ks) [] env ws) xs (zQ ws) H p.2 vs ls H'->zB p.2.env vs ls E'->Res Try.prog p.1 Q E' H') (hw:WinL H xs (zQ ws) ws:=by exact wA) (hp:qAJ ws:=by first | exact kZ rfl | exact sd) (he:qJU ks xs (zQ ws) env=some sl:=by kernel_rfl):Res Try.prog o Q E H:=qFF 20 hk hw hp hr (qKZ hk he hs) jR xC h
theorem rF (fl un:Nat) (ru:List (RK × SV)) (ws:List Win) (env:List (Nat × SV)) {ks:List Kd} {xs:List AV} {H:AHeap} {E:Env} {o:Pt} {Q:PK} (hk:KdsL ks xs) (hw:WinL H xs (zQ ws) ws) (hr:RuL (mH Try.prog φ0 xs ws H (pmR fl ru un).fl (pmR fl ru un).ru) (pmR fl ru un).ru) {sl:List (Nat × AV)} (hs:zJ E sl) (h:∀ p ∈ qJL (wK (pmR fl ru un) 20) (pmR fl ru un) o (qEb (nkA 0 ks) [] env ws),∀ vs ls H' E',Step (mH Try.prog φ0 xs ws H (pmR fl ru un).fl (pmR fl ru un).ru) (qEb (nkA 0 ks) [] env ws) xs (zQ ws) H p.2 vs ls H'->zB p.2.env vs ls E'->Res Try.prog p.1 Q E' H') (hp:qAJ ws:=by first | exact kZ rfl | exact sd) (he:qJU ks xs (zQ ws) env=some sl:=by kernel_rfl):Res Try.prog o Q E H:=qFF 20 hk hw hp hr (qKZ hk he hs) jR xC h
theorem rG {t:List (Nat × AFun)} (tk:qAA Try.prog t) (fl un:Nat) (ru:List (RK × SV)) (ws:List Win) (env:List (Nat × SV)) {ks:List Kd} {xs:List AV} {H:AHeap} {E:Env} {o:Pt} {Q:PK} (hk:KdsL ks xs) (hw:WinL H xs (zQ ws) ws) (hr:RuL (mH Try.prog φ0 xs ws H (Pm.mk fl ru t ap un).fl (Pm.mk fl ru t ap un).ru) (Pm.mk fl ru t ap un).ru) {sl:List (Nat × AV)} (hs:zJ E sl) (h:∀ p ∈ qJL (wK (Pm.mk fl ru t ap un) 20) (Pm.mk fl ru t ap un) o (qEb (nkA 0 ks) [] env ws),∀ vs ls H' E',Step (mH Try.prog φ0 xs ws H (Pm.mk fl ru t ap un).fl (Pm.mk fl ru t ap un).ru) (qEb (nkA 0 ks) [] env ws) xs (zQ ws) H p.2 vs ls H'->zB p.2.env vs ls E'->Res Try.prog p.1 Q E' H') (hp:qAJ ws:=by first | exact kZ rfl | exact sd) (he:qJU ks xs (zQ ws) env=some sl:=by kernel_rfl):Res Try.prog o Q E H:=qFF 20 hk hw hp hr (qKZ hk he hs) tk xC h
def qBg (a b:Int):Int:=if a < b then -1 else if b < a then 1 else 0
def zD (a b c a' b' c' : Int):Int:=if qBg a a' ≠ 0 then qBg a a' else if qBg b b' ≠ 0 then qBg b b' else qBg c c'
def K3:List Kd:=[.int .i32,.int .i32,.int .i32]
theorem kd3 (a b c:Int):KdsL K3 [.int .i32 a,.int .i32 b,.int .i32 c]:=.cons kA (.cons kA (.cons kA .nil))
theorem qO (H:AHeap) (a b c a' b' c' : Int):zG Try.prog 22 [.agg [.int .i32 a,.int .i32 b,.int .i32 c],.agg [.int .i32 a',.int .i32 b',.int .i32 c']] H (.int .i64 (zD a b c a' b' c')):=by
 refine qLx (φ:=φ0) (pm:=pm) 20 rfl rfl jR xC wJ (gk:=[(true,K3),(true,K3)]) (.cons (kd3 a b c) (.cons (kd3 a' b' c') .nil)) (by decide) ?_
 refine qMh kr ?_ ?_ ?_ ?_ ?_ ?_ ?_
 ·-- 0: ret
  intro vs ls H' E' st hE
  have f0:(decide (a < a'))=true:=bf st 0
  refine rf st hE (.int .i64 (-1)) (st.kept.grew (Nat.zero_le _)) ?_
  clear st hE;simp only [decide_eq_true_eq,decide_eq_false_iff_not] at *;congr 1;simp only [zD,qBg];(repeat' split) <;> omega
 ·-- 1: ret
  intro vs ls H' E' st hE
  have f0:(decide (a' < a))=true:=bf st 0
  have f1:(decide (a < a'))=false:=bf st 1
  refine rf st hE (.int .i64 1) (st.kept.grew (Nat.zero_le _)) ?_
  clear st hE;simp only [decide_eq_true_eq,decide_eq_false_iff_not] at *;congr 1;simp only [zD,qBg];(repeat' split) <;> omega
 ·-- 2: ret
  intro vs ls H' E' st hE
  have f0:(decide (b < b'))=true:=bf st 0
  have f1:(decide (a' < a))=false:=bf st 1
  have f2:(decide (a < a'))=false:=bf st 2
  refine rf st hE (.int .i64 (-1)) (st.kept.grew (Nat.zero_le _)) ?_
  clear st hE;simp only [decide_eq_true_eq,decide_eq_false_iff_not] at *;congr 1;simp only [zD,qBg];(repeat' split) <;> omega
 ·-- 3: ret
  intro vs ls H' E' st hE
  have f0:(decide (b' < b))=true:=bf st 0
  have f1:(decide (b < b'))=false:=bf st 1
  have f2:(decide (a' < a))=false:=bf st 2
  have f3:(decide (a < a'))=false:=bf st 3
  refine rf st hE (.int .i64 1) (st.kept.grew (Nat.zero_le _)) ?_
  clear st hE;simp only [decide_eq_true_eq,decide_eq_false_iff_not] at *;congr 1;simp only [zD,qBg];(repeat' split) <;> omega
 ·-- 4: ret
  intro vs ls H' E' st hE
  have f0:(decide (c < c'))=true:=bf st 0
  have f1:(decide (b' < b))=false:=bf st 1
  have f2:(decide (b < b'))=false:=bf st 2
  have f3:(decide (a' < a))=false:=bf st 3
  have f4:(decide (a < a'))=false:=bf st 4
  refine rf st hE (.int .i64 (-1)) (st.kept.grew (Nat.zero_le _)) ?_
  clear st hE;simp only [decide_eq_true_eq,decide_eq_false_iff_not] at *;congr 1;simp only [zD,qBg];(repeat' split) <;> omega
 ·-- 5: ret
  intro vs ls H' E' st hE
  have f0:(decide (c' < c))=true:=bf st 0
  have f1:(decide (c < c'))=false:=bf st 1
  have f2:(decide (b' < b))=false:=bf st 2
  have f3:(decide (b < b'))=false:=bf st 3
  have f4:(decide (a' < a))=false:=bf st 4
  have f5:(decide (a < a'))=false:=bf st 5
  refine rf st hE (.int .i64 1) (st.kept.grew (Nat.zero_le _)) ?_
  clear st hE;simp only [decide_eq_true_eq,decide_eq_false_iff_not] at *;congr 1;simp only [zD,qBg];(repeat' split) <;> omega
 ·-- 6: ret
  intro vs ls H' E' st hE
  have f0:(decide (c' < c))=false:=bf st 0
  have f1:(decide (c < c'))=false:=bf st 1
  have f2:(decide (b' < b))=false:=bf st 2
  have f3:(decide (b < b'))=false:=bf st 3
  have f4:(decide (a' < a))=false:=bf st 4
  have f5:(decide (a < a'))=false:=bf st 5
  refine rf st hE (.int .i64 0) (st.kept.grew (Nat.zero_le _)) ?_
  clear st hE;simp only [decide_eq_true_eq,decide_eq_false_iff_not] at *;congr 1;simp only [zD,qBg];(repeat' split) <;> omega
theorem qAs (H:AHeap) (a b c a' b' c' : Int):zG Try.prog 15 [.agg [.int .i32 a,.int .i32 b,.int .i32 c],.agg [.int .i32 a',.int .i32 b',.int .i32 c']] H (.int .i64 (zD a b c a' b' c')):=by
 refine qLx (φ:=φ0) (pm:=pm) 20 rfl rfl jR xC dY (gk:=[(true,K3),(true,K3)]) (.cons (kd3 a b c) (.cons (kd3 a' b' c') .nil)) (by decide) ?_
 refine qMh kr ?_ ?_ ?_ ?_ ?_ ?_ ?_
 ·-- 0: ret
  intro vs ls H' E' st hE
  have f0:(decide (a < a'))=true:=bf st 0
  refine rf st hE (.int .i64 (-1)) (st.kept.grew (Nat.zero_le _)) ?_
  clear st hE;simp only [decide_eq_true_eq,decide_eq_false_iff_not] at *;congr 1;simp only [zD,qBg];(repeat' split) <;> omega
 ·-- 1: ret
  intro vs ls H' E' st hE
  have f0:(decide (a' < a))=true:=bf st 0
  have f1:(decide (a < a'))=false:=bf st 1
  refine rf st hE (.int .i64 1) (st.kept.grew (Nat.zero_le _)) ?_
  clear st hE;simp only [decide_eq_true_eq,decide_eq_false_iff_not] at *;congr 1;simp only [zD,qBg];(repeat' split) <;> omega
 ·-- 2: ret
  intro vs ls H' E' st hE
  have f0:(decide (b < b'))=true:=bf st 0
  have f1:(decide (a' < a))=false:=bf st 1
  have f2:(decide (a < a'))=false:=bf st 2
  refine rf st hE (.int .i64 (-1)) (st.kept.grew (Nat.zero_le _)) ?_
  clear st hE;simp only [decide_eq_true_eq,decide_eq_false_iff_not] at *;congr 1;simp only [zD,qBg];(repeat' split) <;> omega
 ·-- 3: ret
  intro vs ls H' E' st hE
  have f0:(decide (b' < b))=true:=bf st 0
  have f1:(decide (b < b'))=false:=bf st 1
  have f2:(decide (a' < a))=false:=bf st 2
  have f3:(decide (a < a'))=false:=bf st 3
  refine rf st hE (.int .i64 1) (st.kept.grew (Nat.zero_le _)) ?_
  clear st hE;simp only [decide_eq_true_eq,decide_eq_false_iff_not] at *;congr 1;simp only [zD,qBg];(repeat' split) <;> omega
 ·-- 4: ret
  intro vs ls H' E' st hE
  have f0:(decide (c < c'))=true:=bf st 0
  have f1:(decide (b' < b))=false:=bf st 1
  have f2:(decide (b < b'))=false:=bf st 2
  have f3:(decide (a' < a))=false:=bf st 3
  have f4:(decide (a < a'))=false:=bf st 4
  refine rf st hE (.int .i64 (-1)) (st.kept.grew (Nat.zero_le _)) ?_
  clear st hE;simp only [decide_eq_true_eq,decide_eq_false_iff_not] at *;congr 1;simp only [zD,qBg];(repeat' split) <;> omega
 ·-- 5: ret
  intro vs ls H' E' st hE
  have f0:(decide (c' < c))=true:=bf st 0
  have f1:(decide (c < c'))=false:=bf st 1
  have f2:(decide (b' < b))=false:=bf st 2
  have f3:(decide (b < b'))=false:=bf st 3
  have f4:(decide (a' < a))=false:=bf st 4
  have f5:(decide (a < a'))=false:=bf st 5
  refine rf st hE (.int .i64 1) (st.kept.grew (Nat.zero_le _)) ?_
  clear st hE;simp only [decide_eq_true_eq,decide_eq_false_iff_not] at *;congr 1;simp only [zD,qBg];(repeat' split) <;> omega
 ·-- 6: ret
  intro vs ls H' E' st hE
  have f0:(decide (c' < c))=false:=bf st 0
  have f1:(decide (c < c'))=false:=bf st 1
  have f2:(decide (b' < b))=false:=bf st 2
  have f3:(decide (b < b'))=false:=bf st 3
  have f4:(decide (a' < a))=false:=bf st 4
  have f5:(decide (a < a'))=false:=bf st 5
  refine rf st hE (.int .i64 0) (st.kept.grew (Nat.zero_le _)) ?_
  clear st hE;simp only [decide_eq_true_eq,decide_eq_false_iff_not] at *;congr 1;simp only [zD,qBg];(repeat' split) <;> omega
theorem qGN (a b c a' b' c' : Int):(zD a b c a' b' c'<=0) ↔ (0<=zD a' b' c' a b c):=by
 simp only [zD,qBg]
 (repeat' split) <;> omega
def KM:List Kd:=[.int .i32,.int .i32,.int .i32,.flt .f32,.flt .f32,.flt .f32,.flt .f32,.int .i64,.int .i64]
theorem qCI (x:ON) (h:fOk .f32 x):∃ b:Bool,∀ H,zG Try.prog 45 [.flt .f32 x] H (.bool b)/\zG Try.prog 40 [.flt .f32 x] H (.bool b):=by
 obtain⟨r,h1,_,h2⟩:=qHJ (φ:=φ0) (pm:=pm) 20 (sh:=.k .bool) (f:=45) (g:=40) rfl rfl jR xC (gk:=[(false,[.flt .f32])]) (gv:=[(false,[.flt .f32 x])]) (.cons (.cons (kF h) .nil) .nil) (by decide) kr
 obtain⟨b,rfl⟩:=qEZ h1
 exact⟨b,h2⟩
theorem uB (m:List AV) (hm:KdsL KM m):∃ b:Bool,(∀ H,zG Try.prog 46 [.agg m] H (.bool b)) /\ ∀ (H:AHeap) (l off:Nat) (pre post:List AV) (wr:Bool),H.get l=some (.row (pre ++ (m ++ post)) wr)->pre.length=off->zG Try.prog 41 [.ptr l off] H (.bool b):=by
 obtain⟨r,h1,_,h2,h3⟩:=qHK (φ:=φ0) 20 (sh:=.k .bool) (f:=46) (g:=41) jR xC hm (by decide) kr
 obtain⟨b,rfl⟩:=qEZ h1
 exact⟨b,h2,h3⟩
open Classical in
noncomputable def qAK (x:ON):Bool:=if h:fOk .f32 x then Classical.choose (qCI x h) else false
theorem qFt (x:ON) (h:fOk .f32 x) (H:AHeap):zG Try.prog 45 [.flt .f32 x] H (.bool (qAK x)):=by
 unfold qAK;rw [dif_pos h];exact(Classical.choose_spec (qCI x h) H).1
theorem qHl (x:ON) (h:fOk .f32 x) (H:AHeap):zG Try.prog 40 [.flt .f32 x] H (.bool (qAK x)):=by
 unfold qAK;rw [dif_pos h];exact(Classical.choose_spec (qCI x h) H).2
open Classical in
noncomputable def pD (m:List AV):Bool:=if h:KdsL KM m then Classical.choose (uB m h) else false
theorem qBq (m:List AV) (h:KdsL KM m) (H:AHeap):zG Try.prog 46 [.agg m] H (.bool (pD m)):=by
 unfold pD;rw [dif_pos h];exact(Classical.choose_spec (uB m h)).1 H
theorem qDR (m:List AV) (h:KdsL KM m) {H:AHeap} {l off:Nat} {pre post:List AV} {wr:Bool} (hg:H.get l=some (.row (pre ++ (m ++ post)) wr)) (hp:pre.length=off):zG Try.prog 41 [.ptr l off] H (.bool (pD m)):=by
 unfold pD;rw [dif_pos h];exact(Classical.choose_spec (uB m h)).2 H l off pre post wr hg hp
theorem zR {m:List AV} (h:KdsL KM m):∃ (v0:Int) (v1:Int) (v2:Int) (v3:ON) (v4:ON) (v5:ON) (v6:ON) (v7:Int) (v8:Int),m=[.int .i32 v0,.int .i32 v1,.int .i32 v2,.flt .f32 v3,.flt .f32 v4,.flt .f32 v5,.flt .f32 v6,.int .i64 v7,.int .i64 v8]/\fOk .f32 v3/\fOk .f32 v4/\fOk .f32 v5/\fOk .f32 v6:=by
 cases h with
 | cons g0 h=>cases h with
 | cons g1 h=>cases h with
 | cons g2 h=>cases h with
 | cons g3 h=>cases h with
 | cons g4 h=>cases h with
 | cons g5 h=>cases h with
 | cons g6 h=>cases h with
 | cons g7 h=>cases h with
 | cons g8 h=>cases h with
 | nil =>
 obtain⟨v0,rfl⟩:=g0
 obtain⟨v1,rfl⟩:=g1
 obtain⟨v2,rfl⟩:=g2
 obtain⟨v3,rfl,o3⟩:=g3
 obtain⟨v4,rfl,o4⟩:=g4
 obtain⟨v5,rfl,o5⟩:=g5
 obtain⟨v6,rfl,o6⟩:=g6
 obtain⟨v7,rfl⟩:=g7
 obtain⟨v8,rfl⟩:=g8
 exact⟨_,_,_,_,_,_,_,_,_,rfl,o3,o4,o5,o6⟩
theorem qHo (H:AHeap) (ms:LL) (S:AV) (hS:SlL H 9 ms S) (left:Int) (h0:0<=left) (h1:left<=4611686018427387904) (hm:ms.length<=9223372036854775807):zG Try.prog 13 [S,.int .i64 left] H (.int .i64 (if left - ms.length < 0 then -1 else left - ms.length)):=by
 have hw:IntKind.i64.wrap (left - (ms.length:Int))=left - ms.length:=wrap_i64 om om
 refine qN tX (by simp) ?_
 refine jB (φ:=φ0) (pm:=pmR 0 [(.len (.nd 0 .one),.nd 1 (.int .i64))] 0) 20 (nk:=[(.atom 0,.one),(.atom 1,.int .i64),(.atom 2,.int .i64)]) (fs:=[]) (xs:=[S,.int .i64 (ms.length:Int),.int .i64 left]) (ws:=[]) (env:=[(0,.nd 0 .one),(1,.nd 2 (.int .i64))]) ?_ ?_ jR xC ?_
 ·refine zC ?_ .nil _ .nil trivial ?_
  ·exact .cons rfl (jD hS) (.cons rfl ⟨_,rfl⟩ (.cons rfl ⟨_,rfl⟩ .nil))
  ·exact .cons ⟨_,_,dNd rfl (jD hS),dNd rfl ⟨_,rfl⟩,gB hS⟩ .nil
 ·exact jC rfl rfl (jD hS) (jC rfl rfl ⟨_,rfl⟩ zY)
 refine vI kr ?_ ?_
 ·intro vs ls H' E' st hE
  have f0:decide (IntKind.i64.wrap (left - (ms.length:Int)) < 0)=true:=bf st 0
  refine rf st hE (.int .i64 (-1)) (gk st) ?_
  rw [hw] at f0;rw [if_pos (of_decide_eq_true f0)]
 ·intro vs ls H' E' st hE
  have f0:decide (IntKind.i64.wrap (left - (ms.length:Int)) < 0)=false:=bf st 0
  refine rf st hE (.int .i64 (IntKind.i64.wrap (left - (ms.length:Int)))) (gk st) ?_
  rw [hw] at f0 ⊢;rw [if_neg (of_decide_eq_false f0)]
theorem qHp (H:AHeap) (ms:LL) (hr:qL KM ms) (S:AV) (hS:SlL H 9 ms S) (hmax:ms.length<=1048576):qK Try.prog 17 [S] H fun r H'=>Grew H H' /\ ∃ l,H.next<=l/\r=.slice l 0 ms.length ms.length 9/\H'.get l=some (.row ms.flatten true):=by
 refine qN tY (by simp) ?_
 refine jB (φ:=φ0) (pm:=pmR 0 [(.len (.nd 0 .one),.nd 1 (.int .i64))] 0) 20 (nk:=[(.atom 0,.one),(.atom 1,.int .i64)]) (fs:=[]) (xs:=[S,.int .i64 (ms.length:Int)]) (ws:=[]) (env:=[(0,.nd 0 .one)]) ?_ ?_ jR xC ?_
 ·refine zC ?_ .nil _ .nil trivial ?_
  ·exact .cons rfl (jD hS) (.cons rfl ⟨_,rfl⟩ .nil)
  ·exact .cons ⟨_,_,dNd rfl (jD hS),dNd rfl ⟨_,rfl⟩,gB hS⟩ .nil
 ·exact jC rfl rfl (jD hS) zY
 refine qM kr fun vs ls H1 E1 st hE=>?_
 have a0:E1 0=S:=qW st.inn hE 0 kr
 have a6:E1 6=.int .i64 (ms.length:Int):=qW st.inn hE 6 kr
 have g1:Grew H H1:=(gk st)
 refine qLs (d:=some 7) (sz:=9) (bytes:=48) (zs:=[.int .i32 0,.int .i32 0,.int .i32 0,.flt .f32 (some 0),.flt .f32 (some 0),.flt .f32 (some 0),.flt .f32 (some 0),.int .i64 0,.int .i64 0]) (x:=.tmp 6) (y:=.tmp 6) kr (n:=ms.length) a6 a6 om om ?_
 have hlo:H.next<=H1.next:=g1.next
 have g2:Grew H (H1.new (.row (List.replicate ms.length ([.int .i32 0,.int .i32 0,.int .i32 0,.flt .f32 (some 0),.flt .f32 (some 0),.flt .f32 (some 0),.flt .f32 (some 0),.int .i64 0,.int .i64 0]:List AV)).flatten true)):=g1.new _
 have hrow:(H1.new (.row (List.replicate ms.length ([.int .i32 0,.int .i32 0,.int .i32 0,.flt .f32 (some 0),.flt .f32 (some 0),.flt .f32 (some 0),.flt .f32 (some 0),.int .i64 0,.int .i64 0]:List AV)).flatten true)).get H1.next=some (.row (List.replicate ms.length ([.int .i32 0,.int .i32 0,.int .i32 0,.flt .f32 (some 0),.flt .f32 (some 0),.flt .f32 (some 0),.flt .f32 (some 0),.int .i64 0,.int .i64 0]:List AV)).flatten true):=qGc rfl
 refine jB (φ:=φ0) (pm:=pmR 0 [] 0) 20 (nk:=[(.atom 0,.one),(.atom 1,.one)]) (fs:=[]) (xs:=[S,.slice H1.next 0 ms.length ms.length 9]) (ws:=[]) (env:=[(0,.nd 0 .one),(7,.nd 1 .one)]) ?_ ?_ jR xC ?_
 ·exact zC (by exact .cons rfl (jD hS) (.cons rfl rfl .nil)) .nil _ .nil trivial .nil
 ·exact jC (by rw [Env.put_some];simpa using a0) rfl (jD hS) (jC (by rw [Env.put_some];simp) rfl rfl zY)
 generalize H1.new (.row (List.replicate ms.length ([.int .i32 0,.int .i32 0,.int .i32 0,.flt .f32 (some 0),.flt .f32 (some 0),.flt .f32 (some 0),.flt .f32 (some 0),.int .i64 0,.int .i64 0]:List AV)).flatten true)=HA at g2 hrow ⊢
 generalize H1.next=lo at hlo hrow ⊢
 clear g1 a0 a6
 refine qM kr fun vs ls H2 E2 st hE=>?_
 have b0:=eo st hE 0 S
 have b3:=eo st hE 3 (.slice lo 0 ms.length ms.length 9)
 have b4:=eo st hE 4 (.int .i64 ((0:Nat):Int))
 have g3:Grew HA H2:=(gk st)
 refine zE kr (fun k E H'=>∃ i,k+i=ms.length/\E 0=S/\E 3=.slice lo 0 ms.length ms.length 9/\E 4=.int .i64 (i:Int)/\Grew H H'/\H'.get lo=some (.row ((ms.take i).flatten ++ (List.replicate (ms.length - i) ([.int .i32 0,.int .i32 0,.int .i32 0,.flt .f32 (some 0),.flt .f32 (some 0),.flt .f32 (some 0),.flt .f32 (some 0),.int .i64 0,.int .i64 0]:List AV)).flatten) true)) ms.length
  ⟨0,by omega,b0,b3,b4,g2.trans g3,by rw [g3.at hrow];simp⟩ ?_
 clear b0 b3 b4 g3 g2 hrow
 rintro k E3 H3 ⟨i,hk,c0,c3,c4,g4,hrow⟩
 have hso:=jD hS
 rcases Nat.lt_or_ge i ms.length with hlt | hge
 ·cases hS with
  | nil h=>rw [h] at hlt;simp at hlt
  | @sl ls0 n cap rest wr2 hgS hn hc =>
   have hgS2:=g4.at hgS
   subst hn
   obtain⟨v0,v1,v2,v3,v4,v5,v6,v7,v8,hm,o3,o4,o5,o6⟩:=zR (hr.get hlt)
   refine jB (φ:=φ0) (pm:=pmR 1 [(.len (.nd 0 .one),.nd 1 (.int .i64)),(.ia 9 (.nd 0 .one) (.nd 2 (.int .i64)),.ptr 0 0),(.ia 9 (.nd 3 .one) (.nd 2 (.int .i64)),.nd 4 .one)] 0) 20
    (nk:=[(.atom 0,.one),(.atom 1,.int .i64),(.atom 2,.int .i64),(.atom 3,.one),(.atom 4,.one)] ++ ([(.atom 5,.int .i32),(.atom 6,.int .i32),(.atom 7,.int .i32),(.atom 8,.flt .f32),(.atom 9,.flt .f32),(.atom 10,.flt .f32),(.atom 11,.flt .f32),(.atom 12,.int .i64),(.atom 13,.int .i64)] ++ [(.bin .lss (.nd 2 (.int .i64)) (.nd 1 (.int .i64)),.bool)])) (fs:=[(14,true)])
    (xs:=[.slice ls0 0 ms.length cap 9,.int .i64 (ms.length:Int),.int .i64 (i:Int),.slice lo 0 ms.length ms.length 9,.ptr lo (i * 9),.int .i32 v0,.int .i32 v1,.int .i32 v2,.flt .f32 v3,.flt .f32 v4,.flt .f32 v5,.flt .f32 v6,.int .i64 v7,.int .i64 v8,.bool true]) (ws:=[⟨ls0,i * 9,nds 5 KM,false⟩]) (env:=[(0,.nd 0 .one),(3,.nd 3 .one),(4,.nd 2 (.int .i64))]) ?_ ?_ jR xC ?_
   ·refine zC ?_ ?_ _ ?_ ?_ ?_
    ·refine .cons rfl rfl (.cons rfl ⟨_,rfl⟩ (.cons rfl ⟨_,rfl⟩ (.cons rfl rfl (.cons rfl rfl ?_))))
     (repeat (first | exact .nil | refine .cons rfl ⟨_,rfl⟩ ?_ | refine .cons rfl ⟨_,rfl,by assumption⟩ ?_ | refine .cons rfl am ?_))
     refine .cons ⟨_,_,dNd rfl ⟨_,rfl⟩,dNd rfl ⟨_,rfl⟩,?_⟩ ⟨_,rfl⟩ .nil
     show some (AV.bool (decide ((i:Int) < (ms.length:Int))))=_
     rw [decide_eq_true om]
    ·exact .cons rfl .nil
    ·exact .cons (qA hr hgS2 hlt rfl (by rw [hm];exact(by repeat (first | exact zA | refine qB (dNd rfl ⟨_,rfl⟩) ?_ | refine qB (dNd rfl ⟨_,rfl,by assumption⟩) ?_ | refine qB (dNd rfl am) ?_)))) .nil
    ·exact⟨fun v hv=>(by cases hv),trivial⟩
    ·exact .cons (jL (o:=0) (dNd rfl rfl) (dNd rfl ⟨_,rfl⟩)) (.cons (zV (k:=i) (dNd rfl rfl) (dNd rfl ⟨_,rfl⟩) om rfl) (.cons (qJj (k:=i) (dNd rfl rfl) (dNd rfl ⟨_,rfl⟩) om (dNd rfl rfl)) .nil))
   ·exact jC c0 rfl rfl (jC c3 rfl rfl (jC c4 rfl ⟨_,rfl⟩ zY))
   ·refine qM kr fun vs ls H4 E4 st hE=>?_
    have d0:E4 0=.slice ls0 0 ms.length cap 9:=qW st.inn hE 0 kr
    have d3:E4 3=.slice lo 0 ms.length ms.length 9:=qW st.inn hE 3 kr
    have d4:E4 4=.int .i64 (i:Int):=qW st.inn hE 4 kr
    have d20:E4 20=.agg [.int .i32 v0,.int .i32 v1,.int .i32 v2,.flt .f32 v3,.flt .f32 v4,.flt .f32 v5,.flt .f32 v6,.int .i64 v7,.int .i64 v8]:=qW st.inn hE 20 kr
    have d21:E4 21=.ptr lo (i * 9):=qW st.inn hE 21 kr
    have g5:Grew H3 H4:=(gk st)
    have hpl:(ms.take i).flatten.length=i * 9:=wT hr.len (Nat.le_of_lt hlt)
    have hk' : ms.length - i=(ms.length - (i+1))+1:=by omega
    rw [hk'] at hrow
    have hl0:i * 9+9<=((ms.take i).flatten ++ (List.replicate (ms.length - (i+1)+1) ([.int .i32 0,.int .i32 0,.int .i32 0,.flt .f32 (some 0),.flt .f32 (some 0),.flt .f32 (some 0),.flt .f32 (some 0),.int .i64 0,.int .i64 0]:List AV)).flatten).length:=by
     rw [List.length_append,hpl,List.replicate_succ,List.flatten_cons,List.length_append];simp only [List.length_cons,List.length_nil];omega
    refine qEn (d:=none) (n:=9) (x:=.tmp 21) (y:=.tmp 20) kr (vs:=ms[i]) d21 (g5.at hrow) (by show AV.cells (E4 20)=_;rw [d20,hm];rfl) (by rw [hm];rfl) hl0 (by rw [hm];rfl) ?_
    rw [qHu hpl (by rw [hm];rfl) rfl,<- qCe hlt]
    have g6:Grew H (H4.put lo (.row ((ms.take (i+1)).flatten ++ (List.replicate (ms.length - (i+1)) ([.int .i32 0,.int .i32 0,.int .i32 0,.flt .f32 (some 0),.flt .f32 (some 0),.flt .f32 (some 0),.flt .f32 (some 0),.int .i64 0,.int .i64 0]:List AV)).flatten) true)):=(g4.trans g5).put hlo _
    have hrow2:=cO (H:=H4) (b:=.row ((ms.take (i+1)).flatten ++ (List.replicate (ms.length - (i+1)) ([.int .i32 0,.int .i32 0,.int .i32 0,.flt .f32 (some 0),.flt .f32 (some 0),.flt .f32 (some 0),.flt .f32 (some 0),.int .i64 0,.int .i64 0]:List AV)).flatten) true) (l':=lo) rfl (H4.lt_of_get (g5.at hrow))
    generalize H4.put lo (.row ((ms.take (i+1)).flatten ++ (List.replicate (ms.length - (i+1)) ([.int .i32 0,.int .i32 0,.int .i32 0,.flt .f32 (some 0),.flt .f32 (some 0),.flt .f32 (some 0),.flt .f32 (some 0),.int .i64 0,.int .i64 0]:List AV)).flatten) true)=HB at g6 hrow2 ⊢
    refine jB (φ:=φ0) (pm:=pmR 0 [] 0) 20 (nk:=[(.atom 0,.one),(.atom 1,.one),(.atom 2,.int .i64)]) (fs:=[]) (xs:=[.slice ls0 0 ms.length cap 9,.slice lo 0 ms.length ms.length 9,.int .i64 (i:Int)]) (ws:=[]) (env:=[(0,.nd 0 .one),(3,.nd 1 .one),(4,.nd 2 (.int .i64))]) ?_ ?_ jR xC ?_
    ·exact zC (by exact .cons rfl rfl (.cons rfl rfl (.cons rfl ⟨_,rfl⟩ .nil))) .nil _ .nil trivial .nil
    ·exact jC d0 rfl rfl (jC d3 rfl rfl (jC d4 rfl ⟨_,rfl⟩ zY))
    ·refine qM kr fun vs ls H5 E5 st hE=>?_
     have g7:Grew HB H5:=(gk st)
     refine qP kr ⟨k - 1,by omega,i+1,by omega,qW st.inn hE 0 kr,qW st.inn hE 3 kr,?_,g6.trans g7,g7.at hrow2⟩
     have:=qW st.inn hE 4 (a:=.int .i64 (IntKind.i64.wrap ((i:Int)+1))) kr
     rw [this,wrap64 om]
 ·obtain rfl:i=ms.length:=by omega
  refine jB (φ:=φ0) (pm:=pmR 0 [(.len (.nd 0 .one),.nd 1 (.int .i64))] 0) 20 (nk:=[(.atom 0,.one),(.atom 1,.int .i64),(.atom 2,.int .i64),(.atom 3,.one),(.bin .lss (.nd 2 (.int .i64)) (.nd 1 (.int .i64)),.bool)]) (fs:=[(4,false)])
   (xs:=[S,.int .i64 (ms.length:Int),.int .i64 (ms.length:Int),.slice lo 0 ms.length ms.length 9,.bool false]) (ws:=[]) (env:=[(0,.nd 0 .one),(3,.nd 3 .one),(4,.nd 2 (.int .i64))]) ?_ ?_ jR xC ?_
  ·refine zC ?_ ?_ _ .nil trivial ?_
   ·refine .cons rfl hso (.cons rfl ⟨_,rfl⟩ (.cons rfl ⟨_,rfl⟩ (.cons rfl rfl (.cons ⟨_,_,dNd rfl ⟨_,rfl⟩,dNd rfl ⟨_,rfl⟩,?_⟩ ⟨_,rfl⟩ .nil))))
    show some (AV.bool (decide ((ms.length:Int) < (ms.length:Int))))=_
    rw [decide_eq_false om]
   ·exact .cons rfl .nil
   ·exact .cons ⟨_,_,dNd rfl hso,dNd rfl ⟨_,rfl⟩,gB hS⟩ .nil
  ·exact jC c0 rfl hso (jC c3 rfl rfl (jC c4 rfl ⟨_,rfl⟩ zY))
  ·refine qM kr fun vs ls H4 E4 st hE=>?_
   have d3:E4 3=.slice lo 0 ms.length ms.length 9:=qW st.inn hE 3 kr
   have g5:Grew H3 H4:=(gk st)
   refine qQ (id:=0) kr ?_
   refine jB (φ:=φ0) (pm:=pmR 0 [] 0) 20 (nk:=[(.atom 0,.one)]) (fs:=[]) (xs:=[.slice lo 0 ms.length ms.length 9]) (ws:=[]) (env:=[(3,.nd 0 .one)]) (zC (by exact .cons rfl rfl .nil) .nil _ .nil trivial .nil) (jC d3 rfl rfl zY) jR xC ?_
   refine qM kr fun vs ls H5 E5 st hE=>?_
   have g6:Grew H4 H5:=(gk st)
   refine zF kr (qS st.inn hE (.inr rfl) (a:=.slice lo 0 ms.length ms.length 9) kr ((g4.trans g5).trans g6).next ⟨(g4.trans g5).trans g6,lo,hlo,rfl,?_⟩)
   rw [(g5.trans g6).at hrow,List.take_length,Nat.sub_self];simp
theorem qIT (m:List AV) (hm:KdsL KM m) (H:AHeap):zG Try.prog 39 [.agg m,.agg m] H (.bool true):=by
 have hd:=qBy hm [] [] 0 rfl
 simp only [List.nil_append,List.append_nil] at hd
 exact qFu (φ:=φ0) (pm:=pm) 20 rfl rfl jR xC hm (qB (mV hd) (qB (mV hd) zA)) kr H
theorem qHg (H:AHeap) (ms:LL) (hr:qL KM ms) (S S' : AV) (hS:SlL H 9 ms S) (hS' : SlL H 9 ms S') (hmax:ms.length < 2^40):zG Try.prog 25 [S,S'] H (.bool true):=by
 refine qN tW (by simp) ?_
 refine jB (φ:=φ0) (pm:=pmR 0 [(.len (.nd 0 .one),.nd 2 (.int .i64)),(.len (.nd 1 .one),.nd 2 (.int .i64))] 0) 20 (nk:=[(.atom 0,.one),(.atom 1,.one),(.atom 2,.int .i64)]) (fs:=[]) (xs:=[S,S',.int .i64 (ms.length:Int)]) (ws:=[]) (env:=[(0,.nd 0 .one),(1,.nd 1 .one)]) ?_ ?_ jR xC ?_
 ·refine zC ?_ .nil _ .nil trivial ?_
  ·exact .cons rfl (jD hS) (.cons rfl (jD hS') (.cons rfl ⟨_,rfl⟩ .nil))
  ·exact .cons ⟨_,_,dNd rfl (jD hS),dNd rfl ⟨_,rfl⟩,gB hS⟩ (.cons ⟨_,_,dNd rfl (jD hS'),dNd rfl ⟨_,rfl⟩,gB hS'⟩ .nil)
 ·exact jC rfl rfl (jD hS) (jC rfl rfl (jD hS') zY)
 refine qM kr fun vs ls H1 E1 st hE=>?_
 have a0:E1 0=S:=qW st.inn hE 0 kr
 have a1:E1 1=S':=qW st.inn hE 1 kr
 have a5:E1 5=.int .i64 ((0:Nat):Int):=qW st.inn hE 5 kr
 have g1:Grew H H1:=(gk st)
 refine qAZ kr [(0,S),(1,S')] 5 ms.length (fun _=>True) (.cons a0 (.cons a1 .nil)) a5 g1 trivial ?_
 intro i hi _ E2 H2 hs h5 hg2
 have b0:=hs.head
 have b1:=hs.tail.head
 have hso:=jD hS
 have hso':=jD hS'
 rcases Nat.lt_or_ge i ms.length with hlt | hge
 ·cases hS with
  | nil h=>rw [h] at hlt;simp at hlt
  | @sl ls0 n cap rest wr2 hgS hn hc =>
   cases hS' with
   | nil h=>rw [h] at hlt;simp at hlt
   | @sl ls1 n' cap' rest' wr2' hgS' hn' hc' =>
    have hgS2:=hg2.at hgS
    have hgS2':=hg2.at hgS'
    subst hn
    subst hn'
    obtain⟨v0,v1,v2,v3,v4,v5,v6,v7,v8,hm,o3,o4,o5,o6⟩:=zR (hr.get hlt)
    have heq:=qIT ms[i] (hr.get hlt)
    refine jB (φ:=φ0) (pm:=pmR 2 [(.len (.nd 0 .one),.nd 1 (.int .i64)),(.ia 9 (.nd 0 .one) (.nd 2 (.int .i64)),.ptr 0 0),(.ia 9 (.nd 3 .one) (.nd 2 (.int .i64)),.ptr 1 0),(.call 39 [.agg (nds 4 KM),.agg (nds 4 KM)],.lit (.bool true))] 0) 20
     (nk:=[(.atom 0,.one),(.atom 1,.int .i64),(.atom 2,.int .i64),(.atom 3,.one)] ++ ([(.atom 4,.int .i32),(.atom 5,.int .i32),(.atom 6,.int .i32),(.atom 7,.flt .f32),(.atom 8,.flt .f32),(.atom 9,.flt .f32),(.atom 10,.flt .f32),(.atom 11,.int .i64),(.atom 12,.int .i64)] ++ [(.bin .lss (.nd 2 (.int .i64)) (.nd 1 (.int .i64)),.bool)])) (fs:=[(13,true)])
     (xs:=[.slice ls0 0 ms.length cap 9,.int .i64 (ms.length:Int),.int .i64 (i:Int),.slice ls1 0 ms.length cap' 9,.int .i32 v0,.int .i32 v1,.int .i32 v2,.flt .f32 v3,.flt .f32 v4,.flt .f32 v5,.flt .f32 v6,.int .i64 v7,.int .i64 v8,.bool true]) (ws:=[⟨ls0,i * 9,nds 4 KM,false⟩,⟨ls1,i * 9,nds 4 KM,false⟩]) (env:=[(0,.nd 0 .one),(1,.nd 3 .one),(5,.nd 2 (.int .i64))]) ?_ ?_ jR xC ?_
    ·refine zC ?_ ?_ _ ?_ ?_ ?_
     ·refine .cons rfl rfl (.cons rfl ⟨_,rfl⟩ (.cons rfl ⟨_,rfl⟩ (.cons rfl rfl ?_)))
      (repeat (first | exact .nil | refine .cons rfl ⟨_,rfl⟩ ?_ | refine .cons rfl ⟨_,rfl,by assumption⟩ ?_ | refine .cons rfl am ?_))
      refine .cons ⟨_,_,dNd rfl ⟨_,rfl⟩,dNd rfl ⟨_,rfl⟩,?_⟩ ⟨_,rfl⟩ .nil
      show some (AV.bool (decide ((i:Int) < (ms.length:Int))))=_
      rw [decide_eq_true om]
     ·exact .cons rfl .nil
     ·exact .cons (qA hr hgS2 hlt rfl (by rw [hm];exact(by repeat (first | exact zA | refine qB (dNd rfl ⟨_,rfl⟩) ?_ | refine qB (dNd rfl ⟨_,rfl,by assumption⟩) ?_ | refine qB (dNd rfl am) ?_)))) (.cons (qA hr hgS2' hlt rfl (by rw [hm];exact(by repeat (first | exact zA | refine qB (dNd rfl ⟨_,rfl⟩) ?_ | refine qB (dNd rfl ⟨_,rfl,by assumption⟩) ?_ | refine qB (dNd rfl am) ?_)))) .nil)
     ·exact⟨fun v hv h=>(by simp at hv;subst hv;simp at h),⟨fun v hv=>(by cases hv),trivial⟩⟩
     ·exact .cons (jL (o:=0) (dNd rfl rfl) (dNd rfl ⟨_,rfl⟩)) (.cons (zV (k:=i) (dNd rfl rfl) (dNd rfl ⟨_,rfl⟩) om rfl) (.cons (zV (k:=i) (dNd rfl rfl) (dNd rfl ⟨_,rfl⟩) om rfl)
       (.cons (qI (args:=[.agg ms[i],.agg ms[i]]) (qB (mV (by rw [hm];exact(by repeat (first | exact zA | refine qB (dNd rfl ⟨_,rfl⟩) ?_ | refine qB (dNd rfl ⟨_,rfl,by assumption⟩) ?_ | refine qB (dNd rfl am) ?_)))) (qB (mV (by rw [hm];exact(by repeat (first | exact zA | refine qB (dNd rfl ⟨_,rfl⟩) ?_ | refine qB (dNd rfl ⟨_,rfl,by assumption⟩) ?_ | refine qB (dNd rfl am) ?_)))) zA)) (qDo rfl) (fun H3 _=>heq H3)) .nil)))
    ·exact jC b0 rfl rfl (jC b1 rfl rfl (jC h5 rfl ⟨_,rfl⟩ zY))
    ·refine qM kr fun vs ls H4 E4 st hE=>?_
     exact pX (sl:=[(0,.slice ls0 0 ms.length cap 9),(1,.slice ls1 0 ms.length cap' 9)]) (ti:=5) (i:=i) (Inv:=fun _=>True) kr st.inn hE hlt kr (w:=IntKind.i64.wrap ((i:Int)+1)) kr (wrap64 om) (hg2.trans (gk st)) trivial
 ·obtain rfl:i=ms.length:=by omega
  refine jB (φ:=φ0) (pm:=pmR 0 [(.len (.nd 0 .one),.nd 1 (.int .i64))] 0) 20 (nk:=[(.atom 0,.one),(.atom 1,.int .i64),(.atom 2,.int .i64),(.bin .lss (.nd 2 (.int .i64)) (.nd 1 (.int .i64)),.bool)]) (fs:=[(3,false)])
   (xs:=[S,.int .i64 (ms.length:Int),.int .i64 (ms.length:Int),.bool false]) (ws:=[]) (env:=[(0,.nd 0 .one),(5,.nd 2 (.int .i64))]) ?_ ?_ jR xC ?_
  ·refine zC ?_ ?_ _ .nil trivial ?_
   ·refine .cons rfl hso (.cons rfl ⟨_,rfl⟩ (.cons rfl ⟨_,rfl⟩ (.cons ⟨_,_,dNd rfl ⟨_,rfl⟩,dNd rfl ⟨_,rfl⟩,?_⟩ ⟨_,rfl⟩ .nil)))
    show some (AV.bool (decide ((ms.length:Int) < (ms.length:Int))))=_
    rw [decide_eq_false om]
   ·exact .cons rfl .nil
   ·exact .cons ⟨_,_,dNd rfl hso,dNd rfl ⟨_,rfl⟩,gB hS⟩ .nil
  ·exact jC b0 rfl hso (jC h5 rfl ⟨_,rfl⟩ zY)
  ·refine qM kr fun vs ls H4 E4 st hE=>?_
   have g5:Grew H2 H4:=(gk st)
   refine qQ (id:=0) kr ?_
   refine jB (φ:=φ0) (pm:=pmR 0 [] 0) 20 (nk:=[]) (fs:=[]) (xs:=[]) (ws:=[]) (env:=[]) (zC .nil .nil _ .nil trivial .nil) zY jR xC ?_
   refine qM kr fun vs ls H5 E5 st hE=>?_
   exact zF kr (xV st.inn hE (.inr rfl) (a:=.bool true) kr ((hg2.trans g5).trans (gk st)) rfl ⟨rfl,rfl⟩)
def qAC:List AV->List AV->Int
 | .int _ a :: .int _ b :: .int _ c :: _,.int _ a' :: .int _ b' :: .int _ c' :: _=>zD a b c a' b' c'
 | _,_=>0
noncomputable def qCq (ms:LL) (i:Nat):Bool:=pD (ms.getD i []) && (i == 0 || decide (qAC (ms.getD (i - 1) []) (ms.getD i []) < 0))
noncomputable def xW (x:ON) (ms:LL):Bool:=qAK x && (decide (ms.length<=200) && (List.range ms.length).all (qCq ms))
theorem qCr {x:ON} {ms:LL} (h1:qAK x=true) (h2:ms.length<=200) (h3:∀ i,i < ms.length->qCq ms i=true):xW x ms=true:=by
 simp only [xW,h1,Bool.true_and,Bool.and_eq_true,decide_eq_true_eq,List.all_eq_true,List.mem_range]
 exact⟨h2,h3⟩
theorem pS {x:ON} {ms:LL} {i:Nat} (hi:i < ms.length) (h:qCq ms i=false):xW x ms=false:=by
 cases hb:xW x ms with
 | false=>rfl
 | true =>
  simp only [xW,Bool.and_eq_true,List.all_eq_true,List.mem_range] at hb
  rw [hb.2.2 i hi] at h;cases h
theorem qAY {m:List AV} (h:KdsL KM m):∃ (a b c:Int) (x y z w:ON) (s l:Int),m=[.int .i32 a,.int .i32 b,.int .i32 c,.flt .f32 x,.flt .f32 y,.flt .f32 z,.flt .f32 w,.int .i64 s,.int .i64 l]/\fOk .f32 x/\fOk .f32 y/\fOk .f32 z/\fOk .f32 w:=by
 cases h with | cons h1 h=>cases h with | cons h2 h=>cases h with | cons h3 h=>cases h with | cons h4 h=>cases h with | cons h5 h=>cases h with | cons h6 h=>cases h with | cons h7 h=>cases h with | cons h8 h=>cases h with | cons h9 h =>
 cases h
 obtain⟨a,rfl⟩:=h1;obtain⟨b,rfl⟩:=h2;obtain⟨c,rfl⟩:=h3
 obtain⟨x,rfl,hx⟩:=h4;obtain⟨y,rfl,hy⟩:=h5;obtain⟨z,rfl,hz⟩:=h6;obtain⟨w,rfl,hw⟩:=h7
 obtain⟨s,rfl⟩:=h8;obtain⟨l,rfl⟩:=h9
 exact⟨a,b,c,x,y,z,w,s,l,rfl,hx,hy,hz,hw⟩
theorem qHk (H:AHeap) (l:Nat) (x:ON) (hx:fOk .f32 x) (S:AV) (wr:Bool) (ms:LL) (hr:qL KM ms) (hg:H.get l=some (.row [.flt .f32 x,S] wr)) (hS:SlL H 9 ms S) (hmax:ms.length < 2^40):zG Try.prog 27 [.ptr l 0] H (.bool (xW x ms)):=by
 refine qN qAp (by simp) ?_
 refine jB (φ:=φ0) (pm:=pmR 1 [(.len (.nd 1 .one),.nd 2 (.int .i64)),(.call 40 [.nd 0 (.flt .f32)],.nd 3 .bool)] 0) 20 (nk:=[(.atom 0,.flt .f32),(.atom 1,.one),(.atom 2,.int .i64),(.atom 3,.bool)]) (fs:=[])
  (xs:=[.flt .f32 x,S,.int .i64 (ms.length:Int),.bool (qAK x)]) (ws:=[wf l [.nd 0 (.flt .f32),.nd 1 .one]]) (env:=[(0,.ptr 0 0)])
  ?_ ?_ jR xC ?_
 ·refine zC ?_ ?_ _ ?_ ?_ ?_
  ·exact .cons rfl ⟨_,rfl,hx⟩ (.cons rfl (jD hS) (.cons rfl ⟨_,rfl⟩ (.cons rfl ⟨_,rfl⟩ .nil)))
  ·exact .nil
  ·exact .cons (bH hg (qB (dNd rfl ⟨_,rfl,hx⟩) (qB (dNd rfl (jD hS)) zA))) .nil
  ·exact⟨fun v hv=>(by cases hv),trivial⟩
  ·exact .cons ⟨_,_,dNd rfl (jD hS),dNd rfl ⟨_,rfl⟩,gB hS⟩ (.cons (qI (qB (dNd rfl ⟨_,rfl,hx⟩) zA) (dNd rfl ⟨_,rfl⟩) (fun H _=>qHl x hx H)) .nil)
 ·exact gZ (l:=l) (o:=0) rfl rfl rfl zY
 refine cJ kr ?_ ?_ ?_
 ·intro vs ls H' E' st hE
  have f0:qAK x=false:=bf st 0
  refine rf st hE (.bool false) (gk st) ?_
  rw [xW,f0,Bool.false_and]
 ·intro vs ls H' E' st hE
  have f0:decide ((200:Int) < ms.length)=true:=bf st 0
  refine rf st hE (.bool false) (gk st) ?_
  have:¬ ms.length<=200:=by have:=of_decide_eq_true f0;omega
  rw [xW,decide_eq_false this];simp
 ·intro vs ls H' E' st hE
  have f0:decide ((200:Int) < ms.length)=false:=bf st 0
  have f1:qAK x=true:=bf st 1
  have hg' : Grew H H':=(gk st)
  have e0:E' 0=.ptr l 0:=qW st.inn hE 0 kr
  have e3:E' 3=.int .i64 ((0:Nat):Int):=qW st.inn hE 3 kr
  refine qAZ kr [(0,.ptr l 0)] 3 ms.length (fun i=>∀ j,j < i->qCq ms j=true) (.cons e0 .nil) e3 hg' (fun j hj=>by omega) ?_
  intro i hi hI E2 H2 hs h3 hg2
  have hso:=jD hS
  have e0:=hs.head
  rcases Nat.lt_or_ge i ms.length with hlt | hge
  ·cases hS with
   | nil h=>rw [h] at hlt;simp at hlt
   | @sl ls0 n cap rest wr2 hgS hn hc =>
    have hgS2:=hg2.at hgS
    obtain⟨a,b,c,p,q,r,w,sn,la,hm,op,oq,orr,ow⟩:=qAY (hr.get hlt)
    have hD:ms.getD i []=ms[i]:=by simp [List.getD_eq_getElem?_getD,hlt]
    have hmk:=hr.get hlt
    rcases i with _ | k
    ·refine jB (φ:=φ0) (pm:=pmR 2 [(.len (.nd 1 .one),.nd 2 (.int .i64)),(.ia 9 (.nd 1 .one) (.lit (.int .i64 0)),.ptr 1 0),(.call 41 [.ptr 1 0],.nd 12 .bool)] 0) 20
      (nk:=[(.atom 0,.flt .f32),(.atom 1,.one),(.atom 2,.int .i64)] ++ ([(.atom 3,.int .i32),(.atom 4,.int .i32),(.atom 5,.int .i32),(.atom 6,.flt .f32),(.atom 7,.flt .f32),(.atom 8,.flt .f32),(.atom 9,.flt .f32),(.atom 10,.int .i64),(.atom 11,.int .i64)] ++ [(.atom 12,.bool),(.bin .lss (.lit (.int .i64 0)) (.nd 2 (.int .i64)),.bool)]))
      (fs:=[(13,true)]) (xs:=[.flt .f32 x,.slice ls0 0 n cap 9,.int .i64 (n:Int),.int .i32 a,.int .i32 b,.int .i32 c,.flt .f32 p,.flt .f32 q,.flt .f32 r,.flt .f32 w,.int .i64 sn,.int .i64 la,.bool (pD ms[0]),.bool true])
      (ws:=[wf l [.nd 0 (.flt .f32),.nd 1 .one],⟨ls0,0 * 9,nds 3 KM,false⟩]) (env:=[(0,.ptr 0 0),(3,.lit (.int .i64 0))]) ?_ ?_ jR xC ?_
     ·refine zC ?_ ?_ _ ?_ ?_ ?_
      ·(repeat (first | exact .nil | refine .cons rfl ⟨_,rfl⟩ ?_ | refine .cons rfl ⟨_,rfl,by assumption⟩ ?_ | refine .cons rfl am ?_))
       refine .cons ⟨_,_,qDo rfl,dNd rfl ⟨_,rfl⟩,?_⟩ ⟨_,rfl⟩ .nil
       show some (AV.bool (decide ((0:Int) < n)))=_
       rw [decide_eq_true om]
      ·exact .cons rfl .nil
      ·exact .cons (bH (hg2.at hg) (by repeat (first | exact zA | refine qB (dNd rfl ⟨_,rfl⟩) ?_ | refine qB (dNd rfl ⟨_,rfl,by assumption⟩) ?_ | refine qB (dNd rfl am) ?_))) (.cons (qA hr hgS2 hlt rfl (by rw [hm];exact(by repeat (first | exact zA | refine qB (dNd rfl ⟨_,rfl⟩) ?_ | refine qB (dNd rfl ⟨_,rfl,by assumption⟩) ?_ | refine qB (dNd rfl am) ?_)))) .nil)
      ·exact⟨fun v hv h=>(by simp at hv;subst hv;simp at h),⟨fun v hv=>(by cases hv),trivial⟩⟩
      ·refine .cons (jL (o:=0) (dNd rfl rfl) (dNd rfl ⟨_,rfl⟩)) (.cons (zV (k:=0) (dNd rfl rfl) (qDo rfl) om rfl) (.cons (qI (qB (qKH (l:=ls0) (o:=0 * 9) rfl) zA) (dNd rfl ⟨_,rfl⟩) (fun H3 hk=>?_)) .nil))
       obtain⟨pre,post,g1,g2⟩:=yP hr.len hlt rest
       exact qDR ms[0] hmk (by rw [(hk.grew (Nat.le_refl _)).at hgS2,g1]) g2
     ·exact gZ (l:=l) (o:=0) e0 rfl rfl (qJA h3 rfl zY)
     ·refine vI kr ?_ ?_
      ·intro vs ls H' E' st hE
       have f0:pD ms[0]=false:=bf st 0
       refine bE kr (xV st.inn hE (.inr rfl) (a:=.bool false) kr (hg2.trans (gk st)) rfl ⟨?_,rfl⟩)
       rw [pS hlt (by rw [qCq,hD,f0];rfl)]
      ·intro vs ls H' E' st hE
       have f0:pD ms[0]=true:=bf st 0
       refine pX (sl:=[(0,.ptr l 0)]) (ti:=3) (i:=0) (Inv:=fun i=>∀ j,j < i->qCq ms j=true) kr st.inn hE hlt kr (w:=1) kr rfl (hg2.trans (gk st)) ?_
       intro j hj
       obtain rfl:j=0:=by omega
       rw [qCq,hD,f0];rfl
    ·obtain⟨a',b',c',p',q',r',w',sn',la',hm',op',oq',orr',ow'⟩:=qAY (hr.get (show k < ms.length by omega))
     have hD' : ms.getD k []=ms[k]:=by simp [List.getD_eq_getElem?_getD,show k < ms.length by omega]
     refine jB (φ:=φ0) (pm:=pmR 3 [(.len (.nd 1 .one),.nd 2 (.int .i64)),(.ia 9 (.nd 1 .one) (.nd 3 (.int .i64)),.ptr 1 0),(.ia 9 (.nd 1 .one) (.nd 26 (.int .i64)),.ptr 2 0),(.call 41 [.ptr 1 0],.nd 22 .bool),(.call 15 [.agg (nds 13 K3),.agg (nds 4 K3)],.nd 23 (.int .i64))] 0) 20
      (nk:=[(.atom 0,.flt .f32),(.atom 1,.one),(.atom 2,.int .i64),(.atom 3,.int .i64)] ++ ([(.atom 4,.int .i32),(.atom 5,.int .i32),(.atom 6,.int .i32),(.atom 7,.flt .f32),(.atom 8,.flt .f32),(.atom 9,.flt .f32),(.atom 10,.flt .f32),(.atom 11,.int .i64),(.atom 12,.int .i64)] ++ ([(.atom 13,.int .i32),(.atom 14,.int .i32),(.atom 15,.int .i32),(.atom 16,.flt .f32),(.atom 17,.flt .f32),(.atom 18,.flt .f32),(.atom 19,.flt .f32),(.atom 20,.int .i64),(.atom 21,.int .i64)] ++
       [(.atom 22,.bool),(.atom 23,.int .i64),(.bin .lss (.nd 3 (.int .i64)) (.nd 2 (.int .i64)),.bool),(.bin .lss (.lit (.int .i64 0)) (.nd 3 (.int .i64)),.bool),(.bin .sub (.nd 3 (.int .i64)) (.lit (.int .i64 1)),.int .i64)])))
      (fs:=[(24,true),(25,true)]) (xs:=[.flt .f32 x,.slice ls0 0 n cap 9,.int .i64 (n:Int),.int .i64 ((k+1:Nat):Int),.int .i32 a,.int .i32 b,.int .i32 c,.flt .f32 p,.flt .f32 q,.flt .f32 r,.flt .f32 w,.int .i64 sn,.int .i64 la,.int .i32 a',.int .i32 b',.int .i32 c',.flt .f32 p',.flt .f32 q',.flt .f32 r',.flt .f32 w',.int .i64 sn',.int .i64 la',
       .bool (pD ms[k+1]),.int .i64 (zD a' b' c' a b c),.bool true,.bool true,.int .i64 (k:Int)])
      (ws:=[wf l [.nd 0 (.flt .f32),.nd 1 .one],⟨ls0,(k+1) * 9,nds 4 KM,false⟩,⟨ls0,k * 9,nds 13 KM,false⟩]) (env:=[(0,.ptr 0 0),(3,.nd 3 (.int .i64))]) ?_ ?_ jR xC ?_
     ·refine zC ?_ ?_ _ ?_ ?_ ?_
      ·(repeat (first | exact .nil | refine .cons rfl ⟨_,rfl⟩ ?_ | refine .cons rfl ⟨_,rfl,by assumption⟩ ?_ | refine .cons rfl am ?_))
       refine .cons ⟨_,_,dNd rfl ⟨_,rfl⟩,dNd rfl ⟨_,rfl⟩,?_⟩ ⟨_,rfl⟩ (.cons ⟨_,_,qDo rfl,dNd rfl ⟨_,rfl⟩,?_⟩ ⟨_,rfl⟩ (.cons ⟨_,_,dNd rfl ⟨_,rfl⟩,qDo rfl,?_⟩ ⟨_,rfl⟩ .nil))
       ·show some (AV.bool (decide (((k+1:Nat):Int) < n)))=_
        rw [decide_eq_true om]
       ·show some (AV.bool (decide ((0:Int) < ((k+1:Nat):Int))))=_
        rw [decide_eq_true om]
       ·show some (AV.int .i64 (IntKind.i64.wrap (((k+1:Nat):Int) - 1)))=_
        rw [wrap_i64 om om];congr 2;omega
      ·exact .cons rfl (.cons rfl .nil)
      ·exact .cons (bH (hg2.at hg) (by repeat (first | exact zA | refine qB (dNd rfl ⟨_,rfl⟩) ?_ | refine qB (dNd rfl ⟨_,rfl,by assumption⟩) ?_ | refine qB (dNd rfl am) ?_))) (.cons (qA hr hgS2 hlt rfl (by rw [hm];exact(by repeat (first | exact zA | refine qB (dNd rfl ⟨_,rfl⟩) ?_ | refine qB (dNd rfl ⟨_,rfl,by assumption⟩) ?_ | refine qB (dNd rfl am) ?_)))) (.cons (qA hr hgS2 (show k < ms.length by omega) rfl (by rw [hm'];exact(by repeat (first | exact zA | refine qB (dNd rfl ⟨_,rfl⟩) ?_ | refine qB (dNd rfl ⟨_,rfl,by assumption⟩) ?_ | refine qB (dNd rfl am) ?_)))) .nil))
      ·exact⟨fun v hv h=>(by simp at hv;rcases hv with rfl | rfl <;> simp at h),⟨fun v hv h=>(by simp at hv;subst hv;simp at h),⟨fun v hv=>(by cases hv),trivial⟩⟩⟩
      ·refine .cons (jL (o:=0) (dNd rfl rfl) (dNd rfl ⟨_,rfl⟩)) (.cons (zV (k:=k+1) (dNd rfl rfl) (dNd rfl ⟨_,rfl⟩) om rfl) (.cons (zV (k:=k) (dNd rfl rfl) (dNd rfl ⟨_,rfl⟩) om rfl)
        (.cons (qI (qB (qKH (l:=ls0) (o:=(k+1) * 9) rfl) zA) (dNd rfl ⟨_,rfl⟩) (fun H3 hk=>?_)) (.cons (qI (qB (mV (by repeat (first | exact zA | refine qB (dNd rfl ⟨_,rfl⟩) ?_ | refine qB (dNd rfl ⟨_,rfl,by assumption⟩) ?_ | refine qB (dNd rfl am) ?_))) (qB (mV (by repeat (first | exact zA | refine qB (dNd rfl ⟨_,rfl⟩) ?_ | refine qB (dNd rfl ⟨_,rfl,by assumption⟩) ?_ | refine qB (dNd rfl am) ?_))) zA)) (dNd rfl ⟨_,rfl⟩) (fun H3 _=>qAs H3 a' b' c' a b c)) .nil))))
       obtain⟨pre,post,g1,g2⟩:=yP hr.len hlt rest
       exact qDR ms[k+1] hmk (by rw [(hk.grew (Nat.le_refl _)).at hgS2,g1]) g2
     ·exact gZ (l:=l) (o:=0) e0 rfl rfl (jC h3 rfl ⟨_,rfl⟩ zY)
     ·have hcm:qAC ms[k] ms[k+1]=zD a' b' c' a b c:=by rw [hm,hm'];rfl
      refine cJ kr ?_ ?_ ?_
      ·intro vs ls H' E' st hE
       have f0:pD ms[k+1]=false:=bf st 0
       refine bE kr (xV st.inn hE (.inr rfl) (a:=.bool false) kr (hg2.trans (gk st)) rfl ⟨?_,rfl⟩)
       rw [pS hlt (by rw [qCq,hD,f0];rfl)]
      ·intro vs ls H' E' st hE
       have f0:decide (zD a' b' c' a b c < 0)=false:=bf st 0
       refine bE kr (xV st.inn hE (.inr rfl) (a:=.bool false) kr (hg2.trans (gk st)) rfl ⟨?_,rfl⟩)
       rw [pS hlt (by rw [qCq,hD,Nat.add_sub_cancel,hD',hcm,f0];simp)]
      ·intro vs ls H' E' st hE
       have f0:decide (zD a' b' c' a b c < 0)=true:=bf st 0
       have f1:pD ms[k+1]=true:=bf st 1
       refine pX (sl:=[(0,.ptr l 0)]) (ti:=3) (i:=k+1) (Inv:=fun i=>∀ j,j < i->qCq ms j=true) kr st.inn hE hlt kr (w:=IntKind.i64.wrap (((k+1:Nat):Int)+1)) kr (wrap64 om) (hg2.trans (gk st)) ?_
       intro j hj
       rcases Nat.lt_or_ge j (k+1) with h | h
       ·exact hI j h
       ·obtain rfl:j=k+1:=by omega
        rw [qCq,hD,Nat.add_sub_cancel,hD',hcm,f0,f1];simp
  ·obtain rfl:i=ms.length:=by omega
   refine jB (φ:=φ0) (pm:=pmR 1 [(.len (.nd 1 .one),.nd 2 (.int .i64))] 0) 20 (nk:=[(.atom 0,.flt .f32),(.atom 1,.one),(.atom 2,.int .i64),(.atom 3,.int .i64),(.bin .lss (.nd 3 (.int .i64)) (.nd 2 (.int .i64)),.bool)]) (fs:=[(4,false)])
    (xs:=[.flt .f32 x,S,.int .i64 (ms.length:Int),.int .i64 (ms.length:Int),.bool false]) (ws:=[wf l [.nd 0 (.flt .f32),.nd 1 .one]]) (env:=[(0,.ptr 0 0),(3,.nd 3 (.int .i64))]) ?_ ?_ jR xC ?_
   ·refine zC ?_ ?_ _ ?_ ?_ ?_
    ·(repeat (first | exact .nil | refine .cons rfl ⟨_,rfl⟩ ?_ | refine .cons rfl ⟨_,rfl,by assumption⟩ ?_ | refine .cons rfl am ?_))
     refine .cons ⟨_,_,dNd rfl ⟨_,rfl⟩,dNd rfl ⟨_,rfl⟩,?_⟩ ⟨_,rfl⟩ .nil
     show some (AV.bool (decide ((ms.length:Int) < (ms.length:Int))))=_
     rw [decide_eq_false om]
    ·exact .cons rfl .nil
    ·exact .cons (bH (hg2.at hg) (by repeat (first | exact zA | refine qB (dNd rfl ⟨_,rfl⟩) ?_ | refine qB (dNd rfl ⟨_,rfl,by assumption⟩) ?_ | refine qB (dNd rfl am) ?_))) .nil
    ·exact⟨fun v hv=>(by cases hv),trivial⟩
    ·exact .cons ⟨_,_,dNd rfl hso,dNd rfl ⟨_,rfl⟩,gB hS⟩ .nil
   ·exact gZ (l:=l) (o:=0) e0 rfl rfl (jC h3 rfl ⟨_,rfl⟩ zY)
   ·refine qM kr fun vs ls H3 E3 st hE=>?_
    have hg3:Grew H H3:=hg2.trans (gk st)
    refine qQ (id:=0) kr ?_
    refine jB (φ:=φ0) (pm:=pmR 0 [] 0) 20 (nk:=[]) (fs:=[]) (xs:=[]) (ws:=[]) (env:=[]) (zC .nil .nil _ .nil trivial .nil) zY jR xC ?_
    refine qM kr fun vs ls H4 E4 st hE=>?_
    refine rf st hE (.bool true) (hg3.trans (gk st)) ?_
    rw [qCr f1 (by have:=of_decide_eq_false f0;omega) (fun i hi=>hI i hi)]
theorem pA (H:AHeap) (x:ON) (hx:fOk .f32 x) (S:AV) (ms:LL) (hr:qL KM ms) (hS:SlL H 9 ms S) (hmax:ms.length < 2^40):zG Try.prog 31 [.agg [.flt .f32 x,S]] H (.bool (xW x ms)):=by
 refine qN mX (by simp) ?_
 refine jB (φ:=φ0) (pm:=pmR 0 [(.len (.nd 1 .one),.nd 2 (.int .i64)),(.call 45 [.nd 0 (.flt .f32)],.nd 3 .bool)] 0) 20 (nk:=[(.atom 0,.flt .f32),(.atom 1,.one),(.atom 2,.int .i64),(.atom 3,.bool)]) (fs:=[])
  (xs:=[.flt .f32 x,S,.int .i64 (ms.length:Int),.bool (qAK x)]) (ws:=[]) (env:=[(0,.agg [.nd 0 (.flt .f32),.nd 1 .one])])
  ?_ ?_ jR xC ?_
 ·refine zC ?_ ?_ _ ?_ ?_ ?_
  ·exact .cons rfl ⟨_,rfl,hx⟩ (.cons rfl (jD hS) (.cons rfl ⟨_,rfl⟩ (.cons rfl ⟨_,rfl⟩ .nil)))
  ·exact .nil
  ·exact .nil
  ·exact trivial
  ·exact .cons ⟨_,_,dNd rfl (jD hS),dNd rfl ⟨_,rfl⟩,gB hS⟩ (.cons (qI (qB (dNd rfl ⟨_,rfl,hx⟩) zA) (dNd rfl ⟨_,rfl⟩) (fun H _=>qFt x hx H)) .nil)
 ·exact vP (mV (qB (dNd rfl ⟨_,rfl,hx⟩) (qB (dNd rfl (jD hS)) zA))) zY
 refine cJ kr ?_ ?_ ?_
 ·intro vs ls H' E' st hE
  have f0:qAK x=false:=bf st 0
  refine rf st hE (.bool false) (gk st) ?_
  rw [xW,f0,Bool.false_and]
 ·intro vs ls H' E' st hE
  have f0:decide ((200:Int) < ms.length)=true:=bf st 0
  refine rf st hE (.bool false) (gk st) ?_
  have:¬ ms.length<=200:=by have:=of_decide_eq_true f0;omega
  rw [xW,decide_eq_false this];simp
 ·intro vs ls H' E' st hE
  have f0:decide ((200:Int) < ms.length)=false:=bf st 0
  have f1:qAK x=true:=bf st 1
  have hg' : Grew H H':=(gk st)
  obtain⟨l,e1,hg,_⟩:=pO st hE 1 0 [.flt .f32 x,S]
  have e16:E' 16=S:=qW st.inn hE 16 kr
  have e17:E' 17=.int .i64 (ms.length:Int):=qW st.inn hE 17 kr
  have e18:E' 18=.int .i64 ((0:Nat):Int):=qW st.inn hE 18 kr
  refine qAZ kr [(1,.ptr l 0),(16,S),(17,.int .i64 (ms.length:Int))] 18 ms.length (fun i=>∀ j,j < i->qCq ms j=true) (.cons e1 (.cons e16 (.cons e17 .nil))) e18 (Grew.refl H') (fun j hj=>by omega) ?_
  intro i hi hI E2 H2 hs h18 hg2
  have hso:=jD hS
  have e1:=hs.head
  have e16:=hs.tail.head
  have e17:=hs.tail.tail.head
  rcases Nat.lt_or_ge i ms.length with hlt | hge
  ·cases hS with
   | nil h=>rw [h] at hlt;simp at hlt
   | @sl ls0 n cap rest wr2 hgS hn hc =>
    have hgS2:=(hg'.trans hg2).at hgS
    subst hn
    obtain⟨a,b,c,p,q,r,w,sn,la,hm,op,oq,orr,ow⟩:=qAY (hr.get hlt)
    have hD:ms.getD i []=ms[i]:=by simp [List.getD_eq_getElem?_getD,hlt]
    have hmk:=hr.get hlt
    rcases i with _ | k
    ·refine jB (φ:=φ0) (pm:=pmR 2 [(.ia 9 (.nd 1 .one) (.lit (.int .i64 0)),.ptr 1 0),(.call 46 [.agg (nds 3 KM)],.nd 12 .bool)] 0) 20
      (nk:=[(.atom 0,.flt .f32),(.atom 1,.one),(.atom 2,.int .i64)] ++ ([(.atom 3,.int .i32),(.atom 4,.int .i32),(.atom 5,.int .i32),(.atom 6,.flt .f32),(.atom 7,.flt .f32),(.atom 8,.flt .f32),(.atom 9,.flt .f32),(.atom 10,.int .i64),(.atom 11,.int .i64)] ++ [(.atom 12,.bool),(.bin .lss (.lit (.int .i64 0)) (.nd 2 (.int .i64)),.bool)]))
      (fs:=[(13,true)]) (xs:=[.flt .f32 x,.slice ls0 0 ms.length cap 9,.int .i64 (ms.length:Int),.int .i32 a,.int .i32 b,.int .i32 c,.flt .f32 p,.flt .f32 q,.flt .f32 r,.flt .f32 w,.int .i64 sn,.int .i64 la,.bool (pD ms[0]),.bool true])
      (ws:=[wf l [.nd 0 (.flt .f32),.nd 1 .one],⟨ls0,0 * 9,nds 3 KM,false⟩]) (env:=[(1,.ptr 0 0),(16,.nd 1 .one),(17,.nd 2 (.int .i64)),(18,.lit (.int .i64 0))]) ?_ ?_ jR xC ?_
     ·refine zC ?_ ?_ _ ?_ ?_ ?_
      ·(repeat (first | exact .nil | refine .cons rfl ⟨_,rfl⟩ ?_ | refine .cons rfl ⟨_,rfl,by assumption⟩ ?_ | refine .cons rfl am ?_))
       refine .cons ⟨_,_,qDo rfl,dNd rfl ⟨_,rfl⟩,?_⟩ ⟨_,rfl⟩ .nil
       show some (AV.bool (decide ((0:Int) < ms.length)))=_
       rw [decide_eq_true om]
      ·exact .cons rfl .nil
      ·exact .cons (bH (hg2.at hg) (by repeat (first | exact zA | refine qB (dNd rfl ⟨_,rfl⟩) ?_ | refine qB (dNd rfl ⟨_,rfl,by assumption⟩) ?_ | refine qB (dNd rfl am) ?_))) (.cons (qA hr hgS2 hlt rfl (by rw [hm];exact(by repeat (first | exact zA | refine qB (dNd rfl ⟨_,rfl⟩) ?_ | refine qB (dNd rfl ⟨_,rfl,by assumption⟩) ?_ | refine qB (dNd rfl am) ?_)))) .nil)
      ·exact⟨fun v hv h=>(by simp at hv;subst hv;simp at h),⟨fun v hv=>(by cases hv),trivial⟩⟩
      ·exact .cons (zV (k:=0) (dNd rfl rfl) (qDo rfl) om rfl) (.cons (qI (args:=[.agg ms[0]]) (qB (mV (by rw [hm];exact(by repeat (first | exact zA | refine qB (dNd rfl ⟨_,rfl⟩) ?_ | refine qB (dNd rfl ⟨_,rfl,by assumption⟩) ?_ | refine qB (dNd rfl am) ?_)))) zA) (dNd rfl ⟨_,rfl⟩) (fun H3 hk=>qBq ms[0] hmk H3)) .nil)
     ·exact gZ (l:=l) (o:=0) e1 rfl rfl (jC e16 rfl hso (jC e17 rfl ⟨_,rfl⟩ (qJA h18 rfl zY)))
     ·refine vI kr ?_ ?_
      ·intro vs ls H' E' st hE
       have f0:pD ms[0]=false:=bf st 0
       refine bE kr (xV st.inn hE (.inr rfl) (a:=.bool false) kr ((hg'.trans hg2).trans (gk st)) rfl ⟨?_,rfl⟩)
       rw [pS hlt (by rw [qCq,hD,f0];rfl)]
      ·intro vs ls H' E' st hE
       have f0:pD ms[0]=true:=bf st 0
       refine pX (sl:=[(1,.ptr l 0),(16,.slice ls0 0 ms.length cap 9),(17,.int .i64 (ms.length:Int))]) (ti:=18) (i:=0) (Inv:=fun i=>∀ j,j < i->qCq ms j=true) kr st.inn hE hlt kr (w:=1) kr rfl (hg2.trans (gk st)) ?_
       intro j hj
       obtain rfl:j=0:=by omega
       rw [qCq,hD,f0];rfl
    ·obtain⟨a',b',c',p',q',r',w',sn',la',hm',op',oq',orr',ow'⟩:=qAY (hr.get (show k < ms.length by omega))
     have hD' : ms.getD k []=ms[k]:=by simp [List.getD_eq_getElem?_getD,show k < ms.length by omega]
     refine jB (φ:=φ0) (pm:=pmR 3 [(.ia 9 (.nd 1 .one) (.nd 3 (.int .i64)),.ptr 1 0),(.ia 9 (.nd 1 .one) (.nd 26 (.int .i64)),.ptr 2 0),(.call 46 [.agg (nds 4 KM)],.nd 22 .bool),(.call 22 [.agg (nds 4 K3),.agg (nds 13 K3)],.nd 23 (.int .i64))] 0) 20
      (nk:=[(.atom 0,.flt .f32),(.atom 1,.one),(.atom 2,.int .i64),(.atom 3,.int .i64)] ++ ([(.atom 4,.int .i32),(.atom 5,.int .i32),(.atom 6,.int .i32),(.atom 7,.flt .f32),(.atom 8,.flt .f32),(.atom 9,.flt .f32),(.atom 10,.flt .f32),(.atom 11,.int .i64),(.atom 12,.int .i64)] ++ ([(.atom 13,.int .i32),(.atom 14,.int .i32),(.atom 15,.int .i32),(.atom 16,.flt .f32),(.atom 17,.flt .f32),(.atom 18,.flt .f32),(.atom 19,.flt .f32),(.atom 20,.int .i64),(.atom 21,.int .i64)] ++
       [(.atom 22,.bool),(.atom 23,.int .i64),(.bin .lss (.nd 3 (.int .i64)) (.nd 2 (.int .i64)),.bool),(.bin .lss (.lit (.int .i64 0)) (.nd 3 (.int .i64)),.bool),(.bin .sub (.nd 3 (.int .i64)) (.lit (.int .i64 1)),.int .i64)])))
      (fs:=[(24,true),(25,true)]) (xs:=[.flt .f32 x,.slice ls0 0 ms.length cap 9,.int .i64 (ms.length:Int),.int .i64 ((k+1:Nat):Int),.int .i32 a,.int .i32 b,.int .i32 c,.flt .f32 p,.flt .f32 q,.flt .f32 r,.flt .f32 w,.int .i64 sn,.int .i64 la,.int .i32 a',.int .i32 b',.int .i32 c',.flt .f32 p',.flt .f32 q',.flt .f32 r',.flt .f32 w',.int .i64 sn',.int .i64 la',
       .bool (pD ms[k+1]),.int .i64 (zD a b c a' b' c'),.bool true,.bool true,.int .i64 (k:Int)])
      (ws:=[wf l [.nd 0 (.flt .f32),.nd 1 .one],⟨ls0,(k+1) * 9,nds 4 KM,false⟩,⟨ls0,k * 9,nds 13 KM,false⟩]) (env:=[(1,.ptr 0 0),(16,.nd 1 .one),(17,.nd 2 (.int .i64)),(18,.nd 3 (.int .i64))]) ?_ ?_ jR xC ?_
     ·refine zC ?_ ?_ _ ?_ ?_ ?_
      ·(repeat (first | exact .nil | refine .cons rfl ⟨_,rfl⟩ ?_ | refine .cons rfl ⟨_,rfl,by assumption⟩ ?_ | refine .cons rfl am ?_))
       refine .cons ⟨_,_,dNd rfl ⟨_,rfl⟩,dNd rfl ⟨_,rfl⟩,?_⟩ ⟨_,rfl⟩ (.cons ⟨_,_,qDo rfl,dNd rfl ⟨_,rfl⟩,?_⟩ ⟨_,rfl⟩ (.cons ⟨_,_,dNd rfl ⟨_,rfl⟩,qDo rfl,?_⟩ ⟨_,rfl⟩ .nil))
       ·show some (AV.bool (decide (((k+1:Nat):Int) < ms.length)))=_
        rw [decide_eq_true om]
       ·show some (AV.bool (decide ((0:Int) < ((k+1:Nat):Int))))=_
        rw [decide_eq_true om]
       ·show some (AV.int .i64 (IntKind.i64.wrap (((k+1:Nat):Int) - 1)))=_
        rw [wrap_i64 om om];congr 2;omega
      ·exact .cons rfl (.cons rfl .nil)
      ·exact .cons (bH (hg2.at hg) (by repeat (first | exact zA | refine qB (dNd rfl ⟨_,rfl⟩) ?_ | refine qB (dNd rfl ⟨_,rfl,by assumption⟩) ?_ | refine qB (dNd rfl am) ?_))) (.cons (qA hr hgS2 hlt rfl (by rw [hm];exact(by repeat (first | exact zA | refine qB (dNd rfl ⟨_,rfl⟩) ?_ | refine qB (dNd rfl ⟨_,rfl,by assumption⟩) ?_ | refine qB (dNd rfl am) ?_)))) (.cons (qA hr hgS2 (show k < ms.length by omega) rfl (by rw [hm'];exact(by repeat (first | exact zA | refine qB (dNd rfl ⟨_,rfl⟩) ?_ | refine qB (dNd rfl ⟨_,rfl,by assumption⟩) ?_ | refine qB (dNd rfl am) ?_)))) .nil))
      ·exact⟨fun v hv h=>(by simp at hv;rcases hv with rfl | rfl <;> simp at h),⟨fun v hv h=>(by simp at hv;subst hv;simp at h),⟨fun v hv=>(by cases hv),trivial⟩⟩⟩
      ·exact .cons (zV (k:=k+1) (dNd rfl rfl) (dNd rfl ⟨_,rfl⟩) om rfl) (.cons (zV (k:=k) (dNd rfl rfl) (dNd rfl ⟨_,rfl⟩) om rfl)
        (.cons (qI (args:=[.agg ms[k+1]]) (qB (mV (by rw [hm];exact(by repeat (first | exact zA | refine qB (dNd rfl ⟨_,rfl⟩) ?_ | refine qB (dNd rfl ⟨_,rfl,by assumption⟩) ?_ | refine qB (dNd rfl am) ?_)))) zA) (dNd rfl ⟨_,rfl⟩) (fun H3 hk=>qBq ms[k+1] hmk H3)) (.cons (qI (qB (mV (by repeat (first | exact zA | refine qB (dNd rfl ⟨_,rfl⟩) ?_ | refine qB (dNd rfl ⟨_,rfl,by assumption⟩) ?_ | refine qB (dNd rfl am) ?_))) (qB (mV (by repeat (first | exact zA | refine qB (dNd rfl ⟨_,rfl⟩) ?_ | refine qB (dNd rfl ⟨_,rfl,by assumption⟩) ?_ | refine qB (dNd rfl am) ?_))) zA)) (dNd rfl ⟨_,rfl⟩) (fun H3 _=>qO H3 a b c a' b' c')) .nil)))
     ·exact gZ (l:=l) (o:=0) e1 rfl rfl (jC e16 rfl hso (jC e17 rfl ⟨_,rfl⟩ (jC h18 rfl ⟨_,rfl⟩ zY)))
     ·have hcm:qAC ms[k] ms[k+1]=zD a' b' c' a b c:=by rw [hm,hm'];rfl
      have han:=qGN a b c a' b' c'
      refine cJ kr ?_ ?_ ?_
      ·intro vs ls H' E' st hE
       have f0:pD ms[k+1]=false:=bf st 0
       refine bE kr (xV st.inn hE (.inr rfl) (a:=.bool false) kr ((hg'.trans hg2).trans (gk st)) rfl ⟨?_,rfl⟩)
       rw [pS hlt (by rw [qCq,hD,f0];rfl)]
      ·intro vs ls H' E' st hE
       have f0' : decide (0 < zD a b c a' b' c')=false:=bf st 0
       have f0:decide (zD a' b' c' a b c < 0)=false:=by have:=of_decide_eq_false f0';exact decide_eq_false om
       refine bE kr (xV st.inn hE (.inr rfl) (a:=.bool false) kr ((hg'.trans hg2).trans (gk st)) rfl ⟨?_,rfl⟩)
       rw [pS hlt (by rw [qCq,hD,Nat.add_sub_cancel,hD',hcm,f0];simp)]
      ·intro vs ls H' E' st hE
       have f0' : decide (0 < zD a b c a' b' c')=true:=bf st 0
       have f0:decide (zD a' b' c' a b c < 0)=true:=by have:=of_decide_eq_true f0';exact decide_eq_true om
       have f1:pD ms[k+1]=true:=bf st 1
       refine pX (sl:=[(1,.ptr l 0),(16,.slice ls0 0 ms.length cap 9),(17,.int .i64 (ms.length:Int))]) (ti:=18) (i:=k+1) (Inv:=fun i=>∀ j,j < i->qCq ms j=true) kr st.inn hE hlt kr (w:=IntKind.i64.wrap (((k+1:Nat):Int)+1)) kr (wrap64 om) (hg2.trans (gk st)) ?_
       intro j hj
       rcases Nat.lt_or_ge j (k+1) with h | h
       ·exact hI j h
       ·obtain rfl:j=k+1:=by omega
        rw [qCq,hD,Nat.add_sub_cancel,hD',hcm,f0,f1];simp
  ·obtain rfl:i=ms.length:=by omega
   refine jB (φ:=φ0) (pm:=pmR 0 [] 0) 20 (nk:=[(.atom 0,.flt .f32),(.atom 1,.one),(.atom 2,.int .i64),(.atom 3,.int .i64),(.bin .lss (.nd 3 (.int .i64)) (.nd 2 (.int .i64)),.bool)]) (fs:=[(4,false)])
    (xs:=[.flt .f32 x,S,.int .i64 (ms.length:Int),.int .i64 (ms.length:Int),.bool false]) (ws:=[]) (env:=[(17,.nd 2 (.int .i64)),(18,.nd 3 (.int .i64))]) ?_ ?_ jR xC ?_
   ·refine zC ?_ ?_ _ ?_ ?_ ?_
    ·(repeat (first | exact .nil | refine .cons rfl ⟨_,rfl⟩ ?_ | refine .cons rfl ⟨_,rfl,by assumption⟩ ?_ | refine .cons rfl am ?_))
     refine .cons ⟨_,_,dNd rfl ⟨_,rfl⟩,dNd rfl ⟨_,rfl⟩,?_⟩ ⟨_,rfl⟩ .nil
     show some (AV.bool (decide ((ms.length:Int) < (ms.length:Int))))=_
     rw [decide_eq_false om]
    ·exact .cons rfl .nil
    ·exact .nil
    ·exact trivial
    ·exact .nil
   ·exact jC e17 rfl ⟨_,rfl⟩ (jC h18 rfl ⟨_,rfl⟩ zY)
   ·refine qM kr fun vs ls H3 E3 st hE=>?_
    have hg3:Grew H H3:=(hg'.trans hg2).trans (gk st)
    refine qQ (id:=0) kr ?_
    refine jB (φ:=φ0) (pm:=pmR 0 [] 0) 20 (nk:=[]) (fs:=[]) (xs:=[]) (ws:=[]) (env:=[]) (zC .nil .nil _ .nil trivial .nil) zY jR xC ?_
    refine qM kr fun vs ls H4 E4 st hE=>?_
    refine rf st hE (.bool true) (hg3.trans (gk st)) ?_
    rw [qCr f1 (by have:=of_decide_eq_false f0;omega) (fun i hi=>hI i hi)]
theorem qBp (H:AHeap) (x:ON) (hx:fOk .f32 x) (ms:LL) (S:AV) (hS:SlL H 9 ms S) (left:Int) (h0:0<=left) (h1:left<=4611686018427387904) (hm:ms.length<=9223372036854775807):zG Try.prog 4 [.agg [.flt .f32 x,S],.int .i64 left] H (.int .i64 (if left - ms.length < 0 then -1 else left - ms.length)):=by
 refine qN hT (by simp) ?_
 have hk:∀ H3,Kept 0 [] H H3->zG Try.prog 13 [S,.int .i64 left] H3 (.int .i64 (if left - ms.length < 0 then -1 else left - ms.length)):=fun H3 hk=>qHo H3 ms S (hS.grew (hk.grew (Nat.le_refl _))) left h0 h1 hm
 have hr1:(if left - (ms.length:Int) < 0 then -1 else left - (ms.length:Int)) < 0->(if left - (ms.length:Int) < 0 then -1 else left - (ms.length:Int)) = -1:=by intro h;split <;> omega
 generalize (if left - (ms.length:Int) < 0 then -1 else left - (ms.length:Int))=r at hk hr1 ⊢
 refine jB (φ:=φ0) (pm:=pmR 0 [(.call 13 [.nd 1 .one,.nd 2 (.int .i64)],.nd 3 (.int .i64))] 0) 20 (nk:=[(.atom 0,.flt .f32),(.atom 1,.one),(.atom 2,.int .i64),(.atom 3,.int .i64)]) (fs:=[]) (xs:=[.flt .f32 x,S,.int .i64 left,.int .i64 r]) (ws:=[]) (env:=[(0,.agg [.nd 0 (.flt .f32),.nd 1 .one]),(1,.nd 2 (.int .i64))]) ?_ ?_ jR xC ?_
 ·refine zC ?_ .nil _ .nil trivial ?_
  ·exact .cons rfl ⟨_,rfl,hx⟩ (.cons rfl (jD hS) (.cons rfl ⟨_,rfl⟩ (.cons rfl ⟨_,rfl⟩ .nil)))
  ·exact .cons (qI (args:=[S,.int .i64 left]) (qB (dNd rfl (jD hS)) (qB (dNd rfl ⟨_,rfl⟩) zA)) (dNd rfl ⟨_,rfl⟩) hk) .nil
 ·exact vP (mV (qB (dNd rfl ⟨_,rfl,hx⟩) (qB (dNd rfl (jD hS)) zA))) (jC rfl rfl ⟨_,rfl⟩ zY)
 refine vI kr ?_ ?_
 ·intro vs ls H' E' st hE
  have f0:decide (r < 0)=true:=bf st 0
  refine rf st hE (.int .i64 (-1)) (gk st) ?_
  rw [hr1 (of_decide_eq_true f0)]
 ·intro vs ls H' E' st hE
  exact zF kr (xV st.inn hE (.inr rfl) (a:=.int .i64 r) kr (gk st) rfl ⟨rfl,rfl⟩)
theorem qEP (H:AHeap) (x:ON) (hx:fOk .f32 x) (ms:LL) (hr:qL KM ms) (S:AV) (hS:SlL H 9 ms S) (hmax:ms.length<=1048576):qK Try.prog 6 [.agg [.flt .f32 x,S]] H fun r H'=>Grew H H' /\ ∃ l,H.next<=l/\r=.agg [.flt .f32 x,.slice l 0 ms.length ms.length 9]/\H'.get l=some (.row ms.flatten true):=by
 refine qN hU (by simp) ?_
 refine jB (φ:=φ0) (pm:=pmR 0 [] 0) 20 (nk:=[(.atom 0,.flt .f32),(.atom 1,.one)]) (fs:=[]) (xs:=[.flt .f32 x,S]) (ws:=[]) (env:=[(0,.agg [.nd 0 (.flt .f32),.nd 1 .one])]) ?_ ?_ jR xC ?_
 ·refine zC ?_ .nil _ .nil trivial .nil
  exact .cons rfl ⟨_,rfl,hx⟩ (.cons rfl (jD hS) .nil)
 ·exact vP (mV (qB (dNd rfl ⟨_,rfl,hx⟩) (qB (dNd rfl (jD hS)) zA))) zY
 refine qM kr fun vs ls H1 E1 st hE=>?_
 have a8:E1 8=S:=qW st.inn hE 8 kr
 obtain⟨p,e2,r2,n2⟩:=pO st hE 2 1 [.flt .f32 (some 0),.nilslice]
 obtain⟨q,e3,r3,n3⟩:=pO st hE 3 2 [.flt .f32 x,.nilslice]
 have hne:p ≠ q:=qJF st.inn hE 2 1 3 2 kr kr (cs:=[lF,lN]) kr (by decide) e2 e3
 have hp:H.next<=p:=n2 (Nat.zero_le _)
 have hq:H.next<=q:=n3 (Nat.zero_le _)
 have g1:Grew H H1:=(gk st)
 clear st hE vs ls n2 n3
 refine qR (d:=some 9) (f:=17) (args:=[.tmp 8]) kr (R:=fun r H'=>Grew H1 H' /\ ∃ l,H1.next<=l/\r=.slice l 0 ms.length ms.length 9/\H'.get l=some (.row ms.flatten true)) ?_ ?_
 ·show qK _ _ [E1 8] _ _
  rw [a8]
  exact qHp H1 ms hr S (hS.grew g1) hmax
 rintro r H2 ⟨g2,l,hl,rfl,hrow⟩
 have r2':=g2.at r2
 have r3':=g2.at r3
 refine jB (φ:=φ0) (pm:=pmR 0 [] 0) 20 (nk:=[(.atom 0,.flt .f32),(.atom 1,.one)]) (fs:=[]) (xs:=[.flt .f32 x,.slice l 0 ms.length ms.length 9]) (ws:=[⟨p,0,[lF,lN],true⟩,⟨q,0,[.nd 0 (.flt .f32),lN],true⟩]) (env:=[(2,.ptr 0 0),(3,.ptr 1 0),(9,.nd 1 .one)]) ?_ ?_ jR xC ?_
 ·refine zC ?_ .nil _ ?_ ?_ .nil
  ·exact .cons rfl ⟨_,rfl,hx⟩ (.cons rfl rfl .nil)
  ·exact .cons (qFe r2' (qB (qDo (by decide +kernel)) (qB (qDo rfl) zA))) (.cons (qFe r3' (qB (dNd rfl ⟨_,rfl,hx⟩) (qB (qDo rfl) zA))) .nil)
  ·exact⟨fun v hv _=>(by simp at hv;subst hv;exact hne),⟨fun v hv=>(by cases hv),trivial⟩⟩
 ·exact gZ (l:=p) (o:=0) (by rw [Env.put_some];simpa using e2) rfl rfl (gZ (l:=q) (o:=0) (by rw [Env.put_some];simpa using e3) rfl rfl (jC (by rw [Env.put_some];simp) rfl rfl zY))
 ·refine qM kr fun vs ls H3 E3 st hE=>?_
  have g3:Grew H H3:=Kept.grew_from (g1.trans g2) st.kept (fun l b hlb=>by simp [zQ] at hlb;rcases hlb with ⟨rfl,_⟩ | ⟨rfl,_⟩ <;> assumption)
  refine zF kr (qS st.inn hE (.inr rfl) (a:=.agg [.flt .f32 x,.slice l 0 ms.length ms.length 9]) kr g3.next ⟨g3,l,by have:=g1.next;omega,rfl,?_⟩)
  rw [st.kept.2 l (H2.lt_of_get hrow) (fun j b _ e=>by
   have hm:=List.mem_of_getElem? e
   simp [zQ] at hm
   have h2:=H1.lt_of_get r2
   have h3:=H1.lt_of_get r3
   rcases hm with ⟨rfl,_⟩ | ⟨rfl,_⟩ <;> omega)]
  exact hrow
theorem qBo (H:AHeap) (x:ON) (hx:fOk .f32 x) (ms:LL) (hr:qL KM ms) (S S' : AV) (hS:SlL H 9 ms S) (hS' : SlL H 9 ms S') (hmax:ms.length < 2^40):zG Try.prog 9 [.agg [.flt .f32 x,S],.agg [.flt .f32 x,S']] H (.bool true):=by
 refine qN hG (by simp) ?_
 refine qKu (φ:=φ0) (pm:=pmR 0 [(.call 25 [.nd 1 .one,.nd 2 .one],.lit (.bool true))] 0) 20 (nk:=[(.atom 0,.flt .f32),(.atom 1,.one),(.atom 2,.one)]) (fs:=[]) (xs:=[.flt .f32 x,S,S']) (ws:=[]) (env:=[(0,.agg [.nd 0 (.flt .f32),.nd 1 .one]),(1,.agg [.nd 0 (.flt .f32),.nd 2 .one])]) ?_ ?_ jR xC (Grew.refl H) rfl ⟨rfl,rfl⟩ kr
 ·refine zC ?_ .nil _ .nil trivial ?_
  ·exact .cons rfl ⟨_,rfl,hx⟩ (.cons rfl (jD hS) (.cons rfl (jD hS') .nil))
  ·exact .cons (qI (args:=[S,S']) (qB (dNd rfl (jD hS)) (qB (dNd rfl (jD hS')) zA)) (qDo rfl) (fun H3 hk=>qHg H3 ms hr S S' (hS.grew (hk.grew (Nat.le_refl _))) (hS'.grew (hk.grew (Nat.le_refl _))) hmax)) .nil
 ·exact vP (mV (qB (dNd rfl ⟨_,rfl,hx⟩) (qB (dNd rfl (jD hS)) zA))) (vP (mV (qB (dNd rfl ⟨_,rfl,hx⟩) (qB (dNd rfl (jD hS')) zA))) zY)
theorem qJE {H:AHeap} {a:AV} (h:qBb H (true,[.flt .f32,.sl [.int .i32,.int .i32,.int .i32,.flt .f32,.flt .f32,.flt .f32,.flt .f32,.int .i64,.int .i64]]) a):∃ (x:ON) (ms:LL) (S:AV),a=.agg [.flt .f32 x,S]/\fOk .f32 x/\qL KM ms/\SlL H 9 ms S/\ms.length<=9223372036854775807:=by
 obtain⟨cs,rfl,hl,hc⟩:=h
 match cs,hl with
 | [c0,c1],_ =>
  have h0:=hc 0 _ _ rfl rfl
  have h1:=hc 1 _ _ rfl rfl
  cases h0 with
  | flt h0 =>
   obtain⟨ms,g1,g2,g3⟩:=qMc (ks:=KM) (sz:=9) h1 rfl rfl
   exact⟨_,ms,c1,rfl,h0,g1,g2,g3⟩
def plc (a b c:Int):List AV:=[.int .i32 a,.int .i32 b,.int .i32 c]
def lin (ms:LL) (a b c:Int):Nat:=(ms.takeWhile fun m=>decide (qAC m (plc a b c) < 0)).length
def fnd (ms:LL) (a b c:Int):Bool:=decide (lin ms a b c < ms.length) && decide (qAC (ms.getD (lin ms a b c) []) (plc a b c)=0)
theorem qHv {a b c:Int}:∀ {ms:LL} {i:Nat},i<=ms.length->(∀ j,j < i->qAC (ms.getD j []) (plc a b c) < 0)->(i < ms.length -> ¬ qAC (ms.getD i []) (plc a b c) < 0)->lin ms a b c=i
 | [],i,h,_,_=>by simp at h;subst h;rfl
 | m :: ms,0,_,_,h=>by
  have:=h (by simp)
  simp only [List.getD_cons_zero] at this
  simp [lin,List.takeWhile_cons,this]
 | m :: ms,i+1,h,h1,h2=>by
  have e0:=h1 0 om
  simp only [List.getD_cons_zero] at e0
  have:=qHv (ms:=ms) (i:=i) (by simpa using h) (fun j hj=>by have:=h1 (j+1) om;simpa using this) (fun hi=>by have:=h2 (by simpa using hi);simpa using this)
  simp only [lin,List.takeWhile_cons,e0,decide_true,if_true,List.length_cons]
  exact congrArg (· + 1) this
theorem dR {a b c a' b' c' : Int}:zD a b c a' b' c'=0 ↔ a=a'/\b=b'/\c=c':=by
 simp only [zD,qBg]
 (repeat' split) <;> omega
theorem qCj {a b c a' b' c' x y z:Int} (h:zD a b c a' b' c' < 0) (k:zD a' b' c' x y z < 0):zD a b c x y z < 0:=by
 have e:∀ {a b c a' b' c' : Int},zD a b c a' b' c' < 0 ↔ (a < a' \/ (a=a'/\(b < b' \/ (b=b'/\c < c')))):=by
  intro a b c a' b' c'
  simp only [zD,qBg]
  (repeat' split) <;> omega
 rw [e] at *
 omega
def mK (ms:LL):Prop:=∀ t,t+1 < ms.length->qAC (ms.getD t []) (ms.getD (t+1) []) < 0
theorem qFa {ms:LL} (hr:qL KM ms) (hs:mK ms) {a b c:Int} {h:Nat} (hh:h < ms.length) (hc:qAC (ms.getD h []) (plc a b c) < 0):∀ d t,t+d=h->qAC (ms.getD t []) (plc a b c) < 0
 | 0,t,e=>by
  obtain rfl:t=h:=by omega
  exact hc
 | d+1,t,e=>by
  have i1:=qFa hr hs hh hc d (t+1) om
  have i2:=hs t om
  have hg0:ms.getD t []=ms[t]'om:=by simp [List.getD_eq_getElem?_getD,show t < ms.length by omega]
  have hg1:ms.getD (t+1) []=ms[t+1]'om:=by simp [List.getD_eq_getElem?_getD,show t+1 < ms.length by omega]
  obtain⟨v0,v1,v2,v3,v4,v5,v6,v7,v8,hm,_⟩:=zR (hr.get (show t < ms.length by omega))
  obtain⟨w0,w1,w2,w3,w4,w5,w6,w7,w8,hn,_⟩:=zR (hr.get (show t+1 < ms.length by omega))
  rw [hg0,hm] at i2 ⊢
  rw [hg1,hn] at i1 i2
  exact qCj (show zD v0 v1 v2 w0 w1 w2 < 0 from i2) (show zD w0 w1 w2 a b c < 0 from i1)
theorem qKz {ms:LL} (hr:qL KM ms) (hs:mK ms) {a b c:Int} {h t:Nat} (ht:h<=t) (hl:t < ms.length) (hc:¬ qAC (ms.getD h []) (plc a b c) < 0):¬ qAC (ms.getD t []) (plc a b c) < 0:=fun k=>hc (qFa hr hs hl k (t - h) h om)
theorem wU {x:ON} {ms:LL} (h:xW x ms=true):mK ms:=by
 intro t ht
 simp only [xW,Bool.and_eq_true,List.all_eq_true,List.mem_range] at h
 have:=h.2.2 (t+1) ht
 simp only [qCq,Bool.and_eq_true,Bool.or_eq_true,beq_iff_eq,decide_eq_true_eq] at this
 rcases this.2 with h | h
 ·omega
 ·simpa using h
theorem qFs (m:List AV) (hm:KdsL KM m) (a b c:Int) (H:AHeap):zG Try.prog 34 [.agg m,.agg (plc a b c)] H (.int .i64 (qAC m (plc a b c))):=by
 obtain⟨v0,v1,v2,v3,v4,v5,v6,v7,v8,rfl,o3,o4,o5,o6⟩:=zR hm
 show zG _ _ _ _ (.int .i64 (zD v0 v1 v2 a b c))
 refine qN yX (by simp) ?_
 refine jB (φ:=φ0) (pm:=pmR 0 [(.call 22 [.agg (nds 0 K3),.agg (nds 9 K3)],.nd 12 (.int .i64))] 0) 20
  (nk:=[(.atom 0,.int .i32),(.atom 1,.int .i32),(.atom 2,.int .i32),(.atom 3,.flt .f32),(.atom 4,.flt .f32),(.atom 5,.flt .f32),(.atom 6,.flt .f32),(.atom 7,.int .i64),(.atom 8,.int .i64),(.atom 9,.int .i32),(.atom 10,.int .i32),(.atom 11,.int .i32),(.atom 12,.int .i64)]) (fs:=[])
  (xs:=[.int .i32 v0,.int .i32 v1,.int .i32 v2,.flt .f32 v3,.flt .f32 v4,.flt .f32 v5,.flt .f32 v6,.int .i64 v7,.int .i64 v8,.int .i32 a,.int .i32 b,.int .i32 c,.int .i64 (zD v0 v1 v2 a b c)]) (ws:=[]) (env:=[(0,.agg (nds 0 KM)),(1,.agg (nds 9 K3))]) ?_ ?_ jR xC ?_
 ·refine zC ?_ .nil _ .nil trivial ?_
  ·(repeat (first | exact .nil | refine .cons rfl ⟨_,rfl⟩ ?_ | refine .cons rfl ⟨_,rfl,by assumption⟩ ?_ | refine .cons rfl am ?_))
  ·exact .cons (qI (args:=[.agg (plc v0 v1 v2),.agg (plc a b c)]) (qB (mV (by repeat (first | exact zA | refine qB (dNd rfl ⟨_,rfl⟩) ?_ | refine qB (dNd rfl ⟨_,rfl,by assumption⟩) ?_ | refine qB (dNd rfl am) ?_))) (qB (mV (by repeat (first | exact zA | refine qB (dNd rfl ⟨_,rfl⟩) ?_ | refine qB (dNd rfl ⟨_,rfl,by assumption⟩) ?_ | refine qB (dNd rfl am) ?_))) zA)) (dNd rfl ⟨_,rfl⟩) (fun H3 _=>qO H3 v0 v1 v2 a b c)) .nil
 ·exact vP (mV (by repeat (first | exact zA | refine qB (dNd rfl ⟨_,rfl⟩) ?_ | refine qB (dNd rfl ⟨_,rfl,by assumption⟩) ?_ | refine qB (dNd rfl am) ?_))) (vP (show D _ _ _ (.agg (plc a b c)) from mV (by repeat (first | exact zA | refine qB (dNd rfl ⟨_,rfl⟩) ?_ | refine qB (dNd rfl ⟨_,rfl,by assumption⟩) ?_ | refine qB (dNd rfl am) ?_))) zY)
 refine qM kr fun vs ls H1 E1 st hE=>?_
 exact zF kr (xV st.inn hE (.inr rfl) (a:=.int .i64 (zD v0 v1 v2 a b c)) kr (gk st) rfl ⟨rfl,rfl⟩)
theorem qEy {n:Int} (h1:0<=n) (h2:n < 18446744073709551616):IntKind.u64.wrap n=n:=by
 simp only [IntKind.wrap,IntKind.bits,IntKind.signed];simp;omega
theorem qIR (H:AHeap) (ms:LL) (hr:qL KM ms) (hsort:mK ms) (S:AV) (hS:SlL H 9 ms S) (a b c:Int) (hmax:ms.length < 2^40):zG Try.prog 33 [S,.agg (plc a b c),.func 34 [] []] H (.tuple [.int .i64 (lin ms a b c:Int),.bool (fnd ms a b c)]):=by
 refine qN qY (by simp) ?_
 refine jB (φ:=φ0) (pm:=pmR 0 [(.len (.nd 0 .one),.nd 4 (.int .i64))] 0) 20 (nk:=[(.atom 0,.one),(.atom 1,.int .i32),(.atom 2,.int .i32),(.atom 3,.int .i32),(.atom 4,.int .i64)]) (fs:=[]) (xs:=[S,.int .i32 a,.int .i32 b,.int .i32 c,.int .i64 (ms.length:Int)]) (ws:=[]) (env:=[(0,.nd 0 .one),(1,.agg (nds 1 K3)),(2,.fn 34 [] [])]) ?_ ?_ jR xC ?_
 ·refine zC ?_ .nil _ .nil trivial ?_
  ·exact .cons rfl (jD hS) (.cons rfl ⟨_,rfl⟩ (.cons rfl ⟨_,rfl⟩ (.cons rfl ⟨_,rfl⟩ (.cons rfl ⟨_,rfl⟩ .nil))))
  ·exact .cons ⟨_,_,dNd rfl (jD hS),dNd rfl ⟨_,rfl⟩,gB hS⟩ .nil
 ·exact jC rfl rfl (jD hS) (vP (show D _ _ _ (.agg (plc a b c)) from mV (by repeat (first | exact zA | refine qB (dNd rfl ⟨_,rfl⟩) ?_ | refine qB (dNd rfl ⟨_,rfl,by assumption⟩) ?_ | refine qB (dNd rfl am) ?_))) (qGT rfl zY))
 refine qM kr fun vs ls H1 E1 st hE=>?_
 have a0:E1 0=S:=qW st.inn hE 0 kr
 have a2:E1 2=.func 34 [] []:=qW st.inn hE 2 kr
 have a8:E1 8=.int .i64 (ms.length:Int):=qW st.inn hE 8 kr
 have a9:E1 9=.int .i64 ((0:Nat):Int):=qW st.inn hE 9 kr
 have a10:E1 10=.int .i64 (ms.length:Int):=qW st.inn hE 10 kr
 obtain⟨p,a4,r4,_⟩:=pO st hE 4 0 [.int .i32 a,.int .i32 b,.int .i32 c]
 have g1:Grew H H1:=(gk st)
 refine zE kr (fun m E2 H2=>∃ i j:Nat,m+i=j/\j<=ms.length/\zJ E2 [(0,S),(2,.func 34 [] []),(4,.ptr p 0),(8,.int .i64 (ms.length:Int))]/\E2 9=.int .i64 (i:Int)/\E2 10=.int .i64 (j:Int)/\Grew H1 H2 /\
  (∀ t,t < i->qAC (ms.getD t []) (plc a b c) < 0)/\(∀ t,j<=t->t < ms.length -> ¬ qAC (ms.getD t []) (plc a b c) < 0)) ms.length
  ⟨0,ms.length,rfl,Nat.le_refl _,.cons a0 (.cons a2 (.cons a4 (.cons a8 .nil))),a9,a10,Grew.refl H1,fun t ht=>by omega,fun t h1 h2=>by omega⟩ ?_
 rintro m E2 H2 ⟨i,j,hm,hj,hs,h9,h10,hg2,hlo,hhi⟩
 have b0:=hs.head
 have b2:=hs.tail.head
 have b4:=hs.tail.tail.head
 have b8:=hs.tail.tail.tail.head
 have hso:=jD hS
 have r4':=hg2.at r4
 have gH2:=g1.trans hg2
 rcases Nat.lt_or_ge i j with hlt | hge
 ·obtain⟨h,hh⟩:∃ h:Nat,h=(i+j) / 2:=⟨_,rfl⟩
  have hhl:h < ms.length:=by omega
  have hW:IntKind.i64.wrap ((IntKind.u64.wrap (IntKind.i64.wrap ((i:Int)+(j:Int)))).fdiv (2^(min (1:Int).toNat IntKind.u64.bits)))=(h:Int):=by
   rw [wrap_i64 (n:=(i:Int)+(j:Int)) om om,qEy om om]
   show IntKind.i64.wrap (((i:Int)+(j:Int)).fdiv 2)=_
   rw [Int.fdiv_eq_ediv_of_nonneg _ om,wrap_i64 om om]
   omega
  cases hS with
  | nil h=>rw [h] at hj;simp at hj;omega
  | @sl ls0 n cap rest wr2 hgS hn hc =>
   have hgS2:=gH2.at hgS
   subst hn
   have hD:ms.getD h []=ms[h]:=by simp [List.getD_eq_getElem?_getD,hhl]
   have hkm:=hr.get hhl
   obtain⟨v0,v1,v2,v3,v4,v5,v6,v7,v8,hm',o3,o4,o5,o6⟩:=zR hkm
   refine jB (φ:=φ0) (pm:=pmR 2 [(.ia 9 (.nd 0 .one) (.nd 20 (.int .i64)),.ptr 0 0),(.call 34 [.agg (nds 6 KM),.agg (nds 3 K3)],.nd 15 (.int .i64))] 0) 20
    (nk:=[(.atom 0,.one),(.atom 1,.int .i64),(.atom 2,.int .i64),(.atom 3,.int .i32),(.atom 4,.int .i32),(.atom 5,.int .i32)] ++ ([(.atom 6,.int .i32),(.atom 7,.int .i32),(.atom 8,.int .i32),(.atom 9,.flt .f32),(.atom 10,.flt .f32),(.atom 11,.flt .f32),(.atom 12,.flt .f32),(.atom 13,.int .i64),(.atom 14,.int .i64)] ++ [(.atom 15,.int .i64),(.bin .lss (.nd 1 (.int .i64)) (.nd 2 (.int .i64)),.bool),(.bin .add (.nd 1 (.int .i64)) (.nd 2 (.int .i64)),.int .i64),(.conv (.ii .u64) (.nd 17 (.int .i64)),.int .u64),(.bin .shr (.nd 18 (.int .u64)) (.lit (.int .u64 1)),.int .u64),(.conv (.ii .i64) (.nd 19 (.int .u64)),.int .i64),(.atom 21,.int .i64)])) (fs:=[(16,true)])
    (xs:=[.slice ls0 0 ms.length cap 9,.int .i64 (i:Int),.int .i64 (j:Int),.int .i32 a,.int .i32 b,.int .i32 c,.int .i32 v0,.int .i32 v1,.int .i32 v2,.flt .f32 v3,.flt .f32 v4,.flt .f32 v5,.flt .f32 v6,.int .i64 v7,.int .i64 v8,.int .i64 (qAC ms[h] (plc a b c)),.bool true,.int .i64 ((i+j:Nat):Int),.int .u64 ((i+j:Nat):Int),.int .u64 (h:Int),.int .i64 (h:Int),.int .i64 (ms.length:Int)])
    (ws:=[⟨ls0,h * 9,nds 6 KM,false⟩,⟨p,0,nds 3 K3,false⟩]) (env:=[(0,.nd 0 .one),(2,.fn 34 [] []),(4,.ptr 1 0),(8,.nd 21 (.int .i64)),(9,.nd 1 (.int .i64)),(10,.nd 2 (.int .i64))]) ?_ ?_ jR xC ?_
   ·refine zC ?_ ?_ _ ?_ ?_ ?_
    ·refine .cons rfl rfl (.cons rfl ⟨_,rfl⟩ ?_)
     (repeat (first | exact .nil | refine .cons rfl ⟨_,rfl⟩ ?_ | refine .cons rfl ⟨_,rfl,by assumption⟩ ?_ | refine .cons rfl am ?_))
     refine .cons ⟨_,_,dNd rfl ⟨_,rfl⟩,dNd rfl ⟨_,rfl⟩,?_⟩ ⟨_,rfl⟩ ?_
     ·show some (AV.bool (decide ((i:Int) < (j:Int))))=_
      rw [decide_eq_true om]
     refine .cons ⟨_,_,dNd rfl ⟨_,rfl⟩,dNd rfl ⟨_,rfl⟩,?_⟩ ⟨_,rfl⟩ ?_
     ·show some (AV.int .i64 (IntKind.i64.wrap ((i:Int)+(j:Int))))=_
      rw [wrap_i64 om om];simp
     refine .cons ⟨_,dNd rfl ⟨_,rfl⟩,?_⟩ ⟨_,rfl⟩ ?_
     ·show some (AV.int .u64 (IntKind.u64.wrap ((i+j:Nat):Int)))=_
      rw [qEy om om]
     refine .cons ⟨_,_,dNd rfl ⟨_,rfl⟩,qDo rfl,?_⟩ ⟨_,rfl⟩ ?_
     ·show some (AV.int .u64 (((i+j:Nat):Int).fdiv 2))=_
      rw [hh,Int.fdiv_eq_ediv_of_nonneg _ om];rfl
     refine .cons ⟨_,dNd rfl ⟨_,rfl⟩,?_⟩ ⟨_,rfl⟩ ?_
     ·show some (AV.int .i64 (IntKind.i64.wrap (h:Int)))=_
      rw [wrap_i64 om om]
     exact .cons rfl ⟨_,rfl⟩ .nil
    ·exact .cons rfl .nil
    ·exact .cons (qA hr hgS2 hhl rfl (by rw [hm'];exact(by repeat (first | exact zA | refine qB (dNd rfl ⟨_,rfl⟩) ?_ | refine qB (dNd rfl ⟨_,rfl,by assumption⟩) ?_ | refine qB (dNd rfl am) ?_)))) (.cons (bH r4' (by repeat (first | exact zA | refine qB (dNd rfl ⟨_,rfl⟩) ?_ | refine qB (dNd rfl ⟨_,rfl,by assumption⟩) ?_ | refine qB (dNd rfl am) ?_))) .nil)
    ·exact⟨fun v hv h=>(by simp at hv;subst hv;simp at h),⟨fun v hv=>(by cases hv),trivial⟩⟩
    ·exact .cons (zV (k:=h) (dNd rfl rfl) (dNd rfl ⟨_,rfl⟩) om rfl) (.cons (qI (args:=[.agg ms[h],.agg (plc a b c)]) (qB (mV (by rw [hm'];exact(by repeat (first | exact zA | refine qB (dNd rfl ⟨_,rfl⟩) ?_ | refine qB (dNd rfl ⟨_,rfl,by assumption⟩) ?_ | refine qB (dNd rfl am) ?_)))) (qB (mV (by repeat (first | exact zA | refine qB (dNd rfl ⟨_,rfl⟩) ?_ | refine qB (dNd rfl ⟨_,rfl,by assumption⟩) ?_ | refine qB (dNd rfl am) ?_))) zA)) (dNd rfl ⟨_,rfl⟩) (fun H3 _=>qFs ms[h] hkm a b c H3)) .nil)
   ·exact jC b0 rfl rfl (qGT b2 (gZ (l:=p) (o:=0) b4 rfl rfl (jC b8 rfl ⟨_,rfl⟩ (jC h9 rfl ⟨_,rfl⟩ (jC h10 rfl ⟨_,rfl⟩ zY)))))
   ·refine vI kr ?_ ?_
    ·intro vs ls H4 E4 st hE
     have f1:decide (qAC ms[h] (plc a b c) < 0)=true:=bf st 0
     have d0:E4 0=.slice ls0 0 ms.length cap 9:=qW st.inn hE 0 kr
     have d2:E4 2=.func 34 [] []:=qW st.inn hE 2 kr
     have d4:E4 4=.ptr p 0:=qW st.inn hE 4 kr
     have d8:E4 8=.int .i64 (ms.length:Int):=qW st.inn hE 8 kr
     have d9:E4 9=.int .i64 (IntKind.i64.wrap (IntKind.i64.wrap ((IntKind.u64.wrap (IntKind.i64.wrap ((i:Int)+(j:Int)))).fdiv (2^(min (1:Int).toNat IntKind.u64.bits)))+1)):=qW st.inn hE 9 kr
     have d10:E4 10=.int .i64 (j:Int):=qW st.inn hE 10 kr
     rw [hW,wrap64 om] at d9
     have g4:Grew H1 H4:=hg2.trans (gk st)
     refine zF (e:=.normal) kr ?_
     refine⟨j - (h+1),by omega,h+1,j,by omega,hj,.cons d0 (.cons d2 (.cons d4 (.cons d8 .nil))),d9,d10,g4,?_,hhi⟩
     intro t ht
     exact qFa hr hsort hhl (by rw [hD];exact of_decide_eq_true f1) (h - t) t om
    ·intro vs ls H4 E4 st hE
     have f1:decide (qAC ms[h] (plc a b c) < 0)=false:=bf st 0
     have d0:E4 0=.slice ls0 0 ms.length cap 9:=qW st.inn hE 0 kr
     have d2:E4 2=.func 34 [] []:=qW st.inn hE 2 kr
     have d4:E4 4=.ptr p 0:=qW st.inn hE 4 kr
     have d8:E4 8=.int .i64 (ms.length:Int):=qW st.inn hE 8 kr
     have d9:E4 9=.int .i64 (i:Int):=qW st.inn hE 9 kr
     have d10:E4 10=.int .i64 (IntKind.i64.wrap ((IntKind.u64.wrap (IntKind.i64.wrap ((i:Int)+(j:Int)))).fdiv (2^(min (1:Int).toNat IntKind.u64.bits)))):=qW st.inn hE 10 kr
     rw [hW] at d10
     have g4:Grew H1 H4:=hg2.trans (gk st)
     refine zF (e:=.normal) kr ?_
     refine⟨h - i,by omega,i,h,by omega,by omega,.cons d0 (.cons d2 (.cons d4 (.cons d8 .nil))),d9,d10,g4,hlo,?_⟩
     intro t ht hl
     exact qKz hr hsort ht hl (by rw [hD];exact of_decide_eq_false f1)
 ·obtain rfl:i=j:=by omega
  have hlin:lin ms a b c=i:=qHv hj hlo (fun hi=>hhi i (Nat.le_refl _) hi)
  refine jB (φ:=φ0) (pm:=pmR 1 [] 0) 20 (nk:=[(.atom 0,.one),(.atom 1,.int .i64),(.atom 2,.int .i64),(.atom 3,.int .i32),(.atom 4,.int .i32),(.atom 5,.int .i32)]) (fs:=[]) (xs:=[S,.int .i64 (i:Int),.int .i64 (ms.length:Int),.int .i32 a,.int .i32 b,.int .i32 c])
   (ws:=[⟨p,0,nds 3 K3,false⟩]) (env:=[(0,.nd 0 .one),(2,.fn 34 [] []),(4,.ptr 0 0),(8,.nd 2 (.int .i64)),(9,.nd 1 (.int .i64)),(10,.nd 1 (.int .i64))]) ?_ ?_ jR xC ?_
  ·refine zC ?_ .nil _ ?_ ⟨fun v hv=>(by cases hv),trivial⟩ .nil
   ·exact .cons rfl hso (.cons rfl ⟨_,rfl⟩ (.cons rfl ⟨_,rfl⟩ (.cons rfl ⟨_,rfl⟩ (.cons rfl ⟨_,rfl⟩ (.cons rfl ⟨_,rfl⟩ .nil)))))
   ·exact .cons (bH r4' (by repeat (first | exact zA | refine qB (dNd rfl ⟨_,rfl⟩) ?_ | refine qB (dNd rfl ⟨_,rfl,by assumption⟩) ?_ | refine qB (dNd rfl am) ?_))) .nil
  ·exact jC b0 rfl hso (qGT b2 (gZ (l:=p) (o:=0) b4 rfl rfl (jC b8 rfl ⟨_,rfl⟩ (jC h9 rfl ⟨_,rfl⟩ (jC h10 rfl ⟨_,rfl⟩ zY)))))
  refine qM kr fun vs ls H4 E4 st hE=>?_
  have d0:E4 0=S:=qW st.inn hE 0 kr
  have d2:E4 2=.func 34 [] []:=qW st.inn hE 2 kr
  have d4:E4 4=.ptr p 0:=qW st.inn hE 4 kr
  have d8:E4 8=.int .i64 (ms.length:Int):=qW st.inn hE 8 kr
  have d9:E4 9=.int .i64 (i:Int):=qW st.inn hE 9 kr
  have g4:Grew H2 H4:=(gk st)
  have gH4:=gH2.trans g4
  have r4:=g4.at r4'
  refine qQ (id:=0) kr ?_
  rcases Nat.lt_or_ge i ms.length with hlt | hge2
  ·have hD:ms.getD i []=ms[i]:=by simp [List.getD_eq_getElem?_getD,hlt]
   have hf:fnd ms a b c=decide (qAC ms[i] (plc a b c)=0):=by
    simp only [fnd,hlin,hD,decide_eq_true hlt,Bool.true_and]
   rw [hlin,hf]
   cases hS with
   | nil h=>rw [h] at hlt;simp at hlt
   | @sl ls0 n cap rest wr2 hgS hn hc =>
    have hgS2:=gH4.at hgS
    subst hn
    have hkm:=hr.get hlt
    obtain⟨v0,v1,v2,v3,v4,v5,v6,v7,v8,hm',o3,o4,o5,o6⟩:=zR hkm
    refine jB (φ:=φ0) (pm:=pmR 2 [(.ia 9 (.nd 0 .one) (.nd 1 (.int .i64)),.ptr 0 0),(.call 34 [.agg (nds 6 KM),.agg (nds 3 K3)],.nd 15 (.int .i64))] 0) 20
     (nk:=[(.atom 0,.one),(.atom 1,.int .i64),(.atom 2,.int .i64),(.atom 3,.int .i32),(.atom 4,.int .i32),(.atom 5,.int .i32)] ++ ([(.atom 6,.int .i32),(.atom 7,.int .i32),(.atom 8,.int .i32),(.atom 9,.flt .f32),(.atom 10,.flt .f32),(.atom 11,.flt .f32),(.atom 12,.flt .f32),(.atom 13,.int .i64),(.atom 14,.int .i64)] ++ [(.atom 15,.int .i64),(.bin .lss (.nd 1 (.int .i64)) (.nd 2 (.int .i64)),.bool)])) (fs:=[(16,true)])
     (xs:=[.slice ls0 0 ms.length cap 9,.int .i64 (i:Int),.int .i64 (ms.length:Int),.int .i32 a,.int .i32 b,.int .i32 c,.int .i32 v0,.int .i32 v1,.int .i32 v2,.flt .f32 v3,.flt .f32 v4,.flt .f32 v5,.flt .f32 v6,.int .i64 v7,.int .i64 v8,.int .i64 (qAC ms[i] (plc a b c)),.bool true])
     (ws:=[⟨ls0,i * 9,nds 6 KM,false⟩,⟨p,0,nds 3 K3,false⟩]) (env:=[(0,.nd 0 .one),(2,.fn 34 [] []),(4,.ptr 1 0),(8,.nd 2 (.int .i64)),(9,.nd 1 (.int .i64))]) ?_ ?_ jR xC ?_
    ·refine zC ?_ ?_ _ ?_ ?_ ?_
     ·refine .cons rfl rfl (.cons rfl ⟨_,rfl⟩ ?_)
      (repeat (first | exact .nil | refine .cons rfl ⟨_,rfl⟩ ?_ | refine .cons rfl ⟨_,rfl,by assumption⟩ ?_ | refine .cons rfl am ?_))
      refine .cons ⟨_,_,dNd rfl ⟨_,rfl⟩,dNd rfl ⟨_,rfl⟩,?_⟩ ⟨_,rfl⟩ .nil
      show some (AV.bool (decide ((i:Int) < (ms.length:Int))))=_
      rw [decide_eq_true om]
     ·exact .cons rfl .nil
     ·exact .cons (qA hr hgS2 hlt rfl (by rw [hm'];exact(by repeat (first | exact zA | refine qB (dNd rfl ⟨_,rfl⟩) ?_ | refine qB (dNd rfl ⟨_,rfl,by assumption⟩) ?_ | refine qB (dNd rfl am) ?_)))) (.cons (bH r4 (by repeat (first | exact zA | refine qB (dNd rfl ⟨_,rfl⟩) ?_ | refine qB (dNd rfl ⟨_,rfl,by assumption⟩) ?_ | refine qB (dNd rfl am) ?_))) .nil)
     ·exact⟨fun v hv h=>(by simp at hv;subst hv;simp at h),⟨fun v hv=>(by cases hv),trivial⟩⟩
     ·exact .cons (zV (k:=i) (dNd rfl rfl) (dNd rfl ⟨_,rfl⟩) om rfl) (.cons (qI (args:=[.agg ms[i],.agg (plc a b c)]) (qB (mV (by rw [hm'];exact(by repeat (first | exact zA | refine qB (dNd rfl ⟨_,rfl⟩) ?_ | refine qB (dNd rfl ⟨_,rfl,by assumption⟩) ?_ | refine qB (dNd rfl am) ?_)))) (qB (mV (by repeat (first | exact zA | refine qB (dNd rfl ⟨_,rfl⟩) ?_ | refine qB (dNd rfl ⟨_,rfl,by assumption⟩) ?_ | refine qB (dNd rfl am) ?_))) zA)) (dNd rfl ⟨_,rfl⟩) (fun H3 _=>qFs ms[i] hkm a b c H3)) .nil)
    ·exact jC d0 rfl rfl (qGT d2 (gZ (l:=p) (o:=0) d4 rfl rfl (jC d8 rfl ⟨_,rfl⟩ (jC d9 rfl ⟨_,rfl⟩ zY))))
    ·refine qM kr fun vs ls H5 E5 st hE=>?_
     exact zF kr (xV st.inn hE (.inr rfl) (a:=.tuple [.int .i64 (i:Int),.bool (decide (qAC ms[i] (plc a b c)=0))]) kr (gH4.trans (gk st)) rfl ⟨rfl,rfl⟩)
  ·obtain rfl:i=ms.length:=by omega
   have hf:fnd ms a b c=false:=by simp [fnd,hlin]
   rw [hlin,hf]
   refine jB (φ:=φ0) (pm:=pmR 1 [] 0) 20 (nk:=[(.atom 0,.one),(.atom 1,.int .i64),(.atom 2,.int .i32),(.atom 3,.int .i32),(.atom 4,.int .i32)]) (fs:=[]) (xs:=[S,.int .i64 (ms.length:Int),.int .i32 a,.int .i32 b,.int .i32 c])
    (ws:=[⟨p,0,nds 2 K3,false⟩]) (env:=[(0,.nd 0 .one),(2,.fn 34 [] []),(4,.ptr 0 0),(8,.nd 1 (.int .i64)),(9,.nd 1 (.int .i64))]) ?_ ?_ jR xC ?_
   ·refine zC ?_ .nil _ ?_ ⟨fun v hv=>(by cases hv),trivial⟩ .nil
    ·exact .cons rfl hso (.cons rfl ⟨_,rfl⟩ (.cons rfl ⟨_,rfl⟩ (.cons rfl ⟨_,rfl⟩ (.cons rfl ⟨_,rfl⟩ .nil))))
    ·exact .cons (bH r4 (by repeat (first | exact zA | refine qB (dNd rfl ⟨_,rfl⟩) ?_ | refine qB (dNd rfl ⟨_,rfl,by assumption⟩) ?_ | refine qB (dNd rfl am) ?_))) .nil
   ·exact jC d0 rfl hso (qGT d2 (gZ (l:=p) (o:=0) d4 rfl rfl (jC d8 rfl ⟨_,rfl⟩ (jC d9 rfl ⟨_,rfl⟩ zY))))
   ·refine qM kr fun vs ls H5 E5 st hE=>?_
    exact zF kr (xV st.inn hE (.inr rfl) (a:=.tuple [.int .i64 (ms.length:Int),.bool false]) kr (gH4.trans (gk st)) rfl ⟨rfl,rfl⟩)
theorem qMr {xs:List AV} {ls:LN} {ws:List SV} {vs:List AV} (t:DL xs ls ws vs):D xs ls (.tup ws) (.tuple vs):=by simp only [D];exact⟨vs,rfl,t⟩
theorem qLf (H:AHeap) (x:ON) (hx:fOk .f32 x) (ms:LL) (hr:qL KM ms) (hsort:mK ms) (S:AV) (hS:SlL H 9 ms S) (a b c:Int) (hmax:ms.length < 2^40):zG Try.prog 19 [.agg [.flt .f32 x,S],.agg (plc a b c)] H (.tuple [.int .i64 (lin ms a b c:Int),.bool (fnd ms a b c)]):=by
 have hk:∀ H3,Kept 0 [] H H3->zG Try.prog 33 [S,.agg (plc a b c),.func 34 [] []] H3 (.tuple [.int .i64 (lin ms a b c:Int),.bool (fnd ms a b c)]):=fun H3 hk=>qIR H3 ms hr hsort S (hS.grew (hk.grew (Nat.le_refl _))) a b c hmax
 generalize (lin ms a b c:Int)=u at hk ⊢
 generalize fnd ms a b c=v at hk ⊢
 refine qN bA (by simp) ?_
 refine jB (φ:=φ0) (pm:=pmR 0 [(.call 33 [.nd 1 .one,.agg (nds 2 K3),.fn 34 [] []],.tup [.nd 5 (.int .i64),.nd 6 .bool])] 0) 20 (nk:=[(.atom 0,.flt .f32),(.atom 1,.one),(.atom 2,.int .i32),(.atom 3,.int .i32),(.atom 4,.int .i32),(.atom 5,.int .i64),(.atom 6,.bool)]) (fs:=[]) (xs:=[.flt .f32 x,S,.int .i32 a,.int .i32 b,.int .i32 c,.int .i64 u,.bool v]) (ws:=[]) (env:=[(0,.agg [.nd 0 (.flt .f32),.nd 1 .one]),(1,.agg (nds 2 K3))]) ?_ ?_ jR xC ?_
 ·refine zC ?_ .nil _ .nil trivial ?_
  ·exact .cons rfl ⟨_,rfl,hx⟩ (.cons rfl (jD hS) (.cons rfl ⟨_,rfl⟩ (.cons rfl ⟨_,rfl⟩ (.cons rfl ⟨_,rfl⟩ (.cons rfl ⟨_,rfl⟩ (.cons rfl ⟨_,rfl⟩ .nil))))))
  ·exact .cons (qI (args:=[S,.agg (plc a b c),.func 34 [] []]) (qB (dNd rfl (jD hS)) (qB (mV (by repeat (first | exact zA | refine qB (dNd rfl ⟨_,rfl⟩) ?_ | refine qB (dNd rfl ⟨_,rfl,by assumption⟩) ?_ | refine qB (dNd rfl am) ?_))) (qB dFn zA))) (qMr (qB (dNd rfl ⟨_,rfl⟩) (qB (dNd rfl ⟨_,rfl⟩) zA))) hk) .nil
 ·exact vP (mV (qB (dNd rfl ⟨_,rfl,hx⟩) (qB (dNd rfl (jD hS)) zA))) (vP (show D _ _ _ (.agg (plc a b c)) from mV (by repeat (first | exact zA | refine qB (dNd rfl ⟨_,rfl⟩) ?_ | refine qB (dNd rfl ⟨_,rfl,by assumption⟩) ?_ | refine qB (dNd rfl am) ?_))) zY)
 refine qM kr fun vs ls H1 E1 st hE=>?_
 exact zF kr (xV st.inn hE (.inr rfl) (a:=.tuple [.int .i64 u,.bool v]) kr (gk st) rfl ⟨rfl,rfl⟩)
def qFx (q:Int):List AV:=[.int .i32 (IntKind.wrap .i32 q),.int .i32 (IntKind.wrap .i32 (q+1)),.int .i32 (IntKind.wrap .i32 ((q+1)+1)),.flt .f32 (some (floatOfInt .f32 (((q+1)+1)+1))),.flt .f32 (some (floatOfInt .f32 ((((q+1)+1)+1)+1))),.flt .f32 (some (floatOfInt .f32 (((((q+1)+1)+1)+1)+1))),.flt .f32 (some (floatOfInt .f32 ((((((q+1)+1)+1)+1)+1)+1))),.int .i64 (((((((q+1)+1)+1)+1)+1)+1)+1),.int .i64 ((((((((q+1)+1)+1)+1)+1)+1)+1)+1)]
def xY (q:Int) (n:Nat):LL:=(List.range n).map fun (i:Nat)=>qFx (q+9 * (i:Int))
theorem uF (q:Int) (n:Nat):(xY q n).length=n:=by simp [xY]
theorem qEe (q:Int) (n:Nat):qL KM (xY q n):=by
 intro m hm
 simp only [xY,List.mem_map] at hm
 obtain⟨i,_,rfl⟩:=hm
 exact .cons kA (.cons kA (.cons kA (.cons ⟨_,rfl,cC _ _⟩ (.cons ⟨_,rfl,cC _ _⟩ (.cons ⟨_,rfl,cC _ _⟩ (.cons ⟨_,rfl,cC _ _⟩ (.cons kA (.cons kA .nil))))))))
theorem qEd (q:Int) (n:Nat):(xY q n).flatten.length=n * 9:=by
 have:=wT (qEe q n).len (i:=n) (by rw [uF];exact Nat.le_refl _)
 rwa [List.take_of_length_le (by rw [uF];exact Nat.le_refl _)] at this
theorem qEf (q:Int) (n:Nat):(xY q (n+1)).flatten=(xY q n).flatten ++ qFx (q+9 * (n:Int)):=by
 simp [xY,List.range_succ]
theorem qEO (H:AHeap) (ms:LL) (hr:qL KM ms) (l cap:Nat) (rest:List AV) (hg:H.get l=some (.row (ms.flatten ++ rest) true)) (k:Int) (h0:0<=k) (h1:k<=1152921504606846976) (hmax:ms.length<=1048576):qK Try.prog 26 [.slice l 0 ms.length cap 9,.int .i64 k] H fun r H'=>r=.int .i64 (k+9 * (ms.length:Int))/\Only l H H'/\H'.get l=some (.row ((xY k ms.length).flatten ++ rest) true):=by
 refine qN wE (by simp) ?_
 have row0:=hg
 have qq1:KdsL [.one,.int .i64] [.slice l 0 ms.length cap 9,.int .i64 k]:=.cons rfl (.cons kA .nil)
 refine rC 0 0 [] [(0,.nd 0 .one),(1,.nd 1 (.int .i64))] qq1 (.cons (t:=0) rfl (.cons (t:=1) rfl .nil)) ?_
 refine qM kr fun vs ls H1 E1 st hE=>?_
 have b2:=eo st hE 5 (.int .i64 0)
 have b3:=eo st hE 0 (.slice l 0 ms.length cap 9)
 have b4:=eo st hE 1 (.int .i64 k)
 have g5:Grew H H1:=(gk st)
 have g6:Only l H H1:=(Only.refl _ _).grew g5
 have r7:=g5.at hg
 refine zE kr (fun z E H'=>∃ i,z+i=ms.length/\E 0=.slice l 0 ms.length cap 9/\E 1=.int .i64 (k+9 * (i:Int))/\E 5=.int .i64 (i:Int)/\Only l H H'/\H'.get l=some (.row ((xY k i).flatten ++ ((ms.drop i).flatten ++ rest)) true)) ms.length
  ⟨0,by omega,b3,by simpa using b4,b2,g6,by simpa [xY] using r7⟩ ?_
 clear b3 b4 b2 r7
 rintro z E0 H0 ⟨i,hz,c0,c1,ci,gO,row⟩
 obtain⟨q,hq⟩:∃ q,q=k+9 * (i:Int):=⟨_,rfl⟩
 rw [<- hq] at c1
 rcases Nat.lt_or_ge i ms.length with hlt | hge
 ·obtain⟨v0,v1,v2,v3,v4,v5,v6,v7,v8,hm,o3,o4,o5,o6⟩:=zR (hr.get hlt)
  have hqb:-4611686018427387904<=q/\q+9<=4611686018427387904:=by omega
  have e0:IntKind.i64.wrap (q+1)=(q+1):=wrap_i64 om om
  have e1:IntKind.i64.wrap ((q+1)+1)=((q+1)+1):=wrap_i64 om om
  have e2:IntKind.i64.wrap (((q+1)+1)+1)=(((q+1)+1)+1):=wrap_i64 om om
  have e3:IntKind.i64.wrap ((((q+1)+1)+1)+1)=((((q+1)+1)+1)+1):=wrap_i64 om om
  have e4:IntKind.i64.wrap (((((q+1)+1)+1)+1)+1)=(((((q+1)+1)+1)+1)+1):=wrap_i64 om om
  have e5:IntKind.i64.wrap ((((((q+1)+1)+1)+1)+1)+1)=((((((q+1)+1)+1)+1)+1)+1):=wrap_i64 om om
  have e6:IntKind.i64.wrap (((((((q+1)+1)+1)+1)+1)+1)+1)=(((((((q+1)+1)+1)+1)+1)+1)+1):=wrap_i64 om om
  have e7:IntKind.i64.wrap ((((((((q+1)+1)+1)+1)+1)+1)+1)+1)=((((((((q+1)+1)+1)+1)+1)+1)+1)+1):=wrap_i64 om om
  have e8:IntKind.i64.wrap (((((((((q+1)+1)+1)+1)+1)+1)+1)+1)+1)=(((((((((q+1)+1)+1)+1)+1)+1)+1)+1)+1):=wrap_i64 om om
  have hP:(xY k i).flatten.length=i * 9:=qEd k i
  have hd:(ms.drop i).flatten=ms[i] ++ (ms.drop (i+1)).flatten:=by rw [List.drop_eq_getElem_cons hlt,List.flatten_cons]
  rw [hd,hm,List.append_assoc] at row
  obtain⟨Q,hQ⟩:∃ Q,Q=(ms.drop (i+1)).flatten ++ rest:=⟨_,rfl⟩
  obtain⟨P,hPe⟩:∃ P,P=(xY k i).flatten:=⟨_,rfl⟩
  rw [<- hQ,<- hPe] at row
  rw [<- hPe] at hP
  have hn:i < ms.length:=hlt
  have hza:z - 1 < z:=by omega
  have hzb:z - 1+(i+1)=ms.length:=by omega
  have hni:(i:Int) < (ms.length:Int):=by omega
  have hiw:IntKind.i64.wrap ((i:Int)+1)=((i+1:Nat):Int):=wrap64 om
  have hqn:(((((((((q+1)+1)+1)+1)+1)+1)+1)+1)+1)=k+9 * ((i+1:Nat):Int):=by push_cast;omega
  have qq2:KdsL [.one,.int .i64,.int .i64,.int .i64,.int .i32,.int .i32,.int .i32,.flt .f32,.flt .f32,.flt .f32,.flt .f32,.int .i64,.int .i64] [.slice l 0 ms.length cap 9,.int .i64 q,.int .i64 (i:Int),.int .i64 (ms.length:Int),.int .i32 v0,.int .i32 v1,.int .i32 v2,.flt .f32 v3,.flt .f32 v4,.flt .f32 v5,.flt .f32 v6,.int .i64 v7,.int .i64 v8]:=.cons rfl (.cons kA (.cons kA (.cons kA (.cons kA (.cons kA (.cons kA (.cons (kF o3) (.cons (kF o4) (.cons (kF o5) (.cons (kF o6) (.cons kA (.cons kA .nil))))))))))))
  refine rF 1 10 [(.len (.nd 0 .one),.nd 3 (.int .i64)),(.ia 9 (.nd 0 .one) (.nd 2 (.int .i64)),.ptr 0 0)] [⟨l,(i * 9),[.nd 4 (.int .i32),.nd 5 (.int .i32),.nd 6 (.int .i32),.nd 7 (.flt .f32),.nd 8 (.flt .f32),.nd 9 (.flt .f32),.nd 10 (.flt .f32),.nd 11 (.int .i64),.nd 12 (.int .i64)],false⟩] [(0,.nd 0 .one),(1,.nd 1 (.int .i64)),(5,.nd 2 (.int .i64))] qq2 (.cons (yG row hP (dL qq2)) .nil) (.cons (jL (dNd rfl rfl) (dNd rfl ⟨_,rfl⟩)) (.cons (zV (k:=i) (dNd rfl rfl) (dNd rfl ⟨_,rfl⟩) hn rfl) .nil)) (.cons c0 (.cons c1 (.cons ci .nil))) ?_
  refine vI kr ?_ ?_
  ·intro vs ls H8 E8 st hE
   have f9:(i:Int) < (ms.length:Int):=dt st 0
   have b10:=eo st hE 25 (.ptr l ((i * 9)+0))
   obtain⟨w11,hw11⟩:∃ z,z=(IntKind.wrap .i32 q):=⟨_,rfl⟩
   have b12:E8 22=.int .i32 w11:=by rw [hw11];exact eo st hE 22 _
   have B1:=es st hE [(1,.int .i64 q),(6,.int .i64 0),(14,.int .i64 0),(15,.bool true),(0,.slice l 0 ms.length cap 9),(5,.int .i64 (i:Int)),(21,.int .i64 q),(18,.slice l 0 ms.length cap 9),(19,.int .i64 (i:Int)),(20,.int .i64 0)]
   have g25:Grew H0 H8:=(gk st)
   have g26:Only l H H8:=gO.grew g25
   have row28:=g25.at row
   refine zU (d:=none) (n:=1) (x:=.tmp 25) (y:=.tmp 22) kr (off:=0) (C':=[.int .i32 w11,.int .i32 v1,.int .i32 v2,.flt .f32 v3,.flt .f32 v4,.flt .f32 v5,.flt .f32 v6,.int .i64 v7,.int .i64 v8]) (vs:=[.int .i32 w11]) b10 row28 hP (by show AV.cells (E8 22)=_;rw [b12];rfl) rfl (by simp) rfl rfl ?_
   intro H29 row30 oH29
   have g31:=g26.trans oH29
   have qq3:KdsL [.one,.int .i64,.int .i64,.int .i64,.int .i32,.int .i32,.int .i32,.flt .f32,.flt .f32,.flt .f32,.flt .f32,.int .i64,.int .i64,.int .i32] [.slice l 0 ms.length cap 9,.int .i64 q,.int .i64 (i:Int),.int .i64 (ms.length:Int),.int .i32 v0,.int .i32 v1,.int .i32 v2,.flt .f32 v3,.flt .f32 v4,.flt .f32 v5,.flt .f32 v6,.int .i64 v7,.int .i64 v8,.int .i32 w11]:=.cons rfl (.cons kA (.cons kA (.cons kA (.cons kA (.cons kA (.cons kA (.cons (kF o3) (.cons (kF o4) (.cons (kF o5) (.cons (kF o6) (.cons kA (.cons kA (.cons kA .nil)))))))))))))
   refine rF 1 10 [(.len (.nd 0 .one),.nd 3 (.int .i64)),(.ia 9 (.nd 0 .one) (.nd 2 (.int .i64)),.ptr 0 0)] [⟨l,(i * 9),[.nd 13 (.int .i32),.nd 5 (.int .i32),.nd 6 (.int .i32),.nd 7 (.flt .f32),.nd 8 (.flt .f32),.nd 9 (.flt .f32),.nd 10 (.flt .f32),.nd 11 (.int .i64),.nd 12 (.int .i64)],false⟩] [(1,.nd 1 (.int .i64)),(6,.lit (.int .i64 0)),(14,.lit (.int .i64 0)),(15,.lit (.bool true)),(0,.nd 0 .one),(5,.nd 2 (.int .i64)),(21,.nd 1 (.int .i64)),(18,.nd 0 .one),(19,.nd 2 (.int .i64)),(20,.lit (.int .i64 0)),(22,.nd 13 (.int .i32))] qq3 (.cons (yG row30 hP (dL qq3)) .nil) (.cons (jL (dNd rfl rfl) (dNd rfl ⟨_,rfl⟩)) (.cons (zV (k:=i) (dNd rfl rfl) (dNd rfl ⟨_,rfl⟩) hn rfl) .nil)) (sc (sn B1) (.cons (jK b12) .nil)) ?_
   refine qM kr fun vs ls H32 E32 st hE=>?_
   have b33:=eo st hE 25 (.ptr l ((i * 9)+1))
   obtain⟨w34,hw34⟩:∃ z,z=(IntKind.wrap .i32 (IntKind.wrap .i64 (q+1))):=⟨_,rfl⟩
   have b35:E32 22=.int .i32 w34:=by rw [hw34];exact eo st hE 22 _
   obtain⟨w36,hw36⟩:∃ z,z=(IntKind.wrap .i64 (q+1)):=⟨_,rfl⟩
   have nw36:w36=(q+1):=by rw [hw36];exact e0
   have b37:E32 1=.int .i64 w36:=by rw [hw36];exact eo st hE 1 _
   have b39:E32 27=.int .i64 w36:=by rw [hw36];exact eo st hE 27 _
   have b47:E32 21=.int .i64 w36:=by rw [hw36];exact eo st hE 21 _
   have B2:=es st hE [(26,.int .i64 q),(6,.int .i64 1),(16,.int .i64 0),(17,.int .i64 1),(14,.int .i64 1),(15,.bool true),(0,.slice l 0 ms.length cap 9),(5,.int .i64 (i:Int)),(18,.slice l 0 ms.length cap 9),(19,.int .i64 (i:Int)),(20,.int .i64 1)]
   have g53:Grew H29 H32:=(gk st)
   have g54:Only l H H32:=g31.grew g53
   have row56:=g53.at row30
   refine zU (d:=none) (n:=1) (x:=.tmp 25) (y:=.tmp 22) kr (off:=1) (C':=[.int .i32 w11,.int .i32 w34,.int .i32 v2,.flt .f32 v3,.flt .f32 v4,.flt .f32 v5,.flt .f32 v6,.int .i64 v7,.int .i64 v8]) (vs:=[.int .i32 w34]) b33 row56 hP (by show AV.cells (E32 22)=_;rw [b35];rfl) rfl (by simp) rfl rfl ?_
   intro H57 row58 oH57
   have g59:=g54.trans oH57
   have qq4:=qq3.app (kL:KdsL [.int .i32,.int .i64] [.int .i32 w34,.int .i64 w36])
   refine rF 1 10 [(.len (.nd 0 .one),.nd 3 (.int .i64)),(.ia 9 (.nd 0 .one) (.nd 2 (.int .i64)),.ptr 0 0)] [⟨l,(i * 9),[.nd 13 (.int .i32),.nd 14 (.int .i32),.nd 6 (.int .i32),.nd 7 (.flt .f32),.nd 8 (.flt .f32),.nd 9 (.flt .f32),.nd 10 (.flt .f32),.nd 11 (.int .i64),.nd 12 (.int .i64)],false⟩] [(26,.nd 1 (.int .i64)),(6,.lit (.int .i64 1)),(16,.lit (.int .i64 0)),(17,.lit (.int .i64 1)),(14,.lit (.int .i64 1)),(15,.lit (.bool true)),(0,.nd 0 .one),(5,.nd 2 (.int .i64)),(18,.nd 0 .one),(19,.nd 2 (.int .i64)),(20,.lit (.int .i64 1)),(22,.nd 14 (.int .i32)),(1,.nd 15 (.int .i64)),(27,.nd 15 (.int .i64)),(21,.nd 15 (.int .i64))] qq4 (.cons (yG row58 hP (dL qq4)) .nil) (.cons (jL (dNd rfl rfl) (dNd rfl ⟨_,rfl⟩)) (.cons (zV (k:=i) (dNd rfl rfl) (dNd rfl ⟨_,rfl⟩) hn rfl) .nil)) (sc (sn B2) (.cons (jK b35) (.cons (jK b37) (.cons (jK b39) (.cons (jK b47) .nil))))) ?_
   refine qM kr fun vs ls H60 E60 st hE=>?_
   have b61:=eo st hE 25 (.ptr l ((i * 9)+2))
   obtain⟨w62,hw62⟩:∃ z,z=(IntKind.wrap .i32 (IntKind.wrap .i64 (w36+1))):=⟨_,rfl⟩
   have b63:E60 22=.int .i32 w62:=by rw [hw62];exact eo st hE 22 _
   obtain⟨w64,hw64⟩:∃ z,z=(IntKind.wrap .i64 (w36+1)):=⟨_,rfl⟩
   have nw64:w64=((q+1)+1):=by rw [hw64,nw36];exact e1
   have b65:E60 1=.int .i64 w64:=by rw [hw64];exact eo st hE 1 _
   have b67:E60 27=.int .i64 w64:=by rw [hw64];exact eo st hE 27 _
   have b75:E60 21=.int .i64 w64:=by rw [hw64];exact eo st hE 21 _
   have B3:=es st hE [(26,.int .i64 w36),(6,.int .i64 2),(16,.int .i64 1),(17,.int .i64 2),(14,.int .i64 2),(15,.bool true),(0,.slice l 0 ms.length cap 9),(5,.int .i64 (i:Int)),(18,.slice l 0 ms.length cap 9),(19,.int .i64 (i:Int)),(20,.int .i64 2)]
   have g81:Grew H57 H60:=(gk st)
   have g82:Only l H H60:=g59.grew g81
   have row84:=g81.at row58
   refine zU (d:=none) (n:=1) (x:=.tmp 25) (y:=.tmp 22) kr (off:=2) (C':=[.int .i32 w11,.int .i32 w34,.int .i32 w62,.flt .f32 v3,.flt .f32 v4,.flt .f32 v5,.flt .f32 v6,.int .i64 v7,.int .i64 v8]) (vs:=[.int .i32 w62]) b61 row84 hP (by show AV.cells (E60 22)=_;rw [b63];rfl) rfl (by simp) rfl rfl ?_
   intro H85 row86 oH85
   have g87:=g82.trans oH85
   have qq5:=qq4.app (kL:KdsL [.int .i32,.int .i64] [.int .i32 w62,.int .i64 w64])
   refine rF 1 10 [(.len (.nd 0 .one),.nd 3 (.int .i64)),(.ia 9 (.nd 0 .one) (.nd 2 (.int .i64)),.ptr 0 0)] [⟨l,(i * 9),[.nd 13 (.int .i32),.nd 14 (.int .i32),.nd 16 (.int .i32),.nd 7 (.flt .f32),.nd 8 (.flt .f32),.nd 9 (.flt .f32),.nd 10 (.flt .f32),.nd 11 (.int .i64),.nd 12 (.int .i64)],false⟩] [(26,.nd 15 (.int .i64)),(6,.lit (.int .i64 2)),(16,.lit (.int .i64 1)),(17,.lit (.int .i64 2)),(14,.lit (.int .i64 2)),(15,.lit (.bool true)),(0,.nd 0 .one),(5,.nd 2 (.int .i64)),(18,.nd 0 .one),(19,.nd 2 (.int .i64)),(20,.lit (.int .i64 2)),(22,.nd 16 (.int .i32)),(1,.nd 17 (.int .i64)),(27,.nd 17 (.int .i64)),(21,.nd 17 (.int .i64))] qq5 (.cons (yG row86 hP (dL qq5)) .nil) (.cons (jL (dNd rfl rfl) (dNd rfl ⟨_,rfl⟩)) (.cons (zV (k:=i) (dNd rfl rfl) (dNd rfl ⟨_,rfl⟩) hn rfl) .nil)) (sc (sn B3) (.cons (jK b63) (.cons (jK b65) (.cons (jK b67) (.cons (jK b75) .nil))))) ?_
   refine qM kr fun vs ls H88 E88 st hE=>?_
   have b89:=eo st hE 39 (.ptr l ((i * 9)+3))
   obtain⟨w90,hw90⟩:∃ z,z=(some (floatOfInt .f32 (IntKind.wrap .i64 (w64+1)))):=⟨_,rfl⟩
   have b91:E88 36=.flt .f32 w90:=by rw [hw90];exact eo st hE 36 _
   obtain⟨w92,hw92⟩:∃ z,z=(IntKind.wrap .i64 (w64+1)):=⟨_,rfl⟩
   have nw92:w92=(((q+1)+1)+1):=by rw [hw92,nw64];exact e2
   have b93:E88 1=.int .i64 w92:=by rw [hw92];exact eo st hE 1 _
   have b99:E88 35=.int .i64 w92:=by rw [hw92];exact eo st hE 35 _
   have B4:=es st hE [(7,.int .i64 0),(28,.int .i64 0),(29,.bool true),(0,.slice l 0 ms.length cap 9),(5,.int .i64 (i:Int)),(32,.slice l 0 ms.length cap 9),(33,.int .i64 (i:Int)),(34,.int .i64 0)]
   have g105:Grew H85 H88:=(gk st)
   have g106:Only l H H88:=g87.grew g105
   have row108:=g105.at row86
   refine zU (d:=none) (n:=1) (x:=.tmp 39) (y:=.tmp 36) kr (off:=3) (C':=[.int .i32 w11,.int .i32 w34,.int .i32 w62,.flt .f32 w90,.flt .f32 v4,.flt .f32 v5,.flt .f32 v6,.int .i64 v7,.int .i64 v8]) (vs:=[.flt .f32 w90]) b89 row108 hP (by show AV.cells (E88 36)=_;rw [b91];rfl) rfl (by simp) rfl rfl ?_
   intro H109 row110 oH109
   have g111:=g106.trans oH109
   have qq6:=qq5.app (.cons ⟨_,rfl,hw90 ▸ cC _ _⟩ (.cons kA .nil):KdsL [.flt .f32,.int .i64] [.flt .f32 w90,.int .i64 w92])
   refine rF 1 10 [(.len (.nd 0 .one),.nd 3 (.int .i64)),(.ia 9 (.nd 0 .one) (.nd 2 (.int .i64)),.ptr 0 0)] [⟨l,(i * 9),[.nd 13 (.int .i32),.nd 14 (.int .i32),.nd 16 (.int .i32),.nd 18 (.flt .f32),.nd 8 (.flt .f32),.nd 9 (.flt .f32),.nd 10 (.flt .f32),.nd 11 (.int .i64),.nd 12 (.int .i64)],false⟩] [(7,.lit (.int .i64 0)),(28,.lit (.int .i64 0)),(29,.lit (.bool true)),(0,.nd 0 .one),(5,.nd 2 (.int .i64)),(32,.nd 0 .one),(33,.nd 2 (.int .i64)),(34,.lit (.int .i64 0)),(36,.nd 18 (.flt .f32)),(1,.nd 19 (.int .i64)),(35,.nd 19 (.int .i64))] qq6 (.cons (yG row110 hP (dL qq6)) .nil) (.cons (jL (dNd rfl rfl) (dNd rfl ⟨_,rfl⟩)) (.cons (zV (k:=i) (dNd rfl rfl) (dNd rfl ⟨_,rfl⟩) hn rfl) .nil)) (sc (sn B4) (.cons (jK b91) (.cons (jK b93) (.cons (jK b99) .nil)))) ?_
   refine qM kr fun vs ls H112 E112 st hE=>?_
   have b113:=eo st hE 39 (.ptr l ((i * 9)+4))
   obtain⟨w114,hw114⟩:∃ z,z=(some (floatOfInt .f32 (IntKind.wrap .i64 (w92+1)))):=⟨_,rfl⟩
   have b115:E112 36=.flt .f32 w114:=by rw [hw114];exact eo st hE 36 _
   obtain⟨w116,hw116⟩:∃ z,z=(IntKind.wrap .i64 (w92+1)):=⟨_,rfl⟩
   have nw116:w116=((((q+1)+1)+1)+1):=by rw [hw116,nw92];exact e3
   have b117:E112 1=.int .i64 w116:=by rw [hw116];exact eo st hE 1 _
   have b119:E112 41=.int .i64 w116:=by rw [hw116];exact eo st hE 41 _
   have b127:E112 35=.int .i64 w116:=by rw [hw116];exact eo st hE 35 _
   have B5:=es st hE [(40,.int .i64 w92),(7,.int .i64 1),(30,.int .i64 0),(31,.int .i64 1),(28,.int .i64 1),(29,.bool true),(0,.slice l 0 ms.length cap 9),(5,.int .i64 (i:Int)),(32,.slice l 0 ms.length cap 9),(33,.int .i64 (i:Int)),(34,.int .i64 1)]
   have g133:Grew H109 H112:=(gk st)
   have g134:Only l H H112:=g111.grew g133
   have row136:=g133.at row110
   refine zU (d:=none) (n:=1) (x:=.tmp 39) (y:=.tmp 36) kr (off:=4) (C':=[.int .i32 w11,.int .i32 w34,.int .i32 w62,.flt .f32 w90,.flt .f32 w114,.flt .f32 v5,.flt .f32 v6,.int .i64 v7,.int .i64 v8]) (vs:=[.flt .f32 w114]) b113 row136 hP (by show AV.cells (E112 36)=_;rw [b115];rfl) rfl (by simp) rfl rfl ?_
   intro H137 row138 oH137
   have g139:=g134.trans oH137
   have qq7:=qq6.app (.cons ⟨_,rfl,hw114 ▸ cC _ _⟩ (.cons kA .nil):KdsL [.flt .f32,.int .i64] [.flt .f32 w114,.int .i64 w116])
   refine rF 1 10 [(.len (.nd 0 .one),.nd 3 (.int .i64)),(.ia 9 (.nd 0 .one) (.nd 2 (.int .i64)),.ptr 0 0)] [⟨l,(i * 9),[.nd 13 (.int .i32),.nd 14 (.int .i32),.nd 16 (.int .i32),.nd 18 (.flt .f32),.nd 20 (.flt .f32),.nd 9 (.flt .f32),.nd 10 (.flt .f32),.nd 11 (.int .i64),.nd 12 (.int .i64)],false⟩] [(40,.nd 19 (.int .i64)),(7,.lit (.int .i64 1)),(30,.lit (.int .i64 0)),(31,.lit (.int .i64 1)),(28,.lit (.int .i64 1)),(29,.lit (.bool true)),(0,.nd 0 .one),(5,.nd 2 (.int .i64)),(32,.nd 0 .one),(33,.nd 2 (.int .i64)),(34,.lit (.int .i64 1)),(36,.nd 20 (.flt .f32)),(1,.nd 21 (.int .i64)),(41,.nd 21 (.int .i64)),(35,.nd 21 (.int .i64))] qq7 (.cons (yG row138 hP (dL qq7)) .nil) (.cons (jL (dNd rfl rfl) (dNd rfl ⟨_,rfl⟩)) (.cons (zV (k:=i) (dNd rfl rfl) (dNd rfl ⟨_,rfl⟩) hn rfl) .nil)) (sc (sn B5) (.cons (jK b115) (.cons (jK b117) (.cons (jK b119) (.cons (jK b127) .nil))))) ?_
   refine qM kr fun vs ls H140 E140 st hE=>?_
   have b141:=eo st hE 39 (.ptr l ((i * 9)+5))
   obtain⟨w142,hw142⟩:∃ z,z=(some (floatOfInt .f32 (IntKind.wrap .i64 (w116+1)))):=⟨_,rfl⟩
   have b143:E140 36=.flt .f32 w142:=by rw [hw142];exact eo st hE 36 _
   obtain⟨w144,hw144⟩:∃ z,z=(IntKind.wrap .i64 (w116+1)):=⟨_,rfl⟩
   have nw144:w144=(((((q+1)+1)+1)+1)+1):=by rw [hw144,nw116];exact e4
   have b145:E140 1=.int .i64 w144:=by rw [hw144];exact eo st hE 1 _
   have b147:E140 41=.int .i64 w144:=by rw [hw144];exact eo st hE 41 _
   have b155:E140 35=.int .i64 w144:=by rw [hw144];exact eo st hE 35 _
   have B6:=es st hE [(40,.int .i64 w116),(7,.int .i64 2),(30,.int .i64 1),(31,.int .i64 2),(28,.int .i64 2),(29,.bool true),(0,.slice l 0 ms.length cap 9),(5,.int .i64 (i:Int)),(32,.slice l 0 ms.length cap 9),(33,.int .i64 (i:Int)),(34,.int .i64 2)]
   have g161:Grew H137 H140:=(gk st)
   have g162:Only l H H140:=g139.grew g161
   have row164:=g161.at row138
   refine zU (d:=none) (n:=1) (x:=.tmp 39) (y:=.tmp 36) kr (off:=5) (C':=[.int .i32 w11,.int .i32 w34,.int .i32 w62,.flt .f32 w90,.flt .f32 w114,.flt .f32 w142,.flt .f32 v6,.int .i64 v7,.int .i64 v8]) (vs:=[.flt .f32 w142]) b141 row164 hP (by show AV.cells (E140 36)=_;rw [b143];rfl) rfl (by simp) rfl rfl ?_
   intro H165 row166 oH165
   have g167:=g162.trans oH165
   have qq8:=qq7.app (.cons ⟨_,rfl,hw142 ▸ cC _ _⟩ (.cons kA .nil):KdsL [.flt .f32,.int .i64] [.flt .f32 w142,.int .i64 w144])
   refine rF 1 10 [(.len (.nd 0 .one),.nd 3 (.int .i64)),(.ia 9 (.nd 0 .one) (.nd 2 (.int .i64)),.ptr 0 0)] [⟨l,(i * 9),[.nd 13 (.int .i32),.nd 14 (.int .i32),.nd 16 (.int .i32),.nd 18 (.flt .f32),.nd 20 (.flt .f32),.nd 22 (.flt .f32),.nd 10 (.flt .f32),.nd 11 (.int .i64),.nd 12 (.int .i64)],false⟩] [(40,.nd 21 (.int .i64)),(7,.lit (.int .i64 2)),(30,.lit (.int .i64 1)),(31,.lit (.int .i64 2)),(28,.lit (.int .i64 2)),(29,.lit (.bool true)),(0,.nd 0 .one),(5,.nd 2 (.int .i64)),(32,.nd 0 .one),(33,.nd 2 (.int .i64)),(34,.lit (.int .i64 2)),(36,.nd 22 (.flt .f32)),(1,.nd 23 (.int .i64)),(41,.nd 23 (.int .i64)),(35,.nd 23 (.int .i64))] qq8 (.cons (yG row166 hP (dL qq8)) .nil) (.cons (jL (dNd rfl rfl) (dNd rfl ⟨_,rfl⟩)) (.cons (zV (k:=i) (dNd rfl rfl) (dNd rfl ⟨_,rfl⟩) hn rfl) .nil)) (sc (sn B6) (.cons (jK b143) (.cons (jK b145) (.cons (jK b147) (.cons (jK b155) .nil))))) ?_
   refine qM kr fun vs ls H168 E168 st hE=>?_
   have b169:=eo st hE 47 (.ptr l ((i * 9)+6))
   obtain⟨w170,hw170⟩:∃ z,z=(some (floatOfInt .f32 (IntKind.wrap .i64 (w144+1)))):=⟨_,rfl⟩
   have b171:E168 45=.flt .f32 w170:=by rw [hw170];exact eo st hE 45 _
   obtain⟨w172,hw172⟩:∃ z,z=(IntKind.wrap .i64 (w144+1)):=⟨_,rfl⟩
   have nw172:w172=((((((q+1)+1)+1)+1)+1)+1):=by rw [hw172,nw144];exact e5
   have b173:E168 1=.int .i64 w172:=by rw [hw172];exact eo st hE 1 _
   have B7:=es st hE [(0,.slice l 0 ms.length cap 9),(5,.int .i64 (i:Int))]
   have g176:Grew H165 H168:=(gk st)
   have g177:Only l H H168:=g167.grew g176
   have row179:=g176.at row166
   refine zU (d:=none) (n:=1) (x:=.tmp 47) (y:=.tmp 45) kr (off:=6) (C':=[.int .i32 w11,.int .i32 w34,.int .i32 w62,.flt .f32 w90,.flt .f32 w114,.flt .f32 w142,.flt .f32 w170,.int .i64 v7,.int .i64 v8]) (vs:=[.flt .f32 w170]) b169 row179 hP (by show AV.cells (E168 45)=_;rw [b171];rfl) rfl (by simp) rfl rfl ?_
   intro H180 row181 oH180
   have g182:=g177.trans oH180
   have qq9:=qq8.app (.cons ⟨_,rfl,hw170 ▸ cC _ _⟩ (.cons kA .nil):KdsL [.flt .f32,.int .i64] [.flt .f32 w170,.int .i64 w172])
   refine rF 1 10 [(.len (.nd 0 .one),.nd 3 (.int .i64)),(.ia 9 (.nd 0 .one) (.nd 2 (.int .i64)),.ptr 0 0)] [⟨l,(i * 9),[.nd 13 (.int .i32),.nd 14 (.int .i32),.nd 16 (.int .i32),.nd 18 (.flt .f32),.nd 20 (.flt .f32),.nd 22 (.flt .f32),.nd 24 (.flt .f32),.nd 11 (.int .i64),.nd 12 (.int .i64)],false⟩] [(0,.nd 0 .one),(5,.nd 2 (.int .i64)),(45,.nd 24 (.flt .f32)),(1,.nd 25 (.int .i64))] qq9 (.cons (yG row181 hP (dL qq9)) .nil) (.cons (jL (dNd rfl rfl) (dNd rfl ⟨_,rfl⟩)) (.cons (zV (k:=i) (dNd rfl rfl) (dNd rfl ⟨_,rfl⟩) hn rfl) .nil)) (sc (sn B7) (.cons (jK b171) (.cons (jK b173) .nil))) ?_
   refine qM kr fun vs ls H183 E183 st hE=>?_
   have b184:=eo st hE 54 (.ptr l ((i * 9)+7))
   obtain⟨w185,hw185⟩:∃ z,z=(IntKind.wrap .i64 (w172+1)):=⟨_,rfl⟩
   have nw185:w185=(((((((q+1)+1)+1)+1)+1)+1)+1):=by rw [hw185,nw172];exact e6
   have b186:E183 52=.int .i64 w185:=by rw [hw185];exact eo st hE 52 _
   have b187:E183 1=.int .i64 w185:=by rw [hw185];exact eo st hE 1 _
   have B8:=es st hE [(0,.slice l 0 ms.length cap 9),(5,.int .i64 (i:Int))]
   have g190:Grew H180 H183:=(gk st)
   have g191:Only l H H183:=g182.grew g190
   have row193:=g190.at row181
   refine zU (d:=none) (n:=1) (x:=.tmp 54) (y:=.tmp 52) kr (off:=7) (C':=[.int .i32 w11,.int .i32 w34,.int .i32 w62,.flt .f32 w90,.flt .f32 w114,.flt .f32 w142,.flt .f32 w170,.int .i64 w185,.int .i64 v8]) (vs:=[.int .i64 w185]) b184 row193 hP (by show AV.cells (E183 52)=_;rw [b186];rfl) rfl (by simp) rfl rfl ?_
   intro H194 row195 oH194
   have g196:=g191.trans oH194
   have qq10:=qq9.app (kL:KdsL [.int .i64] [.int .i64 w185])
   refine rF 1 10 [(.len (.nd 0 .one),.nd 3 (.int .i64)),(.ia 9 (.nd 0 .one) (.nd 2 (.int .i64)),.ptr 0 0)] [⟨l,(i * 9),[.nd 13 (.int .i32),.nd 14 (.int .i32),.nd 16 (.int .i32),.nd 18 (.flt .f32),.nd 20 (.flt .f32),.nd 22 (.flt .f32),.nd 24 (.flt .f32),.nd 26 (.int .i64),.nd 12 (.int .i64)],false⟩] [(0,.nd 0 .one),(5,.nd 2 (.int .i64)),(52,.nd 26 (.int .i64)),(1,.nd 26 (.int .i64))] qq10 (.cons (yG row195 hP (dL qq10)) .nil) (.cons (jL (dNd rfl rfl) (dNd rfl ⟨_,rfl⟩)) (.cons (zV (k:=i) (dNd rfl rfl) (dNd rfl ⟨_,rfl⟩) hn rfl) .nil)) (sc (sn B8) (.cons (jK b186) (.cons (jK b187) .nil))) ?_
   refine qM kr fun vs ls H197 E197 st hE=>?_
   have b198:=eo st hE 61 (.ptr l ((i * 9)+8))
   obtain⟨w199,hw199⟩:∃ z,z=(IntKind.wrap .i64 (w185+1)):=⟨_,rfl⟩
   have nw199:w199=((((((((q+1)+1)+1)+1)+1)+1)+1)+1):=by rw [hw199,nw185];exact e7
   have b200:E197 59=.int .i64 w199:=by rw [hw199];exact eo st hE 59 _
   have b201:E197 1=.int .i64 w199:=by rw [hw199];exact eo st hE 1 _
   have B9:=es st hE [(5,.int .i64 (i:Int)),(0,.slice l 0 ms.length cap 9)]
   have g204:Grew H194 H197:=(gk st)
   have g205:Only l H H197:=g196.grew g204
   have row207:=g204.at row195
   refine zU (d:=none) (n:=1) (x:=.tmp 61) (y:=.tmp 59) kr (off:=8) (C':=[.int .i32 w11,.int .i32 w34,.int .i32 w62,.flt .f32 w90,.flt .f32 w114,.flt .f32 w142,.flt .f32 w170,.int .i64 w185,.int .i64 w199]) (vs:=[.int .i64 w199]) b198 row207 hP (by show AV.cells (E197 59)=_;rw [b200];rfl) rfl (by simp) rfl rfl ?_
   intro H208 row209 oH208
   have g210:=g205.trans oH208
   have qq11:=qq10.app (kL:KdsL [.int .i64] [.int .i64 w199])
   refine rF 1 10 [(.len (.nd 0 .one),.nd 3 (.int .i64)),(.ia 9 (.nd 0 .one) (.nd 2 (.int .i64)),.ptr 0 0)] [⟨l,(i * 9),[.nd 13 (.int .i32),.nd 14 (.int .i32),.nd 16 (.int .i32),.nd 18 (.flt .f32),.nd 20 (.flt .f32),.nd 22 (.flt .f32),.nd 24 (.flt .f32),.nd 26 (.int .i64),.nd 27 (.int .i64)],false⟩] [(5,.nd 2 (.int .i64)),(0,.nd 0 .one),(59,.nd 27 (.int .i64)),(1,.nd 27 (.int .i64))] qq11 (.cons (yG row209 hP (dL qq11)) .nil) (.cons (jL (dNd rfl rfl) (dNd rfl ⟨_,rfl⟩)) (.cons (zV (k:=i) (dNd rfl rfl) (dNd rfl ⟨_,rfl⟩) hn rfl) .nil)) (sc (sn B9) (.cons (jK b200) (.cons (jK b201) .nil))) ?_
   refine qM kr fun vs ls H9 E9 st hE=>?_
   have g9:Grew H208 H9:=(gk st)
   have r9:=g9.at row209
   have c9:E9 1=.int .i64 (IntKind.wrap .i64 (w199+1)):=qW st.inn hE 1 kr
   have d9:E9 5=.int .i64 (IntKind.wrap .i64 ((i:Int)+1)):=qW st.inn hE 5 kr
   have z9:E9 0=.slice l 0 ms.length cap 9:=qW st.inn hE 0 kr
   refine qP kr ⟨z - 1,hza,i+1,hzb,z9,?_,?_,g210.grew g9,?_⟩
   ·rw [c9,nw199,e8,hqn]
   ·rw [d9,hiw]
   ·rw [r9,qEf,<- hPe,<- hQ,<- hq,show [.int .i32 w11,.int .i32 w34,.int .i32 w62,.flt .f32 w90,.flt .f32 w114,.flt .f32 w142,.flt .f32 w170,.int .i64 w185,.int .i64 w199]=qFx q from ?_,List.append_assoc]
    simp only [qFx,nw36,nw64,nw92,nw116,nw144,nw172,nw185,nw199,hw11,hw34,hw62,hw90,hw114,hw142,hw170,e0,e1,e2,e3,e4,e5,e6,e7,e8]
  ·intro vs ls H9 E9 st hE
   exact absurd hni (of_decide_eq_false (qCG (x:=decide ((i:Int) < (ms.length:Int))) st.inn 0 kr))
 ·obtain rfl:i=ms.length:=by omega
  have qq12:KdsL [.one,.int .i64,.int .i64] [.slice l 0 ms.length cap 9,.int .i64 q,.int .i64 (ms.length:Int)]:=.cons rfl (.cons kA (.cons kA .nil))
  refine rD 0 10 [(.len (.nd 0 .one),.nd 2 (.int .i64))] [] [(0,.nd 0 .one),(1,.nd 1 (.int .i64)),(5,.nd 2 (.int .i64))] qq12 (.cons (jL (dNd rfl rfl) (dNd rfl ⟨_,rfl⟩)) .nil) (.cons c0 (.cons c1 (.cons ci .nil))) ?_
  refine qM kr fun vs ls H211 E211 st hE=>?_
  have b212:=eo st hE 1 (.int .i64 q)
  have g213:Grew H0 H211:=(gk st)
  have g214:Only l H H211:=gO.grew g213
  have re:=g213.at row
  refine qQ (id:=0) kr ?_
  refine rC 0 10 [] [(1,.nd 1 (.int .i64))] qq12 (.cons b212 .nil) ?_
  refine qM kr fun vs ls H9 E9 st hE=>?_
  have g9:Grew H211 H9:=(gk st)
  refine zF kr (qS st.inn hE (.inr rfl) (a:=.int .i64 q) kr (g214.grew g9).next ⟨by rw [hq],g214.grew g9,?_⟩)
  rw [g9.at re];simp
theorem vD (H:AHeap) (x:ON) (hx:fOk .f32 x) (ms:LL) (hr:qL KM ms) (S:AV) (hS:SlL H 9 ms S) (hmax:ms.length<=1048576):qK Try.prog 6 [.agg [.flt .f32 x,S]] H fun r H'=>Grew H H' /\ ∃ S',r=.agg [.flt .f32 x,S']/\SlW H' 9 ms S'/\FreshS H.next S':=by
 refine(qEP H x hx ms hr S hS hmax).mono ?_
 rintro r H' ⟨g,l,hl,rfl,row⟩
 exact⟨g,_,rfl,.sl (rest:=[]) (by simpa using row) rfl (Nat.le_refl _),.of_le hl⟩
theorem qFd (H:AHeap) (ms:LL) (hr:qL KM ms) (S:AV) (hS:SlW H 9 ms S) (k:Int) (h0:0<=k) (h1:k<=1152921504606846976) (hmax:ms.length<=1048576):qK Try.prog 26 [S,.int .i64 k] H fun r H'=>r=.int .i64 (k+9 * (ms.length:Int))/\OnlyS S H H'/\SlW H' 9 (xY k ms.length) S:=by
 cases hS with
 | @sl l n cap rest hg hn hc =>
  subst hn
  refine(qEO H ms hr l cap rest hg k h0 h1 hmax).mono ?_
  rintro r H' ⟨rfl,ho,row⟩
  exact⟨rfl,.of_only ho,.sl row (uF _ _) hc⟩
 | nil h =>
  subst h
  refine qN wE (by simp) ?_
  have q1:KdsL [KI] [.int .i64 k]:=kL
  refine rC 0 2 [] [(0,lN),(1,nI 0)] q1 (.cons (t:=0) rfl (.cons (t:=1) rfl .nil)) ?_
  refine qM kr fun vs ls H9 E9 st hE=>?_
  have g9:Grew H H9:=(gk st)
  exact zF kr (qS st.inn hE (.inr rfl) (a:=.int .i64 k) kr g9.next ⟨by simp,.of_grew g9,.nil rfl⟩)
theorem cF (H:AHeap) (x:ON) (hx:fOk .f32 x) (ms:LL) (hr:qL KM ms) (S:AV) (hS:SlW H 9 ms S) (k:Int) (h0:0<=k) (h1:k<=1152921504606846976) (hmax:ms.length<=1048576):qK Try.prog 10 [.agg [.flt .f32 x,S],.int .i64 k] H fun r H'=>r=.int .i64 (k+9 * (ms.length:Int))/\OnlyS S H H'/\SlW H' 9 (xY k ms.length) S:=by
 refine qN bS (by simp) ?_
 have q1:KdsL [KF,.one,KI] [.flt .f32 x,S,.int .i64 k]:=kL
 refine rC 0 0 [] [(0,.agg [nF 0,n1 1]),(1,nI 2)] q1 (.cons (t:=0) rfl (.cons (t:=1) rfl .nil)) ?_
 refine qM kr fun vs ls H2 E2 st hE=>?_
 have b3:=eo st hE 6 S
 have b4:=eo st hE 7 (.int .i64 k)
 have B1:=es st hE [(6,S),(7,.int .i64 k),(1,.int .i64 k)]
 have g6:Grew H H2:=(gk st)
 have g7:Grew H H2:=Grew.trans (Grew.refl _) g6
 refine qR (d:=(some 8)) (f:=26) (args:=[.tmp 6,.tmp 7]) kr (R:=fun z H'=>z=.int .i64 (k+9 * (ms.length:Int))/\OnlyS S H2 H'/\SlW H' 9 (xY k ms.length) S) ?_ ?_
 ·show qK _ _ [E2 6,E2 7] _ _
  rw [b3,b4]
  exact qFd H2 ms hr S (hS.grew g7) k h0 h1 hmax
 rintro z H8 ⟨rfl,oo,nn⟩
 have oz:OnlyS S H H8:=⟨Nat.le_trans g7.next oo.next,fun l hl hn=>(oo.get l (Nat.lt_of_lt_of_le hl g7.next) hn).trans (g7.get l hl)⟩
 have q9:=q1.app (kL:KdsL [KI] [.int .i64 (k+9 * (ms.length:Int))])
 refine rC 0 0 [] [(6,n1 1),(7,nI 2),(1,nI 2),(8,nI 3)] q9 (sc (sp B1) (.cons qJ .nil)) ?_
 refine qM kr fun vs ls H10 E10 st hE=>?_
 have g9:Grew H8 H10:=(gk st)
 exact zF kr (qS st.inn hE (.inr rfl) (a:=.int .i64 (k+9 * (ms.length:Int))) kr (Nat.le_trans oz.next g9.next) ⟨rfl,⟨Nat.le_trans oz.next g9.next,fun l hl hn=>(g9.get l (Nat.lt_of_lt_of_le hl oz.next)).trans (oz.get l hl hn)⟩,nn.grew g9⟩)
theorem cL (m m' : List AV) (h:KdsL KM m/\KdsL KM m'):∃ b:Bool,(∀ H,zG Try.prog 20 [.agg m,.agg m'] H (.bool b)) /\ ∀ (H:AHeap) (l off l' off' : Nat) (pre post pre' post' : List AV) (wr wr' : Bool),H.get l=some (.row (pre ++ (m ++ post)) wr)->pre.length=off->H.get l'=some (.row (pre' ++ (m' ++ post')) wr')->pre'.length=off'->zG Try.prog 16 [.ptr l off,.ptr l' off'] H (.bool b):=by
 obtain⟨r,h1,_,h2,h3⟩:=qHL (φ:=φ0) 20 (sh:=.k .bool) (f:=20) (g:=16) jR xC h.1 h.2 (by decide) kr
 obtain⟨b,rfl⟩:=qEZ h1
 exact⟨b,h2,h3⟩
open Classical in
noncomputable def pH (m m' : List AV):Bool:=if h:KdsL KM m/\KdsL KM m' then Classical.choose (cL m m' h) else false
theorem qGe (m m' : List AV) (h:KdsL KM m) (h' : KdsL KM m') (H:AHeap):zG Try.prog 20 [.agg m,.agg m'] H (.bool (pH m m')):=by
 unfold pH;rw [dif_pos ⟨h,h'⟩];exact(Classical.choose_spec (cL m m' ⟨h,h'⟩)).1 H
theorem qCV (m m' : List AV) (h:KdsL KM m) (h' : KdsL KM m') {H:AHeap} {l off l' off' : Nat} {pre post pre' post' : List AV} {wr wr' : Bool} (hg:H.get l=some (.row (pre ++ (m ++ post)) wr)) (hp:pre.length=off) (hg' : H.get l'=some (.row (pre' ++ (m' ++ post')) wr')) (hp' : pre'.length=off'):zG Try.prog 16 [.ptr l off,.ptr l' off'] H (.bool (pH m m')):=by
 unfold pH;rw [dif_pos ⟨h,h'⟩];exact(Classical.choose_spec (cL m m' ⟨h,h'⟩)).2 H l off l' off' pre post pre' post' wr wr' hg hp hg' hp'
end Go.Proofs.Ytgjggkgafdnhcaa
namespace Go.Proofs.Ytgjggkgafdnhcaa
open Go.Ab
set_option maxRecDepth 100000
def tmK (κ:List AV->Int) (L:LL) (k:Nat):Int:=κ (L.getD k [])
def PE (L M:LL):Prop:=∀ p:List AV->Bool,L.countP p=M.countP p
theorem PE.refl (L:LL):PE L L:=fun _=>rfl
theorem PE.trans {L M N:LL} (h:PE L M) (k:PE M N):PE L N:=fun p=>(h p).trans (k p)
def swp (L:LL) (i j:Nat):LL:=(L.set i (L.getD j [])).set j (L.getD i [])
theorem qBH (L:LL) (i j:Nat):(swp L i j).length=L.length:=by simp [swp]
theorem qCN {L:LL} {i k:Nat} {m:List AV} (hi:i < L.length):(L.set i m).getD k []=if k=i then m else L.getD k []:=by
 simp only [List.getD_eq_getElem?_getD,List.getElem?_set]
 by_cases h:k=i
 ·subst h;simp [hi]
 ·rw [if_neg h,if_neg (fun e=>h e.symm)]
theorem swp_get {L:LL} {i j:Nat} (hi:i < L.length) (hj:j < L.length) (k:Nat):(swp L i j).getD k []=if k=j then L.getD i [] else if k=i then L.getD j [] else L.getD k []:=by
 unfold swp
 rw [qCN (by simpa using hj),qCN hi]
theorem qBI (κ:List AV->Int) {L:LL} {i j:Nat} (hi:i < L.length) (hj:j < L.length) (k:Nat):tmK κ (swp L i j) k=if k=j then tmK κ L i else if k=i then tmK κ L j else tmK κ L k:=by
 unfold tmK
 rw [swp_get hi hj]
 split
 ·rfl
 ·split <;> rfl
theorem uA (p:List AV->Bool):∀ (L:LL) (i:Nat) (m:List AV),i < L.length->(L.set i m).countP p+(if p (L.getD i [])=true then 1 else 0)=L.countP p+(if p m=true then 1 else 0)
 | [],i,m,h=>absurd h (Nat.not_lt_zero _)
 | x :: L,0,m,_=>by
  show (m :: L).countP p+(if p x=true then 1 else 0)=_
  rw [List.countP_cons,List.countP_cons]
  omega
 | x :: L,i+1,m,h=>by
  have ih:=uA p L i m (by simpa using h)
  show (x :: L.set i m).countP p+(if p (L.getD i [])=true then 1 else 0)=_
  rw [List.countP_cons,List.countP_cons]
  omega
theorem qGx {L:LL} {i j:Nat} (hi:i < L.length) (hj:j < L.length):PE L (swp L i j):=fun p=>by
 have h1:=uA p L i (L.getD j []) hi
 have h2:=uA p (L.set i (L.getD j [])) j (L.getD i []) (by simpa using hj)
 rw [qCN hi] at h2
 show L.countP p=((L.set i (L.getD j [])).set j (L.getD i [])).countP p
 by_cases c:j=i
 ·subst c
  rw [if_pos rfl] at h2
  omega
 ·rw [if_neg c] at h2
  omega
theorem PE.mem {L M:LL} (h:PE L M) {m:List AV} (hm:m ∈ M):m ∈ L:=by
 classical
 have h1:=h (fun x=>decide (x=m))
 have h2:0 < M.countP (fun x=>decide (x=m)):=List.countP_pos_iff.2 ⟨m,hm,by simp⟩
 have h3:0 < L.countP (fun x=>decide (x=m)):=by omega
 obtain⟨y,hy,ey⟩:=List.countP_pos_iff.1 h3
 have ey:y=m:=by simpa using ey
 exact ey ▸ hy
theorem PE.symm {L M:LL} (h:PE L M):PE M L:=fun p=>(h p).symm
structure Pt2 (a b:Nat) (L M:LL):Prop where
  len:M.length=L.length
  out:∀ k,(k < a \/ b<=k)->M.getD k []=L.getD k []
  pe:PE L M
theorem Pt2.refl (a b:Nat) (L:LL):Pt2 a b L L:=⟨rfl,fun _ _=>rfl,.refl L⟩
theorem Pt2.trans {a b:Nat} {L M N:LL} (h:Pt2 a b L M) (k:Pt2 a b M N):Pt2 a b L N:=⟨k.len.trans h.len,fun q hq=>(k.out q hq).trans (h.out q hq),h.pe.trans k.pe⟩
theorem Pt2.wide {a b a' b' : Nat} {L M:LL} (h:Pt2 a b L M) (ha:a'<=a) (hb:b<=b'):Pt2 a' b' L M:=⟨h.len,fun k hk=>h.out k om,h.pe⟩
theorem Pt2.swap {a b i j:Nat} {L:LL} (hi:a<=i) (hib:i < b) (hj:a<=j) (hjb:j < b) (hb:b<=L.length):Pt2 a b L (swp L i j):=
 ⟨qBH _ _ _,fun k hk=>by rw [swp_get om om,if_neg om,if_neg om],qGx om om⟩
theorem getD_take {L:LL} {n k:Nat} (h:k < n):(L.take n).getD k []=L.getD k []:=by
 rw [List.getD_eq_getElem?_getD,List.getD_eq_getElem?_getD,List.getElem?_take_of_lt h]
theorem getD_drop {L:LL} (n k:Nat):(L.drop n).getD k []=L.getD (n+k) []:=by
 rw [List.getD_eq_getElem?_getD,List.getD_eq_getElem?_getD,List.getElem?_drop]
theorem qDI {L:LL} {k:Nat} (h:L.length<=k):L.getD k []=[]:=by
 rw [List.getD_eq_getElem?_getD,List.getElem?_eq_none h];rfl
theorem qFk {L M:LL} (hl:L.length=M.length) (h:∀ k,L.getD k []=M.getD k []):L=M:=by
 apply List.ext_getElem hl
 intro k h1 h2
 have:=h k
 rw [List.getD_eq_getElem?_getD,List.getD_eq_getElem?_getD,List.getElem?_eq_getElem h1,List.getElem?_eq_getElem h2] at this
 exact this
theorem qMl (L:LL) (a b:Nat) (hab:a<=b):L=L.take a ++ ((L.drop a).take (b - a) ++ L.drop b):=by
 have:L.drop b=(L.drop a).drop (b - a):=by rw [List.drop_drop];congr 1;omega
 rw [this,List.take_append_drop,List.take_append_drop]
theorem Pt2.mem {a b:Nat} {L M:LL} (h:Pt2 a b L M) (hab:a<=b) (hb:b<=L.length) {p:Nat} (hp:a<=p) (hq:p < b):∃ q,a<=q/\q < b/\M.getD p []=L.getD q []:=by
 classical
 have q1:M.take a=L.take a:=qFk (by rw [List.length_take,List.length_take,h.len]) fun k=>by
  by_cases hk:k < a
  ·rw [getD_take hk,getD_take hk,h.out k (.inl hk)]
  ·rw [qDI (by rw [List.length_take];omega),qDI (by rw [List.length_take];omega)]
 have q2:M.drop b=L.drop b:=qFk (by rw [List.length_drop,List.length_drop,h.len]) fun k=>by
  rw [getD_drop,getD_drop,h.out _ (.inr om)]
 have hx:M.getD p [] ∈ (M.drop a).take (b - a):=by
  have:M.getD p []=((M.drop a).take (b - a)).getD (p - a) []:=by rw [getD_take om,getD_drop];congr 1;omega
  rw [this,List.getD_eq_getElem?_getD,List.getElem?_eq_getElem (by rw [List.length_take,List.length_drop,h.len];omega)]
  exact List.getElem_mem _
 generalize M.getD p []=y at hx ⊢
 have hf:=h.pe (fun x=>decide (x=y))
 conv at hf=>lhs;rw [qMl L a b hab]
 conv at hf=>rhs;rw [qMl M a b hab,q1,q2]
 simp only [List.countP_append] at hf
 have hpos:0 < ((M.drop a).take (b - a)).countP (fun x=>decide (x=y)):=List.countP_pos_iff.2 ⟨_,hx,by simp⟩
 have hpos2:0 < ((L.drop a).take (b - a)).countP (fun x=>decide (x=y)):=by omega
 obtain⟨z,hz,ez⟩:=List.countP_pos_iff.1 hpos2
 have ez:z=y:=by simpa using ez
 subst ez
 obtain⟨q,hq2,e⟩:=List.getElem_of_mem hz
 rw [List.length_take,List.length_drop] at hq2
 refine⟨a+q,by omega,by omega,?_⟩
 rw [<- e,List.getElem_take,List.getElem_drop,List.getD_eq_getElem?_getD,List.getElem?_eq_getElem om];rfl
theorem Pt2.memT (κ:List AV->Int) {a b:Nat} {L M:LL} (h:Pt2 a b L M) (hab:a<=b) (hb:b<=L.length) {p:Nat} (hp:a<=p) (hq:p < b):∃ q,a<=q/\q < b/\tmK κ M p=tmK κ L q:=by
 obtain⟨q,h1,h2,e⟩:=h.mem hab hb hp hq
 exact⟨q,h1,h2,by unfold tmK;rw [e]⟩
def yM (κ:List AV->Int) (a b:Nat) (L:LL):Prop:=∀ p q,a<=p->p < q->q < b->tmK κ L p<=tmK κ L q
theorem qDE {p q:List AV->Bool}:∀ {L:LL},(∀ x ∈ L,p x=true->q x=true) -> ∀ {y},y ∈ L->q y=true->p y=false->L.countP p < L.countP q
 | [],_,y,h,_,_=>by cases h
 | x :: L,h,y,hy,h1,h2=>by
  have hle:∀ (L:LL),(∀ x ∈ L,p x=true->q x=true)->L.countP p<=L.countP q:=by
   intro L
   induction L with
   | nil=>intro _;exact Nat.le_refl _
   | cons a L ih =>
    intro h
    have ih:=ih fun x hx=>h x (List.mem_cons_of_mem _ hx)
    have ha:=h a (List.mem_cons_self ..)
    rw [List.countP_cons,List.countP_cons]
    by_cases c:p a=true
    ·rw [if_pos c,if_pos (ha c)];omega
    ·rw [if_neg c];omega
  rw [List.countP_cons,List.countP_cons]
  rcases List.mem_cons.1 hy with rfl | hm
  ·have:=hle L fun x hx=>h x (List.mem_cons_of_mem _ hx)
   rw [if_neg (by rw [h2];decide),if_pos h1];omega
  ·have ih:=qDE (fun x hx=>h x (List.mem_cons_of_mem _ hx)) hm h1 h2
   have hx:=h x (List.mem_cons_self ..)
   by_cases c:p x=true
   ·rw [if_pos c,if_pos (hx c)];omega
   ·rw [if_neg c];omega
open Classical in
noncomputable def rkU (lt:List AV->List AV->Prop) (U:LL) (x:List AV):Int:=(U.countP (fun y=>decide (lt y x)):Nat)
theorem qJs {L:LL} {i j:Nat} (hi:i < L.length) (hj:j < L.length):swp L i j=swp L j i:=by
 apply List.ext_getElem (by rw [qBH,qBH])
 intro k h1 h2
 have a:=swp_get hi hj k
 have b:=swp_get hj hi k
 rw [List.getD_eq_getElem?_getD,List.getElem?_eq_getElem h1] at a
 rw [List.getD_eq_getElem?_getD,List.getElem?_eq_getElem h2] at b
 rw [Option.getD_some] at a b
 rw [a,b]
 by_cases e1:k=j
 ·by_cases e2:k=i
  ·rw [if_pos e1,if_pos e2,<- e1,<- e2]
  ·rw [if_pos e1,if_neg e2,if_pos e1]
 ·by_cases e2:k=i
  ·rw [if_neg e1,if_pos e2,if_pos e2]
  ·rw [if_neg e1,if_neg e2,if_neg e2,if_neg e1]
section
variable {κ:List AV->Int}
theorem yM.le {a b:Nat} {L:LL} (h:yM κ a b L) {p q:Nat} (hp:a<=p) (hpq:p<=q) (hq:q < b):tmK κ L p<=tmK κ L q:=by
 rcases Nat.lt_or_eq_of_le hpq with h1 | h1
 ·exact h p q hp h1 hq
 ·rw [h1];exact Int.le_refl _
theorem yM.one {a b:Nat} (L:LL) (h:b<=a+1):yM κ a b L:=fun p q h1 h2 h3=>by omega
theorem yM.sub {a b a' b' : Nat} {L:LL} (h:yM κ a b L) (ha:a<=a') (hb:b'<=b):yM κ a' b' L:=fun p q h1 h2 h3=>h p q om h2 om
theorem yM.same {a b:Nat} {L M:LL} (h:yM κ a b L) (e:∀ k,a<=k->k < b->tmK κ M k=tmK κ L k):yM κ a b M:=fun p q h1 h2 h3=>by rw [e p h1 om,e q om h3];exact h p q h1 h2 h3
structure InsK (κ:List AV->Int) (a b i:Nat) (L0 L:LL) (j:Nat):Prop where
  st:Pt2 a b L0 L
  aj:a<=j
  ji:j<=i
  ord:∀ p q,a<=p->p < q->q<=i->p ≠ j->q ≠ j->tmK κ L p<=tmK κ L q
  hole:∀ q,j < q->q<=i->tmK κ L j < tmK κ L q
theorem InsK.start {a b i:Nat} {L0 L:LL} (h:Pt2 a b L0 L) (s:yM κ a i L) (ha:a<=i):InsK κ a b i L0 L i:=⟨h,ha,Nat.le_refl _,fun p q h1 h2 h3 _ h5=>s p q h1 h2 om,fun q h1 h2=>by omega⟩
theorem InsK.step {a b i j:Nat} {L0 L:LL} (h:InsK κ a b i L0 L j) (hj:a < j) (hib:i < b) (hb:b<=L0.length) (hlt:tmK κ L j < tmK κ L (j - 1)):InsK κ a b i L0 (swp L j (j - 1)) (j - 1):=by
 obtain⟨st,aj,ji,ord,hole⟩:=h
 have hl:=st.len
 obtain⟨k,rfl⟩:∃ k,j=k+1:=⟨j - 1,by omega⟩
 rw [Nat.add_sub_cancel] at *
 have h1:k+1 < L.length:=by omega
 have e:swp L (k+1) k=swp L k (k+1):=qJs h1 om
 rw [e]
 have tm:=qBI κ (L:=L) (i:=k) (j:=k+1) om h1
 refine⟨st.trans ⟨qBH _ _ _,fun q hq=>?_,qGx om h1⟩,by omega,by omega,fun p q a1 a2 a3 a4 a5=>?_,fun q a1 a2=>?_⟩
 ·rw [swp_get om h1,if_neg om,if_neg om]
 ·rw [tm,tm]
  by_cases c1:p=k+1
  ·rw [if_pos c1,if_neg om,if_neg om]
   exact ord k q om om a3 om om
  ·rw [if_neg c1,if_neg a4]
   by_cases c2:q=k+1
   ·rw [if_pos c2];exact ord p k a1 om om om om
   ·rw [if_neg c2,if_neg a5];exact ord p q a1 a2 a3 c1 c2
 ·rw [tm,tm,if_neg om,if_pos rfl]
  by_cases c2:q=k+1
  ·rw [if_pos c2];exact hlt
  ·rw [if_neg c2,if_neg om];exact hole q om a2
theorem InsK.fin {a b i j:Nat} {L0 L:LL} (h:InsK κ a b i L0 L j) (hx:j=a \/ tmK κ L (j - 1)<=tmK κ L j):Pt2 a b L0 L/\yM κ a (i+1) L:=by
 obtain⟨st,aj,ji,ord,hole⟩:=h
 refine⟨st,fun p q h1 h2 h3=>?_⟩
 by_cases c1:p=j
 ·rw [c1];exact Int.le_of_lt (hole q om om)
 ·by_cases c2:q=j
  ·subst c2
   rcases hx with hx | hx
   ·omega
   ·by_cases c3:p=q - 1
    ·rw [c3];exact hx
    ·exact Int.le_trans (ord p (q - 1) h1 om om c1 om) hx
  ·exact ord p q h1 h2 om c1 c2
structure Part (κ:List AV->Int) (a b j:Nat) (L:LL):Prop where
  aj:a<=j
  jb:j < b
  lo:∀ q,a<=q->q < j->tmK κ L q < tmK κ L j
  hi:∀ q,j < q->q < b->tmK κ L j<=tmK κ L q
structure PInv (κ:List AV->Int) (a b:Nat) (L0 L:LL) (i j:Nat):Prop where
  st:Pt2 a b L0 L
  ai:a < i
  ij:i<=j+1
  jb:j < b
  lo:∀ q,a < q->q < i->tmK κ L q < tmK κ L a
  hi:∀ q,j < q->q < b->tmK κ L a<=tmK κ L q
theorem PInv.up {a b i j:Nat} {L0 L:LL} (h:PInv κ a b L0 L i j) (hij:i<=j) (hl:tmK κ L i < tmK κ L a):PInv κ a b L0 L (i+1) j:=
 ⟨h.st,by have:=h.ai;omega,by omega,h.jb,fun q c1 c2=>by
  by_cases c:q=i
  ·rw [c];exact hl
  ·exact h.lo q c1 om,h.hi⟩
theorem PInv.down {a b i j:Nat} {L0 L:LL} (h:PInv κ a b L0 L i j) (hij:i<=j) (hl:tmK κ L a<=tmK κ L j):PInv κ a b L0 L i (j - 1):=by
 obtain⟨st,ai,ij,jb,lo,hi⟩:=h
 exact⟨st,ai,by omega,by omega,lo,fun q c1 c2=>by
  by_cases c:q=j
  ·rw [c];exact hl
  ·exact hi q om c2⟩
theorem PInv.swap {a b i j:Nat} {L0 L:LL} (h:PInv κ a b L0 L i j) (hb:b<=L0.length) (hij:i < j) (hi' : tmK κ L a<=tmK κ L i) (hj' : tmK κ L j < tmK κ L a):PInv κ a b L0 (swp L i j) (i+1) (j - 1):=by
 obtain⟨st,ai,ij,jb,lo,hi⟩:=h
 have hl:=st.len
 have tm:=qBI κ (L:=L) (i:=i) (j:=j) om om
 have t0:tmK κ (swp L i j) a=tmK κ L a:=by rw [tm,if_neg om,if_neg om]
 refine⟨st.trans (Pt2.swap om om om jb om),by omega,by omega,by omega,fun q c1 c2=>?_,fun q c1 c2=>?_⟩
 ·rw [t0,tm]
  by_cases c:q=i
  ·rw [if_neg om,if_pos c];exact hj'
  ·rw [if_neg om,if_neg c];exact lo q c1 om
 ·rw [t0,tm]
  by_cases c:q=j
  ·rw [if_pos c];exact hi'
  ·rw [if_neg c,if_neg om];exact hi q om c2
theorem PInv.fin {a b i j:Nat} {L0 L:LL} (h:PInv κ a b L0 L i j) (hb:b<=L0.length) (hij:j < i):Pt2 a b L0 (swp L j a)/\Part κ a b j (swp L j a):=by
 obtain⟨st,ai,ij,jb,lo,hi⟩:=h
 have hl:=st.len
 have tm:=qBI κ (L:=L) (i:=j) (j:=a) om om
 have t0:tmK κ (swp L j a) j=tmK κ L a:=by
  rw [tm]
  by_cases c:j=a
  ·rw [if_pos c,c]
  ·rw [if_neg c,if_pos rfl]
 refine⟨st.trans (Pt2.swap om jb (Nat.le_refl _) om om),by omega,jb,fun q c1 c2=>?_,fun q c1 c2=>?_⟩
 ·rw [t0,tm]
  by_cases c:q=a
  ·rw [if_pos c];exact lo j om om
  ·rw [if_neg c,if_neg om];exact lo q om om
 ·rw [t0,tm,if_neg om,if_neg om];exact hi q c1 c2
end
end Go.Proofs.Ytgjggkgafdnhcaa
namespace Go.Proofs.Ytgjggkgafdnhcaa
open Go.Ab
set_option maxRecDepth 100000
set_option maxHeartbeats 1000000
attribute [local irreducible] Res
def KC:List Kd:=[.int .i32,.int .i32,.int .i32]
theorem qC {m:List AV} (h:KdsL KC m):∃ v0 v1 v2:Int,m=[.int .i32 v0,.int .i32 v1,.int .i32 v2]:=by
 cases h with | cons g0 h=>cases h with | cons g1 h=>cases h with | cons g2 h =>
 cases h
 obtain⟨v0,rfl⟩:=g0
 obtain⟨v1,rfl⟩:=g1
 obtain⟨v2,rfl⟩:=g2
 exact⟨v0,v1,v2,rfl⟩
def uM (κ:List AV->Int) (L:LL):Prop:=∀ a b c a' b' c' : Int,[.int .i32 a,.int .i32 b,.int .i32 c] ∈ L->[.int .i32 a',.int .i32 b',.int .i32 c'] ∈ L->(zD a b c a' b' c' < 0 ↔ κ [.int .i32 a,.int .i32 b,.int .i32 c] < κ [.int .i32 a',.int .i32 b',.int .i32 c'])
theorem qFp {L:LL} {j:Nat} {m:List AV} (hj:j < L.length) (e:L.getD j []=m):m ∈ L:=by
 rw [<- e,List.getD_eq_getElem?_getD,List.getElem?_eq_getElem hj];exact List.getElem_mem _
theorem xT {κ:List AV->Int} {L0 L:LL} (h:uM κ L0) (hp:PE L0 L) {j k:Nat} {a b c a' b' c' : Int} (hj:j < L.length) (hk:k < L.length) (e1:L.getD j []=[.int .i32 a,.int .i32 b,.int .i32 c]) (e2:L.getD k []=[.int .i32 a',.int .i32 b',.int .i32 c']):zD a b c a' b' c' < 0 ↔ tmK κ L j < tmK κ L k:=by
 unfold tmK
 rw [e1,e2]
 exact h a b c a' b' c' (hp.mem (qFp hj e1)) (hp.mem (qFp hk e2))
theorem qEN (H:AHeap) (κ:List AV->Int) (L0:LL) (hr:qL KC L0) (hκ:uM κ L0) (S:AV) (hS:SlF H 3 L0 S) (hmx:L0.length < 2^20) (a b:Nat) (hab:a<=b) (hb:b<=L0.length):qK Try.prog 48 [S,.int .i64 (a:Int),.int .i64 (b:Int),.func 22 [] []] H fun r H'=>r=.tuple []/\OnlyS S H H' /\ ∃ M,SlF H' 3 M S/\qL KC M/\Pt2 a b L0 M/\yM κ a b M:=by
 refine qN jJ (by simp) ?_
 have q1:KdsL [.one,KI,KI] [S,.int .i64 (a:Int),.int .i64 (b:Int)]:=kL
 refine rC 0 0 [] [(0,n1 0),(1,nI 1),(2,nI 2),(3,.fn 22 [] [])] q1 (.cons (t:=0) rfl (.cons (t:=1) rfl (.cons (t:=2) rfl (.cons (t:=3) rfl .nil)))) ?_
 refine qM kr fun vs ls H2 E2 st hE=>?_
 obtain⟨w3,hw3⟩:∃ z,z=(IntKind.wrap .i64 ((a:Int)+1)):=⟨_,rfl⟩
 have b4:E2 8=.int .i64 w3:=by rw [hw3];exact eo st hE 8 _
 have b5:=eo st hE 2 (.int .i64 (b:Int))
 have b6:=eo st hE 1 (.int .i64 (a:Int))
 have b7:=eo st hE 3 (.func 22 [] [])
 have b8:=eo st hE 0 S
 have g9:Grew H H2:=(gk st)
 have g10:OnlyS S H H2:=(OnlyS.of_grew (Grew.refl H)).grewR g9
 have s11:=hS.grew g9
 have nw3:w3=((a:Int)+1):=hw3.trans (wI _ om om)
 obtain⟨k12,hk12⟩:∃ k:Nat,w3=(k:Int):=⟨Int.toNat w3,by omega⟩
 refine zE kr (fun z E H'=>∃ (i13:Nat) (L13:LL),z=b - i13/\E 2=.int .i64 (b:Int)/\E 1=.int .i64 (a:Int)/\E 3=.func 22 [] []/\E 0=S/\E 8=.int .i64 (i13:Int)/\OnlyS S H H'/\SlF H' 3 L13 S/\qL KC L13/\(a < i13/\(i13<=b \/ i13=a+1))/\Pt2 a b L0 L13/\yM κ a i13 L13) (b - k12) ⟨k12,L0,rfl,b5,b6,b7,b8,(b4.trans (by rw [hk12])),g10,s11,hr,⟨⟨by omega,by omega⟩,Pt2.refl _ _ _,yM.one _ om⟩⟩ ?_
 rintro z13 E13 Hx13 ⟨i13,L13,hz13,c13_2,c13_1,c13_3,c13_0,cv13_8,gt13,so13_0,hr13_0,iv13⟩
 obtain⟨⟨hai13,hbi13⟩,hsti13,hsoi13⟩:=iv13
 have hli13:=hsti13.len
 have q14:=q1.app (kL:KdsL [KI,KI] [.int .i64 w3,.int .i64 (i13:Int)])
 refine rC 0 0 [] [(2,nI 2),(1,nI 1),(3,.fn 22 [] []),(0,n1 0),(8,nI 4)] q14 (.cons c13_2 (.cons c13_1 (.cons c13_3 (.cons c13_0 (.cons cv13_8 .nil))))) ?_
 refine vI kr ?_ ?_
 ·intro vs ls H15 E15 st hE
  have f16:(i13:Int) < (b:Int):=dt st 0
  have b17:=eo st hE 9 (.int .i64 (i13:Int))
  have b18:=eo st hE 1 (.int .i64 (a:Int))
  have b19:=eo st hE 3 (.func 22 [] [])
  have b20:=eo st hE 0 S
  have b21:=eo st hE 8 (.int .i64 (i13:Int))
  have b22:=eo st hE 2 (.int .i64 (b:Int))
  have g23:Grew Hx13 H15:=(gk st)
  have g24:OnlyS S H H15:=gt13.grewR g23
  have s25:=so13_0.grew g23
  refine zE kr (fun z E H'=>∃ (j26:Nat) (L26:LL),z=j26/\E 1=.int .i64 (a:Int)/\E 3=.func 22 [] []/\E 0=S/\E 8=.int .i64 (i13:Int)/\E 2=.int .i64 (b:Int)/\E 9=.int .i64 (j26:Int)/\OnlyS S H H'/\SlF H' 3 L26 S/\qL KC L26/\InsK κ a b i13 L0 L26 j26) (i13) ⟨i13,L13,rfl,b18,b19,b20,b21,b22,b17,g24,s25,hr13_0,InsK.start hsti13 hsoi13 om⟩ ?_
  rintro z26 E26 Hx26 ⟨j26,L26,hz26,c26_1,c26_3,c26_0,c26_8,c26_2,cv26_9,gt26,so26_0,hr26_0,iv26⟩
  have hlnj26:=iv26.st.len
  have hajj26:=iv26.aj
  have hjij26:=iv26.ji
  have q27:=q14.app (kL:KdsL [KI] [.int .i64 (j26:Int)])
  refine rC 0 0 [] [(1,nI 1),(3,.fn 22 [] []),(0,n1 0),(8,nI 4),(2,nI 2),(9,nI 5)] q27 (.cons c26_1 (.cons c26_3 (.cons c26_0 (.cons c26_8 (.cons c26_2 (.cons cv26_9 .nil)))))) ?_
  refine vI kr ?_ ?_
  ·intro vs ls H28 E28 st hE
   have f29:(a:Int) < (j26:Int):=dt st 0
   obtain⟨w35,hw35⟩:∃ z,z=(decide ((a:Int) < (j26:Int))):=⟨_,rfl⟩
   have b36:E28 21=.bool w35:=by rw [hw35];exact eo st hE 21 _
   have B1:=es st hE [(23,S),(24,.int .i64 (j26:Int)),(0,S),(9,.int .i64 (j26:Int)),(22,.func 22 [] []),(8,.int .i64 (i13:Int)),(2,.int .i64 (b:Int)),(1,.int .i64 (a:Int)),(3,.func 22 [] [])]
   have g42:Grew Hx26 H28:=(gk st)
   have g43:OnlyS S H H28:=gt26.grewR g42
   have s44:=so26_0.grew g42
   have hlt45:j26 < L26.length:=by omega
   obtain⟨lS45,cap45,rest45,wr45,eS45,gS45⟩:=(s44.toL).isSl hlt45
   obtain⟨v45_0,v45_1,v45_2,hm45⟩:=qC (hr26_0.get hlt45)
   have he45:L26.getD j26 []=[.int .i32 v45_0,.int .i32 v45_1,.int .i32 v45_2]:=by rw [<- hm45,List.getD_eq_getElem?_getD,List.getElem?_eq_getElem hlt45];rfl
   have q46:=q27.app (kL:KdsL [.bool,K2,K2,K2] [.bool w35,.int .i32 v45_0,.int .i32 v45_1,.int .i32 v45_2])
   refine rF 1 0 [(.ia 3 (n1 0) (nI 5),.ptr 0 0)] [⟨lS45,(j26 * 3),[n2 7,n2 8,n2 9],false⟩] [(23,n1 0),(24,nI 5),(0,n1 0),(9,nI 5),(22,.fn 22 [] []),(8,nI 4),(2,nI 2),(1,nI 1),(3,.fn 22 [] []),(21,nB 6)] q46 (.cons (qA hr26_0 gS45 hlt45 rfl (by rw [hm45];exact(dL q46))) .nil) (.cons (qD (k:=j26) (dE q46) eS45 (dE q46) hlt45 rfl) .nil) (sc B1 (.cons b36 .nil)) ?_
   refine vI kr ?_ ?_
   ·intro vs ls H47 E47 st hE
    have f48:w35=true:=bf st 0
    obtain⟨w50,hw50⟩:∃ z,z=(IntKind.wrap .i64 ((j26:Int) - 1)):=⟨_,rfl⟩
    have b51:E47 29=.int .i64 w50:=by rw [hw50];exact eo st hE 29 _
    have B2:=es st hE [(27,S),(22,.func 22 [] []),(26,.agg [.int .i32 v45_0,.int .i32 v45_1,.int .i32 v45_2]),(21,.bool w35),(0,S),(9,.int .i64 (j26:Int)),(8,.int .i64 (i13:Int)),(2,.int .i64 (b:Int)),(1,.int .i64 (a:Int)),(3,.func 22 [] [])]
    have g62:Grew H28 H47:=(gk st)
    have g63:OnlyS S H H47:=g43.grewR g62
    have s65:=s44.grew g62
    have nw50:w50=((j26:Int) - 1):=hw50.trans (wI _ om om)
    obtain⟨k66,rfl⟩:∃ k:Nat,w50=(k:Int):=⟨Int.toNat w50,by omega⟩
    have hlt67:k66 < L26.length:=by omega
    obtain⟨lS67,cap67,rest67,wr67,eS67,gS67⟩:=(s65.toL).isSl hlt67
    obtain⟨v67_0,v67_1,v67_2,hm67⟩:=qC (hr26_0.get hlt67)
    have he67:L26.getD k66 []=[.int .i32 v67_0,.int .i32 v67_1,.int .i32 v67_2]:=by rw [<- hm67,List.getD_eq_getElem?_getD,List.getElem?_eq_getElem hlt67];rfl
    have q68:=q46.app (kL:KdsL [KI,K2,K2,K2,KI] [.int .i64 (k66:Int),.int .i32 v67_0,.int .i32 v67_1,.int .i32 v67_2,.int .i64 (zD v45_0 v45_1 v45_2 v67_0 v67_1 v67_2)])
    refine rF 1 0 [(.ia 3 (n1 0) (nI 10),.ptr 0 0),(.call 22 [.agg [n2 7,n2 8,n2 9],.agg [n2 11,n2 12,n2 13]],nI 14)] [⟨lS67,(k66 * 3),[n2 11,n2 12,n2 13],false⟩] [(27,n1 0),(22,.fn 22 [] []),(26,.agg [n2 7,n2 8,n2 9]),(21,nB 6),(0,n1 0),(9,nI 5),(8,nI 4),(2,nI 2),(1,nI 1),(3,.fn 22 [] []),(29,nI 10)] q68 (.cons (qA hr26_0 gS67 hlt67 rfl (by rw [hm67];exact(dL q68))) .nil) (.cons (qD (k:=k66) (dE q68) eS67 (dE q68) hlt67 rfl) (.cons (qI (args:=[.agg [.int .i32 v45_0,.int .i32 v45_1,.int .i32 v45_2],.agg [.int .i32 v67_0,.int .i32 v67_1,.int .i32 v67_2]]) (dL q68) (dE q68) (fun H9 hk=>qO H9 v45_0 v45_1 v45_2 v67_0 v67_1 v67_2)) .nil)) (sc B2 (.cons b51 .nil)) ?_
    refine cJ kr ?_ ?_ ?_
    ·intro vs ls H69 E69 st hE
     have f70:(zD v45_0 v45_1 v45_2 v67_0 v67_1 v67_2) < 0:=dt st 0
     have f71:w35=true:=bf st 1
     obtain⟨w73,hw73⟩:∃ z,z=(IntKind.wrap .i64 ((j26:Int) - 1)):=⟨_,rfl⟩
     have b74:E69 44=.int .i64 w73:=by rw [hw73];exact eo st hE 44 _
     have b80:E69 41=.int .i64 w73:=by rw [hw73];exact eo st hE 41 _
     have B3:=es st hE [(42,S),(0,S),(9,.int .i64 (j26:Int)),(37,S),(38,.int .i64 (j26:Int)),(39,S),(8,.int .i64 (i13:Int)),(2,.int .i64 (b:Int)),(1,.int .i64 (a:Int)),(3,.func 22 [] [])]
     have g86:Grew H47 H69:=(gk st)
     have g87:OnlyS S H H69:=g63.grewR g86
     have s89:=s65.grew g86
     have nw73:w73=((j26:Int) - 1):=hw73.trans (wI _ om om)
     obtain rfl:w73=(k66:Int):=by omega
     have hlt90:k66 < L26.length:=by omega
     obtain⟨lS90,cap90,rest90,wr90,eS90,gS90⟩:=(s89.toL).isSl hlt90
     obtain⟨v90_0,v90_1,v90_2,hm90⟩:=qC (hr26_0.get hlt90)
     have he90:L26.getD k66 []=[.int .i32 v90_0,.int .i32 v90_1,.int .i32 v90_2]:=by rw [<- hm90,List.getD_eq_getElem?_getD,List.getElem?_eq_getElem hlt90];rfl
     have hq90:=he67.symm.trans he90
     simp only [List.cons.injEq,AV.flt.injEq,AV.int.injEq,Int.natCast_inj,true_and,and_true] at hq90
     obtain⟨rfl,rfl,rfl⟩:=hq90
     have q91:=q68.app (kL:KdsL [KI,K2,K2,K2] [.int .i64 (k66:Int),.int .i32 v67_0,.int .i32 v67_1,.int .i32 v67_2])
     refine rF 1 0 [(.ia 3 (n1 0) (nI 15),.ptr 0 0)] [⟨lS90,(k66 * 3),[n2 16,n2 17,n2 18],false⟩] [(42,n1 0),(0,n1 0),(9,nI 5),(37,n1 0),(38,nI 5),(39,n1 0),(8,nI 4),(2,nI 2),(1,nI 1),(3,.fn 22 [] []),(44,nI 15),(41,nI 15)] q91 (.cons (qA hr26_0 gS90 hlt90 rfl (by rw [hm90];exact(dL q91))) .nil) (.cons (qD (k:=k66) (dE q91) eS90 (dE q91) hlt90 rfl) .nil) (sc B3 (.cons b74 (.cons b80 .nil))) ?_
     refine qM kr fun vs ls H92 E92 st hE=>?_
     have B4:=es st hE [(47,S),(48,.int .i64 (j26:Int)),(37,S),(38,.int .i64 (j26:Int)),(46,.agg [.int .i32 v67_0,.int .i32 v67_1,.int .i32 v67_2]),(39,S),(41,.int .i64 (k66:Int)),(9,.int .i64 (j26:Int)),(8,.int .i64 (i13:Int)),(2,.int .i64 (b:Int)),(1,.int .i64 (a:Int)),(3,.func 22 [] []),(0,S)]
     have g107:Grew H69 H92:=(gk st)
     have g108:OnlyS S H H92:=g87.grewR g107
     have s110:=s89.grew g107
     have hlt111:j26 < L26.length:=by omega
     obtain⟨lS111,cap111,rest111,wr111,eS111,gS111⟩:=(s110.toL).isSl hlt111
     obtain⟨v111_0,v111_1,v111_2,hm111⟩:=qC (hr26_0.get hlt111)
     have he111:L26.getD j26 []=[.int .i32 v111_0,.int .i32 v111_1,.int .i32 v111_2]:=by rw [<- hm111,List.getD_eq_getElem?_getD,List.getElem?_eq_getElem hlt111];rfl
     have hq111:=he45.symm.trans he111
     simp only [List.cons.injEq,AV.flt.injEq,AV.int.injEq,Int.natCast_inj,true_and,and_true] at hq111
     obtain⟨rfl,rfl,rfl⟩:=hq111
     have q112:=q91.app (kL:KdsL [K2,K2,K2] [.int .i32 v45_0,.int .i32 v45_1,.int .i32 v45_2])
     refine rF 1 0 [(.ia 3 (n1 0) (nI 5),.ptr 0 0)] [⟨lS111,(j26 * 3),[n2 19,n2 20,n2 21],false⟩] [(47,n1 0),(48,nI 5),(37,n1 0),(38,nI 5),(46,.agg [n2 16,n2 17,n2 18]),(39,n1 0),(41,nI 15),(9,nI 5),(8,nI 4),(2,nI 2),(1,nI 1),(3,.fn 22 [] []),(0,n1 0)] q112 (.cons (qA hr26_0 gS111 hlt111 rfl (by rw [hm111];exact(dL q112))) .nil) (.cons (qD (k:=j26) (dE q112) eS111 (dE q112) hlt111 rfl) .nil) B4 ?_
     refine qM kr fun vs ls H113 E113 st hE=>?_
     have b114:=eo st hE 51 (.ptr lS111 ((j26 * 3)+0))
     have b115:=eo st hE 46 (.agg [.int .i32 v67_0,.int .i32 v67_1,.int .i32 v67_2])
     have B5:=es st hE [(46,.agg [.int .i32 v67_0,.int .i32 v67_1,.int .i32 v67_2]),(39,S),(41,.int .i64 (k66:Int)),(50,.agg [.int .i32 v45_0,.int .i32 v45_1,.int .i32 v45_2]),(9,.int .i64 (j26:Int)),(8,.int .i64 (i13:Int)),(2,.int .i64 (b:Int)),(1,.int .i64 (a:Int)),(3,.func 22 [] []),(0,S)]
     have g126:Grew H92 H113:=(gk st)
     have g127:OnlyS S H H113:=g108.grewR g126
     have s129:=s110.grew g126
     refine qH (d:=none) (n:=3) (x:=.tmp 51) (y:=.tmp 46) kr (S:=S) (ms:=L26) (k:=j26) (m':=[.int .i32 v67_0,.int .i32 v67_1,.int .i32 v67_2]) (s129) eS111 b114 hlt111 hr26_0.len (by show AV.cells (E113 46)=_;rw [b115];rfl) rfl rfl rfl ?_
     intro H130 s130 oo130
     have hln130:(L26.set j26 [.int .i32 v67_0,.int .i32 v67_1,.int .i32 v67_2]).length=L26.length:=by simp
     have g131:OnlyS S H H130:=g127.trans oo130
     refine rC 0 0 [] [(46,.agg [n2 16,n2 17,n2 18]),(39,n1 0),(41,nI 15),(50,.agg [n2 19,n2 20,n2 21]),(9,nI 5),(8,nI 4),(2,nI 2),(1,nI 1),(3,.fn 22 [] []),(0,n1 0)] q112 (sn B5) ?_
     refine qM kr fun vs ls H133 E133 st hE=>?_
     have B6:=es st hE [(39,S),(41,.int .i64 (k66:Int)),(50,.agg [.int .i32 v45_0,.int .i32 v45_1,.int .i32 v45_2]),(9,.int .i64 (j26:Int)),(8,.int .i64 (i13:Int)),(2,.int .i64 (b:Int)),(1,.int .i64 (a:Int)),(3,.func 22 [] []),(0,S)]
     have g144:Grew H130 H133:=(gk st)
     have g145:OnlyS S H H133:=g131.grewR g144
     have s146:=s130.grew g144
     have hlt147:k66 < (L26.set j26 [.int .i32 v67_0,.int .i32 v67_1,.int .i32 v67_2]).length:=by omega
     obtain⟨lS147,cap147,rest147,wr147,eS147,gS147⟩:=(s146.toL).isSl hlt147
     obtain⟨v147_0,v147_1,v147_2,hm147⟩:=qC ((qL.set hr26_0 (.cons kA (.cons kA (.cons kA .nil)))).get hlt147)
     have he147:(L26.set j26 [.int .i32 v67_0,.int .i32 v67_1,.int .i32 v67_2]).getD k66 []=[.int .i32 v147_0,.int .i32 v147_1,.int .i32 v147_2]:=by rw [<- hm147,List.getD_eq_getElem?_getD,List.getElem?_eq_getElem hlt147];rfl
     have q148:=q112.app (kL:KdsL [K2,K2,K2] [.int .i32 v147_0,.int .i32 v147_1,.int .i32 v147_2])
     refine rF 1 0 [(.ia 3 (n1 0) (nI 15),.ptr 0 0)] [⟨lS147,(k66 * 3),[n2 22,n2 23,n2 24],false⟩] [(39,n1 0),(41,nI 15),(50,.agg [n2 19,n2 20,n2 21]),(9,nI 5),(8,nI 4),(2,nI 2),(1,nI 1),(3,.fn 22 [] []),(0,n1 0)] q148 (.cons (qA (qL.set hr26_0 (.cons kA (.cons kA (.cons kA .nil)))) gS147 hlt147 rfl (by rw [hm147];exact(dL q148))) .nil) (.cons (qD (k:=k66) (dE q148) eS147 (dE q148) hlt147 rfl) .nil) B6 ?_
     refine qM kr fun vs ls H149 E149 st hE=>?_
     have b150:=eo st hE 52 (.ptr lS147 ((k66 * 3)+0))
     have b151:=eo st hE 50 (.agg [.int .i32 v45_0,.int .i32 v45_1,.int .i32 v45_2])
     have B7:=es st hE [(50,.agg [.int .i32 v45_0,.int .i32 v45_1,.int .i32 v45_2]),(9,.int .i64 (j26:Int)),(8,.int .i64 (i13:Int)),(2,.int .i64 (b:Int)),(1,.int .i64 (a:Int)),(3,.func 22 [] []),(0,S)]
     have g159:Grew H133 H149:=(gk st)
     have g160:OnlyS S H H149:=g145.grewR g159
     have s162:=s146.grew g159
     refine qH (d:=none) (n:=3) (x:=.tmp 52) (y:=.tmp 50) kr (S:=S) (ms:=(L26.set j26 [.int .i32 v67_0,.int .i32 v67_1,.int .i32 v67_2])) (k:=k66) (m':=[.int .i32 v45_0,.int .i32 v45_1,.int .i32 v45_2]) (s162) eS147 b150 hlt147 (qL.set hr26_0 (.cons kA (.cons kA (.cons kA .nil)))).len (by show AV.cells (E149 50)=_;rw [b151];rfl) rfl rfl rfl ?_
     intro H163 s163 oo163
     have hln163:((L26.set j26 [.int .i32 v67_0,.int .i32 v67_1,.int .i32 v67_2]).set k66 [.int .i32 v45_0,.int .i32 v45_1,.int .i32 v45_2]).length=(L26.set j26 [.int .i32 v67_0,.int .i32 v67_1,.int .i32 v67_2]).length:=by simp
     have g164:OnlyS S H H163:=g160.trans oo163
     refine rC 0 0 [] [(50,.agg [n2 19,n2 20,n2 21]),(9,nI 5),(8,nI 4),(2,nI 2),(1,nI 1),(3,.fn 22 [] []),(0,n1 0)] q148 (sn B7) ?_
     refine qM kr fun vs ls H166 E166 st hE=>?_
     obtain⟨w167,hw167⟩:∃ z,z=(IntKind.wrap .i64 ((j26:Int) - 1)):=⟨_,rfl⟩
     have b168:E166 9=.int .i64 w167:=by rw [hw167];exact eo st hE 9 _
     have b169:=eo st hE 1 (.int .i64 (a:Int))
     have b170:=eo st hE 3 (.func 22 [] [])
     have b171:=eo st hE 0 S
     have b172:=eo st hE 8 (.int .i64 (i13:Int))
     have b173:=eo st hE 2 (.int .i64 (b:Int))
     have g174:Grew H163 H166:=(gk st)
     have g175:OnlyS S H H166:=g164.grewR g174
     have s176:=s163.grew g174
     have nw167:w167=((j26:Int) - 1):=hw167.trans (wI _ om om)
     obtain⟨k177,hk177⟩:∃ k:Nat,w167=(k:Int):=⟨Int.toNat w167,by omega⟩
     have ct178:=xT hκ iv26.st.pe hlt111 hlt90 he111 he90
     have hsw9:((L26.set j26 [.int .i32 v67_0,.int .i32 v67_1,.int .i32 v67_2]).set k66 [.int .i32 v45_0,.int .i32 v45_1,.int .i32 v45_2])=swp L26 j26 k66:=by unfold swp;rw [he111,he90]
     have hk9:k66=j26 - 1:=by omega
     have hm9:k177 < z26:=by omega
     exact qP kr ⟨k177,hm9,k177,((L26.set j26 [.int .i32 v67_0,.int .i32 v67_1,.int .i32 v67_2]).set k66 [.int .i32 v45_0,.int .i32 v45_1,.int .i32 v45_2]),rfl,b169,b170,b171,b172,b173,(b168.trans (by rw [hk177])),g175,s176,(qL.set (qL.set hr26_0 (.cons kA (.cons kA (.cons kA .nil)))) (.cons kA (.cons kA (.cons kA .nil)))),(by rw [hsw9,hk9,show k177=j26 - 1 by omega];exact InsK.step iv26 om om hb (by rw [<- hk9];omega))⟩
    ·intro vs ls H179 E179 st hE
     have f180:¬ ((zD v45_0 v45_1 v45_2 v67_0 v67_1 v67_2) < 0):=df st 0
     have f181:w35=true:=bf st 1
     obtain⟨w194,hw194⟩:∃ z,z=(decide ((zD v45_0 v45_1 v45_2 v67_0 v67_1 v67_2) < 0)):=⟨_,rfl⟩
     have b195:E179 33=.bool w194:=by rw [hw194];exact eo st hE 33 _
     have b196:E179 34=.bool w194:=by rw [hw194];exact eo st hE 34 _
     have B8:=es st hE [(9,.int .i64 (j26:Int)),(1,.int .i64 (a:Int)),(3,.func 22 [] []),(0,S),(27,S),(29,.int .i64 (k66:Int)),(30,.ptr lS67 ((k66 * 3)+0)),(22,.func 22 [] []),(26,.agg [.int .i32 v45_0,.int .i32 v45_1,.int .i32 v45_2]),(31,.agg [.int .i32 v67_0,.int .i32 v67_1,.int .i32 v67_2]),(32,.int .i64 (zD v45_0 v45_1 v45_2 v67_0 v67_1 v67_2)),(21,.bool w35),(8,.int .i64 (i13:Int)),(2,.int .i64 (b:Int))]
     have g199:Grew H47 H179:=(gk st)
     have g200:OnlyS S H H179:=g63.grewR g199
     have r201:=g199.at gS67
     have s202:=s65.grew g199
     refine qQ (id:=2) kr ?_
     have qf181:=of_decide_eq_true (hw35.symm.trans f181)
     have ct203:=xT hκ iv26.st.pe hlt45 hlt67 he45 he67
     have hx204:j26=a \/ tmK κ L26 (j26 - 1)<=tmK κ L26 j26:=.inr (by rw [show j26 - 1=k66 by omega];omega)
     have q205:=q68.app (kL:KdsL [.bool] [.bool w194])
     refine rF 1 0 [] [⟨lS67,(k66 * 3),[n2 11,n2 12,n2 13],false⟩] [(9,nI 5),(1,nI 1),(3,.fn 22 [] []),(0,n1 0),(27,n1 0),(29,nI 10),(30,.ptr 0 0),(22,.fn 22 [] []),(26,.agg [n2 7,n2 8,n2 9]),(31,.agg [n2 11,n2 12,n2 13]),(32,nI 14),(21,nB 6),(8,nI 4),(2,nI 2),(33,nB 15),(34,nB 15)] q205 (.cons (qA hr26_0 r201 hlt67 rfl (by rw [hm67];exact(dL q205))) .nil) .nil (sc B8 (.cons b195 (.cons b196 .nil))) ?_
     refine qM kr fun vs ls H206 E206 st hE=>?_
     obtain⟨w207,hw207⟩:∃ z,z=(IntKind.wrap .i64 ((i13:Int)+1)):=⟨_,rfl⟩
     have b208:E206 8=.int .i64 w207:=by rw [hw207];exact eo st hE 8 _
     have b209:=eo st hE 2 (.int .i64 (b:Int))
     have b210:=eo st hE 1 (.int .i64 (a:Int))
     have b211:=eo st hE 3 (.func 22 [] [])
     have b212:=eo st hE 0 S
     have g213:Grew H179 H206:=(gk st)
     have g214:OnlyS S H H206:=g200.grewR g213
     have s216:=s202.grew g213
     have nw207:w207=((i13:Int)+1):=hw207.trans (wI _ om om)
     obtain⟨k217,hk217⟩:∃ k:Nat,w207=(k:Int):=⟨Int.toNat w207,by omega⟩
     have hm9:b - k217 < z13:=by omega
     exact qP kr ⟨b - k217,hm9,k217,L26,rfl,b209,b210,b211,b212,(b208.trans (by rw [hk217])),g214,s216,hr26_0,⟨⟨by omega,by omega⟩,(InsK.fin iv26 hx204).1,by rw [show k217=i13+1 by omega];exact(InsK.fin iv26 hx204).2⟩⟩
    ·intro vs ls H218 E218 st hE
     have f219:w35=false:=bf st 0
     have B9:=es st hE [(9,.int .i64 (j26:Int)),(1,.int .i64 (a:Int)),(3,.func 22 [] []),(0,S),(27,S),(29,.int .i64 (k66:Int)),(30,.undef),(22,.func 22 [] []),(26,.agg [.int .i32 v45_0,.int .i32 v45_1,.int .i32 v45_2]),(31,.undef),(32,.undef),(21,.bool w35),(33,.undef),(34,.bool false),(8,.int .i64 (i13:Int)),(2,.int .i64 (b:Int))]
     have g236:Grew H47 H218:=(gk st)
     have g237:OnlyS S H H218:=g63.grewR g236
     have s239:=s65.grew g236
     refine qQ (id:=2) kr ?_
     have qf219:=of_decide_eq_false (hw35.symm.trans f219)
     have hx240:j26=a \/ tmK κ L26 (j26 - 1)<=tmK κ L26 j26:=.inr (by rw [show j26 - 1=k66 by omega];omega)
     refine rC 0 0 [] [(9,nI 5),(1,nI 1),(3,.fn 22 [] []),(0,n1 0),(27,n1 0),(29,nI 10),(30,.lit .undef),(22,.fn 22 [] []),(26,.agg [n2 7,n2 8,n2 9]),(31,.lit .undef),(32,.lit .undef),(21,nB 6),(33,.lit .undef),(34,.lit (.bool false)),(8,nI 4),(2,nI 2)] q68 B9 ?_
     refine qM kr fun vs ls H242 E242 st hE=>?_
     obtain⟨w243,hw243⟩:∃ z,z=(IntKind.wrap .i64 ((i13:Int)+1)):=⟨_,rfl⟩
     have b244:E242 8=.int .i64 w243:=by rw [hw243];exact eo st hE 8 _
     have b245:=eo st hE 2 (.int .i64 (b:Int))
     have b246:=eo st hE 1 (.int .i64 (a:Int))
     have b247:=eo st hE 3 (.func 22 [] [])
     have b248:=eo st hE 0 S
     have g249:Grew H218 H242:=(gk st)
     have g250:OnlyS S H H242:=g237.grewR g249
     have s251:=s239.grew g249
     have nw243:w243=((i13:Int)+1):=hw243.trans (wI _ om om)
     obtain⟨k252,hk252⟩:∃ k:Nat,w243=(k:Int):=⟨Int.toNat w243,by omega⟩
     have hm9:b - k252 < z13:=by omega
     exact qP kr ⟨b - k252,hm9,k252,L26,rfl,b245,b246,b247,b248,(b244.trans (by rw [hk252])),g250,s251,hr26_0,⟨⟨by omega,by omega⟩,(InsK.fin iv26 hx240).1,by rw [show k252=i13+1 by omega];exact(InsK.fin iv26 hx240).2⟩⟩
   ·intro vs ls H253 E253 st hE
    have f254:w35=false:=bf st 0
    have B10:=es st hE [(9,.int .i64 (j26:Int)),(1,.int .i64 (a:Int)),(3,.func 22 [] []),(0,S),(23,S),(24,.int .i64 (j26:Int)),(25,.undef),(28,.undef),(27,.undef),(29,.undef),(30,.undef),(22,.func 22 [] []),(26,.undef),(31,.undef),(32,.undef),(21,.bool w35),(33,.undef),(34,.bool false),(8,.int .i64 (i13:Int)),(2,.int .i64 (b:Int))]
    have g275:Grew H28 H253:=(gk st)
    have g276:OnlyS S H H253:=g43.grewR g275
    have s278:=s44.grew g275
    refine qQ (id:=2) kr ?_
    have qf254:=of_decide_eq_false (hw35.symm.trans f254)
    have hx279:j26=a \/ tmK κ L26 (j26 - 1)<=tmK κ L26 j26:=.inl om
    refine rC 0 0 [] [(9,nI 5),(1,nI 1),(3,.fn 22 [] []),(0,n1 0),(23,n1 0),(24,nI 5),(25,.lit .undef),(28,.lit .undef),(27,.lit .undef),(29,.lit .undef),(30,.lit .undef),(22,.fn 22 [] []),(26,.lit .undef),(31,.lit .undef),(32,.lit .undef),(21,nB 6),(33,.lit .undef),(34,.lit (.bool false)),(8,nI 4),(2,nI 2)] q46 B10 ?_
    refine qM kr fun vs ls H281 E281 st hE=>?_
    obtain⟨w282,hw282⟩:∃ z,z=(IntKind.wrap .i64 ((i13:Int)+1)):=⟨_,rfl⟩
    have b283:E281 8=.int .i64 w282:=by rw [hw282];exact eo st hE 8 _
    have b284:=eo st hE 2 (.int .i64 (b:Int))
    have b285:=eo st hE 1 (.int .i64 (a:Int))
    have b286:=eo st hE 3 (.func 22 [] [])
    have b287:=eo st hE 0 S
    have g288:Grew H253 H281:=(gk st)
    have g289:OnlyS S H H281:=g276.grewR g288
    have s290:=s278.grew g288
    have nw282:w282=((i13:Int)+1):=hw282.trans (wI _ om om)
    obtain⟨k291,hk291⟩:∃ k:Nat,w282=(k:Int):=⟨Int.toNat w282,by omega⟩
    have hm9:b - k291 < z13:=by omega
    exact qP kr ⟨b - k291,hm9,k291,L26,rfl,b284,b285,b286,b287,(b283.trans (by rw [hk291])),g289,s290,hr26_0,⟨⟨by omega,by omega⟩,(InsK.fin iv26 hx279).1,by rw [show k291=i13+1 by omega];exact(InsK.fin iv26 hx279).2⟩⟩
  ·intro vs ls H292 E292 st hE
   have f293:¬ ((a:Int) < (j26:Int)):=df st 0
   obtain⟨w298,hw298⟩:∃ z,z=(decide ((a:Int) < (j26:Int))):=⟨_,rfl⟩
   have b299:E292 20=.bool w298:=by rw [hw298];exact eo st hE 20 _
   have b313:E292 21=.bool w298:=by rw [hw298];exact eo st hE 21 _
   have B11:=es st hE [(9,.int .i64 (j26:Int)),(1,.int .i64 (a:Int)),(18,.int .i64 (j26:Int)),(19,.int .i64 (a:Int)),(3,.func 22 [] []),(0,S),(23,.undef),(24,.undef),(25,.undef),(28,.undef),(27,.undef),(29,.undef),(30,.undef),(22,.undef),(26,.undef),(31,.undef),(32,.undef),(33,.undef),(34,.bool false),(8,.int .i64 (i13:Int)),(2,.int .i64 (b:Int))]
   have g318:Grew Hx26 H292:=(gk st)
   have g319:OnlyS S H H292:=gt26.grewR g318
   have s320:=so26_0.grew g318
   refine qQ (id:=2) kr ?_
   have hx321:j26=a \/ tmK κ L26 (j26 - 1)<=tmK κ L26 j26:=.inl om
   have q322:=q27.app (kL:KdsL [.bool] [.bool w298])
   refine rC 0 0 [] [(9,nI 5),(1,nI 1),(18,nI 5),(19,nI 1),(3,.fn 22 [] []),(0,n1 0),(23,.lit .undef),(24,.lit .undef),(25,.lit .undef),(28,.lit .undef),(27,.lit .undef),(29,.lit .undef),(30,.lit .undef),(22,.lit .undef),(26,.lit .undef),(31,.lit .undef),(32,.lit .undef),(33,.lit .undef),(34,.lit (.bool false)),(8,nI 4),(2,nI 2),(20,nB 6),(21,nB 6)] q322 (sc B11 (.cons b299 (.cons b313 .nil))) ?_
   refine qM kr fun vs ls H323 E323 st hE=>?_
   obtain⟨w324,hw324⟩:∃ z,z=(IntKind.wrap .i64 ((i13:Int)+1)):=⟨_,rfl⟩
   have b325:E323 8=.int .i64 w324:=by rw [hw324];exact eo st hE 8 _
   have b326:=eo st hE 2 (.int .i64 (b:Int))
   have b327:=eo st hE 1 (.int .i64 (a:Int))
   have b328:=eo st hE 3 (.func 22 [] [])
   have b329:=eo st hE 0 S
   have g330:Grew H292 H323:=(gk st)
   have g331:OnlyS S H H323:=g319.grewR g330
   have s332:=s320.grew g330
   have nw324:w324=((i13:Int)+1):=hw324.trans (wI _ om om)
   obtain⟨k333,hk333⟩:∃ k:Nat,w324=(k:Int):=⟨Int.toNat w324,by omega⟩
   have hm9:b - k333 < z13:=by omega
   exact qP kr ⟨b - k333,hm9,k333,L26,rfl,b326,b327,b328,b329,(b325.trans (by rw [hk333])),g331,s332,hr26_0,⟨⟨by omega,by omega⟩,(InsK.fin iv26 hx321).1,by rw [show k333=i13+1 by omega];exact(InsK.fin iv26 hx321).2⟩⟩
 ·intro vs ls H334 E334 st hE
  have f335:¬ ((i13:Int) < (b:Int)):=df st 0
  obtain⟨w340,hw340⟩:∃ z,z=(decide ((i13:Int) < (b:Int))):=⟨_,rfl⟩
  have b341:E334 14=.bool w340:=by rw [hw340];exact eo st hE 14 _
  have B12:=es st hE [(8,.int .i64 (i13:Int)),(2,.int .i64 (b:Int)),(12,.int .i64 (i13:Int)),(13,.int .i64 (b:Int)),(1,.int .i64 (a:Int)),(3,.func 22 [] []),(0,S)]
  have g345:Grew Hx13 H334:=(gk st)
  have g346:OnlyS S H H334:=gt13.grewR g345
  have s347:=so13_0.grew g345
  refine qQ (id:=0) kr ?_
  have q348:=q14.app (kL:KdsL [.bool] [.bool w340])
  refine rC 0 0 [] [(8,nI 4),(2,nI 2),(12,nI 4),(13,nI 2),(1,nI 1),(3,.fn 22 [] []),(0,n1 0),(14,nB 5)] q348 (sc B12 (.cons b341 .nil)) ?_
  refine qM kr fun vs ls H349 E349 st hE=>?_
  have gz:OnlyS S H H349:=(g346.grewR (gk st))
  exact zF kr (qS st.inn hE (.inl rfl) (a:=.tuple []) kr gz.next ⟨rfl,gz,_,(s347.grew (st.inn.kept.grew (Nat.le_refl _))),hr13_0,hsti13,fun p q h1 h2 h3=>hsoi13 p q h1 h2 om⟩)
theorem pB (H:AHeap) (κ:List AV->Int) (L0:LL) (hr:qL KC L0) (hκ:uM κ L0) (S:AV) (hS:SlF H 3 L0 S) (hmx:L0.length < 2^20) (a b:Nat) (hab:a < b) (hb:b<=L0.length):qK Try.prog 52 [S,.int .i64 (a:Int),.int .i64 (b:Int),.func 22 [] []] H fun r H'=>r=.tuple []/\OnlyS S H H' /\ ∃ M,SlF H' 3 M S/\qL KC M/\Pt2 a b L0 M:=by
 refine qN jQ (by simp) ?_
 have q1:KdsL [.one,KI,KI] [S,.int .i64 (a:Int),.int .i64 (b:Int)]:=kL
 refine rC 0 0 [] [(0,n1 0),(1,nI 1),(2,nI 2),(3,.fn 22 [] [])] q1 (.cons (t:=0) rfl (.cons (t:=1) rfl (.cons (t:=2) rfl (.cons (t:=3) rfl .nil)))) ?_
 refine qM kr fun vs ls H2 E2 st hE=>?_
 have b3:=eo st hE 8 (.int .i64 (a:Int))
 obtain⟨w4,hw4⟩:∃ z,z=(IntKind.wrap .i64 ((b:Int) - 1)):=⟨_,rfl⟩
 have b5:E2 9=.int .i64 w4:=by rw [hw4];exact eo st hE 9 _
 have b6:=eo st hE 0 S
 have g7:Grew H H2:=(gk st)
 have g8:OnlyS S H H2:=(OnlyS.of_grew (Grew.refl H)).grewR g7
 have s9:=hS.grew g7
 have nw4:w4=((b:Int) - 1):=hw4.trans (wI _ om om)
 obtain⟨k10,hk10⟩:∃ k:Nat,w4=(k:Int):=⟨Int.toNat w4,by omega⟩
 refine zE kr (fun z E H'=>∃ (i11:Nat) (j11:Nat) (L11:LL),z=b - i11/\E 0=S/\E 8=.int .i64 (i11:Int)/\E 9=.int .i64 (j11:Int)/\OnlyS S H H'/\SlF H' 3 L11 S/\qL KC L11/\a<=i11/\j11 < b/\Pt2 a b L0 L11) (b - a) ⟨a,k10,L0,rfl,b6,b3,(b5.trans (by rw [hk10])),g8,s9,hr,⟨by omega,by omega,Pt2.refl _ _ _⟩⟩ ?_
 rintro z11 E11 Hx11 ⟨i11,j11,L11,hz11,c11_0,cv11_8,cv11_9,gt11,so11_0,hr11_0,iv11⟩
 obtain⟨hai11,hbi11,hsti11⟩:=iv11
 have hli11:=hsti11.len
 have q12:=q1.app (kL:KdsL [KI,KI,KI] [.int .i64 w4,.int .i64 (i11:Int),.int .i64 (j11:Int)])
 refine rC 0 0 [] [(0,n1 0),(8,nI 4),(9,nI 5)] q12 (.cons c11_0 (.cons cv11_8 (.cons cv11_9 .nil))) ?_
 refine vI kr ?_ ?_
 ·intro vs ls H13 E13 st hE
  have f14:(i11:Int) < (j11:Int):=dt st 0
  have B1:=es st hE [(20,S),(21,.int .i64 (j11:Int)),(0,S),(8,.int .i64 (i11:Int)),(16,S),(17,.int .i64 (i11:Int)),(18,S),(19,.int .i64 (j11:Int)),(9,.int .i64 (j11:Int))]
  have g24:Grew Hx11 H13:=(gk st)
  have g25:OnlyS S H H13:=gt11.grewR g24
  have s26:=so11_0.grew g24
  have hlt27:j11 < L11.length:=by omega
  obtain⟨lS27,cap27,rest27,wr27,eS27,gS27⟩:=(s26.toL).isSl hlt27
  obtain⟨v27_0,v27_1,v27_2,hm27⟩:=qC (hr11_0.get hlt27)
  have he27:L11.getD j11 []=[.int .i32 v27_0,.int .i32 v27_1,.int .i32 v27_2]:=by rw [<- hm27,List.getD_eq_getElem?_getD,List.getElem?_eq_getElem hlt27];rfl
  have q28:=q12.app (kL:KdsL [K2,K2,K2] [.int .i32 v27_0,.int .i32 v27_1,.int .i32 v27_2])
  refine rF 1 0 [(.ia 3 (n1 0) (nI 5),.ptr 0 0)] [⟨lS27,(j11 * 3),[n2 6,n2 7,n2 8],false⟩] [(20,n1 0),(21,nI 5),(0,n1 0),(8,nI 4),(16,n1 0),(17,nI 4),(18,n1 0),(19,nI 5),(9,nI 5)] q28 (.cons (qA hr11_0 gS27 hlt27 rfl (by rw [hm27];exact(dL q28))) .nil) (.cons (qD (k:=j11) (dE q28) eS27 (dE q28) hlt27 rfl) .nil) B1 ?_
  refine qM kr fun vs ls H29 E29 st hE=>?_
  have B2:=es st hE [(24,S),(25,.int .i64 (i11:Int)),(16,S),(17,.int .i64 (i11:Int)),(23,.agg [.int .i32 v27_0,.int .i32 v27_1,.int .i32 v27_2]),(18,S),(19,.int .i64 (j11:Int)),(8,.int .i64 (i11:Int)),(9,.int .i64 (j11:Int)),(0,S)]
  have g40:Grew H13 H29:=(gk st)
  have g41:OnlyS S H H29:=g25.grewR g40
  have s43:=s26.grew g40
  have hlt44:i11 < L11.length:=by omega
  obtain⟨lS44,cap44,rest44,wr44,eS44,gS44⟩:=(s43.toL).isSl hlt44
  obtain⟨v44_0,v44_1,v44_2,hm44⟩:=qC (hr11_0.get hlt44)
  have he44:L11.getD i11 []=[.int .i32 v44_0,.int .i32 v44_1,.int .i32 v44_2]:=by rw [<- hm44,List.getD_eq_getElem?_getD,List.getElem?_eq_getElem hlt44];rfl
  have q45:=q28.app (kL:KdsL [K2,K2,K2] [.int .i32 v44_0,.int .i32 v44_1,.int .i32 v44_2])
  refine rF 1 0 [(.ia 3 (n1 0) (nI 4),.ptr 0 0)] [⟨lS44,(i11 * 3),[n2 9,n2 10,n2 11],false⟩] [(24,n1 0),(25,nI 4),(16,n1 0),(17,nI 4),(23,.agg [n2 6,n2 7,n2 8]),(18,n1 0),(19,nI 5),(8,nI 4),(9,nI 5),(0,n1 0)] q45 (.cons (qA hr11_0 gS44 hlt44 rfl (by rw [hm44];exact(dL q45))) .nil) (.cons (qD (k:=i11) (dE q45) eS44 (dE q45) hlt44 rfl) .nil) B2 ?_
  refine qM kr fun vs ls H46 E46 st hE=>?_
  have b47:=eo st hE 28 (.ptr lS44 ((i11 * 3)+0))
  have b48:=eo st hE 23 (.agg [.int .i32 v27_0,.int .i32 v27_1,.int .i32 v27_2])
  have B3:=es st hE [(23,.agg [.int .i32 v27_0,.int .i32 v27_1,.int .i32 v27_2]),(18,S),(19,.int .i64 (j11:Int)),(27,.agg [.int .i32 v44_0,.int .i32 v44_1,.int .i32 v44_2]),(8,.int .i64 (i11:Int)),(9,.int .i64 (j11:Int)),(0,S)]
  have g55:Grew H29 H46:=(gk st)
  have g56:OnlyS S H H46:=g41.grewR g55
  have s58:=s43.grew g55
  refine qH (d:=none) (n:=3) (x:=.tmp 28) (y:=.tmp 23) kr (S:=S) (ms:=L11) (k:=i11) (m':=[.int .i32 v27_0,.int .i32 v27_1,.int .i32 v27_2]) (s58) eS44 b47 hlt44 hr11_0.len (by show AV.cells (E46 23)=_;rw [b48];rfl) rfl rfl rfl ?_
  intro H59 s59 oo59
  have hln59:(L11.set i11 [.int .i32 v27_0,.int .i32 v27_1,.int .i32 v27_2]).length=L11.length:=by simp
  have g60:OnlyS S H H59:=g56.trans oo59
  refine rC 0 0 [] [(23,.agg [n2 6,n2 7,n2 8]),(18,n1 0),(19,nI 5),(27,.agg [n2 9,n2 10,n2 11]),(8,nI 4),(9,nI 5),(0,n1 0)] q45 (sn B3) ?_
  refine qM kr fun vs ls H62 E62 st hE=>?_
  have B4:=es st hE [(18,S),(19,.int .i64 (j11:Int)),(27,.agg [.int .i32 v44_0,.int .i32 v44_1,.int .i32 v44_2]),(8,.int .i64 (i11:Int)),(9,.int .i64 (j11:Int)),(0,S)]
  have g69:Grew H59 H62:=(gk st)
  have g70:OnlyS S H H62:=g60.grewR g69
  have s71:=s59.grew g69
  have hlt72:j11 < (L11.set i11 [.int .i32 v27_0,.int .i32 v27_1,.int .i32 v27_2]).length:=by omega
  obtain⟨lS72,cap72,rest72,wr72,eS72,gS72⟩:=(s71.toL).isSl hlt72
  obtain⟨v72_0,v72_1,v72_2,hm72⟩:=qC ((qL.set hr11_0 (.cons kA (.cons kA (.cons kA .nil)))).get hlt72)
  have he72:(L11.set i11 [.int .i32 v27_0,.int .i32 v27_1,.int .i32 v27_2]).getD j11 []=[.int .i32 v72_0,.int .i32 v72_1,.int .i32 v72_2]:=by rw [<- hm72,List.getD_eq_getElem?_getD,List.getElem?_eq_getElem hlt72];rfl
  have q73:=q45.app (kL:KdsL [K2,K2,K2] [.int .i32 v72_0,.int .i32 v72_1,.int .i32 v72_2])
  refine rF 1 0 [(.ia 3 (n1 0) (nI 5),.ptr 0 0)] [⟨lS72,(j11 * 3),[n2 12,n2 13,n2 14],false⟩] [(18,n1 0),(19,nI 5),(27,.agg [n2 9,n2 10,n2 11]),(8,nI 4),(9,nI 5),(0,n1 0)] q73 (.cons (qA (qL.set hr11_0 (.cons kA (.cons kA (.cons kA .nil)))) gS72 hlt72 rfl (by rw [hm72];exact(dL q73))) .nil) (.cons (qD (k:=j11) (dE q73) eS72 (dE q73) hlt72 rfl) .nil) B4 ?_
  refine qM kr fun vs ls H74 E74 st hE=>?_
  have b75:=eo st hE 29 (.ptr lS72 ((j11 * 3)+0))
  have b76:=eo st hE 27 (.agg [.int .i32 v44_0,.int .i32 v44_1,.int .i32 v44_2])
  have B5:=es st hE [(27,.agg [.int .i32 v44_0,.int .i32 v44_1,.int .i32 v44_2]),(8,.int .i64 (i11:Int)),(9,.int .i64 (j11:Int)),(0,S)]
  have g80:Grew H62 H74:=(gk st)
  have g81:OnlyS S H H74:=g70.grewR g80
  have s83:=s71.grew g80
  refine qH (d:=none) (n:=3) (x:=.tmp 29) (y:=.tmp 27) kr (S:=S) (ms:=(L11.set i11 [.int .i32 v27_0,.int .i32 v27_1,.int .i32 v27_2])) (k:=j11) (m':=[.int .i32 v44_0,.int .i32 v44_1,.int .i32 v44_2]) (s83) eS72 b75 hlt72 (qL.set hr11_0 (.cons kA (.cons kA (.cons kA .nil)))).len (by show AV.cells (E74 27)=_;rw [b76];rfl) rfl rfl rfl ?_
  intro H84 s84 oo84
  have hln84:((L11.set i11 [.int .i32 v27_0,.int .i32 v27_1,.int .i32 v27_2]).set j11 [.int .i32 v44_0,.int .i32 v44_1,.int .i32 v44_2]).length=(L11.set i11 [.int .i32 v27_0,.int .i32 v27_1,.int .i32 v27_2]).length:=by simp
  have g85:OnlyS S H H84:=g81.trans oo84
  refine rC 0 0 [] [(27,.agg [n2 9,n2 10,n2 11]),(8,nI 4),(9,nI 5),(0,n1 0)] q73 (sn B5) ?_
  refine qM kr fun vs ls H87 E87 st hE=>?_
  obtain⟨w88,hw88⟩:∃ z,z=(IntKind.wrap .i64 ((i11:Int)+1)):=⟨_,rfl⟩
  have b89:E87 8=.int .i64 w88:=by rw [hw88];exact eo st hE 8 _
  obtain⟨w90,hw90⟩:∃ z,z=(IntKind.wrap .i64 ((j11:Int) - 1)):=⟨_,rfl⟩
  have b91:E87 9=.int .i64 w90:=by rw [hw90];exact eo st hE 9 _
  have b92:=eo st hE 0 S
  have g93:Grew H84 H87:=(gk st)
  have g94:OnlyS S H H87:=g85.grewR g93
  have s95:=s84.grew g93
  have nw88:w88=((i11:Int)+1):=hw88.trans (wI _ om om)
  have nw90:w90=((j11:Int) - 1):=hw90.trans (wI _ om om)
  obtain⟨k96,hk96⟩:∃ k:Nat,w88=(k:Int):=⟨Int.toNat w88,by omega⟩
  obtain⟨k97,hk97⟩:∃ k:Nat,w90=(k:Int):=⟨Int.toNat w90,by omega⟩
  have hsw9:((L11.set i11 [.int .i32 v27_0,.int .i32 v27_1,.int .i32 v27_2]).set j11 [.int .i32 v44_0,.int .i32 v44_1,.int .i32 v44_2])=swp L11 i11 j11:=by unfold swp;rw [he44,he27]
  have hm9:b - k96 < z11:=by omega
  exact qP kr ⟨b - k96,hm9,k96,k97,((L11.set i11 [.int .i32 v27_0,.int .i32 v27_1,.int .i32 v27_2]).set j11 [.int .i32 v44_0,.int .i32 v44_1,.int .i32 v44_2]),rfl,b92,(b89.trans (by rw [hk96])),(b91.trans (by rw [hk97])),g94,s95,(qL.set (qL.set hr11_0 (.cons kA (.cons kA (.cons kA .nil)))) (.cons kA (.cons kA (.cons kA .nil)))),⟨by omega,by omega,by rw [hsw9];exact hsti11.trans (Pt2.swap om om om om om)⟩⟩
 ·intro vs ls H98 E98 st hE
  have f99:¬ ((i11:Int) < (j11:Int)):=df st 0
  obtain⟨w104,hw104⟩:∃ z,z=(decide ((i11:Int) < (j11:Int))):=⟨_,rfl⟩
  have b105:E98 15=.bool w104:=by rw [hw104];exact eo st hE 15 _
  have B6:=es st hE [(8,.int .i64 (i11:Int)),(9,.int .i64 (j11:Int)),(13,.int .i64 (i11:Int)),(14,.int .i64 (j11:Int)),(0,S)]
  have g107:Grew Hx11 H98:=(gk st)
  have g108:OnlyS S H H98:=gt11.grewR g107
  have s109:=so11_0.grew g107
  refine qQ (id:=0) kr ?_
  have q110:=q12.app (kL:KdsL [.bool] [.bool w104])
  refine rC 0 0 [] [(8,nI 4),(9,nI 5),(13,nI 4),(14,nI 5),(0,n1 0),(15,nB 6)] q110 (sc B6 (.cons b105 .nil)) ?_
  refine qM kr fun vs ls H111 E111 st hE=>?_
  have gz:OnlyS S H H111:=(g108.grewR (gk st))
  exact zF kr (qS st.inn hE (.inl rfl) (a:=.tuple []) kr gz.next ⟨rfl,gz,_,(s109.grew (st.inn.kept.grew (Nat.le_refl _))),hr11_0,hsti11⟩)
end Go.Proofs.Ytgjggkgafdnhcaa
namespace Go.Proofs.Ytgjggkgafdnhcaa
open Go.Ab
set_option maxRecDepth 100000
section
variable {κ:List AV->Int}
def Hp (κ:List AV->Int) (f lo hi:Nat) (L:LL):Prop:=∀ p c,lo<=p->c < hi->(c=2 * p+1 \/ c=2 * p+2)->tmK κ L (f+c)<=tmK κ L (f+p)
structure Sft (κ:List AV->Int) (f lo hi:Nat) (L0 L:LL) (r:Nat):Prop where
  st:Pt2 (f+lo) (f+hi) L0 L
  lr:lo<=r
  ord:∀ p c,lo<=p->p ≠ r->c < hi->(c=2 * p+1 \/ c=2 * p+2)->tmK κ L (f+c)<=tmK κ L (f+p)
  gp:∀ p c,lo<=p->(r=2 * p+1 \/ r=2 * p+2)->c < hi->(c=2 * r+1 \/ c=2 * r+2)->tmK κ L (f+c)<=tmK κ L (f+p)
theorem Sft.start {f lo hi:Nat} {L:LL} (h:Hp κ f (lo+1) hi L):Sft κ f lo hi L L lo:=
 ⟨.refl _ _ _,Nat.le_refl _,fun p c h1 h2 h3 h4=>h p c om h3 h4,fun p c h1 h2=>by omega⟩
theorem Sft.step {f lo hi r c:Nat} {L0 L:LL} (h:Sft κ f lo hi L0 L r) (hb:f+hi<=L0.length) (hc:c < hi) (hcr:c=2 * r+1 \/ c=2 * r+2) (hlt:tmK κ L (f+r) < tmK κ L (f+c)) (hmx:∀ d,d < hi->(d=2 * r+1 \/ d=2 * r+2)->tmK κ L (f+d)<=tmK κ L (f+c)):Sft κ f lo hi L0 (swp L (f+r) (f+c)) c:=by
 obtain⟨st,lr,ord,gp⟩:=h
 have hl:=st.len
 have tm:=qBI κ (L:=L) (i:=f+r) (j:=f+c) om om
 refine⟨st.trans (Pt2.swap om om om om om),by omega,fun p d h1 h2 h3 h4=>?_,fun p d h1 h2 h3 h4=>?_⟩
 ·rw [tm,tm]
  by_cases c1:p=r
  ·subst c1
   by_cases c2:d=c
   ·subst c2
    rw [if_pos rfl,if_neg om,if_pos rfl];omega
   ·rw [if_neg om,if_neg om,if_neg om,if_pos rfl];exact hmx d h3 h4
  ·rw [if_neg (show ¬ f+p=f+c by omega),if_neg (show ¬ f+p=f+r by omega),if_neg (show ¬ f+d=f+c by omega)]
   by_cases c2:d=r
   ·subst c2;rw [if_pos rfl];exact gp p c h1 h4 hc hcr
   ·rw [if_neg om];exact ord p d h1 c1 h3 h4
 ·have e:p=r:=by omega
  subst e
  rw [tm,tm,if_neg (show ¬ f+d=f+c by omega),if_neg (show ¬ f+d=f+p by omega),if_neg (show ¬ f+p=f+c by omega),if_pos rfl]
  exact ord c d om om h3 h4
theorem Sft.fin {f lo hi r:Nat} {L0 L:LL} (h:Sft κ f lo hi L0 L r) (hx:∀ d,d < hi->(d=2 * r+1 \/ d=2 * r+2)->tmK κ L (f+d)<=tmK κ L (f+r)):Pt2 (f+lo) (f+hi) L0 L/\Hp κ f lo hi L:=
 ⟨h.st,fun p c h1 h2 h3=>by
  by_cases c1:p=r
  ·rw [c1];rw [c1] at h3;exact hx c h2 h3
  ·exact h.ord p c h1 c1 h2 h3⟩
theorem Hp.root {f hi:Nat} {L:LL} (h:Hp κ f 0 hi L):∀ (n p:Nat),p<=n->p < hi->tmK κ L (f+p)<=tmK κ L f
 | _,0,_,_=>Int.le_refl _
 | 0,p+1,h1,_=>by omega
 | n+1,p+1,h1,h2=>by
  have a:=h (p / 2) (p+1) (Nat.zero_le _) h2 om
  have b:=Hp.root h n (p / 2) om om
  exact Int.le_trans a b
theorem Hp.init {f hi:Nat} (L:LL) {lo:Nat} (h:hi<=2 * lo+1):Hp κ f lo hi L:=fun p c h1 h2 h3=>by omega
structure HSt (κ:List AV->Int) (a b:Nat) (L0 L:LL) (n:Nat):Prop where
  st:Pt2 a b L0 L
  nb:a+n<=b
  hp:Hp κ a 0 n L
  srt:yM κ (a+n) b L
  le:∀ p q,p < n->a+n<=q->q < b->tmK κ L (a+p)<=tmK κ L q
theorem HSt.start {a b n:Nat} {L0 L:LL} (h:Pt2 a b L0 L) (hn:a+n=b) (hp:Hp κ a 0 n L):HSt κ a b L0 L n:=
 ⟨h,by omega,hp,.one _ om,fun p q h1 h2 h3=>by omega⟩
theorem HSt.pre {a b n:Nat} {L0 L:LL} (h:HSt κ a b L0 L (n+1)) (hb:b<=L0.length):Hp κ a 1 n (swp L a (a+n)):=fun p c h1 h2 h3=>by
 have hl:=h.st.len
 have hnb:=h.nb
 have tm:=qBI κ (L:=L) (i:=a) (j:=a+n) om om
 rw [tm,tm,if_neg (show ¬ a+c=a+n by omega),if_neg (show ¬ a+c=a by omega),if_neg (show ¬ a+p=a+n by omega),if_neg (show ¬ a+p=a by omega)]
 exact h.hp p c om om h3
theorem HSt.step {a b n:Nat} {L0 L M:LL} (h:HSt κ a b L0 L (n+1)) (hb:b<=L0.length) (h1:Pt2 (a+0) (a+n) (swp L a (a+n)) M) (h2:Hp κ a 0 n M):HSt κ a b L0 M n:=by
 obtain⟨st,nb,hp,srt,le⟩:=h
 have hl:=st.len
 have hs:Pt2 a b L (swp L a (a+n)):=Pt2.swap om om om om om
 have tm:=qBI κ (L:=L) (i:=a) (j:=a+n) om om
 have hroot:=fun p hp'=>Hp.root hp (n+1) p om hp'
 have tq:∀ q,a+n<=q->tmK κ M q=tmK κ (swp L a (a+n)) q:=fun q hq=>by unfold tmK;rw [h1.out q (.inr hq)]
 have tn:tmK κ M (a+n)=tmK κ L a:=by rw [tq _ (Nat.le_refl _),tm,if_pos rfl]
 have th:∀ q,a+n < q->tmK κ M q=tmK κ L q:=fun q hq=>by rw [tq _ om,tm,if_neg om,if_neg om]
 have tl:∀ p,p < n->tmK κ M (a+p)<=tmK κ L a:=fun p hp'=>by
  obtain⟨q,d1,d2,d3⟩:=h1.memT κ om (by rw [qBH];omega) (show a+0<=a+p by omega) om
  rw [d3,tm,if_neg om]
  by_cases c:q=a
  ·rw [if_pos c];exact hroot n om
  ·rw [if_neg c]
   obtain⟨k,rfl⟩:∃ k,q=a+k:=⟨q - a,by omega⟩
   exact hroot k om
 have lroot:∀ q,a+n < q->q < b->tmK κ L a<=tmK κ L q:=fun q c1 c2=>le 0 q om om c2
 refine⟨(st.trans hs).trans (h1.wide om om),by omega,h2,fun p q c1 c2 c3=>?_,fun p q c1 c2 c3=>?_⟩
 ·rw [th q om]
  by_cases c:p=a+n
  ·rw [c,tn];exact lroot q om c3
  ·rw [th p om];exact srt p q om c2 c3
 ·have a1:=tl p c1
  by_cases c:q=a+n
  ·rw [c,tn];exact a1
  ·rw [th q om];exact Int.le_trans a1 (lroot q om c3)
def Uq (κ:List AV->Int) (L:LL):Prop:=∀ v:Int,L.countP (fun x=>decide (κ x=v))<=1
theorem Uq.pe {L M:LL} (h:Uq κ L) (k:PE L M):Uq κ M:=fun v=>by rw [<- k];exact h v
theorem qCl {p:List AV->Bool}:∀ {L:LL} {i j:Nat},i < j->j < L.length->p (L.getD i [])=true->p (L.getD j [])=true->2<=L.countP p
 | [],i,j,_,h,_,_=>absurd h (Nat.not_lt_zero _)
 | x :: L,0,j+1,_,h2,h3,h4=>by
  have h3:p x=true:=h3
  have h4:p (L.getD j [])=true:=h4
  have:0 < L.countP p:=List.countP_pos_iff.2 ⟨L.getD j [],(by rw [List.getD_eq_getElem?_getD,List.getElem?_eq_getElem (by simpa using h2)];exact List.getElem_mem _),h4⟩
  rw [List.countP_cons,if_pos h3];omega
 | x :: L,i+1,j+1,h1,h2,h3,h4=>by
  have:=qCl (L:=L) (i:=i) (j:=j) om (by simpa using h2) h3 h4
  rw [List.countP_cons];omega
theorem Uq.ne {L:LL} (h:Uq κ L) {i j:Nat} (hij:i < j) (hj:j < L.length):tmK κ L i ≠ tmK κ L j:=fun e=>by
 have:=qCl (p:=fun x=>decide (κ x=tmK κ L j)) hij hj (decide_eq_true e) (decide_eq_true rfl)
 have:=h (tmK κ L j)
 omega
def Lo (κ:List AV->Int) (a b:Nat) (L:LL):Prop:=a=0 \/ ∀ q,a<=q->q < b->tmK κ L (a - 1)<=tmK κ L q
theorem Lo.pt {a b:Nat} {L M:LL} (h:Lo κ a b L) (k:Pt2 a b L M) (hab:a<=b) (hb:b<=L.length):Lo κ a b M:=by
 by_cases c:a=0
 ·exact .inl c
 ·rcases h with h | h
  ·exact absurd h c
  ·refine .inr fun q h1 h2=>?_
   obtain⟨q2,d1,d2,d3⟩:=k.memT κ hab hb h1 h2
   have e:tmK κ M (a - 1)=tmK κ L (a - 1):=by unfold tmK;rw [k.out (a - 1) (.inl om)]
   rw [d3,e];exact h q2 d1 d2
theorem Lo.sub {a b b' : Nat} {L:LL} (h:Lo κ a b L) (hb:b'<=b):Lo κ a b' L:=h.imp id fun h q h1 h2=>h q h1 om
def Dn (κ:List AV->Int) (a b a' b' : Nat) (L:LL):Prop:=∀ p q,a<=p->p < q->q < b->(p < a' \/ b'<=q)->tmK κ L p<=tmK κ L q
structure PdS (κ:List AV->Int) (a b:Nat) (L0 L:LL) (a' b' : Nat):Prop where
  st:Pt2 a b L0 L
  aa:a<=a'
  ab:a'<=b'
  bb:b'<=b
  dn:Dn κ a b a' b' L
  lo:Lo κ a' b' L
theorem PdS.start {a b:Nat} {L:LL} (h:a<=b) (lo:Lo κ a b L):PdS κ a b L L a b:=
 ⟨.refl _ _ _,Nat.le_refl _,h,Nat.le_refl _,fun p q h1 h2 h3 h4=>by omega,lo⟩
theorem PdS.pt {a b a' b' : Nat} {L0 L M:LL} (h:PdS κ a b L0 L a' b') (hb:b<=L0.length) (k:Pt2 a' b' L M):PdS κ a b L0 M a' b':=by
 obtain⟨st,aa,ab,bb,dn,lo⟩:=h
 have hl:=st.len
 have out:∀ q,(q < a' \/ b'<=q)->tmK κ M q=tmK κ L q:=fun q hq=>by unfold tmK;rw [k.out q hq]
 refine⟨st.trans (k.wide aa bb),aa,ab,bb,fun p q h1 h2 h3 h4=>?_,lo.pt k ab om⟩
 by_cases c1:p < a'
 ·rw [out p (.inl c1)]
  by_cases c2:q < a' \/ b'<=q
  ·rw [out q c2];exact dn p q h1 h2 h3 h4
  ·obtain⟨q2,d1,d2,d3⟩:=k.memT κ ab om (show a'<=q by omega) om
   rw [d3];exact dn p q2 h1 om om (.inl c1)
 ·have c2:b'<=q:=by omega
  rw [out q (.inr c2)]
  by_cases c3:b'<=p
  ·rw [out p (.inr c3)];exact dn p q h1 h2 h3 h4
  ·obtain⟨q2,d1,d2,d3⟩:=k.memT κ ab om (show a'<=p by omega) om
   rw [d3];exact dn q2 q om om h3 (.inr c2)
theorem PdS.fin {a b a' b' : Nat} {L0 L M:LL} (h:PdS κ a b L0 L a' b') (hb:b<=L0.length) (k:Pt2 a' b' L M) (s:yM κ a' b' M):Pt2 a b L0 M/\yM κ a b M:=by
 have g:=h.pt hb k
 refine⟨g.st,fun p q h1 h2 h3=>?_⟩
 by_cases c:p < a' \/ b'<=q
 ·exact g.dn p q h1 h2 h3 c
 ·exact s p q om h2 om
theorem PdS.left {a b a' b' j:Nat} {L0 L M:LL} (h:PdS κ a b L0 L a' b') (hb:b<=L0.length) (hp:Part κ a' b' j L) (k:Pt2 a' j L M) (s:yM κ a' j M):PdS κ a b L0 M (j+1) b':=by
 have haj:=hp.aj
 have hjb:=hp.jb
 have hl:=h.st.len
 have g:=h.pt hb (k.wide (Nat.le_refl _) om)
 have bb:=h.bb
 have aa:=h.aa
 have out:∀ q,j<=q->tmK κ M q=tmK κ L q:=fun q hq=>by unfold tmK;rw [k.out q (.inr hq)]
 have tl:∀ p,a'<=p->p < j->tmK κ M p < tmK κ L j:=fun p c1 c2=>by
  obtain⟨q2,d1,d2,d3⟩:=k.memT κ haj om c1 c2
  rw [d3];exact hp.lo q2 d1 d2
 refine⟨g.st,by omega,by omega,bb,fun p q h1 h2 h3 h4=>?_,.inr fun q h1 h2=>?_⟩
 ·by_cases c:p < a' \/ b'<=q
  ·exact g.dn p q h1 h2 h3 c
  ·have c1:p < j+1:=by omega
   by_cases c2:q < j
   ·exact s p q om h2 c2
   ·rw [out q om]
    have x:tmK κ L j<=tmK κ L q:=by
     by_cases c3:q=j
     ·rw [c3];exact Int.le_refl _
     ·exact hp.hi q om om
    by_cases c4:p=j
    ·rw [c4,out j (Nat.le_refl _)];exact x
    ·exact Int.le_trans (Int.le_of_lt (tl p om om)) x
 ·rw [Nat.add_sub_cancel,out j (Nat.le_refl _),out q om]
  exact hp.hi q om h2
theorem PdS.right {a b a' b' j:Nat} {L0 L M:LL} (h:PdS κ a b L0 L a' b') (hb:b<=L0.length) (hp:Part κ a' b' j L) (k:Pt2 (j+1) b' L M) (s:yM κ (j+1) b' M):PdS κ a b L0 M a' j:=by
 have haj:=hp.aj
 have hjb:=hp.jb
 have hl:=h.st.len
 have g:=h.pt hb (k.wide om (Nat.le_refl _))
 have bb:=h.bb
 have aa:=h.aa
 have out:∀ q,q<=j->tmK κ M q=tmK κ L q:=fun q hq=>by unfold tmK;rw [k.out q (.inl om)]
 have tl:∀ q,j < q->q < b'->tmK κ L j<=tmK κ M q:=fun q c1 c2=>by
  obtain⟨q2,d1,d2,d3⟩:=k.memT κ om om (show j+1<=q by omega) c2
  rw [d3];exact hp.hi q2 om d2
 refine⟨g.st,aa,haj,by omega,fun p q h1 h2 h3 h4=>?_,g.lo.sub om⟩
 by_cases c:p < a' \/ b'<=q
 ·exact g.dn p q h1 h2 h3 c
 ·have c1:j<=q:=by omega
  by_cases c2:j < p
  ·exact s p q om h2 om
  ·have x:tmK κ M p<=tmK κ L j:=by
    rw [out p om]
    by_cases c3:p=j
    ·rw [c3];exact Int.le_refl _
    ·exact Int.le_of_lt (hp.lo p om om)
   by_cases c4:q=j
   ·rw [c4,out j (Nat.le_refl _)];rw [out p om] at x ⊢;exact x
   ·exact Int.le_trans x (tl q om om)
theorem Lo.step {a b j:Nat} {L:LL} (h:Lo κ a b L) (hj:a<=j) (hjb:j < b) (h1:1<=j) (hlt:tmK κ L j < tmK κ L (j - 1)):a < j:=by
 by_cases c:j=a
 ·subst c
  rcases h with h | h
  ·omega
  ·have:=h j (Nat.le_refl _) hjb;omega
 ·omega
theorem yM.snoc {a i:Nat} {L:LL} (h:yM κ a i L) (ha:a < i) (hle:tmK κ L (i - 1)<=tmK κ L i):yM κ a (i+1) L:=fun p q h1 h2 h3=>by
 by_cases c:q=i
 ·rw [c];exact Int.le_trans (h.le h1 (show p<=i - 1 by omega) om) hle
 ·exact h p q h1 h2 om
theorem yM.swp {a i j k:Nat} {L:LL} (h:yM κ a i L) (hj:i<=j) (hk:i<=k) (lj:j < L.length) (lk:k < L.length):yM κ a i (swp L j k):=h.same fun q c1 c2=>by
 rw [qBI κ lj lk,if_neg om,if_neg om]
theorem tmw (κ:List AV->Int) (L:LL) {a b:Nat} (h:a=b):tmK κ L a=tmK κ L b:=by rw [h]
end
end Go.Proofs.Ytgjggkgafdnhcaa
