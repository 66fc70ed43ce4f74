/- Contracts: the ground of a seat. -/
import Derived.Test.YtacligocjfhckaaSxD
import Derived.Test.YtacligocjfhckaaC
import Derived.Test.YtacligocjfhckaaAbD
import Derived.Test.YtacligocjfhckaaSxC
import Derived.Test.YtacligocjfhckaaSxE
set_option linter.unusedVariables false
set_option linter.unusedSimpArgs false
namespace Go.Proofs.Ytacligocjfhckaa
open Go.Ab
set_option maxRecDepth 100000
set_option maxHeartbeats 1000000
attribute [local irreducible] Res
theorem qEJ (H:AHeap) (x:ON):qR Try.prog 82 [.flt .f32 x] H (yN x):=qMy Try.func82 kr kr kr kr x
def ap:List (Nat × Nat × List Kd × Kd):=[(82,0,[.flt .f32],.bits)]
def φ0:Nat->List AV->AV:=fun _ _=>.undef
theorem qM:qCk Try.prog φ0 ap:=.bits (fun x H _=>qEJ H x) .nil
def pm:Pm:=⟨0,[],tb,ap,1000⟩
def pmR (fl:Nat) (ru:List (RK × SV)) (un:Nat):Pm:=⟨fl,ru,tb,ap,un⟩
theorem rC (fl un:Nat) (ws:List Win) (env:List (Nat × SV)) {ks:List Kd} {xs:List AV} {H:AHeap} {E:Env} {o:Pt} {Q:PK} (hk:KdsL ks xs) {sl:List (Nat × AV)} (hs:zU E sl) (h:∀ p ∈ qNU (wU (pmR fl [] un) 20) (pmR fl [] un) o (qIL (nkA 0 ks) [] env ws),∀ vs ls H' E',Step (qAK Try.prog φ0 xs ws H (pmR fl [] un).fl (pmR fl [] un).ru) (qIL (nkA 0 ks) [] env ws) xs (jD ws) H p.2 vs ls H'->zG p.2.env vs ls E'->Res Try.prog p.1 Q E' H') (hw:WinL H xs (jD ws) ws:=by exact wA) (hp:qDN ws:=by first | exact qI rfl | exact sd) (he:qNQ ks xs (jD ws) env=some sl:=by kernel_rfl):Res Try.prog o Q E H:=qL 20 hk hw hp .nil (qOU hk he hs) qU qM h
theorem rD (fl un:Nat) (ru:List (RK × SV)) (ws:List Win) (env:List (Nat × SV)) {ks:List Kd} {xs:List AV} {H:AHeap} {E:Env} {o:Pt} {Q:PK} (hk:KdsL ks xs) (hr:RuL (qAK Try.prog φ0 xs ws H (pmR fl ru un).fl (pmR fl ru un).ru) (pmR fl ru un).ru) {sl:List (Nat × AV)} (hs:zU E sl) (h:∀ p ∈ qNU (wU (pmR fl ru un) 20) (pmR fl ru un) o (qIL (nkA 0 ks) [] env ws),∀ vs ls H' E',Step (qAK Try.prog φ0 xs ws H (pmR fl ru un).fl (pmR fl ru un).ru) (qIL (nkA 0 ks) [] env ws) xs (jD ws) H p.2 vs ls H'->zG p.2.env vs ls E'->Res Try.prog p.1 Q E' H') (hw:WinL H xs (jD ws) ws:=by exact wA) (hp:qDN ws:=by first | exact qI rfl | exact sd) (he:qNQ ks xs (jD ws) env=some sl:=by kernel_rfl):Res Try.prog o Q E H:=qL 20 hk hw hp hr (qOU hk he hs) qU qM h
def qCJ (a b:Int):Int:=if a < b then -1 else if b < a then 1 else 0
def wB (a b c a' b' c' : Int):Int:=if qCJ a a' ≠ 0 then qCJ a a' else if qCJ b b' ≠ 0 then qCJ b b' else qCJ c c'
def K3:List Kd:=[.int .i32,.int .i32,.int .i32]
theorem kd3 (a b c:Int):KdsL K3 [.int .i32 a,.int .i32 b,.int .i32 c]:=.cons kA (.cons kA (.cons kA .nil))
theorem tB (H:AHeap) (a b c a' b' c' : Int):qR Try.prog 56 [.agg [.int .i32 a,.int .i32 b,.int .i32 c],.agg [.int .i32 a',.int .i32 b',.int .i32 c']] H (.int .i64 (wB a b c a' b' c')):=by
 refine qOG (φ:=φ0) (pm:=pm) 20 rfl rfl qU qM wS (gk:=[(true,K3),(true,K3)]) (.cons (kd3 a b c) (.cons (kd3 a' b' c') .nil)) (by decide) ?_
 refine qPr kr ?_ ?_ ?_ ?_ ?_ ?_ ?_
 ·-- 0: ret
  intro vs ls H' E' st hE
  have f0:(decide (a < a'))=true:=bf st 0
  refine rf st hE (.int .i64 (-1)) (st.kept.grew (Nat.zero_le _)) ?_
  clear st hE;simp only [decide_eq_true_eq,decide_eq_false_iff_not] at *;congr 1;simp only [wB,qCJ];(repeat' split) <;> omega
 ·-- 1: ret
  intro vs ls H' E' st hE
  have f0:(decide (a' < a))=true:=bf st 0
  have f1:(decide (a < a'))=false:=bf st 1
  refine rf st hE (.int .i64 1) (st.kept.grew (Nat.zero_le _)) ?_
  clear st hE;simp only [decide_eq_true_eq,decide_eq_false_iff_not] at *;congr 1;simp only [wB,qCJ];(repeat' split) <;> omega
 ·-- 2: ret
  intro vs ls H' E' st hE
  have f0:(decide (b < b'))=true:=bf st 0
  have f1:(decide (a' < a))=false:=bf st 1
  have f2:(decide (a < a'))=false:=bf st 2
  refine rf st hE (.int .i64 (-1)) (st.kept.grew (Nat.zero_le _)) ?_
  clear st hE;simp only [decide_eq_true_eq,decide_eq_false_iff_not] at *;congr 1;simp only [wB,qCJ];(repeat' split) <;> omega
 ·-- 3: ret
  intro vs ls H' E' st hE
  have f0:(decide (b' < b))=true:=bf st 0
  have f1:(decide (b < b'))=false:=bf st 1
  have f2:(decide (a' < a))=false:=bf st 2
  have f3:(decide (a < a'))=false:=bf st 3
  refine rf st hE (.int .i64 1) (st.kept.grew (Nat.zero_le _)) ?_
  clear st hE;simp only [decide_eq_true_eq,decide_eq_false_iff_not] at *;congr 1;simp only [wB,qCJ];(repeat' split) <;> omega
 ·-- 4: ret
  intro vs ls H' E' st hE
  have f0:(decide (c < c'))=true:=bf st 0
  have f1:(decide (b' < b))=false:=bf st 1
  have f2:(decide (b < b'))=false:=bf st 2
  have f3:(decide (a' < a))=false:=bf st 3
  have f4:(decide (a < a'))=false:=bf st 4
  refine rf st hE (.int .i64 (-1)) (st.kept.grew (Nat.zero_le _)) ?_
  clear st hE;simp only [decide_eq_true_eq,decide_eq_false_iff_not] at *;congr 1;simp only [wB,qCJ];(repeat' split) <;> omega
 ·-- 5: ret
  intro vs ls H' E' st hE
  have f0:(decide (c' < c))=true:=bf st 0
  have f1:(decide (c < c'))=false:=bf st 1
  have f2:(decide (b' < b))=false:=bf st 2
  have f3:(decide (b < b'))=false:=bf st 3
  have f4:(decide (a' < a))=false:=bf st 4
  have f5:(decide (a < a'))=false:=bf st 5
  refine rf st hE (.int .i64 1) (st.kept.grew (Nat.zero_le _)) ?_
  clear st hE;simp only [decide_eq_true_eq,decide_eq_false_iff_not] at *;congr 1;simp only [wB,qCJ];(repeat' split) <;> omega
 ·-- 6: ret
  intro vs ls H' E' st hE
  have f0:(decide (c' < c))=false:=bf st 0
  have f1:(decide (c < c'))=false:=bf st 1
  have f2:(decide (b' < b))=false:=bf st 2
  have f3:(decide (b < b'))=false:=bf st 3
  have f4:(decide (a' < a))=false:=bf st 4
  have f5:(decide (a < a'))=false:=bf st 5
  refine rf st hE (.int .i64 0) (st.kept.grew (Nat.zero_le _)) ?_
  clear st hE;simp only [decide_eq_true_eq,decide_eq_false_iff_not] at *;congr 1;simp only [wB,qCJ];(repeat' split) <;> omega
theorem qBT (H:AHeap) (a b c a' b' c' : Int):qR Try.prog 48 [.agg [.int .i32 a,.int .i32 b,.int .i32 c],.agg [.int .i32 a',.int .i32 b',.int .i32 c']] H (.int .i64 (wB a b c a' b' c')):=by
 refine qOG (φ:=φ0) (pm:=pm) 20 rfl rfl qU qM gU (gk:=[(true,K3),(true,K3)]) (.cons (kd3 a b c) (.cons (kd3 a' b' c') .nil)) (by decide) ?_
 refine qPr kr ?_ ?_ ?_ ?_ ?_ ?_ ?_
 ·-- 0: ret
  intro vs ls H' E' st hE
  have f0:(decide (a < a'))=true:=bf st 0
  refine rf st hE (.int .i64 (-1)) (st.kept.grew (Nat.zero_le _)) ?_
  clear st hE;simp only [decide_eq_true_eq,decide_eq_false_iff_not] at *;congr 1;simp only [wB,qCJ];(repeat' split) <;> omega
 ·-- 1: ret
  intro vs ls H' E' st hE
  have f0:(decide (a' < a))=true:=bf st 0
  have f1:(decide (a < a'))=false:=bf st 1
  refine rf st hE (.int .i64 1) (st.kept.grew (Nat.zero_le _)) ?_
  clear st hE;simp only [decide_eq_true_eq,decide_eq_false_iff_not] at *;congr 1;simp only [wB,qCJ];(repeat' split) <;> omega
 ·-- 2: ret
  intro vs ls H' E' st hE
  have f0:(decide (b < b'))=true:=bf st 0
  have f1:(decide (a' < a))=false:=bf st 1
  have f2:(decide (a < a'))=false:=bf st 2
  refine rf st hE (.int .i64 (-1)) (st.kept.grew (Nat.zero_le _)) ?_
  clear st hE;simp only [decide_eq_true_eq,decide_eq_false_iff_not] at *;congr 1;simp only [wB,qCJ];(repeat' split) <;> omega
 ·-- 3: ret
  intro vs ls H' E' st hE
  have f0:(decide (b' < b))=true:=bf st 0
  have f1:(decide (b < b'))=false:=bf st 1
  have f2:(decide (a' < a))=false:=bf st 2
  have f3:(decide (a < a'))=false:=bf st 3
  refine rf st hE (.int .i64 1) (st.kept.grew (Nat.zero_le _)) ?_
  clear st hE;simp only [decide_eq_true_eq,decide_eq_false_iff_not] at *;congr 1;simp only [wB,qCJ];(repeat' split) <;> omega
 ·-- 4: ret
  intro vs ls H' E' st hE
  have f0:(decide (c < c'))=true:=bf st 0
  have f1:(decide (b' < b))=false:=bf st 1
  have f2:(decide (b < b'))=false:=bf st 2
  have f3:(decide (a' < a))=false:=bf st 3
  have f4:(decide (a < a'))=false:=bf st 4
  refine rf st hE (.int .i64 (-1)) (st.kept.grew (Nat.zero_le _)) ?_
  clear st hE;simp only [decide_eq_true_eq,decide_eq_false_iff_not] at *;congr 1;simp only [wB,qCJ];(repeat' split) <;> omega
 ·-- 5: ret
  intro vs ls H' E' st hE
  have f0:(decide (c' < c))=true:=bf st 0
  have f1:(decide (c < c'))=false:=bf st 1
  have f2:(decide (b' < b))=false:=bf st 2
  have f3:(decide (b < b'))=false:=bf st 3
  have f4:(decide (a' < a))=false:=bf st 4
  have f5:(decide (a < a'))=false:=bf st 5
  refine rf st hE (.int .i64 1) (st.kept.grew (Nat.zero_le _)) ?_
  clear st hE;simp only [decide_eq_true_eq,decide_eq_false_iff_not] at *;congr 1;simp only [wB,qCJ];(repeat' split) <;> omega
 ·-- 6: ret
  intro vs ls H' E' st hE
  have f0:(decide (c' < c))=false:=bf st 0
  have f1:(decide (c < c'))=false:=bf st 1
  have f2:(decide (b' < b))=false:=bf st 2
  have f3:(decide (b < b'))=false:=bf st 3
  have f4:(decide (a' < a))=false:=bf st 4
  have f5:(decide (a < a'))=false:=bf st 5
  refine rf st hE (.int .i64 0) (st.kept.grew (Nat.zero_le _)) ?_
  clear st hE;simp only [decide_eq_true_eq,decide_eq_false_iff_not] at *;congr 1;simp only [wB,qCJ];(repeat' split) <;> omega
theorem qJz (a b c a' b' c' : Int):(wB a b c a' b' c'<=0) ↔ (0<=wB a' b' c' a b c):=by
 simp only [wB,qCJ]
 (repeat' split) <;> omega
def KM:List Kd:=[.int .i32,.int .i32,.int .i32,.flt .f32,.flt .f32,.flt .f32,.flt .f32,.int .i64,.int .i64]
theorem qEw (x:ON) (h:fOk .f32 x):∃ b:Bool,∀ H,qR Try.prog 55 [.flt .f32 x] H (.bool b)/\qR Try.prog 47 [.flt .f32 x] H (.bool b):=by
 obtain⟨r,h1,_,h2⟩:=qKr (φ:=φ0) (pm:=pm) 20 (sh:=.k .bool) (f:=55) (g:=47) rfl rfl qU qM (gk:=[(false,[.flt .f32])]) (gv:=[(false,[.flt .f32 x])]) (.cons (.cons (kF h) .nil) .nil) (by decide) kr
 obtain⟨b,rfl⟩:=qKW h1
 exact⟨b,h2⟩
theorem kS (m:List AV) (hm:KdsL KM m):∃ b:Bool,(∀ H,qR Try.prog 35 [.agg m] H (.bool b)) /\ ∀ (H:AHeap) (l off:Nat) (pre post:List AV) (wr:Bool),H.get l=some (.row (pre ++ (m ++ post)) wr)->pre.length=off->qR Try.prog 29 [.ptr l off] H (.bool b):=by
 obtain⟨r,h1,_,h2,h3⟩:=qKs (φ:=φ0) 20 (sh:=.k .bool) (f:=35) (g:=29) qU qM hm (by decide) kr
 obtain⟨b,rfl⟩:=qKW h1
 exact⟨b,h2,h3⟩
open Classical in
noncomputable def qCj (x:ON):Bool:=if h:fOk .f32 x then Classical.choose (qEw x h) else false
theorem qLL (x:ON) (h:fOk .f32 x) (H:AHeap):qR Try.prog 55 [.flt .f32 x] H (.bool (qCj x)):=by
 unfold qCj;rw [dif_pos h];exact(Classical.choose_spec (qEw x h) H).1
theorem qJZ (x:ON) (h:fOk .f32 x) (H:AHeap):qR Try.prog 47 [.flt .f32 x] H (.bool (qCj x)):=by
 unfold qCj;rw [dif_pos h];exact(Classical.choose_spec (qEw x h) H).2
open Classical in
noncomputable def pK (m:List AV):Bool:=if h:KdsL KM m then Classical.choose (kS m h) else false
theorem kZ (m:List AV) (h:KdsL KM m) (H:AHeap):qR Try.prog 35 [.agg m] H (.bool (pK m)):=by
 unfold pK;rw [dif_pos h];exact(Classical.choose_spec (kS m h)).1 H
theorem qFT (m:List AV) (h:KdsL KM m) {H:AHeap} {l off:Nat} {pre post:List AV} {wr:Bool} (hg:H.get l=some (.row (pre ++ (m ++ post)) wr)) (hp:pre.length=off):qR Try.prog 29 [.ptr l off] H (.bool (pK m)):=by
 unfold pK;rw [dif_pos h];exact(Classical.choose_spec (kS m h)).2 H l off pre post wr hg hp
theorem zZ {m:List AV} (h:KdsL KM m):∃ (v0:Int) (v1:Int) (v2:Int) (v3:ON) (v4:ON) (v5:ON) (v6:ON) (v7:Int) (v8:Int),m=[.int .i32 v0,.int .i32 v1,.int .i32 v2,.flt .f32 v3,.flt .f32 v4,.flt .f32 v5,.flt .f32 v6,.int .i64 v7,.int .i64 v8]/\fOk .f32 v3/\fOk .f32 v4/\fOk .f32 v5/\fOk .f32 v6:=by
 cases h with
 | cons g0 h=>cases h with
 | cons g1 h=>cases h with
 | cons g2 h=>cases h with
 | cons g3 h=>cases h with
 | cons g4 h=>cases h with
 | cons g5 h=>cases h with
 | cons g6 h=>cases h with
 | cons g7 h=>cases h with
 | cons g8 h=>cases h with
 | nil =>
 obtain⟨v0,rfl⟩:=g0
 obtain⟨v1,rfl⟩:=g1
 obtain⟨v2,rfl⟩:=g2
 obtain⟨v3,rfl,o3⟩:=g3
 obtain⟨v4,rfl,o4⟩:=g4
 obtain⟨v5,rfl,o5⟩:=g5
 obtain⟨v6,rfl,o6⟩:=g6
 obtain⟨v7,rfl⟩:=g7
 obtain⟨v8,rfl⟩:=g8
 exact⟨_,_,_,_,_,_,_,_,_,rfl,o3,o4,o5,o6⟩
theorem qKb (H:AHeap) (ms:LL) (S:AV) (hS:SlL H 9 ms S) (left:Int) (h0:0<=left) (h1:left<=4611686018427387904) (hm:ms.length<=9223372036854775807):qR Try.prog 27 [S,.int .i64 left] H (.int .i64 (if left - ms.length < 0 then -1 else left - ms.length)):=by
 have hw:IntKind.i64.wrap (left - (ms.length:Int))=left - ms.length:=wrap_i64 om om
 refine qF kI (by simp) ?_
 refine zL (φ:=φ0) (pm:=pmR 0 [(.len (.nd 0 .one),.nd 1 (.int .i64))] 0) 20 (nk:=[(.atom 0,.one),(.atom 1,.int .i64),(.atom 2,.int .i64)]) (fs:=[]) (xs:=[S,.int .i64 (ms.length:Int),.int .i64 left]) (ws:=[]) (env:=[(0,.nd 0 .one),(1,.nd 2 (.int .i64))]) ?_ ?_ qU qM ?_
 ·refine qV ?_ .nil _ .nil trivial ?_
  ·exact .cons rfl (zT hS) (.cons rfl ⟨_,rfl⟩ (.cons rfl ⟨_,rfl⟩ .nil))
  ·exact .cons ⟨_,_,dNd rfl (zT hS),dNd rfl ⟨_,rfl⟩,yS hS⟩ .nil
 ·exact zC rfl rfl (zT hS) (zC rfl rfl ⟨_,rfl⟩ zK)
 refine dB kr ?_ ?_
 ·intro vs ls H' E' st hE
  have f0:decide (IntKind.i64.wrap (left - (ms.length:Int)) < 0)=true:=bf st 0
  refine rf st hE (.int .i64 (-1)) (gk st) ?_
  rw [hw] at f0;rw [if_pos (of_decide_eq_true f0)]
 ·intro vs ls H' E' st hE
  have f0:decide (IntKind.i64.wrap (left - (ms.length:Int)) < 0)=false:=bf st 0
  refine rf st hE (.int .i64 (IntKind.i64.wrap (left - (ms.length:Int)))) (gk st) ?_
  rw [hw] at f0 ⊢;rw [if_neg (of_decide_eq_false f0)]
theorem qKc (H:AHeap) (ms:LL) (hr:xJ KM ms) (S:AV) (hS:SlL H 9 ms S) (hmax:ms.length<=1048576):qJ Try.prog 32 [S] H fun r H'=>Grew H H' /\ ∃ l,H.next<=l/\r=.slice l 0 ms.length ms.length 9/\H'.get l=some (.row ms.flatten true):=by
 refine qF kJ (by simp) ?_
 refine zL (φ:=φ0) (pm:=pmR 0 [(.len (.nd 0 .one),.nd 1 (.int .i64))] 0) 20 (nk:=[(.atom 0,.one),(.atom 1,.int .i64)]) (fs:=[]) (xs:=[S,.int .i64 (ms.length:Int)]) (ws:=[]) (env:=[(0,.nd 0 .one)]) ?_ ?_ qU qM ?_
 ·refine qV ?_ .nil _ .nil trivial ?_
  ·exact .cons rfl (zT hS) (.cons rfl ⟨_,rfl⟩ .nil)
  ·exact .cons ⟨_,_,dNd rfl (zT hS),dNd rfl ⟨_,rfl⟩,yS hS⟩ .nil
 ·exact zC rfl rfl (zT hS) zK
 refine zA kr fun vs ls H1 E1 st hE=>?_
 have a0:E1 0=S:=qP st.inn hE 0 kr
 have a6:E1 6=.int .i64 (ms.length:Int):=qP st.inn hE 6 kr
 have g1:Grew H H1:=(gk st)
 refine qMI (d:=some 7) (sz:=9) (bytes:=48) (zs:=[.int .i32 0,.int .i32 0,.int .i32 0,.flt .f32 (some 0),.flt .f32 (some 0),.flt .f32 (some 0),.flt .f32 (some 0),.int .i64 0,.int .i64 0]) (x:=.tmp 6) (y:=.tmp 6) kr (n:=ms.length) a6 a6 om om ?_
 have hlo:H.next<=H1.next:=g1.next
 have g2:Grew H (H1.new (.row (List.replicate ms.length ([.int .i32 0,.int .i32 0,.int .i32 0,.flt .f32 (some 0),.flt .f32 (some 0),.flt .f32 (some 0),.flt .f32 (some 0),.int .i64 0,.int .i64 0]:List AV)).flatten true)):=g1.new _
 have hrow:(H1.new (.row (List.replicate ms.length ([.int .i32 0,.int .i32 0,.int .i32 0,.flt .f32 (some 0),.flt .f32 (some 0),.flt .f32 (some 0),.flt .f32 (some 0),.int .i64 0,.int .i64 0]:List AV)).flatten true)).get H1.next=some (.row (List.replicate ms.length ([.int .i32 0,.int .i32 0,.int .i32 0,.flt .f32 (some 0),.flt .f32 (some 0),.flt .f32 (some 0),.flt .f32 (some 0),.int .i64 0,.int .i64 0]:List AV)).flatten true):=qBk rfl
 refine zL (φ:=φ0) (pm:=pmR 0 [] 0) 20 (nk:=[(.atom 0,.one),(.atom 1,.one)]) (fs:=[]) (xs:=[S,.slice H1.next 0 ms.length ms.length 9]) (ws:=[]) (env:=[(0,.nd 0 .one),(7,.nd 1 .one)]) ?_ ?_ qU qM ?_
 ·exact qV (by exact .cons rfl (zT hS) (.cons rfl rfl .nil)) .nil _ .nil trivial .nil
 ·exact zC (by rw [Env.put_some];simpa using a0) rfl (zT hS) (zC (by rw [Env.put_some];simp) rfl rfl zK)
 generalize H1.new (.row (List.replicate ms.length ([.int .i32 0,.int .i32 0,.int .i32 0,.flt .f32 (some 0),.flt .f32 (some 0),.flt .f32 (some 0),.flt .f32 (some 0),.int .i64 0,.int .i64 0]:List AV)).flatten true)=HA at g2 hrow ⊢
 generalize H1.next=lo at hlo hrow ⊢
 clear g1 a0 a6
 refine zA kr fun vs ls H2 E2 st hE=>?_
 have b0:=eo st hE 0 S
 have b3:=eo st hE 3 (.slice lo 0 ms.length ms.length 9)
 have b4:=eo st hE 4 (.int .i64 ((0:Nat):Int))
 have g3:Grew HA H2:=(gk st)
 refine yH kr (fun k E H'=>∃ i,k+i=ms.length/\E 0=S/\E 3=.slice lo 0 ms.length ms.length 9/\E 4=.int .i64 (i:Int)/\Grew H H'/\H'.get lo=some (.row ((ms.take i).flatten ++ (List.replicate (ms.length - i) ([.int .i32 0,.int .i32 0,.int .i32 0,.flt .f32 (some 0),.flt .f32 (some 0),.flt .f32 (some 0),.flt .f32 (some 0),.int .i64 0,.int .i64 0]:List AV)).flatten) true)) ms.length
  ⟨0,by omega,b0,b3,b4,g2.trans g3,by rw [g3.at hrow];simp⟩ ?_
 clear b0 b3 b4 g3 g2 hrow
 rintro k E3 H3 ⟨i,hk,c0,c3,c4,g4,hrow⟩
 have hso:=zT hS
 rcases Nat.lt_or_ge i ms.length with hlt | hge
 ·cases hS with
  | nil h=>rw [h] at hlt;simp at hlt
  | @sl ls0 n cap rest wr2 hgS hn hc =>
   have hgS2:=g4.at hgS
   subst hn
   obtain⟨v0,v1,v2,v3,v4,v5,v6,v7,v8,hm,o3,o4,o5,o6⟩:=zZ (hr.get hlt)
   refine zL (φ:=φ0) (pm:=pmR 1 [(.len (.nd 0 .one),.nd 1 (.int .i64)),(.ia 9 (.nd 0 .one) (.nd 2 (.int .i64)),.ptr 0 0),(.ia 9 (.nd 3 .one) (.nd 2 (.int .i64)),.nd 4 .one)] 0) 20
    (nk:=[(.atom 0,.one),(.atom 1,.int .i64),(.atom 2,.int .i64),(.atom 3,.one),(.atom 4,.one)] ++ ([(.atom 5,.int .i32),(.atom 6,.int .i32),(.atom 7,.int .i32),(.atom 8,.flt .f32),(.atom 9,.flt .f32),(.atom 10,.flt .f32),(.atom 11,.flt .f32),(.atom 12,.int .i64),(.atom 13,.int .i64)] ++ [(.bin .lss (.nd 2 (.int .i64)) (.nd 1 (.int .i64)),.bool)])) (fs:=[(14,true)])
    (xs:=[.slice ls0 0 ms.length cap 9,.int .i64 (ms.length:Int),.int .i64 (i:Int),.slice lo 0 ms.length ms.length 9,.ptr lo (i * 9),.int .i32 v0,.int .i32 v1,.int .i32 v2,.flt .f32 v3,.flt .f32 v4,.flt .f32 v5,.flt .f32 v6,.int .i64 v7,.int .i64 v8,.bool true]) (ws:=[⟨ls0,i * 9,nds 5 KM,false⟩]) (env:=[(0,.nd 0 .one),(3,.nd 3 .one),(4,.nd 2 (.int .i64))]) ?_ ?_ qU qM ?_
   ·refine qV ?_ ?_ _ ?_ ?_ ?_
    ·refine .cons rfl rfl (.cons rfl ⟨_,rfl⟩ (.cons rfl ⟨_,rfl⟩ (.cons rfl rfl (.cons rfl rfl ?_))))
     (repeat (first | exact .nil | refine .cons rfl ⟨_,rfl⟩ ?_ | refine .cons rfl ⟨_,rfl,by assumption⟩ ?_ | refine .cons rfl am ?_))
     refine .cons ⟨_,_,dNd rfl ⟨_,rfl⟩,dNd rfl ⟨_,rfl⟩,?_⟩ ⟨_,rfl⟩ .nil
     show some (AV.bool (decide ((i:Int) < (ms.length:Int))))=_
     rw [decide_eq_true om]
    ·exact .cons rfl .nil
    ·exact .cons (zV hr hgS2 hlt rfl (by rw [hm];exact(by repeat (first | exact qY | refine qA (dNd rfl ⟨_,rfl⟩) ?_ | refine qA (dNd rfl ⟨_,rfl,by assumption⟩) ?_ | refine qA (dNd rfl am) ?_)))) .nil
    ·exact⟨fun v hv=>(by cases hv),trivial⟩
    ·exact .cons (qZ (o:=0) (dNd rfl rfl) (dNd rfl ⟨_,rfl⟩)) (.cons (zX (k:=i) (dNd rfl rfl) (dNd rfl ⟨_,rfl⟩) om rfl) (.cons (qHX (k:=i) (dNd rfl rfl) (dNd rfl ⟨_,rfl⟩) om (dNd rfl rfl)) .nil))
   ·exact zC c0 rfl rfl (zC c3 rfl rfl (zC c4 rfl ⟨_,rfl⟩ zK))
   ·refine zA kr fun vs ls H4 E4 st hE=>?_
    have d0:E4 0=.slice ls0 0 ms.length cap 9:=qP st.inn hE 0 kr
    have d3:E4 3=.slice lo 0 ms.length ms.length 9:=qP st.inn hE 3 kr
    have d4:E4 4=.int .i64 (i:Int):=qP st.inn hE 4 kr
    have d20:E4 20=.agg [.int .i32 v0,.int .i32 v1,.int .i32 v2,.flt .f32 v3,.flt .f32 v4,.flt .f32 v5,.flt .f32 v6,.int .i64 v7,.int .i64 v8]:=qP st.inn hE 20 kr
    have d21:E4 21=.ptr lo (i * 9):=qP st.inn hE 21 kr
    have g5:Grew H3 H4:=(gk st)
    have hpl:(ms.take i).flatten.length=i * 9:=vH hr.len (Nat.le_of_lt hlt)
    have hk' : ms.length - i=(ms.length - (i+1))+1:=by omega
    rw [hk'] at hrow
    have hl0:i * 9+9<=((ms.take i).flatten ++ (List.replicate (ms.length - (i+1)+1) ([.int .i32 0,.int .i32 0,.int .i32 0,.flt .f32 (some 0),.flt .f32 (some 0),.flt .f32 (some 0),.flt .f32 (some 0),.int .i64 0,.int .i64 0]:List AV)).flatten).length:=by
     rw [List.length_append,hpl,List.replicate_succ,List.flatten_cons,List.length_append];simp only [List.length_cons,List.length_nil];omega
    refine qDl (d:=none) (n:=9) (x:=.tmp 21) (y:=.tmp 20) kr (vs:=ms[i]) d21 (g5.at hrow) (by show AV.cells (E4 20)=_;rw [d20,hm];rfl) (by rw [hm];rfl) hl0 (by rw [hm];rfl) ?_
    rw [qFX hpl (by rw [hm];rfl) rfl,<- kR hlt]
    have g6:Grew H (H4.put lo (.row ((ms.take (i+1)).flatten ++ (List.replicate (ms.length - (i+1)) ([.int .i32 0,.int .i32 0,.int .i32 0,.flt .f32 (some 0),.flt .f32 (some 0),.flt .f32 (some 0),.flt .f32 (some 0),.int .i64 0,.int .i64 0]:List AV)).flatten) true)):=(g4.trans g5).put hlo _
    have hrow2:=xM (H:=H4) (b:=.row ((ms.take (i+1)).flatten ++ (List.replicate (ms.length - (i+1)) ([.int .i32 0,.int .i32 0,.int .i32 0,.flt .f32 (some 0),.flt .f32 (some 0),.flt .f32 (some 0),.flt .f32 (some 0),.int .i64 0,.int .i64 0]:List AV)).flatten) true) (l':=lo) rfl (H4.lt_of_get (g5.at hrow))
    generalize H4.put lo (.row ((ms.take (i+1)).flatten ++ (List.replicate (ms.length - (i+1)) ([.int .i32 0,.int .i32 0,.int .i32 0,.flt .f32 (some 0),.flt .f32 (some 0),.flt .f32 (some 0),.flt .f32 (some 0),.int .i64 0,.int .i64 0]:List AV)).flatten) true)=HB at g6 hrow2 ⊢
    refine zL (φ:=φ0) (pm:=pmR 0 [] 0) 20 (nk:=[(.atom 0,.one),(.atom 1,.one),(.atom 2,.int .i64)]) (fs:=[]) (xs:=[.slice ls0 0 ms.length cap 9,.slice lo 0 ms.length ms.length 9,.int .i64 (i:Int)]) (ws:=[]) (env:=[(0,.nd 0 .one),(3,.nd 1 .one),(4,.nd 2 (.int .i64))]) ?_ ?_ qU qM ?_
    ·exact qV (by exact .cons rfl rfl (.cons rfl rfl (.cons rfl ⟨_,rfl⟩ .nil))) .nil _ .nil trivial .nil
    ·exact zC d0 rfl rfl (zC d3 rfl rfl (zC d4 rfl ⟨_,rfl⟩ zK))
    ·refine zA kr fun vs ls H5 E5 st hE=>?_
     have g7:Grew HB H5:=(gk st)
     refine jV kr ⟨k - 1,by omega,i+1,by omega,qP st.inn hE 0 kr,qP st.inn hE 3 kr,?_,g6.trans g7,g7.at hrow2⟩
     have:=qP st.inn hE 4 (a:=.int .i64 (IntKind.i64.wrap ((i:Int)+1))) kr
     rw [this,wrap64 om]
 ·obtain rfl:i=ms.length:=by omega
  refine zL (φ:=φ0) (pm:=pmR 0 [(.len (.nd 0 .one),.nd 1 (.int .i64))] 0) 20 (nk:=[(.atom 0,.one),(.atom 1,.int .i64),(.atom 2,.int .i64),(.atom 3,.one),(.bin .lss (.nd 2 (.int .i64)) (.nd 1 (.int .i64)),.bool)]) (fs:=[(4,false)])
   (xs:=[S,.int .i64 (ms.length:Int),.int .i64 (ms.length:Int),.slice lo 0 ms.length ms.length 9,.bool false]) (ws:=[]) (env:=[(0,.nd 0 .one),(3,.nd 3 .one),(4,.nd 2 (.int .i64))]) ?_ ?_ qU qM ?_
  ·refine qV ?_ ?_ _ .nil trivial ?_
   ·refine .cons rfl hso (.cons rfl ⟨_,rfl⟩ (.cons rfl ⟨_,rfl⟩ (.cons rfl rfl (.cons ⟨_,_,dNd rfl ⟨_,rfl⟩,dNd rfl ⟨_,rfl⟩,?_⟩ ⟨_,rfl⟩ .nil))))
    show some (AV.bool (decide ((ms.length:Int) < (ms.length:Int))))=_
    rw [decide_eq_false om]
   ·exact .cons rfl .nil
   ·exact .cons ⟨_,_,dNd rfl hso,dNd rfl ⟨_,rfl⟩,yS hS⟩ .nil
  ·exact zC c0 rfl hso (zC c3 rfl rfl (zC c4 rfl ⟨_,rfl⟩ zK))
  ·refine zA kr fun vs ls H4 E4 st hE=>?_
   have d3:E4 3=.slice lo 0 ms.length ms.length 9:=qP st.inn hE 3 kr
   have g5:Grew H3 H4:=(gk st)
   refine xL (id:=0) kr ?_
   refine zL (φ:=φ0) (pm:=pmR 0 [] 0) 20 (nk:=[(.atom 0,.one)]) (fs:=[]) (xs:=[.slice lo 0 ms.length ms.length 9]) (ws:=[]) (env:=[(3,.nd 0 .one)]) (qV (by exact .cons rfl rfl .nil) .nil _ .nil trivial .nil) (zC d3 rfl rfl zK) qU qM ?_
   refine zA kr fun vs ls H5 E5 st hE=>?_
   have g6:Grew H4 H5:=(gk st)
   refine jA kr (zJ st.inn hE (.inr rfl) (a:=.slice lo 0 ms.length ms.length 9) kr ((g4.trans g5).trans g6).next ⟨(g4.trans g5).trans g6,lo,hlo,rfl,?_⟩)
   rw [(g5.trans g6).at hrow,List.take_length,Nat.sub_self];simp
theorem qLJ (m:List AV) (hm:KdsL KM m) (H:AHeap):qR Try.prog 64 [.agg m,.agg m] H (.bool true):=by
 have hd:=qDd hm [] [] 0 rfl
 simp only [List.nil_append,List.append_nil] at hd
 exact qHP (φ:=φ0) (pm:=pm) 20 rfl rfl qU qM hm (qA (hY hd) (qA (hY hd) qY)) kr H
theorem qJU (H:AHeap) (ms:LL) (hr:xJ KM ms) (S S' : AV) (hS:SlL H 9 ms S) (hS' : SlL H 9 ms S') (hmax:ms.length < 2^40):qR Try.prog 39 [S,S'] H (.bool true):=by
 refine qF kH (by simp) ?_
 refine zL (φ:=φ0) (pm:=pmR 0 [(.len (.nd 0 .one),.nd 2 (.int .i64)),(.len (.nd 1 .one),.nd 2 (.int .i64))] 0) 20 (nk:=[(.atom 0,.one),(.atom 1,.one),(.atom 2,.int .i64)]) (fs:=[]) (xs:=[S,S',.int .i64 (ms.length:Int)]) (ws:=[]) (env:=[(0,.nd 0 .one),(1,.nd 1 .one)]) ?_ ?_ qU qM ?_
 ·refine qV ?_ .nil _ .nil trivial ?_
  ·exact .cons rfl (zT hS) (.cons rfl (zT hS') (.cons rfl ⟨_,rfl⟩ .nil))
  ·exact .cons ⟨_,_,dNd rfl (zT hS),dNd rfl ⟨_,rfl⟩,yS hS⟩ (.cons ⟨_,_,dNd rfl (zT hS'),dNd rfl ⟨_,rfl⟩,yS hS'⟩ .nil)
 ·exact zC rfl rfl (zT hS) (zC rfl rfl (zT hS') zK)
 refine zA kr fun vs ls H1 E1 st hE=>?_
 have a0:E1 0=S:=qP st.inn hE 0 kr
 have a1:E1 1=S':=qP st.inn hE 1 kr
 have a5:E1 5=.int .i64 ((0:Nat):Int):=qP st.inn hE 5 kr
 have g1:Grew H H1:=(gk st)
 refine qAX kr [(0,S),(1,S')] 5 ms.length (fun _=>True) (.cons a0 (.cons a1 .nil)) a5 g1 trivial ?_
 intro i hi _ E2 H2 hs h5 hg2
 have b0:=hs.head
 have b1:=hs.tail.head
 have hso:=zT hS
 have hso':=zT hS'
 rcases Nat.lt_or_ge i ms.length with hlt | hge
 ·cases hS with
  | nil h=>rw [h] at hlt;simp at hlt
  | @sl ls0 n cap rest wr2 hgS hn hc =>
   cases hS' with
   | nil h=>rw [h] at hlt;simp at hlt
   | @sl ls1 n' cap' rest' wr2' hgS' hn' hc' =>
    have hgS2:=hg2.at hgS
    have hgS2':=hg2.at hgS'
    subst hn
    subst hn'
    obtain⟨v0,v1,v2,v3,v4,v5,v6,v7,v8,hm,o3,o4,o5,o6⟩:=zZ (hr.get hlt)
    have heq:=qLJ ms[i] (hr.get hlt)
    refine zL (φ:=φ0) (pm:=pmR 2 [(.len (.nd 0 .one),.nd 1 (.int .i64)),(.ia 9 (.nd 0 .one) (.nd 2 (.int .i64)),.ptr 0 0),(.ia 9 (.nd 3 .one) (.nd 2 (.int .i64)),.ptr 1 0),(.call 64 [.agg (nds 4 KM),.agg (nds 4 KM)],.lit (.bool true))] 0) 20
     (nk:=[(.atom 0,.one),(.atom 1,.int .i64),(.atom 2,.int .i64),(.atom 3,.one)] ++ ([(.atom 4,.int .i32),(.atom 5,.int .i32),(.atom 6,.int .i32),(.atom 7,.flt .f32),(.atom 8,.flt .f32),(.atom 9,.flt .f32),(.atom 10,.flt .f32),(.atom 11,.int .i64),(.atom 12,.int .i64)] ++ [(.bin .lss (.nd 2 (.int .i64)) (.nd 1 (.int .i64)),.bool)])) (fs:=[(13,true)])
     (xs:=[.slice ls0 0 ms.length cap 9,.int .i64 (ms.length:Int),.int .i64 (i:Int),.slice ls1 0 ms.length cap' 9,.int .i32 v0,.int .i32 v1,.int .i32 v2,.flt .f32 v3,.flt .f32 v4,.flt .f32 v5,.flt .f32 v6,.int .i64 v7,.int .i64 v8,.bool true]) (ws:=[⟨ls0,i * 9,nds 4 KM,false⟩,⟨ls1,i * 9,nds 4 KM,false⟩]) (env:=[(0,.nd 0 .one),(1,.nd 3 .one),(5,.nd 2 (.int .i64))]) ?_ ?_ qU qM ?_
    ·refine qV ?_ ?_ _ ?_ ?_ ?_
     ·refine .cons rfl rfl (.cons rfl ⟨_,rfl⟩ (.cons rfl ⟨_,rfl⟩ (.cons rfl rfl ?_)))
      (repeat (first | exact .nil | refine .cons rfl ⟨_,rfl⟩ ?_ | refine .cons rfl ⟨_,rfl,by assumption⟩ ?_ | refine .cons rfl am ?_))
      refine .cons ⟨_,_,dNd rfl ⟨_,rfl⟩,dNd rfl ⟨_,rfl⟩,?_⟩ ⟨_,rfl⟩ .nil
      show some (AV.bool (decide ((i:Int) < (ms.length:Int))))=_
      rw [decide_eq_true om]
     ·exact .cons rfl .nil
     ·exact .cons (zV hr hgS2 hlt rfl (by rw [hm];exact(by repeat (first | exact qY | refine qA (dNd rfl ⟨_,rfl⟩) ?_ | refine qA (dNd rfl ⟨_,rfl,by assumption⟩) ?_ | refine qA (dNd rfl am) ?_)))) (.cons (zV hr hgS2' hlt rfl (by rw [hm];exact(by repeat (first | exact qY | refine qA (dNd rfl ⟨_,rfl⟩) ?_ | refine qA (dNd rfl ⟨_,rfl,by assumption⟩) ?_ | refine qA (dNd rfl am) ?_)))) .nil)
     ·exact⟨fun v hv h=>(by simp at hv;subst hv;simp at h),⟨fun v hv=>(by cases hv),trivial⟩⟩
     ·exact .cons (qZ (o:=0) (dNd rfl rfl) (dNd rfl ⟨_,rfl⟩)) (.cons (zX (k:=i) (dNd rfl rfl) (dNd rfl ⟨_,rfl⟩) om rfl) (.cons (zX (k:=i) (dNd rfl rfl) (dNd rfl ⟨_,rfl⟩) om rfl)
       (.cons (qH (args:=[.agg ms[i],.agg ms[i]]) (qA (hY (by rw [hm];exact(by repeat (first | exact qY | refine qA (dNd rfl ⟨_,rfl⟩) ?_ | refine qA (dNd rfl ⟨_,rfl,by assumption⟩) ?_ | refine qA (dNd rfl am) ?_)))) (qA (hY (by rw [hm];exact(by repeat (first | exact qY | refine qA (dNd rfl ⟨_,rfl⟩) ?_ | refine qA (dNd rfl ⟨_,rfl,by assumption⟩) ?_ | refine qA (dNd rfl am) ?_)))) qY)) (qFx rfl) (fun H3 _=>heq H3)) .nil)))
    ·exact zC b0 rfl rfl (zC b1 rfl rfl (zC h5 rfl ⟨_,rfl⟩ zK))
    ·refine zA kr fun vs ls H4 E4 st hE=>?_
     exact mJ (sl:=[(0,.slice ls0 0 ms.length cap 9),(1,.slice ls1 0 ms.length cap' 9)]) (ti:=5) (i:=i) (Inv:=fun _=>True) kr st.inn hE hlt kr (w:=IntKind.i64.wrap ((i:Int)+1)) kr (wrap64 om) (hg2.trans (gk st)) trivial
 ·obtain rfl:i=ms.length:=by omega
  refine zL (φ:=φ0) (pm:=pmR 0 [(.len (.nd 0 .one),.nd 1 (.int .i64))] 0) 20 (nk:=[(.atom 0,.one),(.atom 1,.int .i64),(.atom 2,.int .i64),(.bin .lss (.nd 2 (.int .i64)) (.nd 1 (.int .i64)),.bool)]) (fs:=[(3,false)])
   (xs:=[S,.int .i64 (ms.length:Int),.int .i64 (ms.length:Int),.bool false]) (ws:=[]) (env:=[(0,.nd 0 .one),(5,.nd 2 (.int .i64))]) ?_ ?_ qU qM ?_
  ·refine qV ?_ ?_ _ .nil trivial ?_
   ·refine .cons rfl hso (.cons rfl ⟨_,rfl⟩ (.cons rfl ⟨_,rfl⟩ (.cons ⟨_,_,dNd rfl ⟨_,rfl⟩,dNd rfl ⟨_,rfl⟩,?_⟩ ⟨_,rfl⟩ .nil)))
    show some (AV.bool (decide ((ms.length:Int) < (ms.length:Int))))=_
    rw [decide_eq_false om]
   ·exact .cons rfl .nil
   ·exact .cons ⟨_,_,dNd rfl hso,dNd rfl ⟨_,rfl⟩,yS hS⟩ .nil
  ·exact zC b0 rfl hso (zC h5 rfl ⟨_,rfl⟩ zK)
  ·refine zA kr fun vs ls H4 E4 st hE=>?_
   have g5:Grew H2 H4:=(gk st)
   refine xL (id:=0) kr ?_
   refine zL (φ:=φ0) (pm:=pmR 0 [] 0) 20 (nk:=[]) (fs:=[]) (xs:=[]) (ws:=[]) (env:=[]) (qV .nil .nil _ .nil trivial .nil) zK qU qM ?_
   refine zA kr fun vs ls H5 E5 st hE=>?_
   exact jA kr (xK st.inn hE (.inr rfl) (a:=.bool true) kr ((hg2.trans g5).trans (gk st)) rfl ⟨rfl,rfl⟩)
def qAl:List AV->List AV->Int
 | .int _ a :: .int _ b :: .int _ c :: _,.int _ a' :: .int _ b' :: .int _ c' :: _=>wB a b c a' b' c'
 | _,_=>0
noncomputable def qDe (ms:LL) (i:Nat):Bool:=pK (ms.getD i []) && (i == 0 || decide (qAl (ms.getD (i - 1) []) (ms.getD i []) < 0))
noncomputable def wM (x:ON) (ms:LL):Bool:=qCj x && (decide (ms.length<=200) && (List.range ms.length).all (qDe ms))
theorem qEe {x:ON} {ms:LL} (h1:qCj x=true) (h2:ms.length<=200) (h3:∀ i,i < ms.length->qDe ms i=true):wM x ms=true:=by
 simp only [wM,h1,Bool.true_and,Bool.and_eq_true,decide_eq_true_eq,List.all_eq_true,List.mem_range]
 exact⟨h2,h3⟩
theorem mG {x:ON} {ms:LL} {i:Nat} (hi:i < ms.length) (h:qDe ms i=false):wM x ms=false:=by
 cases hb:wM x ms with
 | false=>rfl
 | true =>
  simp only [wM,Bool.and_eq_true,List.all_eq_true,List.mem_range] at hb
  rw [hb.2.2 i hi] at h;cases h
theorem qCu {m:List AV} (h:KdsL KM m):∃ (a b c:Int) (x y z w:ON) (s l:Int),m=[.int .i32 a,.int .i32 b,.int .i32 c,.flt .f32 x,.flt .f32 y,.flt .f32 z,.flt .f32 w,.int .i64 s,.int .i64 l]/\fOk .f32 x/\fOk .f32 y/\fOk .f32 z/\fOk .f32 w:=by
 cases h with | cons h1 h=>cases h with | cons h2 h=>cases h with | cons h3 h=>cases h with | cons h4 h=>cases h with | cons h5 h=>cases h with | cons h6 h=>cases h with | cons h7 h=>cases h with | cons h8 h=>cases h with | cons h9 h =>
 cases h
 obtain⟨a,rfl⟩:=h1;obtain⟨b,rfl⟩:=h2;obtain⟨c,rfl⟩:=h3
 obtain⟨x,rfl,hx⟩:=h4;obtain⟨y,rfl,hy⟩:=h5;obtain⟨z,rfl,hz⟩:=h6;obtain⟨w,rfl,hw⟩:=h7
 obtain⟨s,rfl⟩:=h8;obtain⟨l,rfl⟩:=h9
 exact⟨a,b,c,x,y,z,w,s,l,rfl,hx,hy,hz,hw⟩
theorem qNl (H:AHeap) (l:Nat) (x:ON) (hx:fOk .f32 x) (S:AV) (wr:Bool) (ms:LL) (hr:xJ KM ms) (hg:H.get l=some (.row [.flt .f32 x,S] wr)) (hS:SlL H 9 ms S) (hmax:ms.length < 2^40):qR Try.prog 28 [.ptr l 0] H (.bool (wM x ms)):=by
 refine qF qBR (by simp) ?_
 refine zL (φ:=φ0) (pm:=pmR 1 [(.len (.nd 1 .one),.nd 2 (.int .i64)),(.call 47 [.nd 0 (.flt .f32)],.nd 3 .bool)] 0) 20 (nk:=[(.atom 0,.flt .f32),(.atom 1,.one),(.atom 2,.int .i64),(.atom 3,.bool)]) (fs:=[])
  (xs:=[.flt .f32 x,S,.int .i64 (ms.length:Int),.bool (qCj x)]) (ws:=[wf l [.nd 0 (.flt .f32),.nd 1 .one]]) (env:=[(0,.ptr 0 0)])
  ?_ ?_ qU qM ?_
 ·refine qV ?_ ?_ _ ?_ ?_ ?_
  ·exact .cons rfl ⟨_,rfl,hx⟩ (.cons rfl (zT hS) (.cons rfl ⟨_,rfl⟩ (.cons rfl ⟨_,rfl⟩ .nil)))
  ·exact .nil
  ·exact .cons (vU hg (qA (dNd rfl ⟨_,rfl,hx⟩) (qA (dNd rfl (zT hS)) qY))) .nil
  ·exact⟨fun v hv=>(by cases hv),trivial⟩
  ·exact .cons ⟨_,_,dNd rfl (zT hS),dNd rfl ⟨_,rfl⟩,yS hS⟩ (.cons (qH (qA (dNd rfl ⟨_,rfl,hx⟩) qY) (dNd rfl ⟨_,rfl⟩) (fun H _=>qJZ x hx H)) .nil)
 ·exact wQ (l:=l) (o:=0) rfl rfl rfl zK
 refine qFf kr ?_ ?_ ?_
 ·intro vs ls H' E' st hE
  have f0:qCj x=false:=bf st 0
  refine rf st hE (.bool false) (gk st) ?_
  rw [wM,f0,Bool.false_and]
 ·intro vs ls H' E' st hE
  have f0:decide ((200:Int) < ms.length)=true:=bf st 0
  refine rf st hE (.bool false) (gk st) ?_
  have:¬ ms.length<=200:=by have:=of_decide_eq_true f0;omega
  rw [wM,decide_eq_false this];simp
 ·intro vs ls H' E' st hE
  have f0:decide ((200:Int) < ms.length)=false:=bf st 0
  have f1:qCj x=true:=bf st 1
  have hg' : Grew H H':=(gk st)
  have e0:E' 0=.ptr l 0:=qP st.inn hE 0 kr
  have e3:E' 3=.int .i64 ((0:Nat):Int):=qP st.inn hE 3 kr
  refine qAX kr [(0,.ptr l 0)] 3 ms.length (fun i=>∀ j,j < i->qDe ms j=true) (.cons e0 .nil) e3 hg' (fun j hj=>by omega) ?_
  intro i hi hI E2 H2 hs h3 hg2
  have hso:=zT hS
  have e0:=hs.head
  rcases Nat.lt_or_ge i ms.length with hlt | hge
  ·cases hS with
   | nil h=>rw [h] at hlt;simp at hlt
   | @sl ls0 n cap rest wr2 hgS hn hc =>
    have hgS2:=hg2.at hgS
    obtain⟨a,b,c,p,q,r,w,sn,la,hm,op,oq,orr,ow⟩:=qCu (hr.get hlt)
    have hD:ms.getD i []=ms[i]:=by simp [List.getD_eq_getElem?_getD,hlt]
    have hmk:=hr.get hlt
    rcases i with _ | k
    ·refine zL (φ:=φ0) (pm:=pmR 2 [(.len (.nd 1 .one),.nd 2 (.int .i64)),(.ia 9 (.nd 1 .one) (.lit (.int .i64 0)),.ptr 1 0),(.call 29 [.ptr 1 0],.nd 12 .bool)] 0) 20
      (nk:=[(.atom 0,.flt .f32),(.atom 1,.one),(.atom 2,.int .i64)] ++ ([(.atom 3,.int .i32),(.atom 4,.int .i32),(.atom 5,.int .i32),(.atom 6,.flt .f32),(.atom 7,.flt .f32),(.atom 8,.flt .f32),(.atom 9,.flt .f32),(.atom 10,.int .i64),(.atom 11,.int .i64)] ++ [(.atom 12,.bool),(.bin .lss (.lit (.int .i64 0)) (.nd 2 (.int .i64)),.bool)]))
      (fs:=[(13,true)]) (xs:=[.flt .f32 x,.slice ls0 0 n cap 9,.int .i64 (n:Int),.int .i32 a,.int .i32 b,.int .i32 c,.flt .f32 p,.flt .f32 q,.flt .f32 r,.flt .f32 w,.int .i64 sn,.int .i64 la,.bool (pK ms[0]),.bool true])
      (ws:=[wf l [.nd 0 (.flt .f32),.nd 1 .one],⟨ls0,0 * 9,nds 3 KM,false⟩]) (env:=[(0,.ptr 0 0),(3,.lit (.int .i64 0))]) ?_ ?_ qU qM ?_
     ·refine qV ?_ ?_ _ ?_ ?_ ?_
      ·(repeat (first | exact .nil | refine .cons rfl ⟨_,rfl⟩ ?_ | refine .cons rfl ⟨_,rfl,by assumption⟩ ?_ | refine .cons rfl am ?_))
       refine .cons ⟨_,_,qFx rfl,dNd rfl ⟨_,rfl⟩,?_⟩ ⟨_,rfl⟩ .nil
       show some (AV.bool (decide ((0:Int) < n)))=_
       rw [decide_eq_true om]
      ·exact .cons rfl .nil
      ·exact .cons (vU (hg2.at hg) (by repeat (first | exact qY | refine qA (dNd rfl ⟨_,rfl⟩) ?_ | refine qA (dNd rfl ⟨_,rfl,by assumption⟩) ?_ | refine qA (dNd rfl am) ?_))) (.cons (zV hr hgS2 hlt rfl (by rw [hm];exact(by repeat (first | exact qY | refine qA (dNd rfl ⟨_,rfl⟩) ?_ | refine qA (dNd rfl ⟨_,rfl,by assumption⟩) ?_ | refine qA (dNd rfl am) ?_)))) .nil)
      ·exact⟨fun v hv h=>(by simp at hv;subst hv;simp at h),⟨fun v hv=>(by cases hv),trivial⟩⟩
      ·refine .cons (qZ (o:=0) (dNd rfl rfl) (dNd rfl ⟨_,rfl⟩)) (.cons (zX (k:=0) (dNd rfl rfl) (qFx rfl) om rfl) (.cons (qH (qA (qOj (l:=ls0) (o:=0 * 9) rfl) qY) (dNd rfl ⟨_,rfl⟩) (fun H3 hk=>?_)) .nil))
       obtain⟨pre,post,g1,g2⟩:=yR hr.len hlt rest
       exact qFT ms[0] hmk (by rw [(hk.grew (Nat.le_refl _)).at hgS2,g1]) g2
     ·exact wQ (l:=l) (o:=0) e0 rfl rfl (qMB h3 rfl zK)
     ·refine dB kr ?_ ?_
      ·intro vs ls H' E' st hE
       have f0:pK ms[0]=false:=bf st 0
       refine tL kr (xK st.inn hE (.inr rfl) (a:=.bool false) kr (hg2.trans (gk st)) rfl ⟨?_,rfl⟩)
       rw [mG hlt (by rw [qDe,hD,f0];rfl)]
      ·intro vs ls H' E' st hE
       have f0:pK ms[0]=true:=bf st 0
       refine mJ (sl:=[(0,.ptr l 0)]) (ti:=3) (i:=0) (Inv:=fun i=>∀ j,j < i->qDe ms j=true) kr st.inn hE hlt kr (w:=1) kr rfl (hg2.trans (gk st)) ?_
       intro j hj
       obtain rfl:j=0:=by omega
       rw [qDe,hD,f0];rfl
    ·obtain⟨a',b',c',p',q',r',w',sn',la',hm',op',oq',orr',ow'⟩:=qCu (hr.get (show k < ms.length by omega))
     have hD' : ms.getD k []=ms[k]:=by simp [List.getD_eq_getElem?_getD,show k < ms.length by omega]
     refine zL (φ:=φ0) (pm:=pmR 3 [(.len (.nd 1 .one),.nd 2 (.int .i64)),(.ia 9 (.nd 1 .one) (.nd 3 (.int .i64)),.ptr 1 0),(.ia 9 (.nd 1 .one) (.nd 26 (.int .i64)),.ptr 2 0),(.call 29 [.ptr 1 0],.nd 22 .bool),(.call 48 [.agg (nds 13 K3),.agg (nds 4 K3)],.nd 23 (.int .i64))] 0) 20
      (nk:=[(.atom 0,.flt .f32),(.atom 1,.one),(.atom 2,.int .i64),(.atom 3,.int .i64)] ++ ([(.atom 4,.int .i32),(.atom 5,.int .i32),(.atom 6,.int .i32),(.atom 7,.flt .f32),(.atom 8,.flt .f32),(.atom 9,.flt .f32),(.atom 10,.flt .f32),(.atom 11,.int .i64),(.atom 12,.int .i64)] ++ ([(.atom 13,.int .i32),(.atom 14,.int .i32),(.atom 15,.int .i32),(.atom 16,.flt .f32),(.atom 17,.flt .f32),(.atom 18,.flt .f32),(.atom 19,.flt .f32),(.atom 20,.int .i64),(.atom 21,.int .i64)] ++
       [(.atom 22,.bool),(.atom 23,.int .i64),(.bin .lss (.nd 3 (.int .i64)) (.nd 2 (.int .i64)),.bool),(.bin .lss (.lit (.int .i64 0)) (.nd 3 (.int .i64)),.bool),(.bin .sub (.nd 3 (.int .i64)) (.lit (.int .i64 1)),.int .i64)])))
      (fs:=[(24,true),(25,true)]) (xs:=[.flt .f32 x,.slice ls0 0 n cap 9,.int .i64 (n:Int),.int .i64 ((k+1:Nat):Int),.int .i32 a,.int .i32 b,.int .i32 c,.flt .f32 p,.flt .f32 q,.flt .f32 r,.flt .f32 w,.int .i64 sn,.int .i64 la,.int .i32 a',.int .i32 b',.int .i32 c',.flt .f32 p',.flt .f32 q',.flt .f32 r',.flt .f32 w',.int .i64 sn',.int .i64 la',
       .bool (pK ms[k+1]),.int .i64 (wB a' b' c' a b c),.bool true,.bool true,.int .i64 (k:Int)])
      (ws:=[wf l [.nd 0 (.flt .f32),.nd 1 .one],⟨ls0,(k+1) * 9,nds 4 KM,false⟩,⟨ls0,k * 9,nds 13 KM,false⟩]) (env:=[(0,.ptr 0 0),(3,.nd 3 (.int .i64))]) ?_ ?_ qU qM ?_
     ·refine qV ?_ ?_ _ ?_ ?_ ?_
      ·(repeat (first | exact .nil | refine .cons rfl ⟨_,rfl⟩ ?_ | refine .cons rfl ⟨_,rfl,by assumption⟩ ?_ | refine .cons rfl am ?_))
       refine .cons ⟨_,_,dNd rfl ⟨_,rfl⟩,dNd rfl ⟨_,rfl⟩,?_⟩ ⟨_,rfl⟩ (.cons ⟨_,_,qFx rfl,dNd rfl ⟨_,rfl⟩,?_⟩ ⟨_,rfl⟩ (.cons ⟨_,_,dNd rfl ⟨_,rfl⟩,qFx rfl,?_⟩ ⟨_,rfl⟩ .nil))
       ·show some (AV.bool (decide (((k+1:Nat):Int) < n)))=_
        rw [decide_eq_true om]
       ·show some (AV.bool (decide ((0:Int) < ((k+1:Nat):Int))))=_
        rw [decide_eq_true om]
       ·show some (AV.int .i64 (IntKind.i64.wrap (((k+1:Nat):Int) - 1)))=_
        rw [wrap_i64 om om];congr 2;omega
      ·exact .cons rfl (.cons rfl .nil)
      ·exact .cons (vU (hg2.at hg) (by repeat (first | exact qY | refine qA (dNd rfl ⟨_,rfl⟩) ?_ | refine qA (dNd rfl ⟨_,rfl,by assumption⟩) ?_ | refine qA (dNd rfl am) ?_))) (.cons (zV hr hgS2 hlt rfl (by rw [hm];exact(by repeat (first | exact qY | refine qA (dNd rfl ⟨_,rfl⟩) ?_ | refine qA (dNd rfl ⟨_,rfl,by assumption⟩) ?_ | refine qA (dNd rfl am) ?_)))) (.cons (zV hr hgS2 (show k < ms.length by omega) rfl (by rw [hm'];exact(by repeat (first | exact qY | refine qA (dNd rfl ⟨_,rfl⟩) ?_ | refine qA (dNd rfl ⟨_,rfl,by assumption⟩) ?_ | refine qA (dNd rfl am) ?_)))) .nil))
      ·exact⟨fun v hv h=>(by simp at hv;rcases hv with rfl | rfl <;> simp at h),⟨fun v hv h=>(by simp at hv;subst hv;simp at h),⟨fun v hv=>(by cases hv),trivial⟩⟩⟩
      ·refine .cons (qZ (o:=0) (dNd rfl rfl) (dNd rfl ⟨_,rfl⟩)) (.cons (zX (k:=k+1) (dNd rfl rfl) (dNd rfl ⟨_,rfl⟩) om rfl) (.cons (zX (k:=k) (dNd rfl rfl) (dNd rfl ⟨_,rfl⟩) om rfl)
        (.cons (qH (qA (qOj (l:=ls0) (o:=(k+1) * 9) rfl) qY) (dNd rfl ⟨_,rfl⟩) (fun H3 hk=>?_)) (.cons (qH (qA (hY (by repeat (first | exact qY | refine qA (dNd rfl ⟨_,rfl⟩) ?_ | refine qA (dNd rfl ⟨_,rfl,by assumption⟩) ?_ | refine qA (dNd rfl am) ?_))) (qA (hY (by repeat (first | exact qY | refine qA (dNd rfl ⟨_,rfl⟩) ?_ | refine qA (dNd rfl ⟨_,rfl,by assumption⟩) ?_ | refine qA (dNd rfl am) ?_))) qY)) (dNd rfl ⟨_,rfl⟩) (fun H3 _=>qBT H3 a' b' c' a b c)) .nil))))
       obtain⟨pre,post,g1,g2⟩:=yR hr.len hlt rest
       exact qFT ms[k+1] hmk (by rw [(hk.grew (Nat.le_refl _)).at hgS2,g1]) g2
     ·exact wQ (l:=l) (o:=0) e0 rfl rfl (zC h3 rfl ⟨_,rfl⟩ zK)
     ·have hcm:qAl ms[k] ms[k+1]=wB a' b' c' a b c:=by rw [hm,hm'];rfl
      refine qFf kr ?_ ?_ ?_
      ·intro vs ls H' E' st hE
       have f0:pK ms[k+1]=false:=bf st 0
       refine tL kr (xK st.inn hE (.inr rfl) (a:=.bool false) kr (hg2.trans (gk st)) rfl ⟨?_,rfl⟩)
       rw [mG hlt (by rw [qDe,hD,f0];rfl)]
      ·intro vs ls H' E' st hE
       have f0:decide (wB a' b' c' a b c < 0)=false:=bf st 0
       refine tL kr (xK st.inn hE (.inr rfl) (a:=.bool false) kr (hg2.trans (gk st)) rfl ⟨?_,rfl⟩)
       rw [mG hlt (by rw [qDe,hD,Nat.add_sub_cancel,hD',hcm,f0];simp)]
      ·intro vs ls H' E' st hE
       have f0:decide (wB a' b' c' a b c < 0)=true:=bf st 0
       have f1:pK ms[k+1]=true:=bf st 1
       refine mJ (sl:=[(0,.ptr l 0)]) (ti:=3) (i:=k+1) (Inv:=fun i=>∀ j,j < i->qDe ms j=true) kr st.inn hE hlt kr (w:=IntKind.i64.wrap (((k+1:Nat):Int)+1)) kr (wrap64 om) (hg2.trans (gk st)) ?_
       intro j hj
       rcases Nat.lt_or_ge j (k+1) with h | h
       ·exact hI j h
       ·obtain rfl:j=k+1:=by omega
        rw [qDe,hD,Nat.add_sub_cancel,hD',hcm,f0,f1];simp
  ·obtain rfl:i=ms.length:=by omega
   refine zL (φ:=φ0) (pm:=pmR 1 [(.len (.nd 1 .one),.nd 2 (.int .i64))] 0) 20 (nk:=[(.atom 0,.flt .f32),(.atom 1,.one),(.atom 2,.int .i64),(.atom 3,.int .i64),(.bin .lss (.nd 3 (.int .i64)) (.nd 2 (.int .i64)),.bool)]) (fs:=[(4,false)])
    (xs:=[.flt .f32 x,S,.int .i64 (ms.length:Int),.int .i64 (ms.length:Int),.bool false]) (ws:=[wf l [.nd 0 (.flt .f32),.nd 1 .one]]) (env:=[(0,.ptr 0 0),(3,.nd 3 (.int .i64))]) ?_ ?_ qU qM ?_
   ·refine qV ?_ ?_ _ ?_ ?_ ?_
    ·(repeat (first | exact .nil | refine .cons rfl ⟨_,rfl⟩ ?_ | refine .cons rfl ⟨_,rfl,by assumption⟩ ?_ | refine .cons rfl am ?_))
     refine .cons ⟨_,_,dNd rfl ⟨_,rfl⟩,dNd rfl ⟨_,rfl⟩,?_⟩ ⟨_,rfl⟩ .nil
     show some (AV.bool (decide ((ms.length:Int) < (ms.length:Int))))=_
     rw [decide_eq_false om]
    ·exact .cons rfl .nil
    ·exact .cons (vU (hg2.at hg) (by repeat (first | exact qY | refine qA (dNd rfl ⟨_,rfl⟩) ?_ | refine qA (dNd rfl ⟨_,rfl,by assumption⟩) ?_ | refine qA (dNd rfl am) ?_))) .nil
    ·exact⟨fun v hv=>(by cases hv),trivial⟩
    ·exact .cons ⟨_,_,dNd rfl hso,dNd rfl ⟨_,rfl⟩,yS hS⟩ .nil
   ·exact wQ (l:=l) (o:=0) e0 rfl rfl (zC h3 rfl ⟨_,rfl⟩ zK)
   ·refine zA kr fun vs ls H3 E3 st hE=>?_
    have hg3:Grew H H3:=hg2.trans (gk st)
    refine xL (id:=0) kr ?_
    refine zL (φ:=φ0) (pm:=pmR 0 [] 0) 20 (nk:=[]) (fs:=[]) (xs:=[]) (ws:=[]) (env:=[]) (qV .nil .nil _ .nil trivial .nil) zK qU qM ?_
    refine zA kr fun vs ls H4 E4 st hE=>?_
    refine rf st hE (.bool true) (hg3.trans (gk st)) ?_
    rw [qEe f1 (by have:=of_decide_eq_false f0;omega) (fun i hi=>hI i hi)]
theorem qCU (H:AHeap) (x:ON) (hx:fOk .f32 x) (S:AV) (ms:LL) (hr:xJ KM ms) (hS:SlL H 9 ms S) (hmax:ms.length < 2^40):qR Try.prog 34 [.agg [.flt .f32 x,S]] H (.bool (wM x ms)):=by
 refine qF tA (by simp) ?_
 refine zL (φ:=φ0) (pm:=pmR 0 [(.len (.nd 1 .one),.nd 2 (.int .i64)),(.call 55 [.nd 0 (.flt .f32)],.nd 3 .bool)] 0) 20 (nk:=[(.atom 0,.flt .f32),(.atom 1,.one),(.atom 2,.int .i64),(.atom 3,.bool)]) (fs:=[])
  (xs:=[.flt .f32 x,S,.int .i64 (ms.length:Int),.bool (qCj x)]) (ws:=[]) (env:=[(0,.agg [.nd 0 (.flt .f32),.nd 1 .one])])
  ?_ ?_ qU qM ?_
 ·refine qV ?_ ?_ _ ?_ ?_ ?_
  ·exact .cons rfl ⟨_,rfl,hx⟩ (.cons rfl (zT hS) (.cons rfl ⟨_,rfl⟩ (.cons rfl ⟨_,rfl⟩ .nil)))
  ·exact .nil
  ·exact .nil
  ·exact trivial
  ·exact .cons ⟨_,_,dNd rfl (zT hS),dNd rfl ⟨_,rfl⟩,yS hS⟩ (.cons (qH (qA (dNd rfl ⟨_,rfl,hx⟩) qY) (dNd rfl ⟨_,rfl⟩) (fun H _=>qLL x hx H)) .nil)
 ·exact vL (hY (qA (dNd rfl ⟨_,rfl,hx⟩) (qA (dNd rfl (zT hS)) qY))) zK
 refine qFf kr ?_ ?_ ?_
 ·intro vs ls H' E' st hE
  have f0:qCj x=false:=bf st 0
  refine rf st hE (.bool false) (gk st) ?_
  rw [wM,f0,Bool.false_and]
 ·intro vs ls H' E' st hE
  have f0:decide ((200:Int) < ms.length)=true:=bf st 0
  refine rf st hE (.bool false) (gk st) ?_
  have:¬ ms.length<=200:=by have:=of_decide_eq_true f0;omega
  rw [wM,decide_eq_false this];simp
 ·intro vs ls H' E' st hE
  have f0:decide ((200:Int) < ms.length)=false:=bf st 0
  have f1:qCj x=true:=bf st 1
  have hg' : Grew H H':=(gk st)
  obtain⟨l,e1,hg,_⟩:=pO st hE 1 0 [.flt .f32 x,S]
  have e16:E' 16=S:=qP st.inn hE 16 kr
  have e17:E' 17=.int .i64 (ms.length:Int):=qP st.inn hE 17 kr
  have e18:E' 18=.int .i64 ((0:Nat):Int):=qP st.inn hE 18 kr
  refine qAX kr [(1,.ptr l 0),(16,S),(17,.int .i64 (ms.length:Int))] 18 ms.length (fun i=>∀ j,j < i->qDe ms j=true) (.cons e1 (.cons e16 (.cons e17 .nil))) e18 (Grew.refl H') (fun j hj=>by omega) ?_
  intro i hi hI E2 H2 hs h18 hg2
  have hso:=zT hS
  have e1:=hs.head
  have e16:=hs.tail.head
  have e17:=hs.tail.tail.head
  rcases Nat.lt_or_ge i ms.length with hlt | hge
  ·cases hS with
   | nil h=>rw [h] at hlt;simp at hlt
   | @sl ls0 n cap rest wr2 hgS hn hc =>
    have hgS2:=(hg'.trans hg2).at hgS
    subst hn
    obtain⟨a,b,c,p,q,r,w,sn,la,hm,op,oq,orr,ow⟩:=qCu (hr.get hlt)
    have hD:ms.getD i []=ms[i]:=by simp [List.getD_eq_getElem?_getD,hlt]
    have hmk:=hr.get hlt
    rcases i with _ | k
    ·refine zL (φ:=φ0) (pm:=pmR 2 [(.ia 9 (.nd 1 .one) (.lit (.int .i64 0)),.ptr 1 0),(.call 35 [.agg (nds 3 KM)],.nd 12 .bool)] 0) 20
      (nk:=[(.atom 0,.flt .f32),(.atom 1,.one),(.atom 2,.int .i64)] ++ ([(.atom 3,.int .i32),(.atom 4,.int .i32),(.atom 5,.int .i32),(.atom 6,.flt .f32),(.atom 7,.flt .f32),(.atom 8,.flt .f32),(.atom 9,.flt .f32),(.atom 10,.int .i64),(.atom 11,.int .i64)] ++ [(.atom 12,.bool),(.bin .lss (.lit (.int .i64 0)) (.nd 2 (.int .i64)),.bool)]))
      (fs:=[(13,true)]) (xs:=[.flt .f32 x,.slice ls0 0 ms.length cap 9,.int .i64 (ms.length:Int),.int .i32 a,.int .i32 b,.int .i32 c,.flt .f32 p,.flt .f32 q,.flt .f32 r,.flt .f32 w,.int .i64 sn,.int .i64 la,.bool (pK ms[0]),.bool true])
      (ws:=[wf l [.nd 0 (.flt .f32),.nd 1 .one],⟨ls0,0 * 9,nds 3 KM,false⟩]) (env:=[(1,.ptr 0 0),(16,.nd 1 .one),(17,.nd 2 (.int .i64)),(18,.lit (.int .i64 0))]) ?_ ?_ qU qM ?_
     ·refine qV ?_ ?_ _ ?_ ?_ ?_
      ·(repeat (first | exact .nil | refine .cons rfl ⟨_,rfl⟩ ?_ | refine .cons rfl ⟨_,rfl,by assumption⟩ ?_ | refine .cons rfl am ?_))
       refine .cons ⟨_,_,qFx rfl,dNd rfl ⟨_,rfl⟩,?_⟩ ⟨_,rfl⟩ .nil
       show some (AV.bool (decide ((0:Int) < ms.length)))=_
       rw [decide_eq_true om]
      ·exact .cons rfl .nil
      ·exact .cons (vU (hg2.at hg) (by repeat (first | exact qY | refine qA (dNd rfl ⟨_,rfl⟩) ?_ | refine qA (dNd rfl ⟨_,rfl,by assumption⟩) ?_ | refine qA (dNd rfl am) ?_))) (.cons (zV hr hgS2 hlt rfl (by rw [hm];exact(by repeat (first | exact qY | refine qA (dNd rfl ⟨_,rfl⟩) ?_ | refine qA (dNd rfl ⟨_,rfl,by assumption⟩) ?_ | refine qA (dNd rfl am) ?_)))) .nil)
      ·exact⟨fun v hv h=>(by simp at hv;subst hv;simp at h),⟨fun v hv=>(by cases hv),trivial⟩⟩
      ·exact .cons (zX (k:=0) (dNd rfl rfl) (qFx rfl) om rfl) (.cons (qH (args:=[.agg ms[0]]) (qA (hY (by rw [hm];exact(by repeat (first | exact qY | refine qA (dNd rfl ⟨_,rfl⟩) ?_ | refine qA (dNd rfl ⟨_,rfl,by assumption⟩) ?_ | refine qA (dNd rfl am) ?_)))) qY) (dNd rfl ⟨_,rfl⟩) (fun H3 hk=>kZ ms[0] hmk H3)) .nil)
     ·exact wQ (l:=l) (o:=0) e1 rfl rfl (zC e16 rfl hso (zC e17 rfl ⟨_,rfl⟩ (qMB h18 rfl zK)))
     ·refine dB kr ?_ ?_
      ·intro vs ls H' E' st hE
       have f0:pK ms[0]=false:=bf st 0
       refine tL kr (xK st.inn hE (.inr rfl) (a:=.bool false) kr ((hg'.trans hg2).trans (gk st)) rfl ⟨?_,rfl⟩)
       rw [mG hlt (by rw [qDe,hD,f0];rfl)]
      ·intro vs ls H' E' st hE
       have f0:pK ms[0]=true:=bf st 0
       refine mJ (sl:=[(1,.ptr l 0),(16,.slice ls0 0 ms.length cap 9),(17,.int .i64 (ms.length:Int))]) (ti:=18) (i:=0) (Inv:=fun i=>∀ j,j < i->qDe ms j=true) kr st.inn hE hlt kr (w:=1) kr rfl (hg2.trans (gk st)) ?_
       intro j hj
       obtain rfl:j=0:=by omega
       rw [qDe,hD,f0];rfl
    ·obtain⟨a',b',c',p',q',r',w',sn',la',hm',op',oq',orr',ow'⟩:=qCu (hr.get (show k < ms.length by omega))
     have hD' : ms.getD k []=ms[k]:=by simp [List.getD_eq_getElem?_getD,show k < ms.length by omega]
     refine zL (φ:=φ0) (pm:=pmR 3 [(.ia 9 (.nd 1 .one) (.nd 3 (.int .i64)),.ptr 1 0),(.ia 9 (.nd 1 .one) (.nd 26 (.int .i64)),.ptr 2 0),(.call 35 [.agg (nds 4 KM)],.nd 22 .bool),(.call 56 [.agg (nds 4 K3),.agg (nds 13 K3)],.nd 23 (.int .i64))] 0) 20
      (nk:=[(.atom 0,.flt .f32),(.atom 1,.one),(.atom 2,.int .i64),(.atom 3,.int .i64)] ++ ([(.atom 4,.int .i32),(.atom 5,.int .i32),(.atom 6,.int .i32),(.atom 7,.flt .f32),(.atom 8,.flt .f32),(.atom 9,.flt .f32),(.atom 10,.flt .f32),(.atom 11,.int .i64),(.atom 12,.int .i64)] ++ ([(.atom 13,.int .i32),(.atom 14,.int .i32),(.atom 15,.int .i32),(.atom 16,.flt .f32),(.atom 17,.flt .f32),(.atom 18,.flt .f32),(.atom 19,.flt .f32),(.atom 20,.int .i64),(.atom 21,.int .i64)] ++
       [(.atom 22,.bool),(.atom 23,.int .i64),(.bin .lss (.nd 3 (.int .i64)) (.nd 2 (.int .i64)),.bool),(.bin .lss (.lit (.int .i64 0)) (.nd 3 (.int .i64)),.bool),(.bin .sub (.nd 3 (.int .i64)) (.lit (.int .i64 1)),.int .i64)])))
      (fs:=[(24,true),(25,true)]) (xs:=[.flt .f32 x,.slice ls0 0 ms.length cap 9,.int .i64 (ms.length:Int),.int .i64 ((k+1:Nat):Int),.int .i32 a,.int .i32 b,.int .i32 c,.flt .f32 p,.flt .f32 q,.flt .f32 r,.flt .f32 w,.int .i64 sn,.int .i64 la,.int .i32 a',.int .i32 b',.int .i32 c',.flt .f32 p',.flt .f32 q',.flt .f32 r',.flt .f32 w',.int .i64 sn',.int .i64 la',
       .bool (pK ms[k+1]),.int .i64 (wB a b c a' b' c'),.bool true,.bool true,.int .i64 (k:Int)])
      (ws:=[wf l [.nd 0 (.flt .f32),.nd 1 .one],⟨ls0,(k+1) * 9,nds 4 KM,false⟩,⟨ls0,k * 9,nds 13 KM,false⟩]) (env:=[(1,.ptr 0 0),(16,.nd 1 .one),(17,.nd 2 (.int .i64)),(18,.nd 3 (.int .i64))]) ?_ ?_ qU qM ?_
     ·refine qV ?_ ?_ _ ?_ ?_ ?_
      ·(repeat (first | exact .nil | refine .cons rfl ⟨_,rfl⟩ ?_ | refine .cons rfl ⟨_,rfl,by assumption⟩ ?_ | refine .cons rfl am ?_))
       refine .cons ⟨_,_,dNd rfl ⟨_,rfl⟩,dNd rfl ⟨_,rfl⟩,?_⟩ ⟨_,rfl⟩ (.cons ⟨_,_,qFx rfl,dNd rfl ⟨_,rfl⟩,?_⟩ ⟨_,rfl⟩ (.cons ⟨_,_,dNd rfl ⟨_,rfl⟩,qFx rfl,?_⟩ ⟨_,rfl⟩ .nil))
       ·show some (AV.bool (decide (((k+1:Nat):Int) < ms.length)))=_
        rw [decide_eq_true om]
       ·show some (AV.bool (decide ((0:Int) < ((k+1:Nat):Int))))=_
        rw [decide_eq_true om]
       ·show some (AV.int .i64 (IntKind.i64.wrap (((k+1:Nat):Int) - 1)))=_
        rw [wrap_i64 om om];congr 2;omega
      ·exact .cons rfl (.cons rfl .nil)
      ·exact .cons (vU (hg2.at hg) (by repeat (first | exact qY | refine qA (dNd rfl ⟨_,rfl⟩) ?_ | refine qA (dNd rfl ⟨_,rfl,by assumption⟩) ?_ | refine qA (dNd rfl am) ?_))) (.cons (zV hr hgS2 hlt rfl (by rw [hm];exact(by repeat (first | exact qY | refine qA (dNd rfl ⟨_,rfl⟩) ?_ | refine qA (dNd rfl ⟨_,rfl,by assumption⟩) ?_ | refine qA (dNd rfl am) ?_)))) (.cons (zV hr hgS2 (show k < ms.length by omega) rfl (by rw [hm'];exact(by repeat (first | exact qY | refine qA (dNd rfl ⟨_,rfl⟩) ?_ | refine qA (dNd rfl ⟨_,rfl,by assumption⟩) ?_ | refine qA (dNd rfl am) ?_)))) .nil))
      ·exact⟨fun v hv h=>(by simp at hv;rcases hv with rfl | rfl <;> simp at h),⟨fun v hv h=>(by simp at hv;subst hv;simp at h),⟨fun v hv=>(by cases hv),trivial⟩⟩⟩
      ·exact .cons (zX (k:=k+1) (dNd rfl rfl) (dNd rfl ⟨_,rfl⟩) om rfl) (.cons (zX (k:=k) (dNd rfl rfl) (dNd rfl ⟨_,rfl⟩) om rfl)
        (.cons (qH (args:=[.agg ms[k+1]]) (qA (hY (by rw [hm];exact(by repeat (first | exact qY | refine qA (dNd rfl ⟨_,rfl⟩) ?_ | refine qA (dNd rfl ⟨_,rfl,by assumption⟩) ?_ | refine qA (dNd rfl am) ?_)))) qY) (dNd rfl ⟨_,rfl⟩) (fun H3 hk=>kZ ms[k+1] hmk H3)) (.cons (qH (qA (hY (by repeat (first | exact qY | refine qA (dNd rfl ⟨_,rfl⟩) ?_ | refine qA (dNd rfl ⟨_,rfl,by assumption⟩) ?_ | refine qA (dNd rfl am) ?_))) (qA (hY (by repeat (first | exact qY | refine qA (dNd rfl ⟨_,rfl⟩) ?_ | refine qA (dNd rfl ⟨_,rfl,by assumption⟩) ?_ | refine qA (dNd rfl am) ?_))) qY)) (dNd rfl ⟨_,rfl⟩) (fun H3 _=>tB H3 a b c a' b' c')) .nil)))
     ·exact wQ (l:=l) (o:=0) e1 rfl rfl (zC e16 rfl hso (zC e17 rfl ⟨_,rfl⟩ (zC h18 rfl ⟨_,rfl⟩ zK)))
     ·have hcm:qAl ms[k] ms[k+1]=wB a' b' c' a b c:=by rw [hm,hm'];rfl
      have han:=qJz a b c a' b' c'
      refine qFf kr ?_ ?_ ?_
      ·intro vs ls H' E' st hE
       have f0:pK ms[k+1]=false:=bf st 0
       refine tL kr (xK st.inn hE (.inr rfl) (a:=.bool false) kr ((hg'.trans hg2).trans (gk st)) rfl ⟨?_,rfl⟩)
       rw [mG hlt (by rw [qDe,hD,f0];rfl)]
      ·intro vs ls H' E' st hE
       have f0' : decide (0 < wB a b c a' b' c')=false:=bf st 0
       have f0:decide (wB a' b' c' a b c < 0)=false:=by have:=of_decide_eq_false f0';exact decide_eq_false om
       refine tL kr (xK st.inn hE (.inr rfl) (a:=.bool false) kr ((hg'.trans hg2).trans (gk st)) rfl ⟨?_,rfl⟩)
       rw [mG hlt (by rw [qDe,hD,Nat.add_sub_cancel,hD',hcm,f0];simp)]
      ·intro vs ls H' E' st hE
       have f0' : decide (0 < wB a b c a' b' c')=true:=bf st 0
       have f0:decide (wB a' b' c' a b c < 0)=true:=by have:=of_decide_eq_true f0';exact decide_eq_true om
       have f1:pK ms[k+1]=true:=bf st 1
       refine mJ (sl:=[(1,.ptr l 0),(16,.slice ls0 0 ms.length cap 9),(17,.int .i64 (ms.length:Int))]) (ti:=18) (i:=k+1) (Inv:=fun i=>∀ j,j < i->qDe ms j=true) kr st.inn hE hlt kr (w:=IntKind.i64.wrap (((k+1:Nat):Int)+1)) kr (wrap64 om) (hg2.trans (gk st)) ?_
       intro j hj
       rcases Nat.lt_or_ge j (k+1) with h | h
       ·exact hI j h
       ·obtain rfl:j=k+1:=by omega
        rw [qDe,hD,Nat.add_sub_cancel,hD',hcm,f0,f1];simp
  ·obtain rfl:i=ms.length:=by omega
   refine zL (φ:=φ0) (pm:=pmR 0 [] 0) 20 (nk:=[(.atom 0,.flt .f32),(.atom 1,.one),(.atom 2,.int .i64),(.atom 3,.int .i64),(.bin .lss (.nd 3 (.int .i64)) (.nd 2 (.int .i64)),.bool)]) (fs:=[(4,false)])
    (xs:=[.flt .f32 x,S,.int .i64 (ms.length:Int),.int .i64 (ms.length:Int),.bool false]) (ws:=[]) (env:=[(17,.nd 2 (.int .i64)),(18,.nd 3 (.int .i64))]) ?_ ?_ qU qM ?_
   ·refine qV ?_ ?_ _ ?_ ?_ ?_
    ·(repeat (first | exact .nil | refine .cons rfl ⟨_,rfl⟩ ?_ | refine .cons rfl ⟨_,rfl,by assumption⟩ ?_ | refine .cons rfl am ?_))
     refine .cons ⟨_,_,dNd rfl ⟨_,rfl⟩,dNd rfl ⟨_,rfl⟩,?_⟩ ⟨_,rfl⟩ .nil
     show some (AV.bool (decide ((ms.length:Int) < (ms.length:Int))))=_
     rw [decide_eq_false om]
    ·exact .cons rfl .nil
    ·exact .nil
    ·exact trivial
    ·exact .nil
   ·exact zC e17 rfl ⟨_,rfl⟩ (zC h18 rfl ⟨_,rfl⟩ zK)
   ·refine zA kr fun vs ls H3 E3 st hE=>?_
    have hg3:Grew H H3:=(hg'.trans hg2).trans (gk st)
    refine xL (id:=0) kr ?_
    refine zL (φ:=φ0) (pm:=pmR 0 [] 0) 20 (nk:=[]) (fs:=[]) (xs:=[]) (ws:=[]) (env:=[]) (qV .nil .nil _ .nil trivial .nil) zK qU qM ?_
    refine zA kr fun vs ls H4 E4 st hE=>?_
    refine rf st hE (.bool true) (hg3.trans (gk st)) ?_
    rw [qEe f1 (by have:=of_decide_eq_false f0;omega) (fun i hi=>hI i hi)]
theorem qGW (H:AHeap) (x:ON) (hx:fOk .f32 x) (ms:LL) (S:AV) (hS:SlL H 9 ms S) (left:Int) (h0:0<=left) (h1:left<=4611686018427387904) (hm:ms.length<=9223372036854775807):qR Try.prog 7 [.agg [.flt .f32 x,S],.int .i64 left] H (.int .i64 (if left - ms.length < 0 then -1 else left - ms.length)):=by
 refine qF pD (by simp) ?_
 have hk:∀ H3,Kept 0 [] H H3->qR Try.prog 27 [S,.int .i64 left] H3 (.int .i64 (if left - ms.length < 0 then -1 else left - ms.length)):=fun H3 hk=>qKb H3 ms S (hS.grew (hk.grew (Nat.le_refl _))) left h0 h1 hm
 have hr1:(if left - (ms.length:Int) < 0 then -1 else left - (ms.length:Int)) < 0->(if left - (ms.length:Int) < 0 then -1 else left - (ms.length:Int)) = -1:=by intro h;split <;> omega
 generalize (if left - (ms.length:Int) < 0 then -1 else left - (ms.length:Int))=r at hk hr1 ⊢
 refine zL (φ:=φ0) (pm:=pmR 0 [(.call 27 [.nd 1 .one,.nd 2 (.int .i64)],.nd 3 (.int .i64))] 0) 20 (nk:=[(.atom 0,.flt .f32),(.atom 1,.one),(.atom 2,.int .i64),(.atom 3,.int .i64)]) (fs:=[]) (xs:=[.flt .f32 x,S,.int .i64 left,.int .i64 r]) (ws:=[]) (env:=[(0,.agg [.nd 0 (.flt .f32),.nd 1 .one]),(1,.nd 2 (.int .i64))]) ?_ ?_ qU qM ?_
 ·refine qV ?_ .nil _ .nil trivial ?_
  ·exact .cons rfl ⟨_,rfl,hx⟩ (.cons rfl (zT hS) (.cons rfl ⟨_,rfl⟩ (.cons rfl ⟨_,rfl⟩ .nil)))
  ·exact .cons (qH (args:=[S,.int .i64 left]) (qA (dNd rfl (zT hS)) (qA (dNd rfl ⟨_,rfl⟩) qY)) (dNd rfl ⟨_,rfl⟩) hk) .nil
 ·exact vL (hY (qA (dNd rfl ⟨_,rfl,hx⟩) (qA (dNd rfl (zT hS)) qY))) (zC rfl rfl ⟨_,rfl⟩ zK)
 refine dB kr ?_ ?_
 ·intro vs ls H' E' st hE
  have f0:decide (r < 0)=true:=bf st 0
  refine rf st hE (.int .i64 (-1)) (gk st) ?_
  rw [hr1 (of_decide_eq_true f0)]
 ·intro vs ls H' E' st hE
  exact jA kr (xK st.inn hE (.inr rfl) (a:=.int .i64 r) kr (gk st) rfl ⟨rfl,rfl⟩)
theorem qGX (H:AHeap) (x:ON) (hx:fOk .f32 x) (ms:LL) (hr:xJ KM ms) (S:AV) (hS:SlL H 9 ms S) (hmax:ms.length<=1048576):qJ Try.prog 9 [.agg [.flt .f32 x,S]] H fun r H'=>Grew H H' /\ ∃ l,H.next<=l/\r=.agg [.flt .f32 x,.slice l 0 ms.length ms.length 9]/\H'.get l=some (.row ms.flatten true):=by
 refine qF pE (by simp) ?_
 refine zL (φ:=φ0) (pm:=pmR 0 [] 0) 20 (nk:=[(.atom 0,.flt .f32),(.atom 1,.one)]) (fs:=[]) (xs:=[.flt .f32 x,S]) (ws:=[]) (env:=[(0,.agg [.nd 0 (.flt .f32),.nd 1 .one])]) ?_ ?_ qU qM ?_
 ·refine qV ?_ .nil _ .nil trivial .nil
  exact .cons rfl ⟨_,rfl,hx⟩ (.cons rfl (zT hS) .nil)
 ·exact vL (hY (qA (dNd rfl ⟨_,rfl,hx⟩) (qA (dNd rfl (zT hS)) qY))) zK
 refine zA kr fun vs ls H1 E1 st hE=>?_
 have a8:E1 8=S:=qP st.inn hE 8 kr
 obtain⟨p,e2,r2,n2⟩:=pO st hE 2 1 [.flt .f32 (some 0),.nilslice]
 obtain⟨q,e3,r3,n3⟩:=pO st hE 3 2 [.flt .f32 x,.nilslice]
 have hne:p ≠ q:=qMG st.inn hE 2 1 3 2 kr kr (cs:=[lF,lN]) kr (by decide) e2 e3
 have hp:H.next<=p:=n2 (Nat.zero_le _)
 have hq:H.next<=q:=n3 (Nat.zero_le _)
 have g1:Grew H H1:=(gk st)
 clear st hE vs ls n2 n3
 refine zB (d:=some 9) (f:=32) (args:=[.tmp 8]) kr (R:=fun r H'=>Grew H1 H' /\ ∃ l,H1.next<=l/\r=.slice l 0 ms.length ms.length 9/\H'.get l=some (.row ms.flatten true)) ?_ ?_
 ·show qJ _ _ [E1 8] _ _
  rw [a8]
  exact qKc H1 ms hr S (hS.grew g1) hmax
 rintro r H2 ⟨g2,l,hl,rfl,hrow⟩
 have r2':=g2.at r2
 have r3':=g2.at r3
 refine zL (φ:=φ0) (pm:=pmR 0 [] 0) 20 (nk:=[(.atom 0,.flt .f32),(.atom 1,.one)]) (fs:=[]) (xs:=[.flt .f32 x,.slice l 0 ms.length ms.length 9]) (ws:=[⟨p,0,[lF,lN],true⟩,⟨q,0,[.nd 0 (.flt .f32),lN],true⟩]) (env:=[(2,.ptr 0 0),(3,.ptr 1 0),(9,.nd 1 .one)]) ?_ ?_ qU qM ?_
 ·refine qV ?_ .nil _ ?_ ?_ .nil
  ·exact .cons rfl ⟨_,rfl,hx⟩ (.cons rfl rfl .nil)
  ·exact .cons (qHs r2' (qA (qFx (by decide +kernel)) (qA (qFx rfl) qY))) (.cons (qHs r3' (qA (dNd rfl ⟨_,rfl,hx⟩) (qA (qFx rfl) qY))) .nil)
  ·exact⟨fun v hv _=>(by simp at hv;subst hv;exact hne),⟨fun v hv=>(by cases hv),trivial⟩⟩
 ·exact wQ (l:=p) (o:=0) (by rw [Env.put_some];simpa using e2) rfl rfl (wQ (l:=q) (o:=0) (by rw [Env.put_some];simpa using e3) rfl rfl (zC (by rw [Env.put_some];simp) rfl rfl zK))
 ·refine zA kr fun vs ls H3 E3 st hE=>?_
  have g3:Grew H H3:=Kept.grew_from (g1.trans g2) st.kept (fun l b hlb=>by simp [jD] at hlb;rcases hlb with ⟨rfl,_⟩ | ⟨rfl,_⟩ <;> assumption)
  refine jA kr (zJ st.inn hE (.inr rfl) (a:=.agg [.flt .f32 x,.slice l 0 ms.length ms.length 9]) kr g3.next ⟨g3,l,by have:=g1.next;omega,rfl,?_⟩)
  rw [st.kept.2 l (H2.lt_of_get hrow) (fun j b _ e=>by
   have hm:=List.mem_of_getElem? e
   simp [jD] at hm
   have h2:=H1.lt_of_get r2
   have h3:=H1.lt_of_get r3
   rcases hm with ⟨rfl,_⟩ | ⟨rfl,_⟩ <;> omega)]
  exact hrow
theorem mC (H:AHeap) (x:ON) (hx:fOk .f32 x) (ms:LL) (hr:xJ KM ms) (S S' : AV) (hS:SlL H 9 ms S) (hS' : SlL H 9 ms S') (hmax:ms.length < 2^40):qR Try.prog 12 [.agg [.flt .f32 x,S],.agg [.flt .f32 x,S']] H (.bool true):=by
 refine qF pB (by simp) ?_
 refine qNC (φ:=φ0) (pm:=pmR 0 [(.call 39 [.nd 1 .one,.nd 2 .one],.lit (.bool true))] 0) 20 (nk:=[(.atom 0,.flt .f32),(.atom 1,.one),(.atom 2,.one)]) (fs:=[]) (xs:=[.flt .f32 x,S,S']) (ws:=[]) (env:=[(0,.agg [.nd 0 (.flt .f32),.nd 1 .one]),(1,.agg [.nd 0 (.flt .f32),.nd 2 .one])]) ?_ ?_ qU qM (Grew.refl H) rfl ⟨rfl,rfl⟩ kr
 ·refine qV ?_ .nil _ .nil trivial ?_
  ·exact .cons rfl ⟨_,rfl,hx⟩ (.cons rfl (zT hS) (.cons rfl (zT hS') .nil))
  ·exact .cons (qH (args:=[S,S']) (qA (dNd rfl (zT hS)) (qA (dNd rfl (zT hS')) qY)) (qFx rfl) (fun H3 hk=>qJU H3 ms hr S S' (hS.grew (hk.grew (Nat.le_refl _))) (hS'.grew (hk.grew (Nat.le_refl _))) hmax)) .nil
 ·exact vL (hY (qA (dNd rfl ⟨_,rfl,hx⟩) (qA (dNd rfl (zT hS)) qY))) (vL (hY (qA (dNd rfl ⟨_,rfl,hx⟩) (qA (dNd rfl (zT hS')) qY))) zK)
theorem qOv {H:AHeap} {a:AV} (h:qBB H (true,[.flt .f32,.sl [.int .i32,.int .i32,.int .i32,.flt .f32,.flt .f32,.flt .f32,.flt .f32,.int .i64,.int .i64]]) a):∃ (x:ON) (ms:LL) (S:AV),a=.agg [.flt .f32 x,S]/\fOk .f32 x/\xJ KM ms/\SlL H 9 ms S/\ms.length<=9223372036854775807:=by
 obtain⟨cs,rfl,hl,hc⟩:=h
 match cs,hl with
 | [c0,c1],_ =>
  have h0:=hc 0 _ _ rfl rfl
  have h1:=hc 1 _ _ rfl rfl
  cases h0 with
  | flt h0 =>
   obtain⟨ms,g1,g2,g3⟩:=qOM (ks:=KM) (sz:=9) h1 rfl rfl
   exact⟨_,ms,c1,rfl,h0,g1,g2,g3⟩
def plc (a b c:Int):List AV:=[.int .i32 a,.int .i32 b,.int .i32 c]
def lin (ms:LL) (a b c:Int):Nat:=(ms.takeWhile fun m=>decide (qAl m (plc a b c) < 0)).length
def fnd (ms:LL) (a b c:Int):Bool:=decide (lin ms a b c < ms.length) && decide (qAl (ms.getD (lin ms a b c) []) (plc a b c)=0)
theorem qHM {a b c:Int}:∀ {ms:LL} {i:Nat},i<=ms.length->(∀ j,j < i->qAl (ms.getD j []) (plc a b c) < 0)->(i < ms.length -> ¬ qAl (ms.getD i []) (plc a b c) < 0)->lin ms a b c=i
 | [],i,h,_,_=>by simp at h;subst h;rfl
 | m :: ms,0,_,_,h=>by
  have:=h (by simp)
  simp only [List.getD_cons_zero] at this
  simp [lin,List.takeWhile_cons,this]
 | m :: ms,i+1,h,h1,h2=>by
  have e0:=h1 0 om
  simp only [List.getD_cons_zero] at e0
  have:=qHM (ms:=ms) (i:=i) (by simpa using h) (fun j hj=>by have:=h1 (j+1) om;simpa using this) (fun hi=>by have:=h2 (by simpa using hi);simpa using this)
  simp only [lin,List.takeWhile_cons,e0,decide_true,if_true,List.length_cons]
  exact congrArg (· + 1) this
theorem qFs {a b c a' b' c' : Int}:wB a b c a' b' c'=0 ↔ a=a'/\b=b'/\c=c':=by
 simp only [wB,qCJ]
 (repeat' split) <;> omega
theorem qJX (H:AHeap) (ms:LL) (hr:xJ KM ms) (S:AV) (hS:SlL H 9 ms S) (a b c:Int) (hmax:ms.length < 2^40):qR Try.prog 53 [S,.agg (plc a b c)] H (.tuple [.int .i64 (lin ms a b c:Int),.bool (fnd ms a b c)]):=by
 refine qF kO (by simp) ?_
 refine zL (φ:=φ0) (pm:=pmR 0 [] 0) 20 (nk:=[(.atom 0,.one),(.atom 1,.int .i32),(.atom 2,.int .i32),(.atom 3,.int .i32)]) (fs:=[]) (xs:=[S,.int .i32 a,.int .i32 b,.int .i32 c]) (ws:=[]) (env:=[(0,.nd 0 .one),(1,.agg (nds 1 K3))]) ?_ ?_ qU qM ?_
 ·exact qV (by exact .cons rfl (zT hS) (.cons rfl ⟨_,rfl⟩ (.cons rfl ⟨_,rfl⟩ (.cons rfl ⟨_,rfl⟩ .nil)))) .nil _ .nil trivial .nil
 ·exact zC rfl rfl (zT hS) (vL (show D _ _ _ (.agg (plc a b c)) from hY (by repeat (first | exact qY | refine qA (dNd rfl ⟨_,rfl⟩) ?_ | refine qA (dNd rfl ⟨_,rfl,by assumption⟩) ?_ | refine qA (dNd rfl am) ?_))) zK)
 refine zA kr fun vs ls H1 E1 st hE=>?_
 have a0:E1 0=S:=qP st.inn hE 0 kr
 have a6:E1 6=.int .i64 ((0:Nat):Int):=qP st.inn hE 6 kr
 obtain⟨p,a3,r3,_⟩:=pO st hE 3 0 [.int .i32 a,.int .i32 b,.int .i32 c]
 have g1:Grew H H1:=(gk st)
 refine qAX kr [(0,S),(3,.ptr p 0)] 6 ms.length (fun i=>∀ j,j < i->qAl (ms.getD j []) (plc a b c) < 0) (.cons a0 (.cons a3 .nil)) a6 (Grew.refl H1) (fun j hj=>by omega) ?_
 intro i hi hI E2 H2 hs h6 hg2
 have b0:=hs.head
 have b3:=hs.tail.head
 have hso:=zT hS
 have r3':=hg2.at r3
 have gH2:=g1.trans hg2
 rcases Nat.lt_or_ge i ms.length with hlt | hge
 ·cases hS with
  | nil h=>rw [h] at hlt;simp at hlt
  | @sl ls0 n cap rest wr2 hgS hn hc =>
   have hgS2:=gH2.at hgS
   subst hn
   have hD:ms.getD i []=ms[i]:=by simp [List.getD_eq_getElem?_getD,hlt]
   obtain⟨v0,v1,v2,v3,v4,v5,v6,v7,v8,hm,o3,o4,o5,o6⟩:=zZ (hr.get hlt)
   have hcm:qAl ms[i] (plc a b c)=wB v0 v1 v2 a b c:=by rw [hm];rfl
   refine zL (φ:=φ0) (pm:=pmR 2 [(.len (.nd 0 .one),.nd 1 (.int .i64)),(.ia 9 (.nd 0 .one) (.nd 2 (.int .i64)),.ptr 0 0),(.call 48 [.agg (nds 6 K3),.agg (nds 3 K3)],.nd 15 (.int .i64))] 0) 20
    (nk:=[(.atom 0,.one),(.atom 1,.int .i64),(.atom 2,.int .i64),(.atom 3,.int .i32),(.atom 4,.int .i32),(.atom 5,.int .i32)] ++ ([(.atom 6,.int .i32),(.atom 7,.int .i32),(.atom 8,.int .i32),(.atom 9,.flt .f32),(.atom 10,.flt .f32),(.atom 11,.flt .f32),(.atom 12,.flt .f32),(.atom 13,.int .i64),(.atom 14,.int .i64)] ++ [(.atom 15,.int .i64),(.bin .lss (.nd 2 (.int .i64)) (.nd 1 (.int .i64)),.bool)])) (fs:=[(16,true)])
    (xs:=[.slice ls0 0 ms.length cap 9,.int .i64 (ms.length:Int),.int .i64 (i:Int),.int .i32 a,.int .i32 b,.int .i32 c,.int .i32 v0,.int .i32 v1,.int .i32 v2,.flt .f32 v3,.flt .f32 v4,.flt .f32 v5,.flt .f32 v6,.int .i64 v7,.int .i64 v8,.int .i64 (wB v0 v1 v2 a b c),.bool true])
    (ws:=[⟨ls0,i * 9,nds 6 KM,false⟩,⟨p,0,nds 3 K3,false⟩]) (env:=[(0,.nd 0 .one),(3,.ptr 1 0),(6,.nd 2 (.int .i64))]) ?_ ?_ qU qM ?_
   ·refine qV ?_ ?_ _ ?_ ?_ ?_
    ·refine .cons rfl rfl (.cons rfl ⟨_,rfl⟩ ?_)
     (repeat (first | exact .nil | refine .cons rfl ⟨_,rfl⟩ ?_ | refine .cons rfl ⟨_,rfl,by assumption⟩ ?_ | refine .cons rfl am ?_))
     refine .cons ⟨_,_,dNd rfl ⟨_,rfl⟩,dNd rfl ⟨_,rfl⟩,?_⟩ ⟨_,rfl⟩ .nil
     show some (AV.bool (decide ((i:Int) < (ms.length:Int))))=_
     rw [decide_eq_true om]
    ·exact .cons rfl .nil
    ·exact .cons (zV hr hgS2 hlt rfl (by rw [hm];exact(by repeat (first | exact qY | refine qA (dNd rfl ⟨_,rfl⟩) ?_ | refine qA (dNd rfl ⟨_,rfl,by assumption⟩) ?_ | refine qA (dNd rfl am) ?_)))) (.cons (vU r3' (by repeat (first | exact qY | refine qA (dNd rfl ⟨_,rfl⟩) ?_ | refine qA (dNd rfl ⟨_,rfl,by assumption⟩) ?_ | refine qA (dNd rfl am) ?_))) .nil)
    ·exact⟨fun v hv h=>(by simp at hv;subst hv;simp at h),⟨fun v hv=>(by cases hv),trivial⟩⟩
    ·exact .cons (qZ (o:=0) (dNd rfl rfl) (dNd rfl ⟨_,rfl⟩)) (.cons (zX (k:=i) (dNd rfl rfl) (dNd rfl ⟨_,rfl⟩) om rfl) (.cons (qH (args:=[.agg (plc v0 v1 v2),.agg (plc a b c)]) (qA (hY (by repeat (first | exact qY | refine qA (dNd rfl ⟨_,rfl⟩) ?_ | refine qA (dNd rfl ⟨_,rfl,by assumption⟩) ?_ | refine qA (dNd rfl am) ?_))) (qA (hY (by repeat (first | exact qY | refine qA (dNd rfl ⟨_,rfl⟩) ?_ | refine qA (dNd rfl ⟨_,rfl,by assumption⟩) ?_ | refine qA (dNd rfl am) ?_))) qY)) (dNd rfl ⟨_,rfl⟩) (fun H3 _=>qBT H3 v0 v1 v2 a b c)) .nil))
   ·exact zC b0 rfl rfl (wQ (l:=p) (o:=0) b3 rfl rfl (zC h6 rfl ⟨_,rfl⟩ zK))
   ·refine dB kr ?_ ?_
    ·intro vs ls H4 E4 st hE
     have f1:decide (wB v0 v1 v2 a b c < 0)=true:=bf st 0
     refine mJ (sl:=[(0,.slice ls0 0 ms.length cap 9),(3,.ptr p 0)]) (ti:=6) (i:=i) (Inv:=fun i=>∀ j,j < i->qAl (ms.getD j []) (plc a b c) < 0) kr st.inn hE hlt kr (w:=IntKind.i64.wrap ((i:Int)+1)) kr (wrap64 om) (hg2.trans (gk st)) ?_
     intro j hj
     rcases Nat.lt_or_ge j i with h | h
     ·exact hI j h
     ·obtain rfl:j=i:=by omega
      rw [hD,hcm];exact of_decide_eq_true f1
    ·intro vs ls H4 E4 st hE
     have f1:decide (wB v0 v1 v2 a b c < 0)=false:=bf st 0
     have hlin:lin ms a b c=i:=qHM hi hI (fun _=>by rw [hD,hcm];exact of_decide_eq_false f1)
     have d0:E4 0=.slice ls0 0 ms.length cap 9:=qP st.inn hE 0 kr
     have d3:E4 3=.ptr p 0:=qP st.inn hE 3 kr
     have d6:E4 6=.int .i64 (i:Int):=qP st.inn hE 6 kr
     have g4:Grew H2 H4:=(gk st)
     refine xL (id:=0) kr ?_
     refine zL (φ:=φ0) (pm:=pmR 2 [(.len (.nd 0 .one),.nd 1 (.int .i64)),(.ia 9 (.nd 0 .one) (.nd 2 (.int .i64)),.ptr 0 0)] 0) 20
      (nk:=[(.atom 0,.one),(.atom 1,.int .i64),(.atom 2,.int .i64),(.atom 3,.int .i32),(.atom 4,.int .i32),(.atom 5,.int .i32)] ++ ([(.atom 6,.int .i32),(.atom 7,.int .i32),(.atom 8,.int .i32),(.atom 9,.flt .f32),(.atom 10,.flt .f32),(.atom 11,.flt .f32),(.atom 12,.flt .f32),(.atom 13,.int .i64),(.atom 14,.int .i64)] ++ [(.bin .lss (.nd 2 (.int .i64)) (.nd 1 (.int .i64)),.bool)])) (fs:=[(15,true)])
      (xs:=[.slice ls0 0 ms.length cap 9,.int .i64 (ms.length:Int),.int .i64 (i:Int),.int .i32 a,.int .i32 b,.int .i32 c,.int .i32 v0,.int .i32 v1,.int .i32 v2,.flt .f32 v3,.flt .f32 v4,.flt .f32 v5,.flt .f32 v6,.int .i64 v7,.int .i64 v8,.bool true])
      (ws:=[⟨ls0,i * 9,nds 6 KM,false⟩,⟨p,0,nds 3 K3,false⟩]) (env:=[(0,.nd 0 .one),(3,.ptr 1 0),(6,.nd 2 (.int .i64))]) ?_ ?_ qU qM ?_
     ·refine qV ?_ ?_ _ ?_ ?_ ?_
      ·refine .cons rfl rfl (.cons rfl ⟨_,rfl⟩ ?_)
       (repeat (first | exact .nil | refine .cons rfl ⟨_,rfl⟩ ?_ | refine .cons rfl ⟨_,rfl,by assumption⟩ ?_ | refine .cons rfl am ?_))
       refine .cons ⟨_,_,dNd rfl ⟨_,rfl⟩,dNd rfl ⟨_,rfl⟩,?_⟩ ⟨_,rfl⟩ .nil
       show some (AV.bool (decide ((i:Int) < (ms.length:Int))))=_
       rw [decide_eq_true om]
      ·exact .cons rfl .nil
      ·exact .cons (zV hr (g4.at hgS2) hlt rfl (by rw [hm];exact(by repeat (first | exact qY | refine qA (dNd rfl ⟨_,rfl⟩) ?_ | refine qA (dNd rfl ⟨_,rfl,by assumption⟩) ?_ | refine qA (dNd rfl am) ?_)))) (.cons (vU (g4.at r3') (by repeat (first | exact qY | refine qA (dNd rfl ⟨_,rfl⟩) ?_ | refine qA (dNd rfl ⟨_,rfl,by assumption⟩) ?_ | refine qA (dNd rfl am) ?_))) .nil)
      ·exact⟨fun v hv h=>(by simp at hv;subst hv;simp at h),⟨fun v hv=>(by cases hv),trivial⟩⟩
      ·exact .cons (qZ (o:=0) (dNd rfl rfl) (dNd rfl ⟨_,rfl⟩)) (.cons (zX (k:=i) (dNd rfl rfl) (dNd rfl ⟨_,rfl⟩) om rfl) .nil)
     ·exact zC d0 rfl rfl (wQ (l:=p) (o:=0) d3 rfl rfl (zC d6 rfl ⟨_,rfl⟩ zK))
     ·have hf:fnd ms a b c=decide (v0=a/\v1=b/\v2=c):=by
       simp only [fnd,hlin,hD,hcm,decide_eq_true hlt,Bool.true_and,qFs]
      have gH4:=gH2.trans g4
      rw [hlin,hf]
      refine qMP kr ?_ ?_ ?_ ?_
      ·intro vs ls H5 E5 st hE
       have f1:decide (v2=c)=true:=bf st 0
       have f2:decide (v1=b)=true:=bf st 1
       have f3:decide (v0=a)=true:=bf st 2
       refine rf st hE (.tuple [.int .i64 (i:Int),.bool true]) (gH4.trans (gk st)) ?_
       have f1:=of_decide_eq_true f1
       have f2:=of_decide_eq_true f2
       have f3:=of_decide_eq_true f3
       simp [f1,f2,f3]
      ·intro vs ls H5 E5 st hE
       have f1:decide (v2=c)=false:=bf st 0
       refine rf st hE (.tuple [.int .i64 (i:Int),.bool false]) (gH4.trans (gk st)) ?_
       have f1:=of_decide_eq_false f1
       simp [f1]
      ·intro vs ls H5 E5 st hE
       have f1:decide (v1=b)=false:=bf st 0
       refine rf st hE (.tuple [.int .i64 (i:Int),.bool false]) (gH4.trans (gk st)) ?_
       have f1:=of_decide_eq_false f1
       simp [f1]
      ·intro vs ls H5 E5 st hE
       have f1:decide (v0=a)=false:=bf st 0
       refine rf st hE (.tuple [.int .i64 (i:Int),.bool false]) (gH4.trans (gk st)) ?_
       have f1:=of_decide_eq_false f1
       simp [f1]
 ·obtain rfl:i=ms.length:=by omega
  have hlin:lin ms a b c=ms.length:=qHM (Nat.le_refl _) hI (fun h=>absurd h om)
  have hf:fnd ms a b c=false:=by simp [fnd,hlin]
  rw [hlin,hf]
  refine zL (φ:=φ0) (pm:=pmR 1 [(.len (.nd 0 .one),.nd 1 (.int .i64))] 0) 20 (nk:=[(.atom 0,.one),(.atom 1,.int .i64),(.atom 2,.int .i64),(.atom 3,.int .i32),(.atom 4,.int .i32),(.atom 5,.int .i32),(.bin .lss (.nd 2 (.int .i64)) (.nd 1 (.int .i64)),.bool)]) (fs:=[(6,false)])
   (xs:=[S,.int .i64 (ms.length:Int),.int .i64 (ms.length:Int),.int .i32 a,.int .i32 b,.int .i32 c,.bool false]) (ws:=[⟨p,0,nds 3 K3,false⟩]) (env:=[(0,.nd 0 .one),(3,.ptr 0 0),(6,.nd 2 (.int .i64))]) ?_ ?_ qU qM ?_
  ·refine qV ?_ ?_ _ ?_ ?_ ?_
   ·refine .cons rfl hso (.cons rfl ⟨_,rfl⟩ (.cons rfl ⟨_,rfl⟩ (.cons rfl ⟨_,rfl⟩ (.cons rfl ⟨_,rfl⟩ (.cons rfl ⟨_,rfl⟩ (.cons ⟨_,_,dNd rfl ⟨_,rfl⟩,dNd rfl ⟨_,rfl⟩,?_⟩ ⟨_,rfl⟩ .nil))))))
    show some (AV.bool (decide ((ms.length:Int) < (ms.length:Int))))=_
    rw [decide_eq_false om]
   ·exact .cons rfl .nil
   ·exact .cons (vU r3' (by repeat (first | exact qY | refine qA (dNd rfl ⟨_,rfl⟩) ?_ | refine qA (dNd rfl ⟨_,rfl,by assumption⟩) ?_ | refine qA (dNd rfl am) ?_))) .nil
   ·exact⟨fun v hv=>(by cases hv),trivial⟩
   ·exact .cons ⟨_,_,dNd rfl hso,dNd rfl ⟨_,rfl⟩,yS hS⟩ .nil
  ·exact zC b0 rfl hso (wQ (l:=p) (o:=0) b3 rfl rfl (zC h6 rfl ⟨_,rfl⟩ zK))
  ·refine zA kr fun vs ls H4 E4 st hE=>?_
   have d0:E4 0=S:=qP st.inn hE 0 kr
   have d3:E4 3=.ptr p 0:=qP st.inn hE 3 kr
   have d6:E4 6=.int .i64 (ms.length:Int):=qP st.inn hE 6 kr
   have g4:Grew H2 H4:=(gk st)
   refine xL (id:=0) kr ?_
   refine zL (φ:=φ0) (pm:=pmR 1 [(.len (.nd 0 .one),.nd 1 (.int .i64))] 0) 20 (nk:=[(.atom 0,.one),(.atom 1,.int .i64),(.atom 2,.int .i64),(.atom 3,.int .i32),(.atom 4,.int .i32),(.atom 5,.int .i32),(.bin .lss (.nd 2 (.int .i64)) (.nd 1 (.int .i64)),.bool)]) (fs:=[(6,false)])
    (xs:=[S,.int .i64 (ms.length:Int),.int .i64 (ms.length:Int),.int .i32 a,.int .i32 b,.int .i32 c,.bool false]) (ws:=[⟨p,0,nds 3 K3,false⟩]) (env:=[(0,.nd 0 .one),(3,.ptr 0 0),(6,.nd 2 (.int .i64))]) ?_ ?_ qU qM ?_
   ·refine qV ?_ ?_ _ ?_ ?_ ?_
    ·refine .cons rfl hso (.cons rfl ⟨_,rfl⟩ (.cons rfl ⟨_,rfl⟩ (.cons rfl ⟨_,rfl⟩ (.cons rfl ⟨_,rfl⟩ (.cons rfl ⟨_,rfl⟩ (.cons ⟨_,_,dNd rfl ⟨_,rfl⟩,dNd rfl ⟨_,rfl⟩,?_⟩ ⟨_,rfl⟩ .nil))))))
     show some (AV.bool (decide ((ms.length:Int) < (ms.length:Int))))=_
     rw [decide_eq_false om]
    ·exact .cons rfl .nil
    ·exact .cons (vU (g4.at r3') (by repeat (first | exact qY | refine qA (dNd rfl ⟨_,rfl⟩) ?_ | refine qA (dNd rfl ⟨_,rfl,by assumption⟩) ?_ | refine qA (dNd rfl am) ?_))) .nil
    ·exact⟨fun v hv=>(by cases hv),trivial⟩
    ·exact .cons ⟨_,_,dNd rfl hso,dNd rfl ⟨_,rfl⟩,yS hS⟩ .nil
   ·exact zC d0 rfl hso (wQ (l:=p) (o:=0) d3 rfl rfl (zC d6 rfl ⟨_,rfl⟩ zK))
   ·refine zA kr fun vs ls H5 E5 st hE=>?_
    exact jA kr (xK st.inn hE (.inr rfl) (a:=.tuple [.int .i64 (ms.length:Int),.bool false]) kr ((gH2.trans g4).trans (gk st)) rfl ⟨rfl,rfl⟩)
theorem qDT {a b c a' b' c' x y z:Int} (h:wB a b c a' b' c' < 0) (k:wB a' b' c' x y z < 0):wB a b c x y z < 0:=by
 have e:∀ {a b c a' b' c' : Int},wB a b c a' b' c' < 0 ↔ (a < a' \/ (a=a'/\(b < b' \/ (b=b'/\c < c')))):=by
  intro a b c a' b' c'
  simp only [wB,qCJ]
  (repeat' split) <;> omega
 rw [e] at *
 omega
def qBd (ms:LL):Prop:=∀ t,t+1 < ms.length->qAl (ms.getD t []) (ms.getD (t+1) []) < 0
theorem qHo {ms:LL} (hr:xJ KM ms) (hs:qBd ms) {a b c:Int} {h:Nat} (hh:h < ms.length) (hc:qAl (ms.getD h []) (plc a b c) < 0):∀ d t,t+d=h->qAl (ms.getD t []) (plc a b c) < 0
 | 0,t,e=>by
  obtain rfl:t=h:=by omega
  exact hc
 | d+1,t,e=>by
  have i1:=qHo hr hs hh hc d (t+1) om
  have i2:=hs t om
  have hg0:ms.getD t []=ms[t]'om:=by simp [List.getD_eq_getElem?_getD,show t < ms.length by omega]
  have hg1:ms.getD (t+1) []=ms[t+1]'om:=by simp [List.getD_eq_getElem?_getD,show t+1 < ms.length by omega]
  obtain⟨v0,v1,v2,v3,v4,v5,v6,v7,v8,hm,_⟩:=zZ (hr.get (show t < ms.length by omega))
  obtain⟨w0,w1,w2,w3,w4,w5,w6,w7,w8,hn,_⟩:=zZ (hr.get (show t+1 < ms.length by omega))
  rw [hg0,hm] at i2 ⊢
  rw [hg1,hn] at i1 i2
  exact qDT (show wB v0 v1 v2 w0 w1 w2 < 0 from i2) (show wB w0 w1 w2 a b c < 0 from i1)
theorem qNH {ms:LL} (hr:xJ KM ms) (hs:qBd ms) {a b c:Int} {h t:Nat} (ht:h<=t) (hl:t < ms.length) (hc:¬ qAl (ms.getD h []) (plc a b c) < 0):¬ qAl (ms.getD t []) (plc a b c) < 0:=fun k=>hc (qHo hr hs hl k (t - h) h om)
theorem qIR {x:ON} {ms:LL} (h:wM x ms=true):qBd ms:=by
 intro t ht
 simp only [wM,Bool.and_eq_true,List.all_eq_true,List.mem_range] at h
 have:=h.2.2 (t+1) ht
 simp only [qDe,Bool.and_eq_true,Bool.or_eq_true,beq_iff_eq,decide_eq_true_eq] at this
 rcases this.2 with h | h
 ·omega
 ·simpa using h
theorem qHJ (m:List AV) (hm:KdsL KM m) (a b c:Int) (H:AHeap):qR Try.prog 77 [.agg m,.agg (plc a b c)] H (.int .i64 (qAl m (plc a b c))):=by
 obtain⟨v0,v1,v2,v3,v4,v5,v6,v7,v8,rfl,o3,o4,o5,o6⟩:=zZ hm
 show qR _ _ _ _ (.int .i64 (wB v0 v1 v2 a b c))
 refine qF wD (by simp) ?_
 refine zL (φ:=φ0) (pm:=pmR 0 [(.call 56 [.agg (nds 0 K3),.agg (nds 9 K3)],.nd 12 (.int .i64))] 0) 20
  (nk:=[(.atom 0,.int .i32),(.atom 1,.int .i32),(.atom 2,.int .i32),(.atom 3,.flt .f32),(.atom 4,.flt .f32),(.atom 5,.flt .f32),(.atom 6,.flt .f32),(.atom 7,.int .i64),(.atom 8,.int .i64),(.atom 9,.int .i32),(.atom 10,.int .i32),(.atom 11,.int .i32),(.atom 12,.int .i64)]) (fs:=[])
  (xs:=[.int .i32 v0,.int .i32 v1,.int .i32 v2,.flt .f32 v3,.flt .f32 v4,.flt .f32 v5,.flt .f32 v6,.int .i64 v7,.int .i64 v8,.int .i32 a,.int .i32 b,.int .i32 c,.int .i64 (wB v0 v1 v2 a b c)]) (ws:=[]) (env:=[(0,.agg (nds 0 KM)),(1,.agg (nds 9 K3))]) ?_ ?_ qU qM ?_
 ·refine qV ?_ .nil _ .nil trivial ?_
  ·(repeat (first | exact .nil | refine .cons rfl ⟨_,rfl⟩ ?_ | refine .cons rfl ⟨_,rfl,by assumption⟩ ?_ | refine .cons rfl am ?_))
  ·exact .cons (qH (args:=[.agg (plc v0 v1 v2),.agg (plc a b c)]) (qA (hY (by repeat (first | exact qY | refine qA (dNd rfl ⟨_,rfl⟩) ?_ | refine qA (dNd rfl ⟨_,rfl,by assumption⟩) ?_ | refine qA (dNd rfl am) ?_))) (qA (hY (by repeat (first | exact qY | refine qA (dNd rfl ⟨_,rfl⟩) ?_ | refine qA (dNd rfl ⟨_,rfl,by assumption⟩) ?_ | refine qA (dNd rfl am) ?_))) qY)) (dNd rfl ⟨_,rfl⟩) (fun H3 _=>tB H3 v0 v1 v2 a b c)) .nil
 ·exact vL (hY (by repeat (first | exact qY | refine qA (dNd rfl ⟨_,rfl⟩) ?_ | refine qA (dNd rfl ⟨_,rfl,by assumption⟩) ?_ | refine qA (dNd rfl am) ?_))) (vL (show D _ _ _ (.agg (plc a b c)) from hY (by repeat (first | exact qY | refine qA (dNd rfl ⟨_,rfl⟩) ?_ | refine qA (dNd rfl ⟨_,rfl,by assumption⟩) ?_ | refine qA (dNd rfl am) ?_))) zK)
 refine zA kr fun vs ls H1 E1 st hE=>?_
 exact jA kr (xK st.inn hE (.inr rfl) (a:=.int .i64 (wB v0 v1 v2 a b c)) kr (gk st) rfl ⟨rfl,rfl⟩)
theorem qGw {n:Int} (h1:0<=n) (h2:n < 18446744073709551616):IntKind.u64.wrap n=n:=by
 simp only [IntKind.wrap,IntKind.bits,IntKind.signed];simp;omega
theorem qLF (H:AHeap) (ms:LL) (hr:xJ KM ms) (hsort:qBd ms) (S:AV) (hS:SlL H 9 ms S) (a b c:Int) (hmax:ms.length < 2^40):qR Try.prog 76 [S,.agg (plc a b c),.func 77 [] []] H (.tuple [.int .i64 (lin ms a b c:Int),.bool (fnd ms a b c)]):=by
 refine qF zE (by simp) ?_
 refine zL (φ:=φ0) (pm:=pmR 0 [(.len (.nd 0 .one),.nd 4 (.int .i64))] 0) 20 (nk:=[(.atom 0,.one),(.atom 1,.int .i32),(.atom 2,.int .i32),(.atom 3,.int .i32),(.atom 4,.int .i64)]) (fs:=[]) (xs:=[S,.int .i32 a,.int .i32 b,.int .i32 c,.int .i64 (ms.length:Int)]) (ws:=[]) (env:=[(0,.nd 0 .one),(1,.agg (nds 1 K3)),(2,.fn 77 [] [])]) ?_ ?_ qU qM ?_
 ·refine qV ?_ .nil _ .nil trivial ?_
  ·exact .cons rfl (zT hS) (.cons rfl ⟨_,rfl⟩ (.cons rfl ⟨_,rfl⟩ (.cons rfl ⟨_,rfl⟩ (.cons rfl ⟨_,rfl⟩ .nil))))
  ·exact .cons ⟨_,_,dNd rfl (zT hS),dNd rfl ⟨_,rfl⟩,yS hS⟩ .nil
 ·exact zC rfl rfl (zT hS) (vL (show D _ _ _ (.agg (plc a b c)) from hY (by repeat (first | exact qY | refine qA (dNd rfl ⟨_,rfl⟩) ?_ | refine qA (dNd rfl ⟨_,rfl,by assumption⟩) ?_ | refine qA (dNd rfl am) ?_))) (qJF rfl zK))
 refine zA kr fun vs ls H1 E1 st hE=>?_
 have a0:E1 0=S:=qP st.inn hE 0 kr
 have a2:E1 2=.func 77 [] []:=qP st.inn hE 2 kr
 have a8:E1 8=.int .i64 (ms.length:Int):=qP st.inn hE 8 kr
 have a9:E1 9=.int .i64 ((0:Nat):Int):=qP st.inn hE 9 kr
 have a10:E1 10=.int .i64 (ms.length:Int):=qP st.inn hE 10 kr
 obtain⟨p,a4,r4,_⟩:=pO st hE 4 0 [.int .i32 a,.int .i32 b,.int .i32 c]
 have g1:Grew H H1:=(gk st)
 refine yH kr (fun m E2 H2=>∃ i j:Nat,m+i=j/\j<=ms.length/\zU E2 [(0,S),(2,.func 77 [] []),(4,.ptr p 0),(8,.int .i64 (ms.length:Int))]/\E2 9=.int .i64 (i:Int)/\E2 10=.int .i64 (j:Int)/\Grew H1 H2 /\
  (∀ t,t < i->qAl (ms.getD t []) (plc a b c) < 0)/\(∀ t,j<=t->t < ms.length -> ¬ qAl (ms.getD t []) (plc a b c) < 0)) ms.length
  ⟨0,ms.length,rfl,Nat.le_refl _,.cons a0 (.cons a2 (.cons a4 (.cons a8 .nil))),a9,a10,Grew.refl H1,fun t ht=>by omega,fun t h1 h2=>by omega⟩ ?_
 rintro m E2 H2 ⟨i,j,hm,hj,hs,h9,h10,hg2,hlo,hhi⟩
 have b0:=hs.head
 have b2:=hs.tail.head
 have b4:=hs.tail.tail.head
 have b8:=hs.tail.tail.tail.head
 have hso:=zT hS
 have r4':=hg2.at r4
 have gH2:=g1.trans hg2
 rcases Nat.lt_or_ge i j with hlt | hge
 ·obtain⟨h,hh⟩:∃ h:Nat,h=(i+j) / 2:=⟨_,rfl⟩
  have hhl:h < ms.length:=by omega
  have hW:IntKind.i64.wrap ((IntKind.u64.wrap (IntKind.i64.wrap ((i:Int)+(j:Int)))).fdiv (2^(min (1:Int).toNat IntKind.u64.bits)))=(h:Int):=by
   rw [wrap_i64 (n:=(i:Int)+(j:Int)) om om,qGw om om]
   show IntKind.i64.wrap (((i:Int)+(j:Int)).fdiv 2)=_
   rw [Int.fdiv_eq_ediv_of_nonneg _ om,wrap_i64 om om]
   omega
  cases hS with
  | nil h=>rw [h] at hj;simp at hj;omega
  | @sl ls0 n cap rest wr2 hgS hn hc =>
   have hgS2:=gH2.at hgS
   subst hn
   have hD:ms.getD h []=ms[h]:=by simp [List.getD_eq_getElem?_getD,hhl]
   have hkm:=hr.get hhl
   obtain⟨v0,v1,v2,v3,v4,v5,v6,v7,v8,hm',o3,o4,o5,o6⟩:=zZ hkm
   refine zL (φ:=φ0) (pm:=pmR 2 [(.ia 9 (.nd 0 .one) (.nd 20 (.int .i64)),.ptr 0 0),(.call 77 [.agg (nds 6 KM),.agg (nds 3 K3)],.nd 15 (.int .i64))] 0) 20
    (nk:=[(.atom 0,.one),(.atom 1,.int .i64),(.atom 2,.int .i64),(.atom 3,.int .i32),(.atom 4,.int .i32),(.atom 5,.int .i32)] ++ ([(.atom 6,.int .i32),(.atom 7,.int .i32),(.atom 8,.int .i32),(.atom 9,.flt .f32),(.atom 10,.flt .f32),(.atom 11,.flt .f32),(.atom 12,.flt .f32),(.atom 13,.int .i64),(.atom 14,.int .i64)] ++ [(.atom 15,.int .i64),(.bin .lss (.nd 1 (.int .i64)) (.nd 2 (.int .i64)),.bool),(.bin .add (.nd 1 (.int .i64)) (.nd 2 (.int .i64)),.int .i64),(.conv (.ii .u64) (.nd 17 (.int .i64)),.int .u64),(.bin .shr (.nd 18 (.int .u64)) (.lit (.int .u64 1)),.int .u64),(.conv (.ii .i64) (.nd 19 (.int .u64)),.int .i64),(.atom 21,.int .i64)])) (fs:=[(16,true)])
    (xs:=[.slice ls0 0 ms.length cap 9,.int .i64 (i:Int),.int .i64 (j:Int),.int .i32 a,.int .i32 b,.int .i32 c,.int .i32 v0,.int .i32 v1,.int .i32 v2,.flt .f32 v3,.flt .f32 v4,.flt .f32 v5,.flt .f32 v6,.int .i64 v7,.int .i64 v8,.int .i64 (qAl ms[h] (plc a b c)),.bool true,.int .i64 ((i+j:Nat):Int),.int .u64 ((i+j:Nat):Int),.int .u64 (h:Int),.int .i64 (h:Int),.int .i64 (ms.length:Int)])
    (ws:=[⟨ls0,h * 9,nds 6 KM,false⟩,⟨p,0,nds 3 K3,false⟩]) (env:=[(0,.nd 0 .one),(2,.fn 77 [] []),(4,.ptr 1 0),(8,.nd 21 (.int .i64)),(9,.nd 1 (.int .i64)),(10,.nd 2 (.int .i64))]) ?_ ?_ qU qM ?_
   ·refine qV ?_ ?_ _ ?_ ?_ ?_
    ·refine .cons rfl rfl (.cons rfl ⟨_,rfl⟩ ?_)
     (repeat (first | exact .nil | refine .cons rfl ⟨_,rfl⟩ ?_ | refine .cons rfl ⟨_,rfl,by assumption⟩ ?_ | refine .cons rfl am ?_))
     refine .cons ⟨_,_,dNd rfl ⟨_,rfl⟩,dNd rfl ⟨_,rfl⟩,?_⟩ ⟨_,rfl⟩ ?_
     ·show some (AV.bool (decide ((i:Int) < (j:Int))))=_
      rw [decide_eq_true om]
     refine .cons ⟨_,_,dNd rfl ⟨_,rfl⟩,dNd rfl ⟨_,rfl⟩,?_⟩ ⟨_,rfl⟩ ?_
     ·show some (AV.int .i64 (IntKind.i64.wrap ((i:Int)+(j:Int))))=_
      rw [wrap_i64 om om];simp
     refine .cons ⟨_,dNd rfl ⟨_,rfl⟩,?_⟩ ⟨_,rfl⟩ ?_
     ·show some (AV.int .u64 (IntKind.u64.wrap ((i+j:Nat):Int)))=_
      rw [qGw om om]
     refine .cons ⟨_,_,dNd rfl ⟨_,rfl⟩,qFx rfl,?_⟩ ⟨_,rfl⟩ ?_
     ·show some (AV.int .u64 (((i+j:Nat):Int).fdiv 2))=_
      rw [hh,Int.fdiv_eq_ediv_of_nonneg _ om];rfl
     refine .cons ⟨_,dNd rfl ⟨_,rfl⟩,?_⟩ ⟨_,rfl⟩ ?_
     ·show some (AV.int .i64 (IntKind.i64.wrap (h:Int)))=_
      rw [wrap_i64 om om]
     exact .cons rfl ⟨_,rfl⟩ .nil
    ·exact .cons rfl .nil
    ·exact .cons (zV hr hgS2 hhl rfl (by rw [hm'];exact(by repeat (first | exact qY | refine qA (dNd rfl ⟨_,rfl⟩) ?_ | refine qA (dNd rfl ⟨_,rfl,by assumption⟩) ?_ | refine qA (dNd rfl am) ?_)))) (.cons (vU r4' (by repeat (first | exact qY | refine qA (dNd rfl ⟨_,rfl⟩) ?_ | refine qA (dNd rfl ⟨_,rfl,by assumption⟩) ?_ | refine qA (dNd rfl am) ?_))) .nil)
    ·exact⟨fun v hv h=>(by simp at hv;subst hv;simp at h),⟨fun v hv=>(by cases hv),trivial⟩⟩
    ·exact .cons (zX (k:=h) (dNd rfl rfl) (dNd rfl ⟨_,rfl⟩) om rfl) (.cons (qH (args:=[.agg ms[h],.agg (plc a b c)]) (qA (hY (by rw [hm'];exact(by repeat (first | exact qY | refine qA (dNd rfl ⟨_,rfl⟩) ?_ | refine qA (dNd rfl ⟨_,rfl,by assumption⟩) ?_ | refine qA (dNd rfl am) ?_)))) (qA (hY (by repeat (first | exact qY | refine qA (dNd rfl ⟨_,rfl⟩) ?_ | refine qA (dNd rfl ⟨_,rfl,by assumption⟩) ?_ | refine qA (dNd rfl am) ?_))) qY)) (dNd rfl ⟨_,rfl⟩) (fun H3 _=>qHJ ms[h] hkm a b c H3)) .nil)
   ·exact zC b0 rfl rfl (qJF b2 (wQ (l:=p) (o:=0) b4 rfl rfl (zC b8 rfl ⟨_,rfl⟩ (zC h9 rfl ⟨_,rfl⟩ (zC h10 rfl ⟨_,rfl⟩ zK)))))
   ·refine dB kr ?_ ?_
    ·intro vs ls H4 E4 st hE
     have f1:decide (qAl ms[h] (plc a b c) < 0)=true:=bf st 0
     have d0:E4 0=.slice ls0 0 ms.length cap 9:=qP st.inn hE 0 kr
     have d2:E4 2=.func 77 [] []:=qP st.inn hE 2 kr
     have d4:E4 4=.ptr p 0:=qP st.inn hE 4 kr
     have d8:E4 8=.int .i64 (ms.length:Int):=qP st.inn hE 8 kr
     have d9:E4 9=.int .i64 (IntKind.i64.wrap (IntKind.i64.wrap ((IntKind.u64.wrap (IntKind.i64.wrap ((i:Int)+(j:Int)))).fdiv (2^(min (1:Int).toNat IntKind.u64.bits)))+1)):=qP st.inn hE 9 kr
     have d10:E4 10=.int .i64 (j:Int):=qP st.inn hE 10 kr
     rw [hW,wrap64 om] at d9
     have g4:Grew H1 H4:=hg2.trans (gk st)
     refine jA (e:=.normal) kr ?_
     refine⟨j - (h+1),by omega,h+1,j,by omega,hj,.cons d0 (.cons d2 (.cons d4 (.cons d8 .nil))),d9,d10,g4,?_,hhi⟩
     intro t ht
     exact qHo hr hsort hhl (by rw [hD];exact of_decide_eq_true f1) (h - t) t om
    ·intro vs ls H4 E4 st hE
     have f1:decide (qAl ms[h] (plc a b c) < 0)=false:=bf st 0
     have d0:E4 0=.slice ls0 0 ms.length cap 9:=qP st.inn hE 0 kr
     have d2:E4 2=.func 77 [] []:=qP st.inn hE 2 kr
     have d4:E4 4=.ptr p 0:=qP st.inn hE 4 kr
     have d8:E4 8=.int .i64 (ms.length:Int):=qP st.inn hE 8 kr
     have d9:E4 9=.int .i64 (i:Int):=qP st.inn hE 9 kr
     have d10:E4 10=.int .i64 (IntKind.i64.wrap ((IntKind.u64.wrap (IntKind.i64.wrap ((i:Int)+(j:Int)))).fdiv (2^(min (1:Int).toNat IntKind.u64.bits)))):=qP st.inn hE 10 kr
     rw [hW] at d10
     have g4:Grew H1 H4:=hg2.trans (gk st)
     refine jA (e:=.normal) kr ?_
     refine⟨h - i,by omega,i,h,by omega,by omega,.cons d0 (.cons d2 (.cons d4 (.cons d8 .nil))),d9,d10,g4,hlo,?_⟩
     intro t ht hl
     exact qNH hr hsort ht hl (by rw [hD];exact of_decide_eq_false f1)
 ·obtain rfl:i=j:=by omega
  have hlin:lin ms a b c=i:=qHM hj hlo (fun hi=>hhi i (Nat.le_refl _) hi)
  refine zL (φ:=φ0) (pm:=pmR 1 [] 0) 20 (nk:=[(.atom 0,.one),(.atom 1,.int .i64),(.atom 2,.int .i64),(.atom 3,.int .i32),(.atom 4,.int .i32),(.atom 5,.int .i32)]) (fs:=[]) (xs:=[S,.int .i64 (i:Int),.int .i64 (ms.length:Int),.int .i32 a,.int .i32 b,.int .i32 c])
   (ws:=[⟨p,0,nds 3 K3,false⟩]) (env:=[(0,.nd 0 .one),(2,.fn 77 [] []),(4,.ptr 0 0),(8,.nd 2 (.int .i64)),(9,.nd 1 (.int .i64)),(10,.nd 1 (.int .i64))]) ?_ ?_ qU qM ?_
  ·refine qV ?_ .nil _ ?_ ⟨fun v hv=>(by cases hv),trivial⟩ .nil
   ·exact .cons rfl hso (.cons rfl ⟨_,rfl⟩ (.cons rfl ⟨_,rfl⟩ (.cons rfl ⟨_,rfl⟩ (.cons rfl ⟨_,rfl⟩ (.cons rfl ⟨_,rfl⟩ .nil)))))
   ·exact .cons (vU r4' (by repeat (first | exact qY | refine qA (dNd rfl ⟨_,rfl⟩) ?_ | refine qA (dNd rfl ⟨_,rfl,by assumption⟩) ?_ | refine qA (dNd rfl am) ?_))) .nil
  ·exact zC b0 rfl hso (qJF b2 (wQ (l:=p) (o:=0) b4 rfl rfl (zC b8 rfl ⟨_,rfl⟩ (zC h9 rfl ⟨_,rfl⟩ (zC h10 rfl ⟨_,rfl⟩ zK)))))
  refine zA kr fun vs ls H4 E4 st hE=>?_
  have d0:E4 0=S:=qP st.inn hE 0 kr
  have d2:E4 2=.func 77 [] []:=qP st.inn hE 2 kr
  have d4:E4 4=.ptr p 0:=qP st.inn hE 4 kr
  have d8:E4 8=.int .i64 (ms.length:Int):=qP st.inn hE 8 kr
  have d9:E4 9=.int .i64 (i:Int):=qP st.inn hE 9 kr
  have g4:Grew H2 H4:=(gk st)
  have gH4:=gH2.trans g4
  have r4:=g4.at r4'
  refine xL (id:=0) kr ?_
  rcases Nat.lt_or_ge i ms.length with hlt | hge2
  ·have hD:ms.getD i []=ms[i]:=by simp [List.getD_eq_getElem?_getD,hlt]
   have hf:fnd ms a b c=decide (qAl ms[i] (plc a b c)=0):=by
    simp only [fnd,hlin,hD,decide_eq_true hlt,Bool.true_and]
   rw [hlin,hf]
   cases hS with
   | nil h=>rw [h] at hlt;simp at hlt
   | @sl ls0 n cap rest wr2 hgS hn hc =>
    have hgS2:=gH4.at hgS
    subst hn
    have hkm:=hr.get hlt
    obtain⟨v0,v1,v2,v3,v4,v5,v6,v7,v8,hm',o3,o4,o5,o6⟩:=zZ hkm
    refine zL (φ:=φ0) (pm:=pmR 2 [(.ia 9 (.nd 0 .one) (.nd 1 (.int .i64)),.ptr 0 0),(.call 77 [.agg (nds 6 KM),.agg (nds 3 K3)],.nd 15 (.int .i64))] 0) 20
     (nk:=[(.atom 0,.one),(.atom 1,.int .i64),(.atom 2,.int .i64),(.atom 3,.int .i32),(.atom 4,.int .i32),(.atom 5,.int .i32)] ++ ([(.atom 6,.int .i32),(.atom 7,.int .i32),(.atom 8,.int .i32),(.atom 9,.flt .f32),(.atom 10,.flt .f32),(.atom 11,.flt .f32),(.atom 12,.flt .f32),(.atom 13,.int .i64),(.atom 14,.int .i64)] ++ [(.atom 15,.int .i64),(.bin .lss (.nd 1 (.int .i64)) (.nd 2 (.int .i64)),.bool)])) (fs:=[(16,true)])
     (xs:=[.slice ls0 0 ms.length cap 9,.int .i64 (i:Int),.int .i64 (ms.length:Int),.int .i32 a,.int .i32 b,.int .i32 c,.int .i32 v0,.int .i32 v1,.int .i32 v2,.flt .f32 v3,.flt .f32 v4,.flt .f32 v5,.flt .f32 v6,.int .i64 v7,.int .i64 v8,.int .i64 (qAl ms[i] (plc a b c)),.bool true])
     (ws:=[⟨ls0,i * 9,nds 6 KM,false⟩,⟨p,0,nds 3 K3,false⟩]) (env:=[(0,.nd 0 .one),(2,.fn 77 [] []),(4,.ptr 1 0),(8,.nd 2 (.int .i64)),(9,.nd 1 (.int .i64))]) ?_ ?_ qU qM ?_
    ·refine qV ?_ ?_ _ ?_ ?_ ?_
     ·refine .cons rfl rfl (.cons rfl ⟨_,rfl⟩ ?_)
      (repeat (first | exact .nil | refine .cons rfl ⟨_,rfl⟩ ?_ | refine .cons rfl ⟨_,rfl,by assumption⟩ ?_ | refine .cons rfl am ?_))
      refine .cons ⟨_,_,dNd rfl ⟨_,rfl⟩,dNd rfl ⟨_,rfl⟩,?_⟩ ⟨_,rfl⟩ .nil
      show some (AV.bool (decide ((i:Int) < (ms.length:Int))))=_
      rw [decide_eq_true om]
     ·exact .cons rfl .nil
     ·exact .cons (zV hr hgS2 hlt rfl (by rw [hm'];exact(by repeat (first | exact qY | refine qA (dNd rfl ⟨_,rfl⟩) ?_ | refine qA (dNd rfl ⟨_,rfl,by assumption⟩) ?_ | refine qA (dNd rfl am) ?_)))) (.cons (vU r4 (by repeat (first | exact qY | refine qA (dNd rfl ⟨_,rfl⟩) ?_ | refine qA (dNd rfl ⟨_,rfl,by assumption⟩) ?_ | refine qA (dNd rfl am) ?_))) .nil)
     ·exact⟨fun v hv h=>(by simp at hv;subst hv;simp at h),⟨fun v hv=>(by cases hv),trivial⟩⟩
     ·exact .cons (zX (k:=i) (dNd rfl rfl) (dNd rfl ⟨_,rfl⟩) om rfl) (.cons (qH (args:=[.agg ms[i],.agg (plc a b c)]) (qA (hY (by rw [hm'];exact(by repeat (first | exact qY | refine qA (dNd rfl ⟨_,rfl⟩) ?_ | refine qA (dNd rfl ⟨_,rfl,by assumption⟩) ?_ | refine qA (dNd rfl am) ?_)))) (qA (hY (by repeat (first | exact qY | refine qA (dNd rfl ⟨_,rfl⟩) ?_ | refine qA (dNd rfl ⟨_,rfl,by assumption⟩) ?_ | refine qA (dNd rfl am) ?_))) qY)) (dNd rfl ⟨_,rfl⟩) (fun H3 _=>qHJ ms[i] hkm a b c H3)) .nil)
    ·exact zC d0 rfl rfl (qJF d2 (wQ (l:=p) (o:=0) d4 rfl rfl (zC d8 rfl ⟨_,rfl⟩ (zC d9 rfl ⟨_,rfl⟩ zK))))
    ·refine zA kr fun vs ls H5 E5 st hE=>?_
     exact jA kr (xK st.inn hE (.inr rfl) (a:=.tuple [.int .i64 (i:Int),.bool (decide (qAl ms[i] (plc a b c)=0))]) kr (gH4.trans (gk st)) rfl ⟨rfl,rfl⟩)
  ·obtain rfl:i=ms.length:=by omega
   have hf:fnd ms a b c=false:=by simp [fnd,hlin]
   rw [hlin,hf]
   refine zL (φ:=φ0) (pm:=pmR 1 [] 0) 20 (nk:=[(.atom 0,.one),(.atom 1,.int .i64),(.atom 2,.int .i32),(.atom 3,.int .i32),(.atom 4,.int .i32)]) (fs:=[]) (xs:=[S,.int .i64 (ms.length:Int),.int .i32 a,.int .i32 b,.int .i32 c])
    (ws:=[⟨p,0,nds 2 K3,false⟩]) (env:=[(0,.nd 0 .one),(2,.fn 77 [] []),(4,.ptr 0 0),(8,.nd 1 (.int .i64)),(9,.nd 1 (.int .i64))]) ?_ ?_ qU qM ?_
   ·refine qV ?_ .nil _ ?_ ⟨fun v hv=>(by cases hv),trivial⟩ .nil
    ·exact .cons rfl hso (.cons rfl ⟨_,rfl⟩ (.cons rfl ⟨_,rfl⟩ (.cons rfl ⟨_,rfl⟩ (.cons rfl ⟨_,rfl⟩ .nil))))
    ·exact .cons (vU r4 (by repeat (first | exact qY | refine qA (dNd rfl ⟨_,rfl⟩) ?_ | refine qA (dNd rfl ⟨_,rfl,by assumption⟩) ?_ | refine qA (dNd rfl am) ?_))) .nil
   ·exact zC d0 rfl hso (qJF d2 (wQ (l:=p) (o:=0) d4 rfl rfl (zC d8 rfl ⟨_,rfl⟩ (zC d9 rfl ⟨_,rfl⟩ zK))))
   ·refine zA kr fun vs ls H5 E5 st hE=>?_
    exact jA kr (xK st.inn hE (.inr rfl) (a:=.tuple [.int .i64 (ms.length:Int),.bool false]) kr (gH4.trans (gk st)) rfl ⟨rfl,rfl⟩)
theorem qPy {xs:List AV} {ls:LN} {ws:List SV} {vs:List AV} (t:DL xs ls ws vs):D xs ls (.tup ws) (.tuple vs):=by simp only [D];exact⟨vs,rfl,t⟩
theorem qOr (H:AHeap) (x:ON) (hx:fOk .f32 x) (ms:LL) (hr:xJ KM ms) (hsort:qBd ms) (S:AV) (hS:SlL H 9 ms S) (a b c:Int) (hmax:ms.length < 2^40):qR Try.prog 61 [.agg [.flt .f32 x,S],.agg (plc a b c)] H (.tuple [.int .i64 (lin ms a b c:Int),.bool (fnd ms a b c)]):=by
 have hk:∀ H3,Kept 0 [] H H3->qR Try.prog 76 [S,.agg (plc a b c),.func 77 [] []] H3 (.tuple [.int .i64 (lin ms a b c:Int),.bool (fnd ms a b c)]):=fun H3 hk=>qLF H3 ms hr hsort S (hS.grew (hk.grew (Nat.le_refl _))) a b c hmax
 generalize (lin ms a b c:Int)=u at hk ⊢
 generalize fnd ms a b c=v at hk ⊢
 refine qF bR (by simp) ?_
 refine zL (φ:=φ0) (pm:=pmR 0 [(.call 76 [.nd 1 .one,.agg (nds 2 K3),.fn 77 [] []],.tup [.nd 5 (.int .i64),.nd 6 .bool])] 0) 20 (nk:=[(.atom 0,.flt .f32),(.atom 1,.one),(.atom 2,.int .i32),(.atom 3,.int .i32),(.atom 4,.int .i32),(.atom 5,.int .i64),(.atom 6,.bool)]) (fs:=[]) (xs:=[.flt .f32 x,S,.int .i32 a,.int .i32 b,.int .i32 c,.int .i64 u,.bool v]) (ws:=[]) (env:=[(0,.agg [.nd 0 (.flt .f32),.nd 1 .one]),(1,.agg (nds 2 K3))]) ?_ ?_ qU qM ?_
 ·refine qV ?_ .nil _ .nil trivial ?_
  ·exact .cons rfl ⟨_,rfl,hx⟩ (.cons rfl (zT hS) (.cons rfl ⟨_,rfl⟩ (.cons rfl ⟨_,rfl⟩ (.cons rfl ⟨_,rfl⟩ (.cons rfl ⟨_,rfl⟩ (.cons rfl ⟨_,rfl⟩ .nil))))))
  ·exact .cons (qH (args:=[S,.agg (plc a b c),.func 77 [] []]) (qA (dNd rfl (zT hS)) (qA (hY (by repeat (first | exact qY | refine qA (dNd rfl ⟨_,rfl⟩) ?_ | refine qA (dNd rfl ⟨_,rfl,by assumption⟩) ?_ | refine qA (dNd rfl am) ?_))) (qA dFn qY))) (qPy (qA (dNd rfl ⟨_,rfl⟩) (qA (dNd rfl ⟨_,rfl⟩) qY))) hk) .nil
 ·exact vL (hY (qA (dNd rfl ⟨_,rfl,hx⟩) (qA (dNd rfl (zT hS)) qY))) (vL (show D _ _ _ (.agg (plc a b c)) from hY (by repeat (first | exact qY | refine qA (dNd rfl ⟨_,rfl⟩) ?_ | refine qA (dNd rfl ⟨_,rfl,by assumption⟩) ?_ | refine qA (dNd rfl am) ?_))) zK)
 refine zA kr fun vs ls H1 E1 st hE=>?_
 exact jA kr (xK st.inn hE (.inr rfl) (a:=.tuple [.int .i64 u,.bool v]) kr (gk st) rfl ⟨rfl,rfl⟩)
def qEc (q:Int):List AV:=[.int .i32 (IntKind.wrap .i32 q),.int .i32 (IntKind.wrap .i32 (q+1)),.int .i32 (IntKind.wrap .i32 ((q+1)+1)),.flt .f32 (some (floatOfInt .f32 (((q+1)+1)+1))),.flt .f32 (some (floatOfInt .f32 ((((q+1)+1)+1)+1))),.flt .f32 (some (floatOfInt .f32 (((((q+1)+1)+1)+1)+1))),.flt .f32 (some (floatOfInt .f32 ((((((q+1)+1)+1)+1)+1)+1))),.int .i64 (((((((q+1)+1)+1)+1)+1)+1)+1),.int .i64 ((((((((q+1)+1)+1)+1)+1)+1)+1)+1)]
def jS (q:Int) (n:Nat):LL:=(List.range n).map fun (i:Nat)=>qEc (q+9 * (i:Int))
theorem mE (q:Int) (n:Nat):(jS q n).length=n:=by simp [jS]
theorem qBU (q:Int) (n:Nat):xJ KM (jS q n):=by
 intro m hm
 simp only [jS,List.mem_map] at hm
 obtain⟨i,_,rfl⟩:=hm
 exact .cons kA (.cons kA (.cons kA (.cons ⟨_,rfl,vG _ _⟩ (.cons ⟨_,rfl,vG _ _⟩ (.cons ⟨_,rfl,vG _ _⟩ (.cons ⟨_,rfl,vG _ _⟩ (.cons kA (.cons kA .nil))))))))
theorem qGd (q:Int) (n:Nat):(jS q n).flatten.length=n * 9:=by
 have:=vH (qBU q n).len (i:=n) (by rw [mE];exact Nat.le_refl _)
 rwa [List.take_of_length_le (by rw [mE];exact Nat.le_refl _)] at this
theorem qGe (q:Int) (n:Nat):(jS q (n+1)).flatten=(jS q n).flatten ++ qEc (q+9 * (n:Int)):=by
 simp [jS,List.range_succ]
theorem qGZ (q:Int) {n i:Nat} (h:i < n):(jS q n).getD i []=qEc (q+9 * (i:Int)):=by
 simp [jS,List.getD_eq_getElem?_getD,h]
theorem qGV (H:AHeap) (ms:LL) (hr:xJ KM ms) (l cap:Nat) (rest:List AV) (hg:H.get l=some (.row (ms.flatten ++ rest) true)) (k:Int) (h0:0<=k) (h1:k<=1152921504606846976) (hmax:ms.length<=1048576):qJ Try.prog 40 [.slice l 0 ms.length cap 9,.int .i64 k] H fun r H'=>r=.int .i64 (k+9 * (ms.length:Int))/\Only l H H'/\H'.get l=some (.row ((jS k ms.length).flatten ++ rest) true):=by
 refine qF wK (by simp) ?_
 have row0:=hg
 have qq1:KdsL [.one,.int .i64] [.slice l 0 ms.length cap 9,.int .i64 k]:=.cons rfl (.cons kA .nil)
 refine rC 0 0 [] [(0,.nd 0 .one),(1,.nd 1 (.int .i64))] qq1 (.cons (t:=0) rfl (.cons (t:=1) rfl .nil)) ?_
 refine zA kr fun vs ls H1 E1 st hE=>?_
 have b2:=eo st hE 5 (.int .i64 0)
 have b3:=eo st hE 0 (.slice l 0 ms.length cap 9)
 have b4:=eo st hE 1 (.int .i64 k)
 have g5:Grew H H1:=(gk st)
 have g6:Only l H H1:=(Only.refl _ _).grew g5
 have r7:=g5.at hg
 refine yH kr (fun z E H'=>∃ i,z+i=ms.length/\E 0=.slice l 0 ms.length cap 9/\E 1=.int .i64 (k+9 * (i:Int))/\E 5=.int .i64 (i:Int)/\Only l H H'/\H'.get l=some (.row ((jS k i).flatten ++ ((ms.drop i).flatten ++ rest)) true)) ms.length
  ⟨0,by omega,b3,by simpa using b4,b2,g6,by simpa [jS] using r7⟩ ?_
 clear b3 b4 b2 r7
 rintro z E0 H0 ⟨i,hz,c0,c1,ci,gO,row⟩
 obtain⟨q,hq⟩:∃ q,q=k+9 * (i:Int):=⟨_,rfl⟩
 rw [<- hq] at c1
 rcases Nat.lt_or_ge i ms.length with hlt | hge
 ·obtain⟨v0,v1,v2,v3,v4,v5,v6,v7,v8,hm,o3,o4,o5,o6⟩:=zZ (hr.get hlt)
  have hqb:-4611686018427387904<=q/\q+9<=4611686018427387904:=by omega
  have e0:IntKind.i64.wrap (q+1)=(q+1):=wrap_i64 om om
  have e1:IntKind.i64.wrap ((q+1)+1)=((q+1)+1):=wrap_i64 om om
  have e2:IntKind.i64.wrap (((q+1)+1)+1)=(((q+1)+1)+1):=wrap_i64 om om
  have e3:IntKind.i64.wrap ((((q+1)+1)+1)+1)=((((q+1)+1)+1)+1):=wrap_i64 om om
  have e4:IntKind.i64.wrap (((((q+1)+1)+1)+1)+1)=(((((q+1)+1)+1)+1)+1):=wrap_i64 om om
  have e5:IntKind.i64.wrap ((((((q+1)+1)+1)+1)+1)+1)=((((((q+1)+1)+1)+1)+1)+1):=wrap_i64 om om
  have e6:IntKind.i64.wrap (((((((q+1)+1)+1)+1)+1)+1)+1)=(((((((q+1)+1)+1)+1)+1)+1)+1):=wrap_i64 om om
  have e7:IntKind.i64.wrap ((((((((q+1)+1)+1)+1)+1)+1)+1)+1)=((((((((q+1)+1)+1)+1)+1)+1)+1)+1):=wrap_i64 om om
  have e8:IntKind.i64.wrap (((((((((q+1)+1)+1)+1)+1)+1)+1)+1)+1)=(((((((((q+1)+1)+1)+1)+1)+1)+1)+1)+1):=wrap_i64 om om
  have hP:(jS k i).flatten.length=i * 9:=qGd k i
  have hd:(ms.drop i).flatten=ms[i] ++ (ms.drop (i+1)).flatten:=by rw [List.drop_eq_getElem_cons hlt,List.flatten_cons]
  rw [hd,hm,List.append_assoc] at row
  obtain⟨Q,hQ⟩:∃ Q,Q=(ms.drop (i+1)).flatten ++ rest:=⟨_,rfl⟩
  obtain⟨P,hPe⟩:∃ P,P=(jS k i).flatten:=⟨_,rfl⟩
  rw [<- hQ,<- hPe] at row
  rw [<- hPe] at hP
  have hn:i < ms.length:=hlt
  have hza:z - 1 < z:=by omega
  have hzb:z - 1+(i+1)=ms.length:=by omega
  have hni:(i:Int) < (ms.length:Int):=by omega
  have hiw:IntKind.i64.wrap ((i:Int)+1)=((i+1:Nat):Int):=wrap64 om
  have hqn:(((((((((q+1)+1)+1)+1)+1)+1)+1)+1)+1)=k+9 * ((i+1:Nat):Int):=by push_cast;omega
  have qq2:KdsL [.one,.int .i64,.int .i64,.int .i64,.int .i32,.int .i32,.int .i32,.flt .f32,.flt .f32,.flt .f32,.flt .f32,.int .i64,.int .i64] [.slice l 0 ms.length cap 9,.int .i64 q,.int .i64 (i:Int),.int .i64 (ms.length:Int),.int .i32 v0,.int .i32 v1,.int .i32 v2,.flt .f32 v3,.flt .f32 v4,.flt .f32 v5,.flt .f32 v6,.int .i64 v7,.int .i64 v8]:=.cons rfl (.cons kA (.cons kA (.cons kA (.cons kA (.cons kA (.cons kA (.cons (kF o3) (.cons (kF o4) (.cons (kF o5) (.cons (kF o6) (.cons kA (.cons kA .nil))))))))))))
  refine qL (φ:=φ0) (pm:=pmR 1 [(.len (.nd 0 .one),.nd 3 (.int .i64)),(.ia 9 (.nd 0 .one) (.nd 2 (.int .i64)),.ptr 0 0)] 10) 20 (ws:=[⟨l,(i * 9),[.nd 4 (.int .i32),.nd 5 (.int .i32),.nd 6 (.int .i32),.nd 7 (.flt .f32),.nd 8 (.flt .f32),.nd 9 (.flt .f32),.nd 10 (.flt .f32),.nd 11 (.int .i64),.nd 12 (.int .i64)],false⟩]) (env:=[(0,.nd 0 .one),(1,.nd 1 (.int .i64)),(5,.nd 2 (.int .i64))]) qq2 (.cons (jE row hP (dL qq2)) .nil) (qI rfl) (.cons (qZ (dNd rfl rfl) (dNd rfl ⟨_,rfl⟩)) (.cons (zX (k:=i) (dNd rfl rfl) (dNd rfl ⟨_,rfl⟩) hn rfl) .nil)) (eC qq2 (.cons c0 (.cons c1 (.cons ci .nil)))) qU qM ?_
  refine dB kr ?_ ?_
  ·intro vs ls H8 E8 st hE
   have f9:(i:Int) < (ms.length:Int):=dt st 0
   have b10:=eo st hE 25 (.ptr l ((i * 9)+0))
   obtain⟨w11,hw11⟩:∃ z,z=(IntKind.wrap .i32 q):=⟨_,rfl⟩
   have b12:E8 22=.int .i32 w11:=by rw [hw11];exact eo st hE 22 _
   have B1:=es st hE [(1,.int .i64 q),(6,.int .i64 0),(14,.int .i64 0),(15,.bool true),(0,.slice l 0 ms.length cap 9),(5,.int .i64 (i:Int)),(21,.int .i64 q),(18,.slice l 0 ms.length cap 9),(19,.int .i64 (i:Int)),(20,.int .i64 0)]
   have g25:Grew H0 H8:=(gk st)
   have g26:Only l H H8:=gO.grew g25
   have row28:=g25.at row
   refine jC (d:=none) (n:=1) (x:=.tmp 25) (y:=.tmp 22) kr (off:=0) (C':=[.int .i32 w11,.int .i32 v1,.int .i32 v2,.flt .f32 v3,.flt .f32 v4,.flt .f32 v5,.flt .f32 v6,.int .i64 v7,.int .i64 v8]) (vs:=[.int .i32 w11]) b10 row28 hP (by show AV.cells (E8 22)=_;rw [b12];rfl) rfl (by simp) rfl rfl ?_
   intro H29 row30 oH29
   have g31:=g26.trans oH29
   have qq3:KdsL [.one,.int .i64,.int .i64,.int .i64,.int .i32,.int .i32,.int .i32,.flt .f32,.flt .f32,.flt .f32,.flt .f32,.int .i64,.int .i64,.int .i32] [.slice l 0 ms.length cap 9,.int .i64 q,.int .i64 (i:Int),.int .i64 (ms.length:Int),.int .i32 v0,.int .i32 v1,.int .i32 v2,.flt .f32 v3,.flt .f32 v4,.flt .f32 v5,.flt .f32 v6,.int .i64 v7,.int .i64 v8,.int .i32 w11]:=.cons rfl (.cons kA (.cons kA (.cons kA (.cons kA (.cons kA (.cons kA (.cons (kF o3) (.cons (kF o4) (.cons (kF o5) (.cons (kF o6) (.cons kA (.cons kA (.cons kA .nil)))))))))))))
   refine qL (φ:=φ0) (pm:=pmR 1 [(.len (.nd 0 .one),.nd 3 (.int .i64)),(.ia 9 (.nd 0 .one) (.nd 2 (.int .i64)),.ptr 0 0)] 10) 20 (ws:=[⟨l,(i * 9),[.nd 13 (.int .i32),.nd 5 (.int .i32),.nd 6 (.int .i32),.nd 7 (.flt .f32),.nd 8 (.flt .f32),.nd 9 (.flt .f32),.nd 10 (.flt .f32),.nd 11 (.int .i64),.nd 12 (.int .i64)],false⟩]) (env:=[(1,.nd 1 (.int .i64)),(6,.lit (.int .i64 0)),(14,.lit (.int .i64 0)),(15,.lit (.bool true)),(0,.nd 0 .one),(5,.nd 2 (.int .i64)),(21,.nd 1 (.int .i64)),(18,.nd 0 .one),(19,.nd 2 (.int .i64)),(20,.lit (.int .i64 0)),(22,.nd 13 (.int .i32))]) qq3 (.cons (jE row30 hP (dL qq3)) .nil) (qI rfl) (.cons (qZ (dNd rfl rfl) (dNd rfl ⟨_,rfl⟩)) (.cons (zX (k:=i) (dNd rfl rfl) (dNd rfl ⟨_,rfl⟩) hn rfl) .nil)) (eC qq3 (sc (sn B1) (.cons (jK b12) .nil))) qU qM ?_
   refine zA kr fun vs ls H32 E32 st hE=>?_
   have b33:=eo st hE 25 (.ptr l ((i * 9)+1))
   obtain⟨w34,hw34⟩:∃ z,z=(IntKind.wrap .i32 (IntKind.wrap .i64 (q+1))):=⟨_,rfl⟩
   have b35:E32 22=.int .i32 w34:=by rw [hw34];exact eo st hE 22 _
   obtain⟨w36,hw36⟩:∃ z,z=(IntKind.wrap .i64 (q+1)):=⟨_,rfl⟩
   have nw36:w36=(q+1):=by rw [hw36];exact e0
   have b37:E32 1=.int .i64 w36:=by rw [hw36];exact eo st hE 1 _
   have b39:E32 27=.int .i64 w36:=by rw [hw36];exact eo st hE 27 _
   have b47:E32 21=.int .i64 w36:=by rw [hw36];exact eo st hE 21 _
   have B2:=es st hE [(26,.int .i64 q),(6,.int .i64 1),(16,.int .i64 0),(17,.int .i64 1),(14,.int .i64 1),(15,.bool true),(0,.slice l 0 ms.length cap 9),(5,.int .i64 (i:Int)),(18,.slice l 0 ms.length cap 9),(19,.int .i64 (i:Int)),(20,.int .i64 1)]
   have g53:Grew H29 H32:=(gk st)
   have g54:Only l H H32:=g31.grew g53
   have row56:=g53.at row30
   refine jC (d:=none) (n:=1) (x:=.tmp 25) (y:=.tmp 22) kr (off:=1) (C':=[.int .i32 w11,.int .i32 w34,.int .i32 v2,.flt .f32 v3,.flt .f32 v4,.flt .f32 v5,.flt .f32 v6,.int .i64 v7,.int .i64 v8]) (vs:=[.int .i32 w34]) b33 row56 hP (by show AV.cells (E32 22)=_;rw [b35];rfl) rfl (by simp) rfl rfl ?_
   intro H57 row58 oH57
   have g59:=g54.trans oH57
   have qq4:=qq3.app (kL:KdsL [.int .i32,.int .i64] [.int .i32 w34,.int .i64 w36])
   refine qL (φ:=φ0) (pm:=pmR 1 [(.len (.nd 0 .one),.nd 3 (.int .i64)),(.ia 9 (.nd 0 .one) (.nd 2 (.int .i64)),.ptr 0 0)] 10) 20 (ws:=[⟨l,(i * 9),[.nd 13 (.int .i32),.nd 14 (.int .i32),.nd 6 (.int .i32),.nd 7 (.flt .f32),.nd 8 (.flt .f32),.nd 9 (.flt .f32),.nd 10 (.flt .f32),.nd 11 (.int .i64),.nd 12 (.int .i64)],false⟩]) (env:=[(26,.nd 1 (.int .i64)),(6,.lit (.int .i64 1)),(16,.lit (.int .i64 0)),(17,.lit (.int .i64 1)),(14,.lit (.int .i64 1)),(15,.lit (.bool true)),(0,.nd 0 .one),(5,.nd 2 (.int .i64)),(18,.nd 0 .one),(19,.nd 2 (.int .i64)),(20,.lit (.int .i64 1)),(22,.nd 14 (.int .i32)),(1,.nd 15 (.int .i64)),(27,.nd 15 (.int .i64)),(21,.nd 15 (.int .i64))]) qq4 (.cons (jE row58 hP (dL qq4)) .nil) (qI rfl) (.cons (qZ (dNd rfl rfl) (dNd rfl ⟨_,rfl⟩)) (.cons (zX (k:=i) (dNd rfl rfl) (dNd rfl ⟨_,rfl⟩) hn rfl) .nil)) (eC qq4 (sc (sn B2) (.cons (jK b35) (.cons (jK b37) (.cons (jK b39) (.cons (jK b47) .nil)))))) qU qM ?_
   refine zA kr fun vs ls H60 E60 st hE=>?_
   have b61:=eo st hE 25 (.ptr l ((i * 9)+2))
   obtain⟨w62,hw62⟩:∃ z,z=(IntKind.wrap .i32 (IntKind.wrap .i64 (w36+1))):=⟨_,rfl⟩
   have b63:E60 22=.int .i32 w62:=by rw [hw62];exact eo st hE 22 _
   obtain⟨w64,hw64⟩:∃ z,z=(IntKind.wrap .i64 (w36+1)):=⟨_,rfl⟩
   have nw64:w64=((q+1)+1):=by rw [hw64,nw36];exact e1
   have b65:E60 1=.int .i64 w64:=by rw [hw64];exact eo st hE 1 _
   have b67:E60 27=.int .i64 w64:=by rw [hw64];exact eo st hE 27 _
   have b75:E60 21=.int .i64 w64:=by rw [hw64];exact eo st hE 21 _
   have B3:=es st hE [(26,.int .i64 w36),(6,.int .i64 2),(16,.int .i64 1),(17,.int .i64 2),(14,.int .i64 2),(15,.bool true),(0,.slice l 0 ms.length cap 9),(5,.int .i64 (i:Int)),(18,.slice l 0 ms.length cap 9),(19,.int .i64 (i:Int)),(20,.int .i64 2)]
   have g81:Grew H57 H60:=(gk st)
   have g82:Only l H H60:=g59.grew g81
   have row84:=g81.at row58
   refine jC (d:=none) (n:=1) (x:=.tmp 25) (y:=.tmp 22) kr (off:=2) (C':=[.int .i32 w11,.int .i32 w34,.int .i32 w62,.flt .f32 v3,.flt .f32 v4,.flt .f32 v5,.flt .f32 v6,.int .i64 v7,.int .i64 v8]) (vs:=[.int .i32 w62]) b61 row84 hP (by show AV.cells (E60 22)=_;rw [b63];rfl) rfl (by simp) rfl rfl ?_
   intro H85 row86 oH85
   have g87:=g82.trans oH85
   have qq5:=qq4.app (kL:KdsL [.int .i32,.int .i64] [.int .i32 w62,.int .i64 w64])
   refine qL (φ:=φ0) (pm:=pmR 1 [(.len (.nd 0 .one),.nd 3 (.int .i64)),(.ia 9 (.nd 0 .one) (.nd 2 (.int .i64)),.ptr 0 0)] 10) 20 (ws:=[⟨l,(i * 9),[.nd 13 (.int .i32),.nd 14 (.int .i32),.nd 16 (.int .i32),.nd 7 (.flt .f32),.nd 8 (.flt .f32),.nd 9 (.flt .f32),.nd 10 (.flt .f32),.nd 11 (.int .i64),.nd 12 (.int .i64)],false⟩]) (env:=[(26,.nd 15 (.int .i64)),(6,.lit (.int .i64 2)),(16,.lit (.int .i64 1)),(17,.lit (.int .i64 2)),(14,.lit (.int .i64 2)),(15,.lit (.bool true)),(0,.nd 0 .one),(5,.nd 2 (.int .i64)),(18,.nd 0 .one),(19,.nd 2 (.int .i64)),(20,.lit (.int .i64 2)),(22,.nd 16 (.int .i32)),(1,.nd 17 (.int .i64)),(27,.nd 17 (.int .i64)),(21,.nd 17 (.int .i64))]) qq5 (.cons (jE row86 hP (dL qq5)) .nil) (qI rfl) (.cons (qZ (dNd rfl rfl) (dNd rfl ⟨_,rfl⟩)) (.cons (zX (k:=i) (dNd rfl rfl) (dNd rfl ⟨_,rfl⟩) hn rfl) .nil)) (eC qq5 (sc (sn B3) (.cons (jK b63) (.cons (jK b65) (.cons (jK b67) (.cons (jK b75) .nil)))))) qU qM ?_
   refine zA kr fun vs ls H88 E88 st hE=>?_
   have b89:=eo st hE 39 (.ptr l ((i * 9)+3))
   obtain⟨w90,hw90⟩:∃ z,z=(some (floatOfInt .f32 (IntKind.wrap .i64 (w64+1)))):=⟨_,rfl⟩
   have b91:E88 36=.flt .f32 w90:=by rw [hw90];exact eo st hE 36 _
   obtain⟨w92,hw92⟩:∃ z,z=(IntKind.wrap .i64 (w64+1)):=⟨_,rfl⟩
   have nw92:w92=(((q+1)+1)+1):=by rw [hw92,nw64];exact e2
   have b93:E88 1=.int .i64 w92:=by rw [hw92];exact eo st hE 1 _
   have b99:E88 35=.int .i64 w92:=by rw [hw92];exact eo st hE 35 _
   have B4:=es st hE [(7,.int .i64 0),(28,.int .i64 0),(29,.bool true),(0,.slice l 0 ms.length cap 9),(5,.int .i64 (i:Int)),(32,.slice l 0 ms.length cap 9),(33,.int .i64 (i:Int)),(34,.int .i64 0)]
   have g105:Grew H85 H88:=(gk st)
   have g106:Only l H H88:=g87.grew g105
   have row108:=g105.at row86
   refine jC (d:=none) (n:=1) (x:=.tmp 39) (y:=.tmp 36) kr (off:=3) (C':=[.int .i32 w11,.int .i32 w34,.int .i32 w62,.flt .f32 w90,.flt .f32 v4,.flt .f32 v5,.flt .f32 v6,.int .i64 v7,.int .i64 v8]) (vs:=[.flt .f32 w90]) b89 row108 hP (by show AV.cells (E88 36)=_;rw [b91];rfl) rfl (by simp) rfl rfl ?_
   intro H109 row110 oH109
   have g111:=g106.trans oH109
   have qq6:=qq5.app (.cons ⟨_,rfl,hw90 ▸ vG _ _⟩ (.cons kA .nil):KdsL [.flt .f32,.int .i64] [.flt .f32 w90,.int .i64 w92])
   refine qL (φ:=φ0) (pm:=pmR 1 [(.len (.nd 0 .one),.nd 3 (.int .i64)),(.ia 9 (.nd 0 .one) (.nd 2 (.int .i64)),.ptr 0 0)] 10) 20 (ws:=[⟨l,(i * 9),[.nd 13 (.int .i32),.nd 14 (.int .i32),.nd 16 (.int .i32),.nd 18 (.flt .f32),.nd 8 (.flt .f32),.nd 9 (.flt .f32),.nd 10 (.flt .f32),.nd 11 (.int .i64),.nd 12 (.int .i64)],false⟩]) (env:=[(7,.lit (.int .i64 0)),(28,.lit (.int .i64 0)),(29,.lit (.bool true)),(0,.nd 0 .one),(5,.nd 2 (.int .i64)),(32,.nd 0 .one),(33,.nd 2 (.int .i64)),(34,.lit (.int .i64 0)),(36,.nd 18 (.flt .f32)),(1,.nd 19 (.int .i64)),(35,.nd 19 (.int .i64))]) qq6 (.cons (jE row110 hP (dL qq6)) .nil) (qI rfl) (.cons (qZ (dNd rfl rfl) (dNd rfl ⟨_,rfl⟩)) (.cons (zX (k:=i) (dNd rfl rfl) (dNd rfl ⟨_,rfl⟩) hn rfl) .nil)) (eC qq6 (sc (sn B4) (.cons (jK b91) (.cons (jK b93) (.cons (jK b99) .nil))))) qU qM ?_
   refine zA kr fun vs ls H112 E112 st hE=>?_
   have b113:=eo st hE 39 (.ptr l ((i * 9)+4))
   obtain⟨w114,hw114⟩:∃ z,z=(some (floatOfInt .f32 (IntKind.wrap .i64 (w92+1)))):=⟨_,rfl⟩
   have b115:E112 36=.flt .f32 w114:=by rw [hw114];exact eo st hE 36 _
   obtain⟨w116,hw116⟩:∃ z,z=(IntKind.wrap .i64 (w92+1)):=⟨_,rfl⟩
   have nw116:w116=((((q+1)+1)+1)+1):=by rw [hw116,nw92];exact e3
   have b117:E112 1=.int .i64 w116:=by rw [hw116];exact eo st hE 1 _
   have b119:E112 41=.int .i64 w116:=by rw [hw116];exact eo st hE 41 _
   have b127:E112 35=.int .i64 w116:=by rw [hw116];exact eo st hE 35 _
   have B5:=es st hE [(40,.int .i64 w92),(7,.int .i64 1),(30,.int .i64 0),(31,.int .i64 1),(28,.int .i64 1),(29,.bool true),(0,.slice l 0 ms.length cap 9),(5,.int .i64 (i:Int)),(32,.slice l 0 ms.length cap 9),(33,.int .i64 (i:Int)),(34,.int .i64 1)]
   have g133:Grew H109 H112:=(gk st)
   have g134:Only l H H112:=g111.grew g133
   have row136:=g133.at row110
   refine jC (d:=none) (n:=1) (x:=.tmp 39) (y:=.tmp 36) kr (off:=4) (C':=[.int .i32 w11,.int .i32 w34,.int .i32 w62,.flt .f32 w90,.flt .f32 w114,.flt .f32 v5,.flt .f32 v6,.int .i64 v7,.int .i64 v8]) (vs:=[.flt .f32 w114]) b113 row136 hP (by show AV.cells (E112 36)=_;rw [b115];rfl) rfl (by simp) rfl rfl ?_
   intro H137 row138 oH137
   have g139:=g134.trans oH137
   have qq7:=qq6.app (.cons ⟨_,rfl,hw114 ▸ vG _ _⟩ (.cons kA .nil):KdsL [.flt .f32,.int .i64] [.flt .f32 w114,.int .i64 w116])
   refine qL (φ:=φ0) (pm:=pmR 1 [(.len (.nd 0 .one),.nd 3 (.int .i64)),(.ia 9 (.nd 0 .one) (.nd 2 (.int .i64)),.ptr 0 0)] 10) 20 (ws:=[⟨l,(i * 9),[.nd 13 (.int .i32),.nd 14 (.int .i32),.nd 16 (.int .i32),.nd 18 (.flt .f32),.nd 20 (.flt .f32),.nd 9 (.flt .f32),.nd 10 (.flt .f32),.nd 11 (.int .i64),.nd 12 (.int .i64)],false⟩]) (env:=[(40,.nd 19 (.int .i64)),(7,.lit (.int .i64 1)),(30,.lit (.int .i64 0)),(31,.lit (.int .i64 1)),(28,.lit (.int .i64 1)),(29,.lit (.bool true)),(0,.nd 0 .one),(5,.nd 2 (.int .i64)),(32,.nd 0 .one),(33,.nd 2 (.int .i64)),(34,.lit (.int .i64 1)),(36,.nd 20 (.flt .f32)),(1,.nd 21 (.int .i64)),(41,.nd 21 (.int .i64)),(35,.nd 21 (.int .i64))]) qq7 (.cons (jE row138 hP (dL qq7)) .nil) (qI rfl) (.cons (qZ (dNd rfl rfl) (dNd rfl ⟨_,rfl⟩)) (.cons (zX (k:=i) (dNd rfl rfl) (dNd rfl ⟨_,rfl⟩) hn rfl) .nil)) (eC qq7 (sc (sn B5) (.cons (jK b115) (.cons (jK b117) (.cons (jK b119) (.cons (jK b127) .nil)))))) qU qM ?_
   refine zA kr fun vs ls H140 E140 st hE=>?_
   have b141:=eo st hE 39 (.ptr l ((i * 9)+5))
   obtain⟨w142,hw142⟩:∃ z,z=(some (floatOfInt .f32 (IntKind.wrap .i64 (w116+1)))):=⟨_,rfl⟩
   have b143:E140 36=.flt .f32 w142:=by rw [hw142];exact eo st hE 36 _
   obtain⟨w144,hw144⟩:∃ z,z=(IntKind.wrap .i64 (w116+1)):=⟨_,rfl⟩
   have nw144:w144=(((((q+1)+1)+1)+1)+1):=by rw [hw144,nw116];exact e4
   have b145:E140 1=.int .i64 w144:=by rw [hw144];exact eo st hE 1 _
   have b147:E140 41=.int .i64 w144:=by rw [hw144];exact eo st hE 41 _
   have b155:E140 35=.int .i64 w144:=by rw [hw144];exact eo st hE 35 _
   have B6:=es st hE [(40,.int .i64 w116),(7,.int .i64 2),(30,.int .i64 1),(31,.int .i64 2),(28,.int .i64 2),(29,.bool true),(0,.slice l 0 ms.length cap 9),(5,.int .i64 (i:Int)),(32,.slice l 0 ms.length cap 9),(33,.int .i64 (i:Int)),(34,.int .i64 2)]
   have g161:Grew H137 H140:=(gk st)
   have g162:Only l H H140:=g139.grew g161
   have row164:=g161.at row138
   refine jC (d:=none) (n:=1) (x:=.tmp 39) (y:=.tmp 36) kr (off:=5) (C':=[.int .i32 w11,.int .i32 w34,.int .i32 w62,.flt .f32 w90,.flt .f32 w114,.flt .f32 w142,.flt .f32 v6,.int .i64 v7,.int .i64 v8]) (vs:=[.flt .f32 w142]) b141 row164 hP (by show AV.cells (E140 36)=_;rw [b143];rfl) rfl (by simp) rfl rfl ?_
   intro H165 row166 oH165
   have g167:=g162.trans oH165
   have qq8:=qq7.app (.cons ⟨_,rfl,hw142 ▸ vG _ _⟩ (.cons kA .nil):KdsL [.flt .f32,.int .i64] [.flt .f32 w142,.int .i64 w144])
   refine qL (φ:=φ0) (pm:=pmR 1 [(.len (.nd 0 .one),.nd 3 (.int .i64)),(.ia 9 (.nd 0 .one) (.nd 2 (.int .i64)),.ptr 0 0)] 10) 20 (ws:=[⟨l,(i * 9),[.nd 13 (.int .i32),.nd 14 (.int .i32),.nd 16 (.int .i32),.nd 18 (.flt .f32),.nd 20 (.flt .f32),.nd 22 (.flt .f32),.nd 10 (.flt .f32),.nd 11 (.int .i64),.nd 12 (.int .i64)],false⟩]) (env:=[(40,.nd 21 (.int .i64)),(7,.lit (.int .i64 2)),(30,.lit (.int .i64 1)),(31,.lit (.int .i64 2)),(28,.lit (.int .i64 2)),(29,.lit (.bool true)),(0,.nd 0 .one),(5,.nd 2 (.int .i64)),(32,.nd 0 .one),(33,.nd 2 (.int .i64)),(34,.lit (.int .i64 2)),(36,.nd 22 (.flt .f32)),(1,.nd 23 (.int .i64)),(41,.nd 23 (.int .i64)),(35,.nd 23 (.int .i64))]) qq8 (.cons (jE row166 hP (dL qq8)) .nil) (qI rfl) (.cons (qZ (dNd rfl rfl) (dNd rfl ⟨_,rfl⟩)) (.cons (zX (k:=i) (dNd rfl rfl) (dNd rfl ⟨_,rfl⟩) hn rfl) .nil)) (eC qq8 (sc (sn B6) (.cons (jK b143) (.cons (jK b145) (.cons (jK b147) (.cons (jK b155) .nil)))))) qU qM ?_
   refine zA kr fun vs ls H168 E168 st hE=>?_
   have b169:=eo st hE 47 (.ptr l ((i * 9)+6))
   obtain⟨w170,hw170⟩:∃ z,z=(some (floatOfInt .f32 (IntKind.wrap .i64 (w144+1)))):=⟨_,rfl⟩
   have b171:E168 45=.flt .f32 w170:=by rw [hw170];exact eo st hE 45 _
   obtain⟨w172,hw172⟩:∃ z,z=(IntKind.wrap .i64 (w144+1)):=⟨_,rfl⟩
   have nw172:w172=((((((q+1)+1)+1)+1)+1)+1):=by rw [hw172,nw144];exact e5
   have b173:E168 1=.int .i64 w172:=by rw [hw172];exact eo st hE 1 _
   have B7:=es st hE [(0,.slice l 0 ms.length cap 9),(5,.int .i64 (i:Int))]
   have g176:Grew H165 H168:=(gk st)
   have g177:Only l H H168:=g167.grew g176
   have row179:=g176.at row166
   refine jC (d:=none) (n:=1) (x:=.tmp 47) (y:=.tmp 45) kr (off:=6) (C':=[.int .i32 w11,.int .i32 w34,.int .i32 w62,.flt .f32 w90,.flt .f32 w114,.flt .f32 w142,.flt .f32 w170,.int .i64 v7,.int .i64 v8]) (vs:=[.flt .f32 w170]) b169 row179 hP (by show AV.cells (E168 45)=_;rw [b171];rfl) rfl (by simp) rfl rfl ?_
   intro H180 row181 oH180
   have g182:=g177.trans oH180
   have qq9:=qq8.app (.cons ⟨_,rfl,hw170 ▸ vG _ _⟩ (.cons kA .nil):KdsL [.flt .f32,.int .i64] [.flt .f32 w170,.int .i64 w172])
   refine qL (φ:=φ0) (pm:=pmR 1 [(.len (.nd 0 .one),.nd 3 (.int .i64)),(.ia 9 (.nd 0 .one) (.nd 2 (.int .i64)),.ptr 0 0)] 10) 20 (ws:=[⟨l,(i * 9),[.nd 13 (.int .i32),.nd 14 (.int .i32),.nd 16 (.int .i32),.nd 18 (.flt .f32),.nd 20 (.flt .f32),.nd 22 (.flt .f32),.nd 24 (.flt .f32),.nd 11 (.int .i64),.nd 12 (.int .i64)],false⟩]) (env:=[(0,.nd 0 .one),(5,.nd 2 (.int .i64)),(45,.nd 24 (.flt .f32)),(1,.nd 25 (.int .i64))]) qq9 (.cons (jE row181 hP (dL qq9)) .nil) (qI rfl) (.cons (qZ (dNd rfl rfl) (dNd rfl ⟨_,rfl⟩)) (.cons (zX (k:=i) (dNd rfl rfl) (dNd rfl ⟨_,rfl⟩) hn rfl) .nil)) (eC qq9 (sc (sn B7) (.cons (jK b171) (.cons (jK b173) .nil)))) qU qM ?_
   refine zA kr fun vs ls H183 E183 st hE=>?_
   have b184:=eo st hE 54 (.ptr l ((i * 9)+7))
   obtain⟨w185,hw185⟩:∃ z,z=(IntKind.wrap .i64 (w172+1)):=⟨_,rfl⟩
   have nw185:w185=(((((((q+1)+1)+1)+1)+1)+1)+1):=by rw [hw185,nw172];exact e6
   have b186:E183 52=.int .i64 w185:=by rw [hw185];exact eo st hE 52 _
   have b187:E183 1=.int .i64 w185:=by rw [hw185];exact eo st hE 1 _
   have B8:=es st hE [(0,.slice l 0 ms.length cap 9),(5,.int .i64 (i:Int))]
   have g190:Grew H180 H183:=(gk st)
   have g191:Only l H H183:=g182.grew g190
   have row193:=g190.at row181
   refine jC (d:=none) (n:=1) (x:=.tmp 54) (y:=.tmp 52) kr (off:=7) (C':=[.int .i32 w11,.int .i32 w34,.int .i32 w62,.flt .f32 w90,.flt .f32 w114,.flt .f32 w142,.flt .f32 w170,.int .i64 w185,.int .i64 v8]) (vs:=[.int .i64 w185]) b184 row193 hP (by show AV.cells (E183 52)=_;rw [b186];rfl) rfl (by simp) rfl rfl ?_
   intro H194 row195 oH194
   have g196:=g191.trans oH194
   have qq10:=qq9.app (kL:KdsL [.int .i64] [.int .i64 w185])
   refine qL (φ:=φ0) (pm:=pmR 1 [(.len (.nd 0 .one),.nd 3 (.int .i64)),(.ia 9 (.nd 0 .one) (.nd 2 (.int .i64)),.ptr 0 0)] 10) 20 (ws:=[⟨l,(i * 9),[.nd 13 (.int .i32),.nd 14 (.int .i32),.nd 16 (.int .i32),.nd 18 (.flt .f32),.nd 20 (.flt .f32),.nd 22 (.flt .f32),.nd 24 (.flt .f32),.nd 26 (.int .i64),.nd 12 (.int .i64)],false⟩]) (env:=[(0,.nd 0 .one),(5,.nd 2 (.int .i64)),(52,.nd 26 (.int .i64)),(1,.nd 26 (.int .i64))]) qq10 (.cons (jE row195 hP (dL qq10)) .nil) (qI rfl) (.cons (qZ (dNd rfl rfl) (dNd rfl ⟨_,rfl⟩)) (.cons (zX (k:=i) (dNd rfl rfl) (dNd rfl ⟨_,rfl⟩) hn rfl) .nil)) (eC qq10 (sc (sn B8) (.cons (jK b186) (.cons (jK b187) .nil)))) qU qM ?_
   refine zA kr fun vs ls H197 E197 st hE=>?_
   have b198:=eo st hE 61 (.ptr l ((i * 9)+8))
   obtain⟨w199,hw199⟩:∃ z,z=(IntKind.wrap .i64 (w185+1)):=⟨_,rfl⟩
   have nw199:w199=((((((((q+1)+1)+1)+1)+1)+1)+1)+1):=by rw [hw199,nw185];exact e7
   have b200:E197 59=.int .i64 w199:=by rw [hw199];exact eo st hE 59 _
   have b201:E197 1=.int .i64 w199:=by rw [hw199];exact eo st hE 1 _
   have B9:=es st hE [(5,.int .i64 (i:Int)),(0,.slice l 0 ms.length cap 9)]
   have g204:Grew H194 H197:=(gk st)
   have g205:Only l H H197:=g196.grew g204
   have row207:=g204.at row195
   refine jC (d:=none) (n:=1) (x:=.tmp 61) (y:=.tmp 59) kr (off:=8) (C':=[.int .i32 w11,.int .i32 w34,.int .i32 w62,.flt .f32 w90,.flt .f32 w114,.flt .f32 w142,.flt .f32 w170,.int .i64 w185,.int .i64 w199]) (vs:=[.int .i64 w199]) b198 row207 hP (by show AV.cells (E197 59)=_;rw [b200];rfl) rfl (by simp) rfl rfl ?_
   intro H208 row209 oH208
   have g210:=g205.trans oH208
   have qq11:=qq10.app (kL:KdsL [.int .i64] [.int .i64 w199])
   refine qL (φ:=φ0) (pm:=pmR 1 [(.len (.nd 0 .one),.nd 3 (.int .i64)),(.ia 9 (.nd 0 .one) (.nd 2 (.int .i64)),.ptr 0 0)] 10) 20 (ws:=[⟨l,(i * 9),[.nd 13 (.int .i32),.nd 14 (.int .i32),.nd 16 (.int .i32),.nd 18 (.flt .f32),.nd 20 (.flt .f32),.nd 22 (.flt .f32),.nd 24 (.flt .f32),.nd 26 (.int .i64),.nd 27 (.int .i64)],false⟩]) (env:=[(5,.nd 2 (.int .i64)),(0,.nd 0 .one),(59,.nd 27 (.int .i64)),(1,.nd 27 (.int .i64))]) qq11 (.cons (jE row209 hP (dL qq11)) .nil) (qI rfl) (.cons (qZ (dNd rfl rfl) (dNd rfl ⟨_,rfl⟩)) (.cons (zX (k:=i) (dNd rfl rfl) (dNd rfl ⟨_,rfl⟩) hn rfl) .nil)) (eC qq11 (sc (sn B9) (.cons (jK b200) (.cons (jK b201) .nil)))) qU qM ?_
   refine zA kr fun vs ls H9 E9 st hE=>?_
   have g9:Grew H208 H9:=(gk st)
   have r9:=g9.at row209
   have c9:E9 1=.int .i64 (IntKind.wrap .i64 (w199+1)):=qP st.inn hE 1 kr
   have d9:E9 5=.int .i64 (IntKind.wrap .i64 ((i:Int)+1)):=qP st.inn hE 5 kr
   have z9:E9 0=.slice l 0 ms.length cap 9:=qP st.inn hE 0 kr
   refine jV kr ⟨z - 1,hza,i+1,hzb,z9,?_,?_,g210.grew g9,?_⟩
   ·rw [c9,nw199,e8,hqn]
   ·rw [d9,hiw]
   ·rw [r9,qGe,<- hPe,<- hQ,<- hq,show [.int .i32 w11,.int .i32 w34,.int .i32 w62,.flt .f32 w90,.flt .f32 w114,.flt .f32 w142,.flt .f32 w170,.int .i64 w185,.int .i64 w199]=qEc q from ?_,List.append_assoc]
    simp only [qEc,nw36,nw64,nw92,nw116,nw144,nw172,nw185,nw199,hw11,hw34,hw62,hw90,hw114,hw142,hw170,e0,e1,e2,e3,e4,e5,e6,e7,e8]
  ·intro vs ls H9 E9 st hE
   exact absurd hni (of_decide_eq_false (qCC (x:=decide ((i:Int) < (ms.length:Int))) st.inn 0 kr))
 ·obtain rfl:i=ms.length:=by omega
  have qq12:KdsL [.one,.int .i64,.int .i64] [.slice l 0 ms.length cap 9,.int .i64 q,.int .i64 (ms.length:Int)]:=.cons rfl (.cons kA (.cons kA .nil))
  refine rD 0 10 [(.len (.nd 0 .one),.nd 2 (.int .i64))] [] [(0,.nd 0 .one),(1,.nd 1 (.int .i64)),(5,.nd 2 (.int .i64))] qq12 (.cons (qZ (dNd rfl rfl) (dNd rfl ⟨_,rfl⟩)) .nil) (.cons c0 (.cons c1 (.cons ci .nil))) ?_
  refine zA kr fun vs ls H211 E211 st hE=>?_
  have b212:=eo st hE 1 (.int .i64 q)
  have g213:Grew H0 H211:=(gk st)
  have g214:Only l H H211:=gO.grew g213
  have re:=g213.at row
  refine xL (id:=0) kr ?_
  refine rC 0 10 [] [(1,.nd 1 (.int .i64))] qq12 (.cons b212 .nil) ?_
  refine zA kr fun vs ls H9 E9 st hE=>?_
  have g9:Grew H211 H9:=(gk st)
  refine jA kr (zJ st.inn hE (.inr rfl) (a:=.int .i64 q) kr (g214.grew g9).next ⟨by rw [hq],g214.grew g9,?_⟩)
  rw [g9.at re];simp
theorem qGS (H:AHeap) (k:Int) (n:Nat) (S:AV) (hS:SlL H 9 (jS k n) S) (h0:0<=k) (h1:k<=1152921504606846976) (hmax:n<=1048576):qR Try.prog 41 [S,.int .i64 k] H (.int .i64 (k+9 * (n:Int))):=by
 refine qF pC (by simp) ?_
 have qq1:KdsL [.one,.int .i64] [S,.int .i64 k]:=kL
 refine rC 0 0 [] [(0,.nd 0 .one),(1,.nd 1 (.int .i64))] qq1 (.cons (t:=0) rfl (.cons (t:=1) rfl .nil)) ?_
 refine zA kr fun vs ls H1 E1 st hE=>?_
 have b2:=eo st hE 5 (.int .i64 0)
 have b3:=eo st hE 0 S
 have b4:=eo st hE 1 (.int .i64 k)
 have g5:Grew H H1:=(gk st)
 have g6:Grew H H1:=Grew.trans (Grew.refl _) g5
 refine yH kr (fun z E H'=>∃ i,z+i=n/\E 0=S/\E 1=.int .i64 (k+9 * (i:Int))/\E 5=.int .i64 (i:Int)/\Grew H H') n
  ⟨0,by omega,b3,by simpa using b4,b2,g6⟩ ?_
 clear b3 b4 b2
 rintro z E0 H0 ⟨i,hz,c0,c1,ci,gO⟩
 obtain⟨q,hq⟩:∃ q,q=k+9 * (i:Int):=⟨_,rfl⟩
 rw [<- hq] at c1
 have hlen:=mE k n
 rcases Nat.lt_or_ge i n with hlt | hge
 ·have hqb:-4611686018427387904<=q/\q+9<=4611686018427387904:=by omega
  have e0:IntKind.i64.wrap (q+1)=(q+1):=wrap_i64 om om
  have e1:IntKind.i64.wrap ((q+1)+1)=((q+1)+1):=wrap_i64 om om
  have e2:IntKind.i64.wrap (((q+1)+1)+1)=(((q+1)+1)+1):=wrap_i64 om om
  have e3:IntKind.i64.wrap ((((q+1)+1)+1)+1)=((((q+1)+1)+1)+1):=wrap_i64 om om
  have e4:IntKind.i64.wrap (((((q+1)+1)+1)+1)+1)=(((((q+1)+1)+1)+1)+1):=wrap_i64 om om
  have e5:IntKind.i64.wrap ((((((q+1)+1)+1)+1)+1)+1)=((((((q+1)+1)+1)+1)+1)+1):=wrap_i64 om om
  have e6:IntKind.i64.wrap (((((((q+1)+1)+1)+1)+1)+1)+1)=(((((((q+1)+1)+1)+1)+1)+1)+1):=wrap_i64 om om
  have e7:IntKind.i64.wrap ((((((((q+1)+1)+1)+1)+1)+1)+1)+1)=((((((((q+1)+1)+1)+1)+1)+1)+1)+1):=wrap_i64 om om
  have e8:IntKind.i64.wrap (((((((((q+1)+1)+1)+1)+1)+1)+1)+1)+1)=(((((((((q+1)+1)+1)+1)+1)+1)+1)+1)+1):=wrap_i64 om om
  have hza:z - 1 < z:=by omega
  have hzb:z - 1+(i+1)=n:=by omega
  have hni:(i:Int) < (n:Int):=by omega
  have hiw:IntKind.i64.wrap ((i:Int)+1)=((i+1:Nat):Int):=wrap64 om
  have hqn:(((((((((q+1)+1)+1)+1)+1)+1)+1)+1)+1)=k+9 * ((i+1:Nat):Int):=by push_cast;omega
  have hlm:i < (jS k n).length:=by rw [hlen];exact hlt
  obtain⟨lS,cap,rest,wr,eS,gS0⟩:=hS.isSl hlm
  have gS:=gO.at gS0
  have hm:(jS k n)[i]=qEc q:=by rw [hq,<- qGZ k hlt];simp [List.getD_eq_getElem?_getD,hlm]
  have qq2:KdsL [.one,.int .i64,.int .i64,.int .i64,.int .i32,.int .i32,.int .i32,.flt .f32,.flt .f32,.flt .f32,.flt .f32,.int .i64,.int .i64] [S,.int .i64 q,.int .i64 (i:Int),.int .i64 (n:Int),.int .i32 (IntKind.wrap .i32 q),.int .i32 (IntKind.wrap .i32 (q+1)),.int .i32 (IntKind.wrap .i32 ((q+1)+1)),.flt .f32 (some (floatOfInt .f32 (((q+1)+1)+1))),.flt .f32 (some (floatOfInt .f32 ((((q+1)+1)+1)+1))),.flt .f32 (some (floatOfInt .f32 (((((q+1)+1)+1)+1)+1))),.flt .f32 (some (floatOfInt .f32 ((((((q+1)+1)+1)+1)+1)+1))),.int .i64 (((((((q+1)+1)+1)+1)+1)+1)+1),.int .i64 ((((((((q+1)+1)+1)+1)+1)+1)+1)+1)]:=.cons (zT hS) (.cons kA (.cons kA (.cons kA (.cons kA (.cons kA (.cons kA (.cons ⟨_,rfl,vG _ _⟩ (.cons ⟨_,rfl,vG _ _⟩ (.cons ⟨_,rfl,vG _ _⟩ (.cons ⟨_,rfl,vG _ _⟩ (.cons kA (.cons kA .nil))))))))))))
  refine qL (φ:=φ0) (pm:=pmR 1 [(.len (.nd 0 .one),.nd 3 (.int .i64)),(.ia 9 (.nd 0 .one) (.nd 2 (.int .i64)),.ptr 0 0)] 10) 20 (ws:=[⟨lS,(i * 9),[.nd 4 (.int .i32),.nd 5 (.int .i32),.nd 6 (.int .i32),.nd 7 (.flt .f32),.nd 8 (.flt .f32),.nd 9 (.flt .f32),.nd 10 (.flt .f32),.nd 11 (.int .i64),.nd 12 (.int .i64)],false⟩]) (env:=[(0,.nd 0 .one),(1,.nd 1 (.int .i64)),(5,.nd 2 (.int .i64))]) qq2 (.cons (zV (qBU k n) gS hlm rfl (by rw [hm];exact(dL qq2))) .nil) (qI rfl) (.cons (⟨_,_,dNd rfl (zT hS),dNd rfl ⟨_,rfl⟩,hlen ▸ yS hS⟩) (.cons (bA (k:=i) (dNd rfl (zT hS)) eS (dNd rfl ⟨_,rfl⟩) hlm rfl) .nil)) (eC qq2 (.cons c0 (.cons c1 (.cons ci .nil)))) qU qM ?_
  refine qPd kr ?_ ?_ ?_ ?_ ?_ ?_ ?_ ?_ ?_ ?_ ?_
  ·intro vs ls H9 E9 st hE
   exact absurd (show (IntKind.wrap .i32 q)=(IntKind.wrap .i32 q) by simp only [e0,e1,e2,e3,e4,e5,e6,e7,e8]) (of_decide_eq_false (qCC (x:=decide ((IntKind.wrap .i32 q)=(IntKind.wrap .i32 q))) st.inn 0 kr))
  ·intro vs ls H9 E9 st hE
   exact absurd (show (IntKind.wrap .i32 (q+1))=(IntKind.wrap .i32 (IntKind.wrap .i64 (q+1))) by simp only [e0,e1,e2,e3,e4,e5,e6,e7,e8]) (of_decide_eq_false (qCC (x:=decide ((IntKind.wrap .i32 (q+1))=(IntKind.wrap .i32 (IntKind.wrap .i64 (q+1))))) st.inn 0 kr))
  ·intro vs ls H9 E9 st hE
   exact absurd (show (IntKind.wrap .i32 ((q+1)+1))=(IntKind.wrap .i32 (IntKind.wrap .i64 ((IntKind.wrap .i64 (q+1))+1))) by simp only [e0,e1,e2,e3,e4,e5,e6,e7,e8]) (of_decide_eq_false (qCC (x:=decide ((IntKind.wrap .i32 ((q+1)+1))=(IntKind.wrap .i32 (IntKind.wrap .i64 ((IntKind.wrap .i64 (q+1))+1))))) st.inn 0 kr))
  ·intro vs ls H9 E9 st hE
   have f9:(qO .f32 (some (floatOfInt .f32 (((q+1)+1)+1))) (some (floatOfInt .f32 (IntKind.wrap .i64 ((IntKind.wrap .i64 ((IntKind.wrap .i64 (q+1))+1))+1)))) == some .eq)=false:=bf st 0
   simp only [e0,e1,e2,e3,e4,e5,e6,e7,e8] at f9
   rw [pY (vG _ _)] at f9;cases f9
  ·intro vs ls H9 E9 st hE
   have f9:(qO .f32 (some (floatOfInt .f32 ((((q+1)+1)+1)+1))) (some (floatOfInt .f32 (IntKind.wrap .i64 ((IntKind.wrap .i64 ((IntKind.wrap .i64 ((IntKind.wrap .i64 (q+1))+1))+1))+1)))) == some .eq)=false:=bf st 0
   simp only [e0,e1,e2,e3,e4,e5,e6,e7,e8] at f9
   rw [pY (vG _ _)] at f9;cases f9
  ·intro vs ls H9 E9 st hE
   have f9:(qO .f32 (some (floatOfInt .f32 (((((q+1)+1)+1)+1)+1))) (some (floatOfInt .f32 (IntKind.wrap .i64 ((IntKind.wrap .i64 ((IntKind.wrap .i64 ((IntKind.wrap .i64 ((IntKind.wrap .i64 (q+1))+1))+1))+1))+1)))) == some .eq)=false:=bf st 0
   simp only [e0,e1,e2,e3,e4,e5,e6,e7,e8] at f9
   rw [pY (vG _ _)] at f9;cases f9
  ·intro vs ls H9 E9 st hE
   have f9:(qO .f32 (some (floatOfInt .f32 ((((((q+1)+1)+1)+1)+1)+1))) (some (floatOfInt .f32 (IntKind.wrap .i64 ((IntKind.wrap .i64 ((IntKind.wrap .i64 ((IntKind.wrap .i64 ((IntKind.wrap .i64 ((IntKind.wrap .i64 (q+1))+1))+1))+1))+1))+1)))) == some .eq)=false:=bf st 0
   simp only [e0,e1,e2,e3,e4,e5,e6,e7,e8] at f9
   rw [pY (vG _ _)] at f9;cases f9
  ·intro vs ls H9 E9 st hE
   exact absurd (show (((((((q+1)+1)+1)+1)+1)+1)+1)=(IntKind.wrap .i64 ((IntKind.wrap .i64 ((IntKind.wrap .i64 ((IntKind.wrap .i64 ((IntKind.wrap .i64 ((IntKind.wrap .i64 ((IntKind.wrap .i64 (q+1))+1))+1))+1))+1))+1))+1)) by simp only [e0,e1,e2,e3,e4,e5,e6,e7,e8]) (of_decide_eq_false (qCC (x:=decide ((((((((q+1)+1)+1)+1)+1)+1)+1)=(IntKind.wrap .i64 ((IntKind.wrap .i64 ((IntKind.wrap .i64 ((IntKind.wrap .i64 ((IntKind.wrap .i64 ((IntKind.wrap .i64 ((IntKind.wrap .i64 (q+1))+1))+1))+1))+1))+1))+1)))) st.inn 0 kr))
  ·intro vs ls H9 E9 st hE
   exact absurd (show ((((((((q+1)+1)+1)+1)+1)+1)+1)+1)=(IntKind.wrap .i64 ((IntKind.wrap .i64 ((IntKind.wrap .i64 ((IntKind.wrap .i64 ((IntKind.wrap .i64 ((IntKind.wrap .i64 ((IntKind.wrap .i64 ((IntKind.wrap .i64 (q+1))+1))+1))+1))+1))+1))+1))+1)) by simp only [e0,e1,e2,e3,e4,e5,e6,e7,e8]) (of_decide_eq_false (qCC (x:=decide (((((((((q+1)+1)+1)+1)+1)+1)+1)+1)=(IntKind.wrap .i64 ((IntKind.wrap .i64 ((IntKind.wrap .i64 ((IntKind.wrap .i64 ((IntKind.wrap .i64 ((IntKind.wrap .i64 ((IntKind.wrap .i64 ((IntKind.wrap .i64 (q+1))+1))+1))+1))+1))+1))+1))+1)))) st.inn 0 kr))
  ·intro vs ls H9 E9 st hE
   have g9:Grew H0 H9:=(gk st)
   have z9:E9 0=S:=qP st.inn hE 0 kr
   have c9:E9 1=.int .i64 (IntKind.wrap .i64 ((IntKind.wrap .i64 ((IntKind.wrap .i64 ((IntKind.wrap .i64 ((IntKind.wrap .i64 ((IntKind.wrap .i64 ((IntKind.wrap .i64 ((IntKind.wrap .i64 ((IntKind.wrap .i64 (q+1))+1))+1))+1))+1))+1))+1))+1))+1)):=qP st.inn hE 1 kr
   have d9:E9 5=.int .i64 (IntKind.wrap .i64 ((i:Int)+1)):=qP st.inn hE 5 kr
   refine jV kr ⟨z - 1,hza,i+1,hzb,z9,?_,?_,gO.trans g9⟩
   ·rw [c9];simp only [e0,e1,e2,e3,e4,e5,e6,e7,e8];rw [hqn]
   ·rw [d9,hiw]
  ·intro vs ls H9 E9 st hE
   exact absurd hni (of_decide_eq_false (qCC (x:=decide ((i:Int) < (n:Int))) st.inn 0 kr))
 ·obtain rfl:i=n:=by omega
  have qq3:KdsL [.one,.int .i64,.int .i64] [S,.int .i64 q,.int .i64 (i:Int)]:=kL
  refine rD 0 10 [(.len (.nd 0 .one),.nd 2 (.int .i64))] [] [(0,.nd 0 .one),(1,.nd 1 (.int .i64)),(5,.nd 2 (.int .i64))] qq3 (.cons (⟨_,_,dNd rfl (zT hS),dNd rfl ⟨_,rfl⟩,hlen ▸ yS hS⟩) .nil) (.cons c0 (.cons c1 (.cons ci .nil))) ?_
  refine zA kr fun vs ls H7 E7 st hE=>?_
  have b8:=eo st hE 1 (.int .i64 q)
  have g9:Grew H0 H7:=(gk st)
  have g10:=Grew.trans gO g9
  refine xL (id:=0) kr ?_
  refine rC 0 10 [] [(1,.nd 1 (.int .i64))] qq3 (.cons b8 .nil) ?_
  refine zA kr fun vs ls H9 E9 st hE=>?_
  exact jA kr (xK st.inn hE (.inr rfl) (a:=.int .i64 q) kr (g10.trans (gk st)) rfl ⟨by rw [hq],rfl⟩)
theorem mM (H:AHeap) (x:ON) (hx:fOk .f32 x) (ms:LL) (hr:xJ KM ms) (S:AV) (hS:SlL H 9 ms S) (hmax:ms.length<=1048576):qJ Try.prog 9 [.agg [.flt .f32 x,S]] H fun r H'=>Grew H H' /\ ∃ S',r=.agg [.flt .f32 x,S']/\SlW H' 9 ms S'/\FreshS H.next S':=by
 refine(qGX H x hx ms hr S hS hmax).mono ?_
 rintro r H' ⟨g,l,hl,rfl,row⟩
 exact⟨g,_,rfl,.sl (rest:=[]) (by simpa using row) rfl (Nat.le_refl _),.of_le hl⟩
theorem qHr (H:AHeap) (ms:LL) (hr:xJ KM ms) (S:AV) (hS:SlW H 9 ms S) (k:Int) (h0:0<=k) (h1:k<=1152921504606846976) (hmax:ms.length<=1048576):qJ Try.prog 40 [S,.int .i64 k] H fun r H'=>r=.int .i64 (k+9 * (ms.length:Int))/\OnlyS S H H'/\SlW H' 9 (jS k ms.length) S:=by
 cases hS with
 | @sl l n cap rest hg hn hc =>
  subst hn
  refine(qGV H ms hr l cap rest hg k h0 h1 hmax).mono ?_
  rintro r H' ⟨rfl,ho,row⟩
  exact⟨rfl,.of_only ho,.sl row (mE _ _) hc⟩
 | nil h =>
  subst h
  refine qF wK (by simp) ?_
  have q1:KdsL [KI] [.int .i64 k]:=kL
  refine rC 0 2 [] [(0,lN),(1,nI 0)] q1 (.cons (t:=0) rfl (.cons (t:=1) rfl .nil)) ?_
  refine zA kr fun vs ls H9 E9 st hE=>?_
  have g9:Grew H H9:=(gk st)
  exact jA kr (zJ st.inn hE (.inr rfl) (a:=.int .i64 k) kr g9.next ⟨by simp,.of_grew g9,.nil rfl⟩)
theorem qBb (H:AHeap) (x:ON) (hx:fOk .f32 x) (ms:LL) (hr:xJ KM ms) (S:AV) (hS:SlW H 9 ms S) (k:Int) (h0:0<=k) (h1:k<=1152921504606846976) (hmax:ms.length<=1048576):qJ Try.prog 13 [.agg [.flt .f32 x,S],.int .i64 k] H fun r H'=>r=.int .i64 (k+9 * (ms.length:Int))/\OnlyS S H H'/\SlW H' 9 (jS k ms.length) S:=by
 refine qF dR (by simp) ?_
 have q1:KdsL [KF,.one,KI] [.flt .f32 x,S,.int .i64 k]:=kL
 refine rC 0 0 [] [(0,.agg [nF 0,n1 1]),(1,nI 2)] q1 (.cons (t:=0) rfl (.cons (t:=1) rfl .nil)) ?_
 refine zA kr fun vs ls H2 E2 st hE=>?_
 have b3:=eo st hE 6 S
 have b4:=eo st hE 7 (.int .i64 k)
 have B1:=es st hE [(6,S),(7,.int .i64 k),(1,.int .i64 k)]
 have g6:Grew H H2:=(gk st)
 have g7:Grew H H2:=Grew.trans (Grew.refl _) g6
 refine zB (d:=(some 8)) (f:=40) (args:=[.tmp 6,.tmp 7]) kr (R:=fun z H'=>z=.int .i64 (k+9 * (ms.length:Int))/\OnlyS S H2 H'/\SlW H' 9 (jS k ms.length) S) ?_ ?_
 ·show qJ _ _ [E2 6,E2 7] _ _
  rw [b3,b4]
  exact qHr H2 ms hr S (hS.grew g7) k h0 h1 hmax
 rintro z H8 ⟨rfl,oo,nn⟩
 have oz:OnlyS S H H8:=⟨Nat.le_trans g7.next oo.next,fun l hl hn=>(oo.get l (Nat.lt_of_lt_of_le hl g7.next) hn).trans (g7.get l hl)⟩
 have q9:=q1.app (kL:KdsL [KI] [.int .i64 (k+9 * (ms.length:Int))])
 refine rC 0 0 [] [(6,n1 1),(7,nI 2),(1,nI 2),(8,nI 3)] q9 (sc (sp B1) (.cons qB .nil)) ?_
 refine zA kr fun vs ls H10 E10 st hE=>?_
 have g9:Grew H8 H10:=(gk st)
 exact jA kr (zJ st.inn hE (.inr rfl) (a:=.int .i64 (k+9 * (ms.length:Int))) kr (Nat.le_trans oz.next g9.next) ⟨rfl,⟨Nat.le_trans oz.next g9.next,fun l hl hn=>(g9.get l (Nat.lt_of_lt_of_le hl oz.next)).trans (oz.get l hl hn)⟩,nn.grew g9⟩)
theorem qBa (H:AHeap) (x:ON) (hx:fOk .f32 x) (k:Int) (n:Nat) (S:AV) (hS:SlL H 9 (jS k n) S) (h0:0<=k) (h1:k<=1152921504606846976) (hmax:n<=1048576):qR Try.prog 14 [.agg [.flt .f32 x,S],.int .i64 k] H (.int .i64 (k+9 * (n:Int))):=by
 refine qF dQ (by simp) ?_
 have q1:KdsL [KF,.one,KI,KI] [.flt .f32 x,S,.int .i64 k,.int .i64 (k+9 * (n:Int))]:=kL
 refine rD 0 0 [(.call 41 [n1 1,nI 2],nI 3)] [] [(0,.agg [nF 0,n1 1]),(1,nI 2)] q1 (.cons (qH (args:=[S,.int .i64 k]) (dL q1) (dE q1) (fun H9 hk=>qGS H9 k n S (hS.grew (Grew.trans (Grew.refl _) (hk.grew (Nat.le_refl _)))) h0 h1 hmax)) .nil) (.cons (t:=0) rfl (.cons (t:=1) rfl .nil)) ?_
 refine dB kr ?_ ?_
 ·intro vs ls H2 E2 st hE
  have f3:(k+9 * (n:Int)) < 0:=dt st 0
  exact absurd f3 om
 ·intro vs ls H4 E4 st hE
  have f5:¬ ((k+9 * (n:Int)) < 0):=df st 0
  refine rf st hE (.int .i64 (k+9 * (n:Int))) (Grew.trans (Grew.refl _) (gk st)) ?_
  rfl
def zI (x:ON):Bool:=bQ x && (qO .f32 (some 0) x == some .lt)
def mA (a b c:ON):Bool:=bQ a && (bQ b && bQ c)
theorem qN {x:ON} (h:zI x=true):bQ x=true/\(qO .f32 (some 0) x == some .lt)=true:=by
 unfold zI at h;rw [Bool.and_eq_true] at h;exact h
theorem jR {a b c:ON} (h:mA a b c=true):bQ a=true/\bQ b=true/\bQ c=true:=by
 unfold mA at h;rw [Bool.and_eq_true,Bool.and_eq_true] at h;exact h
def zQ (s a b c:ON):List AV × Int:=
 if zI s=true then (if mA a b c=true then (if qDx (xV a s)=true then ([.int .i32 0,.int .i32 0,.int .i32 0],3) else if qDx (xV b s)=true then ([.int .i32 0,.int .i32 0,.int .i32 0],3) else if qDx (xV c s)=true then ([.int .i32 0,.int .i32 0,.int .i32 0],3)
  else ([.int .i32 (kY (xV a s)),.int .i32 (kY (xV b s)),.int .i32 (kY (xV c s))],0)) else ([.int .i32 0,.int .i32 0,.int .i32 0],2)) else ([.int .i32 0,.int .i32 0,.int .i32 0],2)
theorem xH (x:ON):(qO .f32 (fop .sub .f32 x x) (some 0) == some .eq)=bQ x:=rfl
theorem qCV (x:ON) (hx:fOk .f32 x) (H:AHeap):qR Try.prog 55 [.flt .f32 x] H (.bool (zI x)):=by
 refine qF qAv (by simp) ?_
 have q1:KdsL [KF] [.flt .f32 x]:=kL
 refine rC 0 0 [] [(0,nF 0)] q1 (.cons (t:=0) rfl .nil) ?_
 refine dB kr ?_ ?_
 ·intro vs ls H2 E2 st hE
  have f3:(qO .f32 (fop .sub .f32 x x) (some 0) == some .eq)=false:=bf st 0
  refine rf st hE (.bool false) (Grew.trans (Grew.refl _) (gk st)) ?_
  simp only [xH] at f3
  simp [zI,xH,f3]
 ·intro vs ls H4 E4 st hE
  have f5:(qO .f32 (fop .sub .f32 x x) (some 0) == some .eq)=true:=bf st 0
  refine rf st hE (.bool (qO .f32 (some 0) x == some .lt)) (Grew.trans (Grew.refl _) (gk st)) ?_
  simp only [xH] at f5
  simp [zI,xH,f5]
theorem qID (x:ON) (hx:fOk .f32 x) (H:AHeap):qR Try.prog 47 [.flt .f32 x] H (.bool (zI x)):=by
 refine qF kQ (by simp) ?_
 have q1:KdsL [KF] [.flt .f32 x]:=kL
 refine rC 0 0 [] [(0,nF 0)] q1 (.cons (t:=0) rfl .nil) ?_
 refine dB kr ?_ ?_
 ·intro vs ls H2 E2 st hE
  have f3:(qO .f32 (fop .sub .f32 x x) (some 0) == some .eq)=true:=bf st 0
  refine rf st hE (.bool (qO .f32 (some 0) x == some .lt)) (Grew.trans (Grew.refl _) (gk st)) ?_
  simp only [xH] at f3
  simp [zI,xH,f3]
 ·intro vs ls H4 E4 st hE
  have f5:(qO .f32 (fop .sub .f32 x x) (some 0) == some .eq)=false:=bf st 0
  refine rf st hE (.bool false) (Grew.trans (Grew.refl _) (gk st)) ?_
  simp only [xH] at f5
  simp [zI,xH,f5]
theorem qMC (a b c:ON) (ha:fOk .f32 a) (hb:fOk .f32 b) (hc:fOk .f32 c) (H:AHeap):qR Try.prog 57 [.agg [.flt .f32 a,.flt .f32 b,.flt .f32 c]] H (.bool (mA a b c)):=by
 refine qF dN (by simp) ?_
 have q1:KdsL [KF,KF,KF] [.flt .f32 a,.flt .f32 b,.flt .f32 c]:=kL
 refine rC 0 0 [] [(0,.agg [nF 0,nF 1,nF 2])] q1 (.cons (t:=0) rfl .nil) ?_
 refine qMP kr ?_ ?_ ?_ ?_
 ·intro vs ls H2 E2 st hE
  have f3:(qO .f32 (fop .sub .f32 a a) (some 0) == some .eq)=false:=bf st 0
  refine rf st hE (.bool false) (Grew.trans (Grew.refl _) (gk st)) ?_
  simp only [xH] at f3
  simp [mA,xH,f3]
 ·intro vs ls H4 E4 st hE
  have f5:(qO .f32 (fop .sub .f32 b b) (some 0) == some .eq)=false:=bf st 0
  have f6:(qO .f32 (fop .sub .f32 a a) (some 0) == some .eq)=true:=bf st 1
  refine rf st hE (.bool false) (Grew.trans (Grew.refl _) (gk st)) ?_
  simp only [xH] at f5
  simp only [xH] at f6
  simp [mA,xH,f5,f6]
 ·intro vs ls H7 E7 st hE
  have f8:(qO .f32 (fop .sub .f32 c c) (some 0) == some .eq)=false:=bf st 0
  have f9:(qO .f32 (fop .sub .f32 b b) (some 0) == some .eq)=true:=bf st 1
  have f10:(qO .f32 (fop .sub .f32 a a) (some 0) == some .eq)=true:=bf st 2
  refine rf st hE (.bool false) (Grew.trans (Grew.refl _) (gk st)) ?_
  simp only [xH] at f8
  simp only [xH] at f9
  simp only [xH] at f10
  simp [mA,xH,f8,f9,f10]
 ·intro vs ls H11 E11 st hE
  have f12:(qO .f32 (fop .sub .f32 c c) (some 0) == some .eq)=true:=bf st 0
  have f13:(qO .f32 (fop .sub .f32 b b) (some 0) == some .eq)=true:=bf st 1
  have f14:(qO .f32 (fop .sub .f32 a a) (some 0) == some .eq)=true:=bf st 2
  refine rf st hE (.bool true) (Grew.trans (Grew.refl _) (gk st)) ?_
  simp only [xH] at f12
  simp only [xH] at f13
  simp only [xH] at f14
  simp [mA,xH,f12,f13,f14]
theorem qJV (a b c:ON) (ha:fOk .f32 a) (hb:fOk .f32 b) (hc:fOk .f32 c) (H:AHeap):qR Try.prog 49 [.agg [.flt .f32 a,.flt .f32 b,.flt .f32 c]] H (.bool (mA a b c)):=by
 refine qF qAC (by simp) ?_
 have q1:KdsL [KF,KF,KF] [.flt .f32 a,.flt .f32 b,.flt .f32 c]:=kL
 refine rC 0 0 [] [(0,.agg [nF 0,nF 1,nF 2])] q1 (.cons (t:=0) rfl .nil) ?_
 refine qFf kr ?_ ?_ ?_
 ·intro vs ls H2 E2 st hE
  have f3:(qO .f32 (fop .sub .f32 b b) (some 0) == some .eq)=true:=bf st 0
  have f4:(qO .f32 (fop .sub .f32 a a) (some 0) == some .eq)=true:=bf st 1
  refine rf st hE (.bool (qO .f32 (fop .sub .f32 c c) (some 0) == some .eq)) (Grew.trans (Grew.refl _) (gk st)) ?_
  simp only [xH] at f3
  simp only [xH] at f4
  simp [mA,xH,f3,f4]
 ·intro vs ls H5 E5 st hE
  have f6:(qO .f32 (fop .sub .f32 b b) (some 0) == some .eq)=false:=bf st 0
  have f7:(qO .f32 (fop .sub .f32 a a) (some 0) == some .eq)=true:=bf st 1
  refine rf st hE (.bool false) (Grew.trans (Grew.refl _) (gk st)) ?_
  simp only [xH] at f6
  simp only [xH] at f7
  simp [mA,xH,f6,f7]
 ·intro vs ls H8 E8 st hE
  have f9:(qO .f32 (fop .sub .f32 a a) (some 0) == some .eq)=false:=bf st 0
  refine rf st hE (.bool false) (Grew.trans (Grew.refl _) (gk st)) ?_
  simp only [xH] at f9
  simp [mA,xH,f9]
theorem qFQ (H : AHeap) (x : ON) : qR Try.prog 94 [.flt .f64 x] H (.flt .f64 (vY .down x)) := qJf Try.func94 kr kr kr .down "math.archFloor" kr x
theorem qNf {x:ON} (h:jQ .f64n (.flt .f64 x)):fOk .f64 x:=by
 obtain⟨y,e,hy,_⟩:=h;cases e;exact hy
theorem qHI (H:AHeap) (b:Nat):qR Try.prog 90 [.flt .f64 (some b)] H (.int .u64 b):=qMz Try.func90 kr kr kr kr b
theorem qFR (H:AHeap) (n:Int) (h0:0<=n) (h1:n < 18446744073709551616):qR Try.prog 98 [.int .u64 n] H (.flt .f64 (nrm .f64 n.toNat)):=qGx Try.func98 kr kr kr kr n h0 h1
def φC:Nat->List AV->AV:=fun g vs=>match g,vs with
 | 1,[.flt .f64 x]=>.flt .f64 (vY .down x)
 | _,_=>.undef
def apC:List (Nat × Nat × List Kd × Kd):=[(82,0,[.flt .f32],.bits),(94,1,[.flt .f64],.flt .f64)]
theorem pP:qCk Try.prog φC apC:=.bits (fun x H _=>qEJ H x) (.app (fun vs H h=>by
 cases h with | cons h1 h2 =>
 cases h2
 obtain⟨x,rfl,hx⟩:=h1
 exact⟨qFQ H x,⟨_,rfl,qHC _ hx⟩⟩) .nil)
def pmC (fl:Nat) (ru:List (RK × SV)) (un:Nat):Pm:=⟨fl,ru,tb,apC,un⟩
-- Abs
theorem qMR (b:Nat) (h:b < 2^64):(BitVec.ofInt 64 ((b:Nat):Int) &&& ~~~ BitVec.ofInt 64 9223372036854775808).toNat=b % 9223372036854775808:=by
 have e1:(~~~ BitVec.ofInt 64 9223372036854775808)=BitVec.ofNat 64 (2^63 - 1):=by decide
 rw [e1,BitVec.toNat_and]
 have e2:(BitVec.ofInt 64 ((b:Nat):Int)).toNat=b:=by
  rw [BitVec.ofInt_natCast,BitVec.toNat_ofNat];exact Nat.mod_eq_of_lt h
 rw [e2,BitVec.toNat_ofNat,Nat.mod_eq_of_lt (by decide),Nat.and_two_pow_sub_one_eq_mod]
theorem qOq (H:AHeap) (b:Nat) (hb:fOk .f64 (some b)):qR Try.prog 98 [.int .u64 (IntKind.wrap .u64 (BitVec.ofInt (IntKind.bits .u64) (b:Int) &&& ~~~ BitVec.ofInt (IntKind.bits .u64) 9223372036854775808).toNat)] H (.flt .f64 (qAo (some b))):=by
 show qR Try.prog 98 [.int .u64 (IntKind.u64.wrap (BitVec.ofInt 64 (b:Int) &&& ~~~ BitVec.ofInt 64 9223372036854775808).toNat)] H (.flt .f64 (qAo (some b)))
 obtain⟨h1,h2⟩:=hb b rfl
 have h1:b < 2^64:=h1
 rw [qMR b h1]
 have hm:b % 9223372036854775808 < 9223372036854775808:=Nat.mod_lt _ (by decide)
 have hw:IntKind.u64.wrap ((b % 9223372036854775808:Nat):Int)=((b % 9223372036854775808:Nat):Int):=by
  unfold IntKind.wrap;exact Int.emod_eq_of_lt om (by show _ < (18446744073709551616:Int);omega)
 rw [hw]
 have:=qFR H ((b % 9223372036854775808:Nat):Int) om om
 rw [Int.toNat_natCast] at this
 have e:nrm .f64 (b % 9223372036854775808)=qAo (some b):=by
  unfold nrm
  rw [((qCL hb) _ rfl).2]
  rfl
 rw [e] at this
 exact this
theorem qNi (x:ON) (hs:x.isSome=true) (hb:fOk .f64 x) (H:AHeap):qR Try.prog 88 [.flt .f64 x] H (.flt .f64 (qAo x)):=by
 obtain⟨b,rfl⟩:=Option.isSome_iff_exists.1 hs
 clear hs
 refine qF qDZ (by simp) ?_
 have q1:KdsL [.flt .f64] [.flt .f64 (some b)]:=kL
 refine rC 0 0 [] [(0,.nd 0 (.flt .f64))] q1 (.cons (t:=0) rfl .nil) ?_
 refine zA kr fun vs ls H2 E2 st hE=>?_
 have b3:=eo st hE 3 (.flt .f64 (some b))
 have g4:Grew H H2:=(gk st)
 have g5:Grew H H2:=Grew.trans (Grew.refl _) g4
 refine zB (d:=(some 4)) (f:=90) (args:=[.tmp 3]) kr (R:=fun z H'=>z=.int .u64 (b:Int)/\H'=H2) ?_ ?_
 ·show qJ _ _ [E2 3] _ _
  rw [b3]
  exact qHI H2 b
 rintro z H2 ⟨rfl,rfl⟩
 have q6:=q1.app (kL:KdsL [.int .u64] [.int .u64 (b:Int)])
 refine rC 0 0 [] [(3,.nd 0 (.flt .f64)),(4,.nd 1 (.int .u64))] q6 (.cons (qD rfl b3) (.cons qB .nil)) ?_
 refine zA kr fun vs ls H7 E7 st hE=>?_
 obtain⟨w8,hw8⟩:∃ z,z=(IntKind.wrap .u64 (BitVec.ofInt (IntKind.bits .u64) (b:Int) &&& ~~~ BitVec.ofInt (IntKind.bits .u64) 9223372036854775808).toNat):=⟨_,rfl⟩
 have b9:E7 5=.int .u64 w8:=by rw [hw8];exact eo st hE 5 _
 have g10:Grew H2 H7:=(gk st)
 have g11:=Grew.trans g5 g10
 refine zB (d:=(some 6)) (f:=98) (args:=[.tmp 5]) kr (R:=fun z H'=>z=.flt .f64 (qAo (some b))/\H'=H7) ?_ ?_
 ·show qJ _ _ [E7 5] _ _
  rw [b9]
  exact(by rw [hw8];exact qOq H7 b hb)
 rintro z H7 ⟨rfl,rfl⟩
 have q12:=q6.app (.cons kA (.cons ⟨_,rfl,qCL hb⟩ .nil):KdsL [.int .u64,.flt .f64] [.int .u64 w8,.flt .f64 (qAo (some b))])
 refine rC 0 0 [] [(5,.nd 2 (.int .u64)),(6,.nd 3 (.flt .f64))] q12 (.cons (qD rfl b9) (.cons qB .nil)) ?_
 refine zA kr fun vs ls H13 E13 st hE=>?_
 refine rf st hE (.flt .f64 (qAo (some b))) (Grew.trans g11 (gk st)) ?_
 rfl
theorem qEI (s a b c:ON) (hs:fOk .f32 s) (ha:fOk .f32 a) (hb:fOk .f32 b) (hc:fOk .f32 c) (H:AHeap):qR Try.prog 73 [.flt .f32 s,.agg [.flt .f32 a,.flt .f32 b,.flt .f32 c]] H (.tuple [.agg (zQ s a b c).1,.int .i64 (zQ s a b c).2]):=by
 refine qF qAu (by simp) ?_
 have q1:KdsL [KF,KF,KF,KF,.bool,.bool] [.flt .f32 s,.flt .f32 a,.flt .f32 b,.flt .f32 c,.bool (zI s),.bool (mA a b c)]:=kL
 refine qL (φ:=φC) (pm:=pmC 0 [(.call 55 [nF 0],nB 4),(.call 57 [.agg [nF 1,nF 2,nF 3]],nB 5)] 10) 20 (ws:=[]) (env:=[(0,nF 0),(1,.agg [nF 1,nF 2,nF 3])]) q1 .nil (qI rfl) (.cons (qH (args:=[.flt .f32 s]) (dL q1) (dE q1) (fun H9 hk=>qCV s hs H9)) (.cons (qH (args:=[.agg [.flt .f32 a,.flt .f32 b,.flt .f32 c]]) (dL q1) (dE q1) (fun H9 hk=>qMC a b c ha hb hc H9)) .nil)) (eC q1 (.cons (t:=0) rfl (.cons (t:=1) rfl .nil))) qU pP ?_
 refine qFf kr ?_ ?_ ?_
 ·intro vs ls H2 E2 st hE
  have f3:(zI s)=false:=bf st 0
  refine rf st hE (.tuple [.agg [.int .i32 0,.int .i32 0,.int .i32 0],.int .i64 2]) (Grew.trans (Grew.refl _) (gk st)) ?_
  simp only [zQ,f3,if_true,Bool.false_eq_true,if_false]
 ·intro vs ls H4 E4 st hE
  have f5:(mA a b c)=false:=bf st 0
  have f6:(zI s)=true:=bf st 1
  refine rf st hE (.tuple [.agg [.int .i32 0,.int .i32 0,.int .i32 0],.int .i64 2]) (Grew.trans (Grew.refl _) (gk st)) ?_
  simp only [zQ,f5,f6,if_true,Bool.false_eq_true,if_false]
 ·intro vs ls H7 E7 st hE
  have f8:(mA a b c)=true:=bf st 0
  have f9:(zI s)=true:=bf st 1
  obtain⟨p10,e11,r12,n13⟩:=pO st hE 4 1 [.int .i32 0,.int .i32 0,.int .i32 0]
  have op10:H.next<=p10:=Nat.le_trans (Nat.le_refl _) (oM n13)
  obtain⟨p14,e15,r16,n17⟩:=pO st hE 6 2 [.int .i32 0,.int .i32 0,.int .i32 0]
  have op14:H.next<=p14:=Nat.le_trans (Nat.le_refl _) (oM n17)
  have ne18:=pn st hE 4 1 6 2 [l0,l0,l0] e11 e15
  obtain⟨w19,hw19⟩:∃ z,z=(vY .down (wid (fop .quo .f32 a s))):=⟨_,rfl⟩
  have b20:E7 30=.flt .f64 w19:=by rw [hw19];exact eo st hE 30 _
  have k21:jQ (.flt .f64) (.flt .f64 w19):=b20 ▸ bT st.inn hE 30 (kd:=.flt .f64) kr
  have b23:E7 9=.flt .f64 w19:=by rw [hw19];exact eo st hE 9 _
  have B1:=es st hE [(7,.int .i64 0),(21,.int .i64 0),(22,.bool true),(20,.agg [.flt .f32 a,.flt .f32 b,.flt .f32 c]),(23,.int .i64 0),(24,.flt .f32 a),(8,.flt .f32 a),(0,.flt .f32 s),(25,.flt .f32 a),(26,.flt .f32 s)]
  obtain⟨w33,hw33⟩:∃ z,z=(fop .quo .f32 a s):=⟨_,rfl⟩
  have b34:E7 27=.flt .f32 w33:=by rw [hw33];exact eo st hE 27 _
  obtain⟨w35,hw35⟩:∃ z,z=(wid (fop .quo .f32 a s)):=⟨_,rfl⟩
  have b36:E7 28=.flt .f64 w35:=by rw [hw35];exact eo st hE 28 _
  have k37:jQ (.f64n) (.flt .f64 w35):=b36 ▸ bT st.inn hE 28 (kd:=.f64n) kr
  have b38:E7 29=.flt .f64 w19:=by rw [hw19];exact eo st hE 29 _
  have g39:Grew H H7:=(gk st)
  have g40:Grew H H7:=Grew.trans (Grew.refl _) g39
  refine zB (d:=(some 31)) (f:=88) (args:=[.tmp 30]) kr (R:=fun z H'=>z=.flt .f64 (qAo (xV a s))/\H'=H7) ?_ ?_
  ·show qJ _ _ [E7 30] _ _
   rw [b20]
   exact(by rw [hw19];exact qNi (xV a s) (jF ha hs (jR f8).1 (qN f9).1 (qN f9).2) (xI _ _) H7)
  rintro z H7 ⟨rfl,rfl⟩
  have q41:=q1.app (.cons k21 (.cons ⟨_,rfl,hw33 ▸ zS⟩ (.cons k37 (.cons ⟨_,rfl,qCL (xI _ _)⟩ .nil))):KdsL [.flt .f64,KF,.f64n,.flt .f64] [.flt .f64 w19,.flt .f32 w33,.flt .f64 w35,.flt .f64 (qAo (xV a s))])
  refine qL (φ:=φC) (pm:=pmC 1 [] 10) 20 (ws:=[wf p14 [l0,l0,l0],⟨p10,0,[l0,l0,l0],true⟩]) (env:=[(7,.lit (.int .i64 0)),(21,.lit (.int .i64 0)),(22,.lit (.bool true)),(20,.agg [nF 1,nF 2,nF 3]),(23,.lit (.int .i64 0)),(24,nF 1),(8,nF 1),(0,nF 0),(25,nF 1),(26,nF 0),(30,.nd 6 (.flt .f64)),(4,.ptr 1 0),(9,.nd 6 (.flt .f64)),(6,.ptr 0 0),(27,nF 7),(28,.nd 8 .f64n),(29,.nd 6 (.flt .f64)),(31,.nd 9 (.flt .f64))]) q41 wA sd .nil (eC q41 (sc (sp B1) (.cons (qD rfl b20) (.cons (qD rfl e11) (.cons (qD rfl b23) (.cons (qD rfl e15) (.cons (qD rfl b34) (.cons (qD rfl b36) (.cons (qD rfl b38) (.cons qB .nil)))))))))) qU pP ?_
  refine dB kr ?_ ?_
  ·intro vs ls H42 E42 st hE
   have f43:(qO .f64 (some 4696837146684686336) (qAo (xV a s)) == some .lt)=true:=bf st 0
   refine rf st hE (.tuple [.agg [.int .i32 0,.int .i32 0,.int .i32 0],.int .i64 3]) (qK g40 (st.inn.kept) ⟨op10,trivial⟩) ?_
   have hbig44:qDx (xV a s)=true:=f43
   simp only [zQ,f8,f9,hbig44,if_true,Bool.false_eq_true,if_false]
  ·intro vs ls H45 E45 st hE
   have f46:(qO .f64 (some 4696837146684686336) (qAo (xV a s)) == some .lt)=false:=bf st 0
   have b47:=eo st hE 35 (.flt .f64 w19)
   obtain⟨w65,hw65⟩:∃ z,z=(qO .f64 (some 4696837146684686336) (qAo (xV a s)) == some .lt):=⟨_,rfl⟩
   have b66:E45 32=.bool w65:=by rw [hw65];exact eo st hE 32 _
   have B2:=es st hE [(35,.flt .f64 w19),(6,.ptr p14 0),(34,.int .i64 0),(21,.int .i64 0),(22,.bool true),(20,.agg [.flt .f32 a,.flt .f32 b,.flt .f32 c]),(23,.int .i64 0),(24,.flt .f32 a),(8,.flt .f32 a),(0,.flt .f32 s),(25,.flt .f32 a),(26,.flt .f32 s),(27,.flt .f32 w33),(28,.flt .f64 w35),(29,.flt .f64 w19),(9,.flt .f64 w19),(30,.flt .f64 w19),(31,.flt .f64 (qAo (xV a s))),(4,.ptr p10 0),(7,.int .i64 0)]
   have g69:Grew H7 H45:=(gk st)
   have g70:=Grew.trans g40 g69
   have r71:=g69.at r16
   have r72:=g69.at r12
   have hbig73:qDx (xV a s)=false:=f46
   refine uC (d:=some 36) (c:=.fi .i32) (x:=.tmp 35) (r:=.int .i32 (kY (xV a s))) kr (qIt b47 (by rw [hw19];exact qBn (xI _ _) (jF ha hs (jR f8).1 (qN f9).1 (qN f9).2) hbig73)) ?_
   have q74:=q41.app (kL:KdsL [.bool,K2] [.bool w65,.int .i32 (kY (xV a s))])
   refine qL (φ:=φC) (pm:=pmC 0 [] 10) 20 (ws:=[⟨p10,0,[l0,l0,l0],true⟩,⟨p14,0,[l0,l0,l0],true⟩]) (env:=[(35,.nd 6 (.flt .f64)),(6,.ptr 1 0),(34,.lit (.int .i64 0)),(21,.lit (.int .i64 0)),(22,.lit (.bool true)),(20,.agg [nF 1,nF 2,nF 3]),(23,.lit (.int .i64 0)),(24,nF 1),(8,nF 1),(0,nF 0),(25,nF 1),(26,nF 0),(27,nF 7),(28,.nd 8 .f64n),(29,.nd 6 (.flt .f64)),(9,.nd 6 (.flt .f64)),(30,.nd 6 (.flt .f64)),(31,.nd 9 (.flt .f64)),(4,.ptr 0 0),(7,.lit (.int .i64 0)),(32,nB 10),(36,n2 11)]) q74 wA sd .nil (eC q74 (sc (sp B2) (.cons (qD rfl b66) (.cons qB .nil)))) qU pP ?_
   refine zA kr fun vs ls H75 E75 st hE=>?_
   have r76:H75.get p10=some (.row [.int .i32 0,.int .i32 0,.int .i32 0] true):=rW st 0
   have r77:H75.get p14=some (.row [.int .i32 (kY (xV a s)),.int .i32 0,.int .i32 0] true):=rW st 1
   obtain⟨w78,hw78⟩:∃ z,z=(vY .down (wid (fop .quo .f32 b s))):=⟨_,rfl⟩
   have b79:E75 30=.flt .f64 w78:=by rw [hw78];exact eo st hE 30 _
   have k80:jQ (.flt .f64) (.flt .f64 w78):=b79 ▸ bT st.inn hE 30 (kd:=.flt .f64) kr
   have b85:E75 9=.flt .f64 w78:=by rw [hw78];exact eo st hE 9 _
   have B3:=es st hE [(32,.bool w65),(4,.ptr p10 0),(7,.int .i64 1),(35,.flt .f64 w19),(6,.ptr p14 0),(34,.int .i64 0),(37,.ptr p14 0),(36,.int .i32 (kY (xV a s))),(21,.int .i64 1),(38,.int .i64 1),(22,.bool true),(20,.agg [.flt .f32 a,.flt .f32 b,.flt .f32 c]),(23,.int .i64 1),(24,.flt .f32 b),(8,.flt .f32 b),(0,.flt .f32 s),(25,.flt .f32 b),(26,.flt .f32 s)]
   obtain⟨w101,hw101⟩:∃ z,z=(fop .quo .f32 b s):=⟨_,rfl⟩
   have b102:E75 27=.flt .f32 w101:=by rw [hw101];exact eo st hE 27 _
   obtain⟨w103,hw103⟩:∃ z,z=(wid (fop .quo .f32 b s)):=⟨_,rfl⟩
   have b104:E75 28=.flt .f64 w103:=by rw [hw103];exact eo st hE 28 _
   have k105:jQ (.f64n) (.flt .f64 w103):=b104 ▸ bT st.inn hE 28 (kd:=.f64n) kr
   have b106:E75 29=.flt .f64 w78:=by rw [hw78];exact eo st hE 29 _
   have g108:Grew H H75:=qK g70 st.inn.kept ⟨op10,⟨op14,trivial⟩⟩
   refine zB (d:=(some 31)) (f:=88) (args:=[.tmp 30]) kr (R:=fun z H'=>z=.flt .f64 (qAo (xV b s))/\H'=H75) ?_ ?_
   ·show qJ _ _ [E75 30] _ _
    rw [b79]
    exact(by rw [hw78];exact qNi (xV b s) (jF hb hs (jR f8).2.1 (qN f9).1 (qN f9).2) (xI _ _) H75)
   rintro z H75 ⟨rfl,rfl⟩
   have q109:=q74.app (.cons k80 (.cons ⟨_,rfl,hw101 ▸ zS⟩ (.cons k105 (.cons ⟨_,rfl,qCL (xI _ _)⟩ .nil))):KdsL [.flt .f64,KF,.f64n,.flt .f64] [.flt .f64 w78,.flt .f32 w101,.flt .f64 w103,.flt .f64 (qAo (xV b s))])
   refine qL (φ:=φC) (pm:=pmC 0 [] 10) 20 (ws:=[⟨p10,0,[l0,l0,l0],true⟩,⟨p14,0,[n2 11,l0,l0],true⟩]) (env:=[(32,nB 10),(4,.ptr 0 0),(7,.lit (.int .i64 1)),(35,.nd 6 (.flt .f64)),(6,.ptr 1 0),(34,.lit (.int .i64 0)),(37,.ptr 1 0),(36,n2 11),(21,.lit (.int .i64 1)),(38,.lit (.int .i64 1)),(22,.lit (.bool true)),(20,.agg [nF 1,nF 2,nF 3]),(23,.lit (.int .i64 1)),(24,nF 2),(8,nF 2),(0,nF 0),(25,nF 2),(26,nF 0),(30,.nd 12 (.flt .f64)),(9,.nd 12 (.flt .f64)),(27,nF 13),(28,.nd 14 .f64n),(29,.nd 12 (.flt .f64)),(31,.nd 15 (.flt .f64))]) q109 wA sd .nil (eC q109 (sc (sp B3) (.cons (qD rfl b79) (.cons (qD rfl b85) (.cons (qD rfl b102) (.cons (qD rfl b104) (.cons (qD rfl b106) (.cons qB .nil)))))))) qU pP ?_
   refine dB kr ?_ ?_
   ·intro vs ls H110 E110 st hE
    have f111:(qO .f64 (some 4696837146684686336) (qAo (xV b s)) == some .lt)=true:=bf st 0
    refine rf st hE (.tuple [.agg [.int .i32 0,.int .i32 0,.int .i32 0],.int .i64 3]) (qK g108 (st.inn.kept) ⟨op10,⟨op14,trivial⟩⟩) ?_
    have hbig112:qDx (xV b s)=true:=f111
    simp only [zQ,f8,f9,hbig73,hbig112,if_true,Bool.false_eq_true,if_false]
   ·intro vs ls H113 E113 st hE
    have f114:(qO .f64 (some 4696837146684686336) (qAo (xV b s)) == some .lt)=false:=bf st 0
    have b115:=eo st hE 35 (.flt .f64 w78)
    obtain⟨w136,hw136⟩:∃ z,z=(qO .f64 (some 4696837146684686336) (qAo (xV b s)) == some .lt):=⟨_,rfl⟩
    have b137:E113 32=.bool w136:=by rw [hw136];exact eo st hE 32 _
    have B4:=es st hE [(35,.flt .f64 w78),(6,.ptr p14 0),(34,.int .i64 1),(37,.ptr p14 0),(21,.int .i64 1),(38,.int .i64 1),(22,.bool true),(20,.agg [.flt .f32 a,.flt .f32 b,.flt .f32 c]),(23,.int .i64 1),(24,.flt .f32 b),(8,.flt .f32 b),(0,.flt .f32 s),(25,.flt .f32 b),(26,.flt .f32 s),(27,.flt .f32 w101),(28,.flt .f64 w103),(29,.flt .f64 w78),(9,.flt .f64 w78),(30,.flt .f64 w78),(31,.flt .f64 (qAo (xV b s))),(4,.ptr p10 0),(7,.int .i64 1)]
    have g140:Grew H75 H113:=(gk st)
    have g141:=Grew.trans g108 g140
    have r142:=g140.at r76
    have r143:=g140.at r77
    have hbig144:qDx (xV b s)=false:=f114
    refine uC (d:=some 36) (c:=.fi .i32) (x:=.tmp 35) (r:=.int .i32 (kY (xV b s))) kr (qIt b115 (by rw [hw78];exact qBn (xI _ _) (jF hb hs (jR f8).2.1 (qN f9).1 (qN f9).2) hbig144)) ?_
    have q145:=q109.app (kL:KdsL [.bool,K2] [.bool w136,.int .i32 (kY (xV b s))])
    refine qL (φ:=φC) (pm:=pmC 0 [] 10) 20 (ws:=[⟨p10,0,[l0,l0,l0],true⟩,⟨p14,0,[n2 11,l0,l0],true⟩]) (env:=[(35,.nd 12 (.flt .f64)),(6,.ptr 1 0),(34,.lit (.int .i64 1)),(37,.ptr 1 0),(21,.lit (.int .i64 1)),(38,.lit (.int .i64 1)),(22,.lit (.bool true)),(20,.agg [nF 1,nF 2,nF 3]),(23,.lit (.int .i64 1)),(24,nF 2),(8,nF 2),(0,nF 0),(25,nF 2),(26,nF 0),(27,nF 13),(28,.nd 14 .f64n),(29,.nd 12 (.flt .f64)),(9,.nd 12 (.flt .f64)),(30,.nd 12 (.flt .f64)),(31,.nd 15 (.flt .f64)),(4,.ptr 0 0),(7,.lit (.int .i64 1)),(32,nB 16),(36,n2 17)]) q145 wA sd .nil (eC q145 (sc (sp B4) (.cons (qD rfl b137) (.cons qB .nil)))) qU pP ?_
    refine zA kr fun vs ls H146 E146 st hE=>?_
    have r147:H146.get p10=some (.row [.int .i32 0,.int .i32 0,.int .i32 0] true):=rW st 0
    have r148:H146.get p14=some (.row [.int .i32 (kY (xV a s)),.int .i32 (kY (xV b s)),.int .i32 0] true):=rW st 1
    obtain⟨w149,hw149⟩:∃ z,z=(vY .down (wid (fop .quo .f32 c s))):=⟨_,rfl⟩
    have b150:E146 30=.flt .f64 w149:=by rw [hw149];exact eo st hE 30 _
    have k151:jQ (.flt .f64) (.flt .f64 w149):=b150 ▸ bT st.inn hE 30 (kd:=.flt .f64) kr
    have b156:E146 9=.flt .f64 w149:=by rw [hw149];exact eo st hE 9 _
    have B5:=es st hE [(32,.bool w136),(4,.ptr p10 0),(7,.int .i64 2),(35,.flt .f64 w78),(6,.ptr p14 0),(34,.int .i64 1),(37,.ptr p14 1),(36,.int .i32 (kY (xV b s))),(21,.int .i64 2),(38,.int .i64 2),(22,.bool true),(20,.agg [.flt .f32 a,.flt .f32 b,.flt .f32 c]),(23,.int .i64 2),(24,.flt .f32 c),(8,.flt .f32 c),(0,.flt .f32 s),(25,.flt .f32 c),(26,.flt .f32 s)]
    obtain⟨w172,hw172⟩:∃ z,z=(fop .quo .f32 c s):=⟨_,rfl⟩
    have b173:E146 27=.flt .f32 w172:=by rw [hw172];exact eo st hE 27 _
    obtain⟨w174,hw174⟩:∃ z,z=(wid (fop .quo .f32 c s)):=⟨_,rfl⟩
    have b175:E146 28=.flt .f64 w174:=by rw [hw174];exact eo st hE 28 _
    have k176:jQ (.f64n) (.flt .f64 w174):=b175 ▸ bT st.inn hE 28 (kd:=.f64n) kr
    have b177:E146 29=.flt .f64 w149:=by rw [hw149];exact eo st hE 29 _
    have g179:Grew H H146:=qK g141 st.inn.kept ⟨op10,⟨op14,trivial⟩⟩
    refine zB (d:=(some 31)) (f:=88) (args:=[.tmp 30]) kr (R:=fun z H'=>z=.flt .f64 (qAo (xV c s))/\H'=H146) ?_ ?_
    ·show qJ _ _ [E146 30] _ _
     rw [b150]
     exact(by rw [hw149];exact qNi (xV c s) (jF hc hs (jR f8).2.2 (qN f9).1 (qN f9).2) (xI _ _) H146)
    rintro z H146 ⟨rfl,rfl⟩
    have q180:=q145.app (.cons k151 (.cons ⟨_,rfl,hw172 ▸ zS⟩ (.cons k176 (.cons ⟨_,rfl,qCL (xI _ _)⟩ .nil))):KdsL [.flt .f64,KF,.f64n,.flt .f64] [.flt .f64 w149,.flt .f32 w172,.flt .f64 w174,.flt .f64 (qAo (xV c s))])
    refine qL (φ:=φC) (pm:=pmC 0 [] 10) 20 (ws:=[⟨p10,0,[l0,l0,l0],true⟩,⟨p14,0,[n2 11,n2 17,l0],true⟩]) (env:=[(32,nB 16),(4,.ptr 0 0),(7,.lit (.int .i64 2)),(35,.nd 12 (.flt .f64)),(6,.ptr 1 0),(34,.lit (.int .i64 1)),(37,.ptr 1 1),(36,n2 17),(21,.lit (.int .i64 2)),(38,.lit (.int .i64 2)),(22,.lit (.bool true)),(20,.agg [nF 1,nF 2,nF 3]),(23,.lit (.int .i64 2)),(24,nF 3),(8,nF 3),(0,nF 0),(25,nF 3),(26,nF 0),(30,.nd 18 (.flt .f64)),(9,.nd 18 (.flt .f64)),(27,nF 19),(28,.nd 20 .f64n),(29,.nd 18 (.flt .f64)),(31,.nd 21 (.flt .f64))]) q180 wA sd .nil (eC q180 (sc (sp B5) (.cons (qD rfl b150) (.cons (qD rfl b156) (.cons (qD rfl b173) (.cons (qD rfl b175) (.cons (qD rfl b177) (.cons qB .nil)))))))) qU pP ?_
    refine dB kr ?_ ?_
    ·intro vs ls H181 E181 st hE
     have f182:(qO .f64 (some 4696837146684686336) (qAo (xV c s)) == some .lt)=true:=bf st 0
     refine rf st hE (.tuple [.agg [.int .i32 0,.int .i32 0,.int .i32 0],.int .i64 3]) (qK g179 (st.inn.kept) ⟨op10,⟨op14,trivial⟩⟩) ?_
     have hbig183:qDx (xV c s)=true:=f182
     simp only [zQ,f8,f9,hbig73,hbig144,hbig183,if_true,Bool.false_eq_true,if_false]
    ·intro vs ls H184 E184 st hE
     have f185:(qO .f64 (some 4696837146684686336) (qAo (xV c s)) == some .lt)=false:=bf st 0
     have b186:=eo st hE 35 (.flt .f64 w149)
     obtain⟨w207,hw207⟩:∃ z,z=(qO .f64 (some 4696837146684686336) (qAo (xV c s)) == some .lt):=⟨_,rfl⟩
     have b208:E184 32=.bool w207:=by rw [hw207];exact eo st hE 32 _
     have B6:=es st hE [(35,.flt .f64 w149),(6,.ptr p14 0),(34,.int .i64 2),(37,.ptr p14 1),(21,.int .i64 2),(38,.int .i64 2),(22,.bool true),(20,.agg [.flt .f32 a,.flt .f32 b,.flt .f32 c]),(23,.int .i64 2),(24,.flt .f32 c),(8,.flt .f32 c),(0,.flt .f32 s),(25,.flt .f32 c),(26,.flt .f32 s),(27,.flt .f32 w172),(28,.flt .f64 w174),(29,.flt .f64 w149),(9,.flt .f64 w149),(30,.flt .f64 w149),(31,.flt .f64 (qAo (xV c s))),(4,.ptr p10 0),(7,.int .i64 2)]
     have g211:Grew H146 H184:=(gk st)
     have g212:=Grew.trans g179 g211
     have r213:=g211.at r147
     have r214:=g211.at r148
     have hbig215:qDx (xV c s)=false:=f185
     refine uC (d:=some 36) (c:=.fi .i32) (x:=.tmp 35) (r:=.int .i32 (kY (xV c s))) kr (qIt b186 (by rw [hw149];exact qBn (xI _ _) (jF hc hs (jR f8).2.2 (qN f9).1 (qN f9).2) hbig215)) ?_
     have q216:=q180.app (kL:KdsL [.bool,K2] [.bool w207,.int .i32 (kY (xV c s))])
     refine qL (φ:=φC) (pm:=pmC 0 [] 10) 20 (ws:=[⟨p10,0,[l0,l0,l0],true⟩,⟨p14,0,[n2 11,n2 17,l0],true⟩]) (env:=[(35,.nd 18 (.flt .f64)),(6,.ptr 1 0),(34,.lit (.int .i64 2)),(37,.ptr 1 1),(21,.lit (.int .i64 2)),(38,.lit (.int .i64 2)),(22,.lit (.bool true)),(20,.agg [nF 1,nF 2,nF 3]),(23,.lit (.int .i64 2)),(24,nF 3),(8,nF 3),(0,nF 0),(25,nF 3),(26,nF 0),(27,nF 19),(28,.nd 20 .f64n),(29,.nd 18 (.flt .f64)),(9,.nd 18 (.flt .f64)),(30,.nd 18 (.flt .f64)),(31,.nd 21 (.flt .f64)),(4,.ptr 0 0),(7,.lit (.int .i64 2)),(32,nB 22),(36,n2 23)]) q216 wA sd .nil (eC q216 (sc (sp B6) (.cons (qD rfl b208) (.cons qB .nil)))) qU pP ?_
     refine zA kr fun vs ls H217 E217 st hE=>?_
     refine rf st hE (.tuple [.agg [.int .i32 (kY (xV a s)),.int .i32 (kY (xV b s)),.int .i32 (kY (xV c s))],.int .i64 0]) (qK g212 (st.inn.kept) ⟨op10,⟨op14,trivial⟩⟩) ?_
     simp only [zQ,f8,f9,hbig73,hbig144,hbig215,if_true,Bool.false_eq_true,if_false]
theorem qCW (s a b c:ON) (hs:fOk .f32 s) (ha:fOk .f32 a) (hb:fOk .f32 b) (hc:fOk .f32 c) (H:AHeap):qR Try.prog 69 [.flt .f32 s,.agg [.flt .f32 a,.flt .f32 b,.flt .f32 c]] H (.tuple [.agg (zQ s a b c).1,.int .i64 (zQ s a b c).2]):=by
 refine qF kN (by simp) ?_
 have q1:KdsL [KF,KF,KF,KF,.bool,.bool] [.flt .f32 s,.flt .f32 a,.flt .f32 b,.flt .f32 c,.bool (zI s),.bool (mA a b c)]:=kL
 refine qL (φ:=φC) (pm:=pmC 0 [(.call 47 [nF 0],nB 4),(.call 49 [.agg [nF 1,nF 2,nF 3]],nB 5)] 10) 20 (ws:=[]) (env:=[(0,nF 0),(1,.agg [nF 1,nF 2,nF 3])]) q1 .nil (qI rfl) (.cons (qH (args:=[.flt .f32 s]) (dL q1) (dE q1) (fun H9 hk=>qID s hs H9)) (.cons (qH (args:=[.agg [.flt .f32 a,.flt .f32 b,.flt .f32 c]]) (dL q1) (dE q1) (fun H9 hk=>qJV a b c ha hb hc H9)) .nil)) (eC q1 (.cons (t:=0) rfl (.cons (t:=1) rfl .nil))) qU pP ?_
 refine qNY kr ?_ ?_ ?_ ?_ ?_
 ·intro vs ls H2 E2 st hE
  have f3:(zI s)=false:=bf st 0
  refine rf st hE (.tuple [.agg [.int .i32 0,.int .i32 0,.int .i32 0],.int .i64 2]) (Grew.trans (Grew.refl _) (gk st)) ?_
  simp only [zQ,f3,if_true,Bool.false_eq_true,if_false]
 ·intro vs ls H4 E4 st hE
  have f5:(mA a b c)=false:=bf st 0
  have f6:(zI s)=true:=bf st 1
  refine rf st hE (.tuple [.agg [.int .i32 0,.int .i32 0,.int .i32 0],.int .i64 2]) (Grew.trans (Grew.refl _) (gk st)) ?_
  simp only [zQ,f5,f6,if_true,Bool.false_eq_true,if_false]
 ·intro vs ls H7 E7 st hE
  have f8:(qO .f64 (vY .down (wid (fop .quo .f32 a s))) (some 4696837146684686336) == some .lt || qO .f64 (vY .down (wid (fop .quo .f32 a s))) (some 4696837146684686336) == some .eq)=false:=bf st 0
  have f9:(qO .f64 (some 13920209183539462144) (vY .down (wid (fop .quo .f32 a s))) == some .lt || qO .f64 (some 13920209183539462144) (vY .down (wid (fop .quo .f32 a s))) == some .eq)=true:=bf st 1
  have f10:(mA a b c)=true:=bf st 2
  have f11:(zI s)=true:=bf st 3
  refine rf st hE (.tuple [.agg [.int .i32 0,.int .i32 0,.int .i32 0],.int .i64 3]) (Grew.trans (Grew.refl _) (gk st)) ?_
  have hbig12:qDx (xV a s)=true:=by rw [cQ (xI _ _) (jF ha hs (jR f10).1 (qN f11).1 (qN f11).2)];unfold xV qJh mil;simp only [f8,f9];rfl
  simp only [zQ,f10,f11,hbig12,if_true,Bool.false_eq_true,if_false]
 ·intro vs ls H13 E13 st hE
  have f14:(qO .f64 (vY .down (wid (fop .quo .f32 a s))) (some 4696837146684686336) == some .lt || qO .f64 (vY .down (wid (fop .quo .f32 a s))) (some 4696837146684686336) == some .eq)=true:=bf st 0
  have f15:(qO .f64 (some 13920209183539462144) (vY .down (wid (fop .quo .f32 a s))) == some .lt || qO .f64 (some 13920209183539462144) (vY .down (wid (fop .quo .f32 a s))) == some .eq)=true:=bf st 1
  have f16:(mA a b c)=true:=bf st 2
  have f17:(zI s)=true:=bf st 3
  obtain⟨p18,e19,r20,n21⟩:=pO st hE 6 2 [.int .i32 0,.int .i32 0,.int .i32 0]
  have op18:H.next<=p18:=Nat.le_trans (Nat.le_refl _) (oM n21)
  obtain⟨p22,e23,r24,n25⟩:=pO st hE 3 0 [.flt .f32 a,.flt .f32 b,.flt .f32 c]
  have op22:H.next<=p22:=Nat.le_trans (Nat.le_refl _) (oM n25)
  obtain⟨p26,e27,r28,n29⟩:=pO st hE 4 1 [.int .i32 0,.int .i32 0,.int .i32 0]
  have op26:H.next<=p26:=Nat.le_trans (Nat.le_refl _) (oM n29)
  have ne30:=pn st hE 6 2 3 0 [l0,l0,l0] e19 e23
  have ne31:=pn st hE 6 2 4 1 [l0,l0,l0] e19 e27
  have ne32:=pn st hE 3 0 4 1 [.nd 1 (.flt .f32),.nd 2 (.flt .f32),.nd 3 (.flt .f32)] e23 e27
  obtain⟨w33,hw33⟩:∃ z,z=(vY .down (wid (fop .quo .f32 a s))):=⟨_,rfl⟩
  have b34:E13 39=.flt .f64 w33:=by rw [hw33];exact eo st hE 39 _
  have k35:jQ (.flt .f64) (.flt .f64 w33):=b34 ▸ bT st.inn hE 39 (kd:=.flt .f64) kr
  have b41:E13 24=.ptr p22 0:=qDj st.inn hE 24 0 0 kr 3 kr e23
  have B1:=es st hE [(38,.int .i64 0),(7,.int .i64 0),(19,.int .i64 0),(20,.bool true),(23,.int .i64 0),(0,.flt .f32 s),(25,.flt .f32 a),(26,.flt .f32 s)]
  obtain⟨w45,hw45⟩:∃ z,z=(fop .quo .f32 a s):=⟨_,rfl⟩
  have b46:E13 27=.flt .f32 w45:=by rw [hw45];exact eo st hE 27 _
  obtain⟨w47,hw47⟩:∃ z,z=(wid (fop .quo .f32 a s)):=⟨_,rfl⟩
  have b48:E13 28=.flt .f64 w47:=by rw [hw47];exact eo st hE 28 _
  have k49:jQ (.f64n) (.flt .f64 w47):=b48 ▸ bT st.inn hE 28 (kd:=.f64n) kr
  have b50:E13 29=.flt .f64 w33:=by rw [hw33];exact eo st hE 29 _
  have b51:E13 8=.flt .f64 w33:=by rw [hw33];exact eo st hE 8 _
  have b52:E13 30=.flt .f64 w33:=by rw [hw33];exact eo st hE 30 _
  obtain⟨w53,hw53⟩:∃ z,z=(qO .f64 (some 13920209183539462144) (vY .down (wid (fop .quo .f32 a s))) == some .lt || qO .f64 (some 13920209183539462144) (vY .down (wid (fop .quo .f32 a s))) == some .eq):=⟨_,rfl⟩
  have b54:E13 31=.bool w53:=by rw [hw53];exact eo st hE 31 _
  have b55:E13 33=.flt .f64 w33:=by rw [hw33];exact eo st hE 33 _
  have b56:E13 32=.bool w53:=by rw [hw53];exact eo st hE 32 _
  obtain⟨w57,hw57⟩:∃ z,z=(qO .f64 (vY .down (wid (fop .quo .f32 a s))) (some 4696837146684686336) == some .lt || qO .f64 (vY .down (wid (fop .quo .f32 a s))) (some 4696837146684686336) == some .eq):=⟨_,rfl⟩
  have b58:E13 34=.bool w57:=by rw [hw57];exact eo st hE 34 _
  have b59:E13 35=.bool w57:=by rw [hw57];exact eo st hE 35 _
  obtain⟨w60,hw60⟩:∃ z,z=(!(qO .f64 (vY .down (wid (fop .quo .f32 a s))) (some 4696837146684686336) == some .lt || qO .f64 (vY .down (wid (fop .quo .f32 a s))) (some 4696837146684686336) == some .eq)):=⟨_,rfl⟩
  have b61:E13 36=.bool w60:=by rw [hw60];exact eo st hE 36 _
  have g62:Grew H H13:=(gk st)
  have g63:Grew H H13:=Grew.trans (Grew.refl _) g62
  have hbig64:qDx (xV a s)=false:=by rw [cQ (xI _ _) (jF ha hs (jR f16).1 (qN f17).1 (qN f17).2)];unfold xV qJh mil;simp only [f14,f15];rfl
  refine uC (d:=some 40) (c:=.fi .i32) (x:=.tmp 39) (r:=.int .i32 (kY (xV a s))) kr (qIt b34 (by rw [hw33];exact qBn (xI _ _) (jF ha hs (jR f16).1 (qN f17).1 (qN f17).2) hbig64)) ?_
  have q65:=q1.app (.cons k35 (.cons ⟨_,rfl,hw45 ▸ zS⟩ (.cons k49 (.cons kA (.cons kA (.cons kA (.cons kA .nil)))))):KdsL [.flt .f64,KF,.f64n,.bool,.bool,.bool,K2] [.flt .f64 w33,.flt .f32 w45,.flt .f64 w47,.bool w53,.bool w57,.bool w60,.int .i32 (kY (xV a s))])
  refine qL (φ:=φC) (pm:=pmC 1 [] 10) 20 (ws:=[wf p22 [nF 1,nF 2,nF 3],⟨p18,0,[l0,l0,l0],true⟩,⟨p26,0,[l0,l0,l0],true⟩]) (env:=[(38,.lit (.int .i64 0)),(7,.lit (.int .i64 0)),(19,.lit (.int .i64 0)),(20,.lit (.bool true)),(23,.lit (.int .i64 0)),(0,nF 0),(25,nF 1),(26,nF 0),(39,.nd 6 (.flt .f64)),(6,.ptr 1 0),(3,.ptr 0 0),(24,.ptr 0 0),(27,nF 7),(28,.nd 8 .f64n),(29,.nd 6 (.flt .f64)),(8,.nd 6 (.flt .f64)),(30,.nd 6 (.flt .f64)),(31,nB 9),(33,.nd 6 (.flt .f64)),(32,nB 9),(34,nB 10),(35,nB 10),(36,nB 11),(4,.ptr 2 0),(40,n2 12)]) q65 wA sd .nil (eC q65 (sc (sp B1) (.cons (qD rfl b34) (.cons (qD rfl e19) (.cons (qD rfl e23) (.cons (qD rfl b41) (.cons (qD rfl b46) (.cons (qD rfl b48) (.cons (qD rfl b50) (.cons (qD rfl b51) (.cons (qD rfl b52) (.cons (qD rfl b54) (.cons (qD rfl b55) (.cons (qD rfl b56) (.cons (qD rfl b58) (.cons (qD rfl b59) (.cons (qD rfl b61) (.cons (qD rfl e27) (.cons qB .nil))))))))))))))))))) qU pP ?_
  refine qFf kr ?_ ?_ ?_
  ·intro vs ls H66 E66 st hE
   have f67:(qO .f64 (vY .down (wid (fop .quo .f32 b s))) (some 4696837146684686336) == some .lt || qO .f64 (vY .down (wid (fop .quo .f32 b s))) (some 4696837146684686336) == some .eq)=false:=bf st 0
   have f68:(qO .f64 (some 13920209183539462144) (vY .down (wid (fop .quo .f32 b s))) == some .lt || qO .f64 (some 13920209183539462144) (vY .down (wid (fop .quo .f32 b s))) == some .eq)=true:=bf st 1
   refine rf st hE (.tuple [.agg [.int .i32 0,.int .i32 0,.int .i32 0],.int .i64 3]) (qK g63 (st.inn.kept) ⟨op18,⟨op26,trivial⟩⟩) ?_
   have hbig69:qDx (xV b s)=true:=by rw [cQ (xI _ _) (jF hb hs (jR f16).2.1 (qN f17).1 (qN f17).2)];unfold xV qJh mil;simp only [f67,f68];rfl
   simp only [zQ,f16,f17,hbig64,hbig69,if_true,Bool.false_eq_true,if_false]
  ·intro vs ls H70 E70 st hE
   have f71:(qO .f64 (vY .down (wid (fop .quo .f32 b s))) (some 4696837146684686336) == some .lt || qO .f64 (vY .down (wid (fop .quo .f32 b s))) (some 4696837146684686336) == some .eq)=true:=bf st 0
   have f72:(qO .f64 (some 13920209183539462144) (vY .down (wid (fop .quo .f32 b s))) == some .lt || qO .f64 (some 13920209183539462144) (vY .down (wid (fop .quo .f32 b s))) == some .eq)=true:=bf st 1
   have r73:H70.get p18=some (.row [.int .i32 (kY (xV a s)),.int .i32 0,.int .i32 0] true):=rW st 1
   have r74:H70.get p26=some (.row [.int .i32 0,.int .i32 0,.int .i32 0] true):=rW st 2
   obtain⟨w75,hw75⟩:∃ z,z=(vY .down (wid (fop .quo .f32 b s))):=⟨_,rfl⟩
   have b76:E70 39=.flt .f64 w75:=by rw [hw75];exact eo st hE 39 _
   have k77:jQ (.flt .f64) (.flt .f64 w75):=b76 ▸ bT st.inn hE 39 (kd:=.flt .f64) kr
   obtain⟨w93,hw93⟩:∃ z,z=(fop .quo .f32 b s):=⟨_,rfl⟩
   have b94:E70 27=.flt .f32 w93:=by rw [hw93];exact eo st hE 27 _
   obtain⟨w95,hw95⟩:∃ z,z=(wid (fop .quo .f32 b s)):=⟨_,rfl⟩
   have b96:E70 28=.flt .f64 w95:=by rw [hw95];exact eo st hE 28 _
   have k97:jQ (.f64n) (.flt .f64 w95):=b96 ▸ bT st.inn hE 28 (kd:=.f64n) kr
   have b98:E70 29=.flt .f64 w75:=by rw [hw75];exact eo st hE 29 _
   have b99:E70 8=.flt .f64 w75:=by rw [hw75];exact eo st hE 8 _
   have b100:E70 30=.flt .f64 w75:=by rw [hw75];exact eo st hE 30 _
   obtain⟨w101,hw101⟩:∃ z,z=(qO .f64 (some 13920209183539462144) (vY .down (wid (fop .quo .f32 b s))) == some .lt || qO .f64 (some 13920209183539462144) (vY .down (wid (fop .quo .f32 b s))) == some .eq):=⟨_,rfl⟩
   have b102:E70 31=.bool w101:=by rw [hw101];exact eo st hE 31 _
   have b103:E70 33=.flt .f64 w75:=by rw [hw75];exact eo st hE 33 _
   have b104:E70 32=.bool w101:=by rw [hw101];exact eo st hE 32 _
   obtain⟨w105,hw105⟩:∃ z,z=(qO .f64 (vY .down (wid (fop .quo .f32 b s))) (some 4696837146684686336) == some .lt || qO .f64 (vY .down (wid (fop .quo .f32 b s))) (some 4696837146684686336) == some .eq):=⟨_,rfl⟩
   have b106:E70 34=.bool w105:=by rw [hw105];exact eo st hE 34 _
   have b107:E70 35=.bool w105:=by rw [hw105];exact eo st hE 35 _
   obtain⟨w108,hw108⟩:∃ z,z=(!(qO .f64 (vY .down (wid (fop .quo .f32 b s))) (some 4696837146684686336) == some .lt || qO .f64 (vY .down (wid (fop .quo .f32 b s))) (some 4696837146684686336) == some .eq)):=⟨_,rfl⟩
   have b109:E70 36=.bool w108:=by rw [hw108];exact eo st hE 36 _
   have B2:=es st hE [(6,.ptr p18 0),(38,.int .i64 1),(41,.ptr p18 0),(7,.int .i64 1),(21,.int .i64 0),(22,.int .i64 1),(19,.int .i64 1),(20,.bool true),(3,.ptr p22 0),(23,.int .i64 1),(24,.ptr p22 1),(0,.flt .f32 s),(25,.flt .f32 b),(26,.flt .f32 s),(4,.ptr p26 0)]
   have g112:Grew H H70:=qK g63 st.inn.kept ⟨op18,⟨op26,trivial⟩⟩
   have r113:=zH st.inn.kept r24 ⟨aS,⟨aS,trivial⟩⟩
   have hbig114:qDx (xV b s)=false:=by rw [cQ (xI _ _) (jF hb hs (jR f16).2.1 (qN f17).1 (qN f17).2)];unfold xV qJh mil;simp only [f71,f72];rfl
   refine uC (d:=some 40) (c:=.fi .i32) (x:=.tmp 39) (r:=.int .i32 (kY (xV b s))) kr (qIt b76 (by rw [hw75];exact qBn (xI _ _) (jF hb hs (jR f16).2.1 (qN f17).1 (qN f17).2) hbig114)) ?_
   have q115:=q65.app (.cons k77 (.cons ⟨_,rfl,hw93 ▸ zS⟩ (.cons k97 (.cons kA (.cons kA (.cons kA (.cons kA .nil)))))):KdsL [.flt .f64,KF,.f64n,.bool,.bool,.bool,K2] [.flt .f64 w75,.flt .f32 w93,.flt .f64 w95,.bool w101,.bool w105,.bool w108,.int .i32 (kY (xV b s))])
   refine qL (φ:=φC) (pm:=pmC 1 [] 10) 20 (ws:=[wf p22 [nF 1,nF 2,nF 3],⟨p18,0,[n2 12,l0,l0],true⟩,⟨p26,0,[l0,l0,l0],true⟩]) (env:=[(6,.ptr 1 0),(38,.lit (.int .i64 1)),(41,.ptr 1 0),(7,.lit (.int .i64 1)),(21,.lit (.int .i64 0)),(22,.lit (.int .i64 1)),(19,.lit (.int .i64 1)),(20,.lit (.bool true)),(3,.ptr 0 0),(23,.lit (.int .i64 1)),(24,.ptr 0 1),(0,nF 0),(25,nF 2),(26,nF 0),(4,.ptr 2 0),(39,.nd 13 (.flt .f64)),(27,nF 14),(28,.nd 15 .f64n),(29,.nd 13 (.flt .f64)),(8,.nd 13 (.flt .f64)),(30,.nd 13 (.flt .f64)),(31,nB 16),(33,.nd 13 (.flt .f64)),(32,nB 16),(34,nB 17),(35,nB 17),(36,nB 18),(40,n2 19)]) q115 wA sd .nil (eC q115 (sc (sp B2) (.cons (qD rfl b76) (.cons (qD rfl b94) (.cons (qD rfl b96) (.cons (qD rfl b98) (.cons (qD rfl b99) (.cons (qD rfl b100) (.cons (qD rfl b102) (.cons (qD rfl b103) (.cons (qD rfl b104) (.cons (qD rfl b106) (.cons (qD rfl b107) (.cons (qD rfl b109) (.cons qB .nil))))))))))))))) qU pP ?_
   refine qFf kr ?_ ?_ ?_
   ·intro vs ls H116 E116 st hE
    have f117:(qO .f64 (vY .down (wid (fop .quo .f32 c s))) (some 4696837146684686336) == some .lt || qO .f64 (vY .down (wid (fop .quo .f32 c s))) (some 4696837146684686336) == some .eq)=false:=bf st 0
    have f118:(qO .f64 (some 13920209183539462144) (vY .down (wid (fop .quo .f32 c s))) == some .lt || qO .f64 (some 13920209183539462144) (vY .down (wid (fop .quo .f32 c s))) == some .eq)=true:=bf st 1
    refine rf st hE (.tuple [.agg [.int .i32 0,.int .i32 0,.int .i32 0],.int .i64 3]) (qK g112 (st.inn.kept) ⟨op18,⟨op26,trivial⟩⟩) ?_
    have hbig119:qDx (xV c s)=true:=by rw [cQ (xI _ _) (jF hc hs (jR f16).2.2 (qN f17).1 (qN f17).2)];unfold xV qJh mil;simp only [f117,f118];rfl
    simp only [zQ,f16,f17,hbig64,hbig114,hbig119,if_true,Bool.false_eq_true,if_false]
   ·intro vs ls H120 E120 st hE
    have f121:(qO .f64 (vY .down (wid (fop .quo .f32 c s))) (some 4696837146684686336) == some .lt || qO .f64 (vY .down (wid (fop .quo .f32 c s))) (some 4696837146684686336) == some .eq)=true:=bf st 0
    have f122:(qO .f64 (some 13920209183539462144) (vY .down (wid (fop .quo .f32 c s))) == some .lt || qO .f64 (some 13920209183539462144) (vY .down (wid (fop .quo .f32 c s))) == some .eq)=true:=bf st 1
    have r123:H120.get p18=some (.row [.int .i32 (kY (xV a s)),.int .i32 (kY (xV b s)),.int .i32 0] true):=rW st 1
    have r124:H120.get p26=some (.row [.int .i32 0,.int .i32 0,.int .i32 0] true):=rW st 2
    obtain⟨w125,hw125⟩:∃ z,z=(vY .down (wid (fop .quo .f32 c s))):=⟨_,rfl⟩
    have b126:E120 39=.flt .f64 w125:=by rw [hw125];exact eo st hE 39 _
    have k127:jQ (.flt .f64) (.flt .f64 w125):=b126 ▸ bT st.inn hE 39 (kd:=.flt .f64) kr
    obtain⟨w143,hw143⟩:∃ z,z=(fop .quo .f32 c s):=⟨_,rfl⟩
    have b144:E120 27=.flt .f32 w143:=by rw [hw143];exact eo st hE 27 _
    obtain⟨w145,hw145⟩:∃ z,z=(wid (fop .quo .f32 c s)):=⟨_,rfl⟩
    have b146:E120 28=.flt .f64 w145:=by rw [hw145];exact eo st hE 28 _
    have k147:jQ (.f64n) (.flt .f64 w145):=b146 ▸ bT st.inn hE 28 (kd:=.f64n) kr
    have b148:E120 29=.flt .f64 w125:=by rw [hw125];exact eo st hE 29 _
    have b149:E120 8=.flt .f64 w125:=by rw [hw125];exact eo st hE 8 _
    have b150:E120 30=.flt .f64 w125:=by rw [hw125];exact eo st hE 30 _
    obtain⟨w151,hw151⟩:∃ z,z=(qO .f64 (some 13920209183539462144) (vY .down (wid (fop .quo .f32 c s))) == some .lt || qO .f64 (some 13920209183539462144) (vY .down (wid (fop .quo .f32 c s))) == some .eq):=⟨_,rfl⟩
    have b152:E120 31=.bool w151:=by rw [hw151];exact eo st hE 31 _
    have b153:E120 33=.flt .f64 w125:=by rw [hw125];exact eo st hE 33 _
    have b154:E120 32=.bool w151:=by rw [hw151];exact eo st hE 32 _
    obtain⟨w155,hw155⟩:∃ z,z=(qO .f64 (vY .down (wid (fop .quo .f32 c s))) (some 4696837146684686336) == some .lt || qO .f64 (vY .down (wid (fop .quo .f32 c s))) (some 4696837146684686336) == some .eq):=⟨_,rfl⟩
    have b156:E120 34=.bool w155:=by rw [hw155];exact eo st hE 34 _
    have b157:E120 35=.bool w155:=by rw [hw155];exact eo st hE 35 _
    obtain⟨w158,hw158⟩:∃ z,z=(!(qO .f64 (vY .down (wid (fop .quo .f32 c s))) (some 4696837146684686336) == some .lt || qO .f64 (vY .down (wid (fop .quo .f32 c s))) (some 4696837146684686336) == some .eq)):=⟨_,rfl⟩
    have b159:E120 36=.bool w158:=by rw [hw158];exact eo st hE 36 _
    have B3:=es st hE [(6,.ptr p18 0),(38,.int .i64 2),(41,.ptr p18 1),(7,.int .i64 2),(21,.int .i64 1),(22,.int .i64 2),(19,.int .i64 2),(20,.bool true),(3,.ptr p22 0),(23,.int .i64 2),(24,.ptr p22 2),(0,.flt .f32 s),(25,.flt .f32 c),(26,.flt .f32 s),(4,.ptr p26 0)]
    have g162:Grew H H120:=qK g112 st.inn.kept ⟨op18,⟨op26,trivial⟩⟩
    have r163:=zH st.inn.kept r113 ⟨aS,⟨aS,trivial⟩⟩
    have hbig164:qDx (xV c s)=false:=by rw [cQ (xI _ _) (jF hc hs (jR f16).2.2 (qN f17).1 (qN f17).2)];unfold xV qJh mil;simp only [f121,f122];rfl
    refine uC (d:=some 40) (c:=.fi .i32) (x:=.tmp 39) (r:=.int .i32 (kY (xV c s))) kr (qIt b126 (by rw [hw125];exact qBn (xI _ _) (jF hc hs (jR f16).2.2 (qN f17).1 (qN f17).2) hbig164)) ?_
    have q165:=q115.app (.cons k127 (.cons ⟨_,rfl,hw143 ▸ zS⟩ (.cons k147 (.cons kA (.cons kA (.cons kA (.cons kA .nil)))))):KdsL [.flt .f64,KF,.f64n,.bool,.bool,.bool,K2] [.flt .f64 w125,.flt .f32 w143,.flt .f64 w145,.bool w151,.bool w155,.bool w158,.int .i32 (kY (xV c s))])
    refine qL (φ:=φC) (pm:=pmC 1 [] 10) 20 (ws:=[wf p22 [nF 1,nF 2,nF 3],⟨p18,0,[n2 12,n2 19,l0],true⟩,⟨p26,0,[l0,l0,l0],true⟩]) (env:=[(6,.ptr 1 0),(38,.lit (.int .i64 2)),(41,.ptr 1 1),(7,.lit (.int .i64 2)),(21,.lit (.int .i64 1)),(22,.lit (.int .i64 2)),(19,.lit (.int .i64 2)),(20,.lit (.bool true)),(3,.ptr 0 0),(23,.lit (.int .i64 2)),(24,.ptr 0 2),(0,nF 0),(25,nF 3),(26,nF 0),(4,.ptr 2 0),(39,.nd 20 (.flt .f64)),(27,nF 21),(28,.nd 22 .f64n),(29,.nd 20 (.flt .f64)),(8,.nd 20 (.flt .f64)),(30,.nd 20 (.flt .f64)),(31,nB 23),(33,.nd 20 (.flt .f64)),(32,nB 23),(34,nB 24),(35,nB 24),(36,nB 25),(40,n2 26)]) q165 wA sd .nil (eC q165 (sc (sp B3) (.cons (qD rfl b126) (.cons (qD rfl b144) (.cons (qD rfl b146) (.cons (qD rfl b148) (.cons (qD rfl b149) (.cons (qD rfl b150) (.cons (qD rfl b152) (.cons (qD rfl b153) (.cons (qD rfl b154) (.cons (qD rfl b156) (.cons (qD rfl b157) (.cons (qD rfl b159) (.cons qB .nil))))))))))))))) qU pP ?_
    refine zA kr fun vs ls H166 E166 st hE=>?_
    refine rf st hE (.tuple [.agg [.int .i32 (kY (xV a s)),.int .i32 (kY (xV b s)),.int .i32 (kY (xV c s))],.int .i64 0]) (qK g162 (st.inn.kept) ⟨op18,⟨op26,trivial⟩⟩) ?_
    simp only [zQ,f16,f17,hbig64,hbig114,hbig164,if_true,Bool.false_eq_true,if_false]
   ·intro vs ls H167 E167 st hE
    have f168:(qO .f64 (some 13920209183539462144) (vY .down (wid (fop .quo .f32 c s))) == some .lt || qO .f64 (some 13920209183539462144) (vY .down (wid (fop .quo .f32 c s))) == some .eq)=false:=bf st 0
    refine rf st hE (.tuple [.agg [.int .i32 0,.int .i32 0,.int .i32 0],.int .i64 3]) (qK g112 (st.inn.kept) ⟨op18,⟨op26,trivial⟩⟩) ?_
    have hbig169:qDx (xV c s)=true:=by rw [cQ (xI _ _) (jF hc hs (jR f16).2.2 (qN f17).1 (qN f17).2)];unfold xV qJh mil;simp only [f168];rfl
    simp only [zQ,f16,f17,hbig64,hbig114,hbig169,if_true,Bool.false_eq_true,if_false]
  ·intro vs ls H170 E170 st hE
   have f171:(qO .f64 (some 13920209183539462144) (vY .down (wid (fop .quo .f32 b s))) == some .lt || qO .f64 (some 13920209183539462144) (vY .down (wid (fop .quo .f32 b s))) == some .eq)=false:=bf st 0
   refine rf st hE (.tuple [.agg [.int .i32 0,.int .i32 0,.int .i32 0],.int .i64 3]) (qK g63 (st.inn.kept) ⟨op18,⟨op26,trivial⟩⟩) ?_
   have hbig172:qDx (xV b s)=true:=by rw [cQ (xI _ _) (jF hb hs (jR f16).2.1 (qN f17).1 (qN f17).2)];unfold xV qJh mil;simp only [f171];rfl
   simp only [zQ,f16,f17,hbig64,hbig172,if_true,Bool.false_eq_true,if_false]
 ·intro vs ls H173 E173 st hE
  have f174:(qO .f64 (some 13920209183539462144) (vY .down (wid (fop .quo .f32 a s))) == some .lt || qO .f64 (some 13920209183539462144) (vY .down (wid (fop .quo .f32 a s))) == some .eq)=false:=bf st 0
  have f175:(mA a b c)=true:=bf st 1
  have f176:(zI s)=true:=bf st 2
  refine rf st hE (.tuple [.agg [.int .i32 0,.int .i32 0,.int .i32 0],.int .i64 3]) (Grew.trans (Grew.refl _) (gk st)) ?_
  have hbig177:qDx (xV a s)=true:=by rw [cQ (xI _ _) (jF ha hs (jR f175).1 (qN f176).1 (qN f176).2)];unfold xV qJh mil;simp only [f174];rfl
  simp only [zQ,f175,f176,hbig177,if_true,Bool.false_eq_true,if_false]
end Go.Proofs.Ytacligocjfhckaa
