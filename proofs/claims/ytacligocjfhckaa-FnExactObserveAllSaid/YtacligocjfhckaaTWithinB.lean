/- Contracts: marks that are better, by both. -/
import Derived.Test.YtacligocjfhckaaTCell
import Derived.Test.YtacligocjfhckaaSxC
import Derived.Test.YtacligocjfhckaaSxE
import Derived.Test.YtacligocjfhckaaSxD
set_option linter.unusedVariables false
set_option linter.unusedSimpArgs false
namespace Go.Proofs.Ytacligocjfhckaa
open Go.Ab
set_option maxRecDepth 100000
set_option maxHeartbeats 1000000
attribute [local irreducible] Res
def yA:List AV->Bool
 | [_,_,_,.flt _ x,.flt _ y,.flt _ z,.flt _ w,.int _ s,.int _ l]=>mA x y z && (zI w && (decide (1<=s/\s<=1000000) && decide (0<=l/\l<=1000000000)))
 | _=>false
theorem mB (x y:ON) (hx:fOk .f32 x) (hy:fOk .f32 y) (sx:x.isSome=true) (sy:y.isSome=true) (H:AHeap):qR Try.prog 65 [.flt .f32 x,.flt .f32 y] H (.bool (decide (x=y))):=by
 obtain⟨u,rfl⟩:=Option.isSome_iff_exists.1 sx
 obtain⟨v,rfl⟩:=Option.isSome_iff_exists.1 sy
 refine qF gR (by simp) ?_
 have q1:KdsL [KF,KF] [.flt .f32 (some u),.flt .f32 (some v)]:=kL
 refine rC 0 10 [] [(0,nF 0),(1,nF 1)] q1 (.cons (t:=0) rfl (.cons (t:=1) rfl .nil)) ?_
 refine qFf kr ?_ ?_ ?_
 ·intro vs ls H2 E2 st hE
  have f3:(qO .f32 (some v) (some v) == some .eq)=false:=bf st 0
  have f4:(qO .f32 (some u) (some u) == some .eq)=false:=bf st 1
  exact absurd (qAp hy rfl) (by rw [f3];decide)
 ·intro vs ls H5 E5 st hE
  have f6:(qO .f32 (some v) (some v) == some .eq)=true:=bf st 0
  have f7:(qO .f32 (some u) (some u) == some .eq)=false:=bf st 1
  exact absurd (qAp hx rfl) (by rw [f7];decide)
 ·intro vs ls H8 E8 st hE
  have f9:(qO .f32 (some u) (some u) == some .eq)=true:=bf st 0
  refine rf st hE (.bool (decide ((u:Int)=(v:Int)))) (Grew.trans (Grew.refl _) (gk st)) ?_
  congr 1;exact decide_eq_decide.2 (by simp;omega)
theorem bD (x y:ON) (hx:fOk .f32 x) (hy:fOk .f32 y) (sx:x.isSome=true) (sy:y.isSome=true) (H:AHeap):qR Try.prog 74 [.flt .f32 x,.flt .f32 y] H (.bool (decide (x=y))):=by
 obtain⟨u,rfl⟩:=Option.isSome_iff_exists.1 sx
 obtain⟨v,rfl⟩:=Option.isSome_iff_exists.1 sy
 refine qF kM (by simp) ?_
 have q1:KdsL [KF,KF] [.flt .f32 (some u),.flt .f32 (some v)]:=kL
 refine rC 0 10 [] [(0,nF 0),(1,nF 1)] q1 (.cons (t:=0) rfl (.cons (t:=1) rfl .nil)) ?_
 refine qFf kr ?_ ?_ ?_
 ·intro vs ls H2 E2 st hE
  have f3:(qO .f32 (some u) (some u) == some .eq)=false:=bf st 0
  exact absurd (qAp hx rfl) (by rw [f3];decide)
 ·intro vs ls H4 E4 st hE
  have f5:(qO .f32 (some v) (some v) == some .eq)=false:=bf st 0
  have f6:(qO .f32 (some u) (some u) == some .eq)=true:=bf st 1
  exact absurd (qAp hy rfl) (by rw [f5];decide)
 ·intro vs ls H7 E7 st hE
  have f8:(qO .f32 (some v) (some v) == some .eq)=true:=bf st 0
  have f9:(qO .f32 (some u) (some u) == some .eq)=true:=bf st 1
  refine rf st hE (.bool (decide ((u:Int)=(v:Int)))) (Grew.trans (Grew.refl _) (gk st)) ?_
  congr 1;exact decide_eq_decide.2 (by simp;omega)
theorem qIB (b:Nat) (hb:fOk .f64 (some b)) (H:AHeap):qR Try.prog 78 [.flt .f64 (some b)] H (.bool (decide (9223372036854775808<=b))):=by
 refine qF kK (by simp) ?_
 have q1:KdsL [.flt .f64] [.flt .f64 (some b)]:=kL
 refine rC 0 0 [] [(0,.nd 0 (.flt .f64))] q1 (.cons (t:=0) rfl .nil) ?_
 refine zA kr fun vs ls H2 E2 st hE=>?_
 have b3:=eo st hE 3 (.flt .f64 (some b))
 have g4:Grew H H2:=(gk st)
 have g5:Grew H H2:=Grew.trans (Grew.refl _) g4
 refine zB (d:=(some 4)) (f:=90) (args:=[.tmp 3]) kr (R:=fun z H'=>z=.int .u64 (b:Int)/\H'=H2) ?_ ?_
 ·show qJ _ _ [E2 3] _ _
  rw [b3]
  exact qHI H2 b
 rintro z H2 ⟨rfl,rfl⟩
 have q6:=q1.app (kL:KdsL [.int .u64] [.int .u64 (b:Int)])
 refine rC 0 0 [] [(3,.nd 0 (.flt .f64)),(4,.nd 1 (.int .u64))] q6 (.cons (qD rfl b3) (.cons qB .nil)) ?_
 refine zA kr fun vs ls H7 E7 st hE=>?_
 refine rf st hE (.bool (decide ((IntKind.wrap .i64 (b:Int)) < 0))) (Grew.trans g5 (gk st)) ?_
 congr 1;have h1:b < 18446744073709551616:=(hb b rfl).1;exact decide_eq_decide.2 (by rw [IntKind.wrap_i64];omega)
theorem qCT (y:ON) (hy:fOk .f32 y) (sy:y.isSome=true) (H:AHeap):qR Try.prog 78 [.flt .f64 (wid y)] H (.bool (qJi y)):=by
 have h1:=qNf (qOP hy)
 obtain⟨b,hb⟩:=Option.isSome_iff_exists.1 (qIh hy sy)
 unfold qJi
 rw [hb] at h1 ⊢
 exact qIB b h1 H
theorem xQ {v0 v1 v2:Int} {v3 v4 v5 v6:ON} {v7 v8:Int} (h:yA [.int .i32 v0,.int .i32 v1,.int .i32 v2,.flt .f32 v3,.flt .f32 v4,.flt .f32 v5,.flt .f32 v6,.int .i64 v7,.int .i64 v8]=true) (o3:fOk .f32 v3) (o4:fOk .f32 v4) (o5:fOk .f32 v5):v3.isSome=true/\v4.isSome=true/\v5.isSome=true:=by
 have h:(mA v3 v4 v5 && (zI v6 && (decide (1<=v7/\v7<=1000000) && decide (0<=v8/\v8<=1000000000))))=true:=h
 rw [Bool.and_eq_true] at h
 obtain⟨h1,h2,h3⟩:=jR h.1
 obtain⟨_,_,_,_,rfl,_⟩:=wC o3 h1
 obtain⟨_,_,_,_,rfl,_⟩:=wC o4 h2
 obtain⟨_,_,_,_,rfl,_⟩:=wC o5 h3
 exact⟨rfl,rfl,rfl⟩
def cO (at_:ON->ON->Bool->Bool):List AV->List AV->Bool
 | [_,_,_,.flt _ x,.flt _ y,.flt _ z,.flt _ w,.int _ s,.int _ l],[_,_,_,.flt _ x',.flt _ y',.flt _ z',.flt _ w',.int _ s',.int _ l'] =>
  if l=l' then (if (qO .f32 w w' == some .eq)=true then (if s=s' then at_ x x' (at_ y y' (at_ z z' false)) else decide (s' < s)) else (qO .f32 w' w == some .lt)) else decide (l' < l)
 | _,_=>false
def pQ (m m' : List AV):Bool:=yA m && (yA m' && cO atI m m')
theorem tC (v0 v1 v2:Int) (v3 v4 v5 v6:ON) (v7 v8:Int) (o3:fOk .f32 v3) (o4:fOk .f32 v4) (o5:fOk .f32 v5) (o6:fOk .f32 v6) (H:AHeap):qR Try.prog 35 [.agg [.int .i32 v0,.int .i32 v1,.int .i32 v2,.flt .f32 v3,.flt .f32 v4,.flt .f32 v5,.flt .f32 v6,.int .i64 v7,.int .i64 v8]] H (.bool (yA [.int .i32 v0,.int .i32 v1,.int .i32 v2,.flt .f32 v3,.flt .f32 v4,.flt .f32 v5,.flt .f32 v6,.int .i64 v7,.int .i64 v8])):=by
 refine qF wJ (by simp) ?_
 have q1:KdsL [K2,K2,K2,KF,KF,KF,KF,KI,KI,.bool,.bool] [.int .i32 v0,.int .i32 v1,.int .i32 v2,.flt .f32 v3,.flt .f32 v4,.flt .f32 v5,.flt .f32 v6,.int .i64 v7,.int .i64 v8,.bool (mA v3 v4 v5),.bool (zI v6)]:=kL
 refine rD 0 0 [(.call 57 [.agg [nF 3,nF 4,nF 5]],nB 9),(.call 55 [nF 6],nB 10)] [] [(0,.agg [n2 0,n2 1,n2 2,nF 3,nF 4,nF 5,nF 6,nI 7,nI 8])] q1 (.cons (qH (args:=[.agg [.flt .f32 v3,.flt .f32 v4,.flt .f32 v5]]) (dL q1) (dE q1) (fun H9 hk=>qMC v3 v4 v5 o3 o4 o5 H9)) (.cons (qH (args:=[.flt .f32 v6]) (dL q1) (dE q1) (fun H9 hk=>qCV v6 o6 H9)) .nil)) (.cons (t:=0) rfl .nil) ?_
 refine qPe kr ?_ ?_ ?_ ?_ ?_ ?_
 ·intro vs ls H2 E2 st hE
  have f3:¬ (v8 < 0):=df st 0
  have f4:¬ (1000000 < v7):=df st 1
  have f5:¬ (v7 < 1):=df st 2
  have f6:(zI v6)=true:=bf st 3
  have f7:(mA v3 v4 v5)=true:=bf st 4
  refine rf st hE (.bool (!(decide (1000000000 < v8)))) (Grew.trans (Grew.refl _) (gk st)) ?_
  show _=AV.bool (mA v3 v4 v5 && (zI v6 && (decide (1<=v7/\v7<=1000000) && decide (0<=v8/\v8<=1000000000))))
  rw [f6,f7,decide_eq_true (show 1<=v7/\v7<=1000000 by omega)];simp only [Bool.true_and,<- decide_not];congr 1;exact decide_eq_decide.2 om
 ·intro vs ls H8 E8 st hE
  have f9:v8 < 0:=dt st 0
  have f10:¬ (1000000 < v7):=df st 1
  have f11:¬ (v7 < 1):=df st 2
  have f12:(zI v6)=true:=bf st 3
  have f13:(mA v3 v4 v5)=true:=bf st 4
  refine rf st hE (.bool false) (Grew.trans (Grew.refl _) (gk st)) ?_
  show _=AV.bool (mA v3 v4 v5 && (zI v6 && (decide (1<=v7/\v7<=1000000) && decide (0<=v8/\v8<=1000000000))))
  first | (rw [f12,f13];rfl) | (rw [f12,f13,decide_eq_false om];rfl) | (rw [f12,f13,decide_eq_true om,decide_eq_false om];rfl) | simp [f12,f13]
 ·intro vs ls H14 E14 st hE
  have f15:1000000 < v7:=dt st 0
  have f16:¬ (v7 < 1):=df st 1
  have f17:(zI v6)=true:=bf st 2
  have f18:(mA v3 v4 v5)=true:=bf st 3
  refine rf st hE (.bool false) (Grew.trans (Grew.refl _) (gk st)) ?_
  show _=AV.bool (mA v3 v4 v5 && (zI v6 && (decide (1<=v7/\v7<=1000000) && decide (0<=v8/\v8<=1000000000))))
  first | (rw [f17,f18];rfl) | (rw [f17,f18,decide_eq_false om];rfl) | (rw [f17,f18,decide_eq_true om,decide_eq_false om];rfl) | simp [f17,f18]
 ·intro vs ls H19 E19 st hE
  have f20:v7 < 1:=dt st 0
  have f21:(zI v6)=true:=bf st 1
  have f22:(mA v3 v4 v5)=true:=bf st 2
  refine rf st hE (.bool false) (Grew.trans (Grew.refl _) (gk st)) ?_
  show _=AV.bool (mA v3 v4 v5 && (zI v6 && (decide (1<=v7/\v7<=1000000) && decide (0<=v8/\v8<=1000000000))))
  first | (rw [f21,f22];rfl) | (rw [f21,f22,decide_eq_false om];rfl) | (rw [f21,f22,decide_eq_true om,decide_eq_false om];rfl) | simp [f21,f22]
 ·intro vs ls H23 E23 st hE
  have f24:(zI v6)=false:=bf st 0
  have f25:(mA v3 v4 v5)=true:=bf st 1
  refine rf st hE (.bool false) (Grew.trans (Grew.refl _) (gk st)) ?_
  show _=AV.bool (mA v3 v4 v5 && (zI v6 && (decide (1<=v7/\v7<=1000000) && decide (0<=v8/\v8<=1000000000))))
  first | (rw [f24,f25];rfl) | (rw [f24,f25,decide_eq_false om];rfl) | (rw [f24,f25,decide_eq_true om,decide_eq_false om];rfl) | simp [f24,f25]
 ·intro vs ls H26 E26 st hE
  have f27:(mA v3 v4 v5)=false:=bf st 0
  refine rf st hE (.bool false) (Grew.trans (Grew.refl _) (gk st)) ?_
  show _=AV.bool (mA v3 v4 v5 && (zI v6 && (decide (1<=v7/\v7<=1000000) && decide (0<=v8/\v8<=1000000000))))
  first | (rw [f27];rfl) | (rw [f27,decide_eq_false om];rfl) | (rw [f27,decide_eq_true om,decide_eq_false om];rfl) | simp [f27]
def tbX:List (Nat × AFun):=tb.filter fun p=>!(p.1 == 65 || p.1 == 74 || p.1 == 78)
theorem dV:qDw Try.prog tbX:=fun f a h=>qU f a (List.mem_filter.1 h).1
def pmX (fl:Nat) (ru:List (RK × SV)) (un:Nat):Pm:=⟨fl,ru,tbX,ap,un⟩
theorem qFP (v0 v1 v2:Int) (v3 v4 v5 v6:ON) (v7 v8:Int) (o3:fOk .f32 v3) (o4:fOk .f32 v4) (o5:fOk .f32 v5) (o6:fOk .f32 v6) (u0 u1 u2:Int) (u3 u4 u5 u6:ON) (u7 u8:Int) (p3:fOk .f32 u3) (p4:fOk .f32 u4) (p5:fOk .f32 u5) (p6:fOk .f32 u6) (H:AHeap):qR Try.prog 62 [.agg [.int .i32 v0,.int .i32 v1,.int .i32 v2,.flt .f32 v3,.flt .f32 v4,.flt .f32 v5,.flt .f32 v6,.int .i64 v7,.int .i64 v8],.agg [.int .i32 u0,.int .i32 u1,.int .i32 u2,.flt .f32 u3,.flt .f32 u4,.flt .f32 u5,.flt .f32 u6,.int .i64 u7,.int .i64 u8]] H (.bool (pQ [.int .i32 v0,.int .i32 v1,.int .i32 v2,.flt .f32 v3,.flt .f32 v4,.flt .f32 v5,.flt .f32 v6,.int .i64 v7,.int .i64 v8] [.int .i32 u0,.int .i32 u1,.int .i32 u2,.flt .f32 u3,.flt .f32 u4,.flt .f32 u5,.flt .f32 u6,.int .i64 u7,.int .i64 u8])):=by
 refine qF gP (by simp) ?_
 have q1:KdsL [K2,K2,K2,KF,KF,KF,KF,KI,KI,K2,K2,K2,KF,KF,KF,KF,KI,KI,.bool,.bool] [.int .i32 v0,.int .i32 v1,.int .i32 v2,.flt .f32 v3,.flt .f32 v4,.flt .f32 v5,.flt .f32 v6,.int .i64 v7,.int .i64 v8,.int .i32 u0,.int .i32 u1,.int .i32 u2,.flt .f32 u3,.flt .f32 u4,.flt .f32 u5,.flt .f32 u6,.int .i64 u7,.int .i64 u8,.bool (yA [.int .i32 v0,.int .i32 v1,.int .i32 v2,.flt .f32 v3,.flt .f32 v4,.flt .f32 v5,.flt .f32 v6,.int .i64 v7,.int .i64 v8]),.bool (yA [.int .i32 u0,.int .i32 u1,.int .i32 u2,.flt .f32 u3,.flt .f32 u4,.flt .f32 u5,.flt .f32 u6,.int .i64 u7,.int .i64 u8])]:=kL
 refine qL (φ:=φ0) (pm:=pmX 0 [(.call 35 [.agg [n2 0,n2 1,n2 2,nF 3,nF 4,nF 5,nF 6,nI 7,nI 8]],nB 18),(.call 35 [.agg [n2 9,n2 10,n2 11,nF 12,nF 13,nF 14,nF 15,nI 16,nI 17]],nB 19)] 5) 20 (ws:=[]) (env:=[(0,.agg [n2 0,n2 1,n2 2,nF 3,nF 4,nF 5,nF 6,nI 7,nI 8]),(1,.agg [n2 9,n2 10,n2 11,nF 12,nF 13,nF 14,nF 15,nI 16,nI 17])]) q1 .nil (qI rfl) (.cons (qH (args:=[.agg [.int .i32 v0,.int .i32 v1,.int .i32 v2,.flt .f32 v3,.flt .f32 v4,.flt .f32 v5,.flt .f32 v6,.int .i64 v7,.int .i64 v8]]) (dL q1) (dE q1) (fun H9 hk=>tC v0 v1 v2 v3 v4 v5 v6 v7 v8 o3 o4 o5 o6 H9)) (.cons (qH (args:=[.agg [.int .i32 u0,.int .i32 u1,.int .i32 u2,.flt .f32 u3,.flt .f32 u4,.flt .f32 u5,.flt .f32 u6,.int .i64 u7,.int .i64 u8]]) (dL q1) (dE q1) (fun H9 hk=>tC u0 u1 u2 u3 u4 u5 u6 u7 u8 p3 p4 p5 p6 H9)) .nil)) (eC q1 (.cons (t:=0) rfl (.cons (t:=1) rfl .nil))) dV qM ?_
 refine qPe kr ?_ ?_ ?_ ?_ ?_ ?_
 ·intro vs ls H2 E2 st hE
  have f3:(yA [.int .i32 v0,.int .i32 v1,.int .i32 v2,.flt .f32 v3,.flt .f32 v4,.flt .f32 v5,.flt .f32 v6,.int .i64 v7,.int .i64 v8])=false:=bf st 0
  refine rf st hE (.bool false) (Grew.trans (Grew.refl _) (gk st)) ?_
  unfold pQ;rw [f3]
  simp only [cO,atI]
  simp
 ·intro vs ls H4 E4 st hE
  have f5:(yA [.int .i32 u0,.int .i32 u1,.int .i32 u2,.flt .f32 u3,.flt .f32 u4,.flt .f32 u5,.flt .f32 u6,.int .i64 u7,.int .i64 u8])=false:=bf st 0
  have f6:(yA [.int .i32 v0,.int .i32 v1,.int .i32 v2,.flt .f32 v3,.flt .f32 v4,.flt .f32 v5,.flt .f32 v6,.int .i64 v7,.int .i64 v8])=true:=bf st 1
  refine rf st hE (.bool false) (Grew.trans (Grew.refl _) (gk st)) ?_
  unfold pQ;rw [f5,f6]
  simp only [cO,atI]
  simp
 ·intro vs ls H7 E7 st hE
  have f8:¬ (v8=u8):=df st 0
  have f9:(yA [.int .i32 u0,.int .i32 u1,.int .i32 u2,.flt .f32 u3,.flt .f32 u4,.flt .f32 u5,.flt .f32 u6,.int .i64 u7,.int .i64 u8])=true:=bf st 1
  have f10:(yA [.int .i32 v0,.int .i32 v1,.int .i32 v2,.flt .f32 v3,.flt .f32 v4,.flt .f32 v5,.flt .f32 v6,.int .i64 v7,.int .i64 v8])=true:=bf st 2
  refine rf st hE (.bool (decide (u8 < v8))) (Grew.trans (Grew.refl _) (gk st)) ?_
  unfold pQ;rw [f9,f10]
  simp only [cO,atI]
  simp [f8]
 ·intro vs ls H11 E11 st hE
  have f12:(qO .f32 v6 u6 == some .eq)=false:=bf st 0
  have f13:v8=u8:=dt st 1
  have f14:(yA [.int .i32 u0,.int .i32 u1,.int .i32 u2,.flt .f32 u3,.flt .f32 u4,.flt .f32 u5,.flt .f32 u6,.int .i64 u7,.int .i64 u8])=true:=bf st 2
  have f15:(yA [.int .i32 v0,.int .i32 v1,.int .i32 v2,.flt .f32 v3,.flt .f32 v4,.flt .f32 v5,.flt .f32 v6,.int .i64 v7,.int .i64 v8])=true:=bf st 3
  refine rf st hE (.bool (qO .f32 u6 v6 == some .lt)) (Grew.trans (Grew.refl _) (gk st)) ?_
  unfold pQ;rw [f14,f15]
  simp only [cO,atI,f12]
  simp [f13]
 ·intro vs ls H16 E16 st hE
  have f17:¬ (v7=u7):=df st 0
  have f18:(qO .f32 v6 u6 == some .eq)=true:=bf st 1
  have f19:v8=u8:=dt st 2
  have f20:(yA [.int .i32 u0,.int .i32 u1,.int .i32 u2,.flt .f32 u3,.flt .f32 u4,.flt .f32 u5,.flt .f32 u6,.int .i64 u7,.int .i64 u8])=true:=bf st 3
  have f21:(yA [.int .i32 v0,.int .i32 v1,.int .i32 v2,.flt .f32 v3,.flt .f32 v4,.flt .f32 v5,.flt .f32 v6,.int .i64 v7,.int .i64 v8])=true:=bf st 4
  refine rf st hE (.bool (decide (u7 < v7))) (Grew.trans (Grew.refl _) (gk st)) ?_
  unfold pQ;rw [f20,f21]
  simp only [cO,atI,f18]
  simp [f17,f19]
 ·intro vs ls H22 E22 st hE
  have f23:v7=u7:=dt st 0
  have f24:(qO .f32 v6 u6 == some .eq)=true:=bf st 1
  have f25:v8=u8:=dt st 2
  have f26:(yA [.int .i32 u0,.int .i32 u1,.int .i32 u2,.flt .f32 u3,.flt .f32 u4,.flt .f32 u5,.flt .f32 u6,.int .i64 u7,.int .i64 u8])=true:=bf st 3
  have f27:(yA [.int .i32 v0,.int .i32 v1,.int .i32 v2,.flt .f32 v3,.flt .f32 v4,.flt .f32 v5,.flt .f32 v6,.int .i64 v7,.int .i64 v8])=true:=bf st 4
  obtain⟨p28,e29,r30,n31⟩:=pO st hE 2 0 [.int .i32 v0,.int .i32 v1,.int .i32 v2,.flt .f32 v3,.flt .f32 v4,.flt .f32 v5,.flt .f32 v6,.int .i64 v7,.int .i64 v8]
  have op28:H.next<=p28:=Nat.le_trans (Nat.le_refl _) (oM n31)
  obtain⟨p32,e33,r34,n35⟩:=pO st hE 3 1 [.int .i32 u0,.int .i32 u1,.int .i32 u2,.flt .f32 u3,.flt .f32 u4,.flt .f32 u5,.flt .f32 u6,.int .i64 u7,.int .i64 u8]
  have op32:H.next<=p32:=Nat.le_trans (Nat.le_refl _) (oM n35)
  have ne36:=pn st hE 2 0 3 1 [.nd 0 (.int .i32),.nd 1 (.int .i32),.nd 2 (.int .i32),.nd 3 (.flt .f32),.nd 4 (.flt .f32),.nd 5 (.flt .f32),.nd 6 (.flt .f32),.nd 7 (.int .i64),.nd 8 (.int .i64)] e29 e33
  have b37:=eo st hE 53 (.flt .f32 v3)
  have b38:=eo st hE 57 (.flt .f32 u3)
  have b43:E22 51=.ptr p28 3:=qDj st.inn hE 51 0 3 kr 2 kr e29
  have b45:E22 52=.ptr p28 3:=qDj st.inn hE 52 0 3 kr 2 kr e29
  have b46:E22 55=.ptr p32 3:=qDj st.inn hE 55 1 3 kr 3 kr e33
  have B1:=es st hE [(53,.flt .f32 v3),(57,.flt .f32 u3),(5,.int .i64 0),(47,.int .i64 0),(48,.bool true),(49,.int .i64 0),(50,.int .i64 0),(54,.int .i64 0)]
  have b48:E22 56=.ptr p32 3:=qDj st.inn hE 56 1 3 kr 3 kr e33
  have g49:Grew H H22:=(gk st)
  have g50:Grew H H22:=Grew.trans (Grew.refl _) g49
  refine dS (d:=(some 58)) (f:=65) (args:=[.tmp 53,.tmp 57]) kr (R:=fun z H'=>z=.bool (decide (v3=u3))/\H'=H22) ?_ ?_
  ·show qJ _ _ [E22 53,E22 57] _ _
   rw [b37,b38]
   exact mB v3 u3 o3 p3 (xQ f27 o3 o4 o5).1 (xQ f26 p3 p4 p5).1 H22
  rintro z H22 ⟨rfl,rfl⟩
  have q51:=q1.app (kL:KdsL [.bool] [.bool (decide (v3=u3))])
  refine qL (φ:=φ0) (pm:=pmX 2 [] 5) 20 (ws:=[wf p28 [n2 0,n2 1,n2 2,nF 3,nF 4,nF 5,nF 6,nI 7,nI 8],wf p32 [n2 9,n2 10,n2 11,nF 12,nF 13,nF 14,nF 15,nI 16,nI 17]]) (env:=[(53,nF 3),(57,nF 12),(5,.lit (.int .i64 0)),(47,.lit (.int .i64 0)),(48,.lit (.bool true)),(49,.lit (.int .i64 0)),(50,.lit (.int .i64 0)),(54,.lit (.int .i64 0)),(2,.ptr 0 0),(3,.ptr 1 0),(51,.ptr 0 3),(52,.ptr 0 3),(55,.ptr 1 3),(56,.ptr 1 3),(58,nB 20)]) q51 wA (qI rfl) .nil (eC q51 (sc (sp B1) (.cons (qD rfl e29) (.cons (qD rfl e33) (.cons (qD rfl b43) (.cons (qD rfl b45) (.cons (qD rfl b46) (.cons (qD rfl b48) (.cons qB .nil))))))))) dV qM ?_
  refine qMP kr ?_ ?_ ?_ ?_
  ·intro vs ls H52 E52 st hE
   have f53:(qO .f32 u3 v3 == some .lt)=true:=bf st 0
   have f54:¬ (v3=u3):=df st 1
   refine rf st hE (.bool true) (Grew.trans g50 (gk st)) ?_
   unfold pQ;rw [f26,f27]
   simp only [cO,atI,f24,f53]
   simp [f23,f25,f54]
  ·intro vs ls H55 E55 st hE
   have f56:(qO .f32 v3 u3 == some .eq)=true:=bf st 0
   have f57:(qO .f32 u3 v3 == some .lt)=false:=bf st 1
   have f58:¬ (v3=u3):=df st 2
   obtain⟨w59,hw59⟩:∃ z,z=(wid v3):=⟨_,rfl⟩
   have b60:E55 84=.flt .f64 w59:=by rw [hw59];exact eo st hE 84 _
   have k61:jQ (.f64n) (.flt .f64 w59):=b60 ▸ bT st.inn hE 84 (kd:=.f64n) kr
   obtain⟨w62,hw62⟩:∃ z,z=(qO .f32 v3 u3 == some .eq):=⟨_,rfl⟩
   have b63:E55 79=.bool w62:=by rw [hw62];exact eo st hE 79 _
   obtain⟨w64,hw64⟩:∃ z,z=(qO .f32 u3 v3 == some .lt):=⟨_,rfl⟩
   have b65:E55 69=.bool w64:=by rw [hw64];exact eo st hE 69 _
   obtain⟨w81,hw81⟩:∃ z,z=(!(decide (v3=u3))):=⟨_,rfl⟩
   have b82:E55 59=.bool w81:=by rw [hw81];exact eo st hE 59 _
   have b91:E55 68=.bool w64:=by rw [hw64];exact eo st hE 68 _
   have b100:E55 78=.bool w62:=by rw [hw62];exact eo st hE 78 _
   have B2:=es st hE [(47,.int .i64 0),(48,.bool true),(49,.int .i64 0),(5,.int .i64 0),(2,.ptr p28 0),(51,.ptr p28 3),(50,.int .i64 0),(52,.ptr p28 3),(3,.ptr p32 0),(55,.ptr p32 3),(54,.int .i64 0),(56,.ptr p32 3),(53,.flt .f32 v3),(57,.flt .f32 u3),(58,.bool (decide (v3=u3))),(61,.ptr p28 3),(60,.int .i64 0),(62,.ptr p28 3),(65,.ptr p32 3),(64,.int .i64 0),(66,.ptr p32 3),(63,.flt .f32 v3),(67,.flt .f32 u3),(71,.ptr p28 3),(70,.int .i64 0),(72,.ptr p28 3),(75,.ptr p32 3),(74,.int .i64 0),(76,.ptr p32 3),(73,.flt .f32 v3),(77,.flt .f32 u3),(81,.ptr p28 3),(80,.int .i64 0),(82,.ptr p28 3),(83,.flt .f32 v3)]
   have g105:Grew H22 H55:=(gk st)
   have g106:=Grew.trans g50 g105
   have r107:=g105.at r30
   have r108:=g105.at r34
   have gd109:E55 79=.bool true:=by rw [b63];rw [hw62];simp only [f56,f57,f58,Bool.not_true,Bool.not_false]
   refine qEV (free:=false) (d:=(some 85)) (f:=78) (args:=[.tmp 84]) (g:=79) (b:=true) (r:=.bool (qJi v3)) kr gd109 ?_ ?_
   ·show qJ _ _ [E55 84] _ _
    rw [b60]
    exact(by rw [hw59];exact qCT v3 o3 (xQ f27 o3 o4 o5).1 H55)
   have q110:=q51.app (.cons k61 (.cons kA (.cons kA (.cons kA (.cons kA .nil)))):KdsL [.f64n,.bool,.bool,.bool,.bool] [.flt .f64 w59,.bool w62,.bool w64,.bool w81,.bool (qJi v3)])
   refine qL (φ:=φ0) (pm:=pmX 2 [] 5) 20 (ws:=[wf p28 [n2 0,n2 1,n2 2,nF 3,nF 4,nF 5,nF 6,nI 7,nI 8],wf p32 [n2 9,n2 10,n2 11,nF 12,nF 13,nF 14,nF 15,nI 16,nI 17]]) (env:=[(47,.lit (.int .i64 0)),(48,.lit (.bool true)),(49,.lit (.int .i64 0)),(5,.lit (.int .i64 0)),(2,.ptr 0 0),(51,.ptr 0 3),(50,.lit (.int .i64 0)),(52,.ptr 0 3),(3,.ptr 1 0),(55,.ptr 1 3),(54,.lit (.int .i64 0)),(56,.ptr 1 3),(53,nF 3),(57,nF 12),(58,nB 20),(61,.ptr 0 3),(60,.lit (.int .i64 0)),(62,.ptr 0 3),(65,.ptr 1 3),(64,.lit (.int .i64 0)),(66,.ptr 1 3),(63,nF 3),(67,nF 12),(71,.ptr 0 3),(70,.lit (.int .i64 0)),(72,.ptr 0 3),(75,.ptr 1 3),(74,.lit (.int .i64 0)),(76,.ptr 1 3),(73,nF 3),(77,nF 12),(81,.ptr 0 3),(80,.lit (.int .i64 0)),(82,.ptr 0 3),(83,nF 3),(84,.nd 21 .f64n),(79,.lit (.bool true)),(69,nB 23),(59,nB 24),(68,nB 23),(78,nB 22),(85,nB 25)]) q110 wA (qI rfl) .nil (eC q110 (sc (sp B2) (.cons (qD rfl b60) (.cons (qD rfl gd109) (.cons (qD rfl b65) (.cons (qD rfl b82) (.cons (qD rfl b91) (.cons (qD rfl b100) (.cons qB .nil))))))))) dV qM ?_
   refine dB kr ?_ ?_
   ·intro vs ls H111 E111 st hE
    have f112:w64=true:=bf st 0
    rw [hw64] at f112
    exact absurd (f57.symm.trans f112) (by decide)
   ·intro vs ls H117 E117 st hE
    have f118:w64=false:=bf st 0
    refine rf st hE (.bool (!(qJi v3))) (Grew.trans g106 (gk st)) ?_
    unfold pQ;rw [f26,f27]
    simp only [cO,atI,f24,f56,f57,f118]
    simp [f23,f25,f58]
  ·intro vs ls H119 E119 st hE
   have f120:(qO .f32 v3 u3 == some .eq)=false:=bf st 0
   have f121:(qO .f32 u3 v3 == some .lt)=false:=bf st 1
   have f122:¬ (v3=u3):=df st 2
   refine rf st hE (.bool false) (Grew.trans g50 (gk st)) ?_
   unfold pQ;rw [f26,f27]
   simp only [cO,atI,f24,f120,f121]
   simp [f23,f25,f122]
  ·intro vs ls H123 E123 st hE
   have f124:v3=u3:=dt st 0
   have b125:=eo st hE 53 (.flt .f32 v4)
   have b126:=eo st hE 57 (.flt .f32 u4)
   obtain⟨w128,hw128⟩:∃ z,z=(!(decide (v3=u3))):=⟨_,rfl⟩
   have b129:E123 59=.bool w128:=by rw [hw128];exact eo st hE 59 _
   have B3:=es st hE [(53,.flt .f32 v4),(57,.flt .f32 u4),(5,.int .i64 1),(2,.ptr p28 0),(3,.ptr p32 0),(47,.int .i64 1),(89,.int .i64 1),(48,.bool true),(49,.int .i64 1),(51,.ptr p28 3),(50,.int .i64 1),(52,.ptr p28 4),(55,.ptr p32 3),(54,.int .i64 1),(56,.ptr p32 4)]
   have g143:Grew H22 H123:=(gk st)
   have g144:=Grew.trans g50 g143
   have r145:=g143.at r30
   have r146:=g143.at r34
   refine dS (d:=(some 58)) (f:=65) (args:=[.tmp 53,.tmp 57]) kr (R:=fun z H'=>z=.bool (decide (v4=u4))/\H'=H123) ?_ ?_
   ·show qJ _ _ [E123 53,E123 57] _ _
    rw [b125,b126]
    exact mB v4 u4 o4 p4 (xQ f27 o3 o4 o5).2.1 (xQ f26 p3 p4 p5).2.1 H123
   rintro z H123 ⟨rfl,rfl⟩
   have q147:=q51.app (kL:KdsL [.bool,.bool] [.bool w128,.bool (decide (v4=u4))])
   refine qL (φ:=φ0) (pm:=pmX 2 [] 5) 20 (ws:=[wf p28 [n2 0,n2 1,n2 2,nF 3,nF 4,nF 5,nF 6,nI 7,nI 8],wf p32 [n2 9,n2 10,n2 11,nF 12,nF 13,nF 14,nF 15,nI 16,nI 17]]) (env:=[(53,nF 4),(57,nF 13),(5,.lit (.int .i64 1)),(2,.ptr 0 0),(3,.ptr 1 0),(47,.lit (.int .i64 1)),(89,.lit (.int .i64 1)),(48,.lit (.bool true)),(49,.lit (.int .i64 1)),(51,.ptr 0 3),(50,.lit (.int .i64 1)),(52,.ptr 0 4),(55,.ptr 1 3),(54,.lit (.int .i64 1)),(56,.ptr 1 4),(59,nB 21),(58,nB 22)]) q147 wA (qI rfl) .nil (eC q147 (sc (sp B3) (.cons (qD rfl b129) (.cons qB .nil)))) dV qM ?_
   refine qMP kr ?_ ?_ ?_ ?_
   ·intro vs ls H148 E148 st hE
    have f149:(qO .f32 u4 v4 == some .lt)=true:=bf st 0
    have f150:¬ (v4=u4):=df st 1
    refine rf st hE (.bool true) (Grew.trans g144 (gk st)) ?_
    unfold pQ;rw [f26,f27]
    simp only [cO,atI,f24,f149]
    simp [f23,f25,f124,f150]
   ·intro vs ls H151 E151 st hE
    have f152:(qO .f32 v4 u4 == some .eq)=true:=bf st 0
    have f153:(qO .f32 u4 v4 == some .lt)=false:=bf st 1
    have f154:¬ (v4=u4):=df st 2
    obtain⟨w155,hw155⟩:∃ z,z=(wid v4):=⟨_,rfl⟩
    have b156:E151 84=.flt .f64 w155:=by rw [hw155];exact eo st hE 84 _
    have k157:jQ (.f64n) (.flt .f64 w155):=b156 ▸ bT st.inn hE 84 (kd:=.f64n) kr
    obtain⟨w158,hw158⟩:∃ z,z=(qO .f32 v4 u4 == some .eq):=⟨_,rfl⟩
    have b159:E151 79=.bool w158:=by rw [hw158];exact eo st hE 79 _
    obtain⟨w160,hw160⟩:∃ z,z=(qO .f32 u4 v4 == some .lt):=⟨_,rfl⟩
    have b161:E151 69=.bool w160:=by rw [hw160];exact eo st hE 69 _
    obtain⟨w178,hw178⟩:∃ z,z=(!(decide (v4=u4))):=⟨_,rfl⟩
    have b179:E151 59=.bool w178:=by rw [hw178];exact eo st hE 59 _
    have b188:E151 68=.bool w160:=by rw [hw160];exact eo st hE 68 _
    have b197:E151 78=.bool w158:=by rw [hw158];exact eo st hE 78 _
    have B4:=es st hE [(47,.int .i64 1),(89,.int .i64 1),(48,.bool true),(49,.int .i64 1),(5,.int .i64 1),(2,.ptr p28 0),(51,.ptr p28 3),(50,.int .i64 1),(52,.ptr p28 4),(3,.ptr p32 0),(55,.ptr p32 3),(54,.int .i64 1),(56,.ptr p32 4),(53,.flt .f32 v4),(57,.flt .f32 u4),(58,.bool (decide (v4=u4))),(61,.ptr p28 3),(60,.int .i64 1),(62,.ptr p28 4),(65,.ptr p32 3),(64,.int .i64 1),(66,.ptr p32 4),(63,.flt .f32 v4),(67,.flt .f32 u4),(71,.ptr p28 3),(70,.int .i64 1),(72,.ptr p28 4),(75,.ptr p32 3),(74,.int .i64 1),(76,.ptr p32 4),(73,.flt .f32 v4),(77,.flt .f32 u4),(81,.ptr p28 3),(80,.int .i64 1),(82,.ptr p28 4),(83,.flt .f32 v4)]
    have g202:Grew H123 H151:=(gk st)
    have g203:=Grew.trans g144 g202
    have r204:=g202.at r145
    have r205:=g202.at r146
    have gd206:E151 79=.bool true:=by rw [b159];rw [hw158];simp only [f152,f153,f154,Bool.not_true,Bool.not_false]
    refine qEV (free:=false) (d:=(some 85)) (f:=78) (args:=[.tmp 84]) (g:=79) (b:=true) (r:=.bool (qJi v4)) kr gd206 ?_ ?_
    ·show qJ _ _ [E151 84] _ _
     rw [b156]
     exact(by rw [hw155];exact qCT v4 o4 (xQ f27 o3 o4 o5).2.1 H151)
    have q207:=q147.app (.cons k157 (.cons kA (.cons kA (.cons kA (.cons kA .nil)))):KdsL [.f64n,.bool,.bool,.bool,.bool] [.flt .f64 w155,.bool w158,.bool w160,.bool w178,.bool (qJi v4)])
    refine qL (φ:=φ0) (pm:=pmX 2 [] 5) 20 (ws:=[wf p28 [n2 0,n2 1,n2 2,nF 3,nF 4,nF 5,nF 6,nI 7,nI 8],wf p32 [n2 9,n2 10,n2 11,nF 12,nF 13,nF 14,nF 15,nI 16,nI 17]]) (env:=[(47,.lit (.int .i64 1)),(89,.lit (.int .i64 1)),(48,.lit (.bool true)),(49,.lit (.int .i64 1)),(5,.lit (.int .i64 1)),(2,.ptr 0 0),(51,.ptr 0 3),(50,.lit (.int .i64 1)),(52,.ptr 0 4),(3,.ptr 1 0),(55,.ptr 1 3),(54,.lit (.int .i64 1)),(56,.ptr 1 4),(53,nF 4),(57,nF 13),(58,nB 22),(61,.ptr 0 3),(60,.lit (.int .i64 1)),(62,.ptr 0 4),(65,.ptr 1 3),(64,.lit (.int .i64 1)),(66,.ptr 1 4),(63,nF 4),(67,nF 13),(71,.ptr 0 3),(70,.lit (.int .i64 1)),(72,.ptr 0 4),(75,.ptr 1 3),(74,.lit (.int .i64 1)),(76,.ptr 1 4),(73,nF 4),(77,nF 13),(81,.ptr 0 3),(80,.lit (.int .i64 1)),(82,.ptr 0 4),(83,nF 4),(84,.nd 23 .f64n),(79,.lit (.bool true)),(69,nB 25),(59,nB 26),(68,nB 25),(78,nB 24),(85,nB 27)]) q207 wA (qI rfl) .nil (eC q207 (sc (sp B4) (.cons (qD rfl b156) (.cons (qD rfl gd206) (.cons (qD rfl b161) (.cons (qD rfl b179) (.cons (qD rfl b188) (.cons (qD rfl b197) (.cons qB .nil))))))))) dV qM ?_
    refine dB kr ?_ ?_
    ·intro vs ls H208 E208 st hE
     have f209:w160=true:=bf st 0
     rw [hw160] at f209
     exact absurd (f153.symm.trans f209) (by decide)
    ·intro vs ls H214 E214 st hE
     have f215:w160=false:=bf st 0
     refine rf st hE (.bool (!(qJi v4))) (Grew.trans g203 (gk st)) ?_
     unfold pQ;rw [f26,f27]
     simp only [cO,atI,f24,f152,f153,f215]
     simp [f23,f25,f124,f154]
   ·intro vs ls H216 E216 st hE
    have f217:(qO .f32 v4 u4 == some .eq)=false:=bf st 0
    have f218:(qO .f32 u4 v4 == some .lt)=false:=bf st 1
    have f219:¬ (v4=u4):=df st 2
    refine rf st hE (.bool false) (Grew.trans g144 (gk st)) ?_
    unfold pQ;rw [f26,f27]
    simp only [cO,atI,f24,f217,f218]
    simp [f23,f25,f124,f219]
   ·intro vs ls H220 E220 st hE
    have f221:v4=u4:=dt st 0
    have b222:=eo st hE 53 (.flt .f32 v5)
    have b223:=eo st hE 57 (.flt .f32 u5)
    obtain⟨w225,hw225⟩:∃ z,z=(!(decide (v4=u4))):=⟨_,rfl⟩
    have b226:E220 59=.bool w225:=by rw [hw225];exact eo st hE 59 _
    have B5:=es st hE [(53,.flt .f32 v5),(57,.flt .f32 u5),(5,.int .i64 2),(2,.ptr p28 0),(3,.ptr p32 0),(47,.int .i64 2),(89,.int .i64 2),(48,.bool true),(49,.int .i64 2),(51,.ptr p28 3),(50,.int .i64 2),(52,.ptr p28 5),(55,.ptr p32 3),(54,.int .i64 2),(56,.ptr p32 5)]
    have g240:Grew H123 H220:=(gk st)
    have g241:=Grew.trans g144 g240
    have r242:=g240.at r145
    have r243:=g240.at r146
    refine dS (d:=(some 58)) (f:=65) (args:=[.tmp 53,.tmp 57]) kr (R:=fun z H'=>z=.bool (decide (v5=u5))/\H'=H220) ?_ ?_
    ·show qJ _ _ [E220 53,E220 57] _ _
     rw [b222,b223]
     exact mB v5 u5 o5 p5 (xQ f27 o3 o4 o5).2.2 (xQ f26 p3 p4 p5).2.2 H220
    rintro z H220 ⟨rfl,rfl⟩
    have q244:=q147.app (kL:KdsL [.bool,.bool] [.bool w225,.bool (decide (v5=u5))])
    refine qL (φ:=φ0) (pm:=pmX 2 [] 5) 20 (ws:=[wf p28 [n2 0,n2 1,n2 2,nF 3,nF 4,nF 5,nF 6,nI 7,nI 8],wf p32 [n2 9,n2 10,n2 11,nF 12,nF 13,nF 14,nF 15,nI 16,nI 17]]) (env:=[(53,nF 5),(57,nF 14),(5,.lit (.int .i64 2)),(2,.ptr 0 0),(3,.ptr 1 0),(47,.lit (.int .i64 2)),(89,.lit (.int .i64 2)),(48,.lit (.bool true)),(49,.lit (.int .i64 2)),(51,.ptr 0 3),(50,.lit (.int .i64 2)),(52,.ptr 0 5),(55,.ptr 1 3),(54,.lit (.int .i64 2)),(56,.ptr 1 5),(59,nB 23),(58,nB 24)]) q244 wA (qI rfl) .nil (eC q244 (sc (sp B5) (.cons (qD rfl b226) (.cons qB .nil)))) dV qM ?_
    refine qMP kr ?_ ?_ ?_ ?_
    ·intro vs ls H245 E245 st hE
     have f246:(qO .f32 u5 v5 == some .lt)=true:=bf st 0
     have f247:¬ (v5=u5):=df st 1
     refine rf st hE (.bool true) (Grew.trans g241 (gk st)) ?_
     unfold pQ;rw [f26,f27]
     simp only [cO,atI,f24,f246]
     simp [f23,f25,f124,f221,f247]
    ·intro vs ls H248 E248 st hE
     have f249:(qO .f32 v5 u5 == some .eq)=true:=bf st 0
     have f250:(qO .f32 u5 v5 == some .lt)=false:=bf st 1
     have f251:¬ (v5=u5):=df st 2
     obtain⟨w252,hw252⟩:∃ z,z=(wid v5):=⟨_,rfl⟩
     have b253:E248 84=.flt .f64 w252:=by rw [hw252];exact eo st hE 84 _
     have k254:jQ (.f64n) (.flt .f64 w252):=b253 ▸ bT st.inn hE 84 (kd:=.f64n) kr
     obtain⟨w255,hw255⟩:∃ z,z=(qO .f32 v5 u5 == some .eq):=⟨_,rfl⟩
     have b256:E248 79=.bool w255:=by rw [hw255];exact eo st hE 79 _
     obtain⟨w257,hw257⟩:∃ z,z=(qO .f32 u5 v5 == some .lt):=⟨_,rfl⟩
     have b258:E248 69=.bool w257:=by rw [hw257];exact eo st hE 69 _
     obtain⟨w275,hw275⟩:∃ z,z=(!(decide (v5=u5))):=⟨_,rfl⟩
     have b276:E248 59=.bool w275:=by rw [hw275];exact eo st hE 59 _
     have b285:E248 68=.bool w257:=by rw [hw257];exact eo st hE 68 _
     have b294:E248 78=.bool w255:=by rw [hw255];exact eo st hE 78 _
     have B6:=es st hE [(47,.int .i64 2),(89,.int .i64 2),(48,.bool true),(49,.int .i64 2),(5,.int .i64 2),(2,.ptr p28 0),(51,.ptr p28 3),(50,.int .i64 2),(52,.ptr p28 5),(3,.ptr p32 0),(55,.ptr p32 3),(54,.int .i64 2),(56,.ptr p32 5),(53,.flt .f32 v5),(57,.flt .f32 u5),(58,.bool (decide (v5=u5))),(61,.ptr p28 3),(60,.int .i64 2),(62,.ptr p28 5),(65,.ptr p32 3),(64,.int .i64 2),(66,.ptr p32 5),(63,.flt .f32 v5),(67,.flt .f32 u5),(71,.ptr p28 3),(70,.int .i64 2),(72,.ptr p28 5),(75,.ptr p32 3),(74,.int .i64 2),(76,.ptr p32 5),(73,.flt .f32 v5),(77,.flt .f32 u5),(81,.ptr p28 3),(80,.int .i64 2),(82,.ptr p28 5),(83,.flt .f32 v5)]
     have g299:Grew H220 H248:=(gk st)
     have g300:=Grew.trans g241 g299
     have r301:=g299.at r242
     have r302:=g299.at r243
     have gd303:E248 79=.bool true:=by rw [b256];rw [hw255];simp only [f249,f250,f251,Bool.not_true,Bool.not_false]
     refine qEV (free:=false) (d:=(some 85)) (f:=78) (args:=[.tmp 84]) (g:=79) (b:=true) (r:=.bool (qJi v5)) kr gd303 ?_ ?_
     ·show qJ _ _ [E248 84] _ _
      rw [b253]
      exact(by rw [hw252];exact qCT v5 o5 (xQ f27 o3 o4 o5).2.2 H248)
     have q304:=q244.app (.cons k254 (.cons kA (.cons kA (.cons kA (.cons kA .nil)))):KdsL [.f64n,.bool,.bool,.bool,.bool] [.flt .f64 w252,.bool w255,.bool w257,.bool w275,.bool (qJi v5)])
     refine qL (φ:=φ0) (pm:=pmX 2 [] 5) 20 (ws:=[wf p28 [n2 0,n2 1,n2 2,nF 3,nF 4,nF 5,nF 6,nI 7,nI 8],wf p32 [n2 9,n2 10,n2 11,nF 12,nF 13,nF 14,nF 15,nI 16,nI 17]]) (env:=[(47,.lit (.int .i64 2)),(89,.lit (.int .i64 2)),(48,.lit (.bool true)),(49,.lit (.int .i64 2)),(5,.lit (.int .i64 2)),(2,.ptr 0 0),(51,.ptr 0 3),(50,.lit (.int .i64 2)),(52,.ptr 0 5),(3,.ptr 1 0),(55,.ptr 1 3),(54,.lit (.int .i64 2)),(56,.ptr 1 5),(53,nF 5),(57,nF 14),(58,nB 24),(61,.ptr 0 3),(60,.lit (.int .i64 2)),(62,.ptr 0 5),(65,.ptr 1 3),(64,.lit (.int .i64 2)),(66,.ptr 1 5),(63,nF 5),(67,nF 14),(71,.ptr 0 3),(70,.lit (.int .i64 2)),(72,.ptr 0 5),(75,.ptr 1 3),(74,.lit (.int .i64 2)),(76,.ptr 1 5),(73,nF 5),(77,nF 14),(81,.ptr 0 3),(80,.lit (.int .i64 2)),(82,.ptr 0 5),(83,nF 5),(84,.nd 25 .f64n),(79,.lit (.bool true)),(69,nB 27),(59,nB 28),(68,nB 27),(78,nB 26),(85,nB 29)]) q304 wA (qI rfl) .nil (eC q304 (sc (sp B6) (.cons (qD rfl b253) (.cons (qD rfl gd303) (.cons (qD rfl b258) (.cons (qD rfl b276) (.cons (qD rfl b285) (.cons (qD rfl b294) (.cons qB .nil))))))))) dV qM ?_
     refine dB kr ?_ ?_
     ·intro vs ls H305 E305 st hE
      have f306:w257=true:=bf st 0
      rw [hw257] at f306
      exact absurd (f250.symm.trans f306) (by decide)
     ·intro vs ls H311 E311 st hE
      have f312:w257=false:=bf st 0
      refine rf st hE (.bool (!(qJi v5))) (Grew.trans g300 (gk st)) ?_
      unfold pQ;rw [f26,f27]
      simp only [cO,atI,f24,f249,f250,f312]
      simp [f23,f25,f124,f221,f251]
    ·intro vs ls H313 E313 st hE
     have f314:(qO .f32 v5 u5 == some .eq)=false:=bf st 0
     have f315:(qO .f32 u5 v5 == some .lt)=false:=bf st 1
     have f316:¬ (v5=u5):=df st 2
     refine rf st hE (.bool false) (Grew.trans g241 (gk st)) ?_
     unfold pQ;rw [f26,f27]
     simp only [cO,atI,f24,f314,f315]
     simp [f23,f25,f124,f221,f316]
    ·intro vs ls H317 E317 st hE
     have f318:v5=u5:=dt st 0
     refine rf st hE (.bool false) (Grew.trans g241 (gk st)) ?_
     unfold pQ;rw [f26,f27]
     simp only [cO,atI,f24]
     simp [f23,f25,f124,f221,f318]
theorem qGU (v0 v1 v2:Int) (v3 v4 v5 v6:ON) (v7 v8:Int) (o3:fOk .f32 v3) (o4:fOk .f32 v4) (o5:fOk .f32 v5) (o6:fOk .f32 v6) (u0 u1 u2:Int) (u3 u4 u5 u6:ON) (u7 u8:Int) (p3:fOk .f32 u3) (p4:fOk .f32 u4) (p5:fOk .f32 u5) (p6:fOk .f32 u6) (sv3:v3.isSome=true) (sv4:v4.isSome=true) (sv5:v5.isSome=true) (su3:u3.isSome=true) (su4:u4.isSome=true) (su5:u5.isSome=true) (H:AHeap) (l off:Nat) (pre post:List AV) (wr:Bool) (hg:H.get l=some (.row (pre ++ ([.int .i32 v0,.int .i32 v1,.int .i32 v2,.flt .f32 v3,.flt .f32 v4,.flt .f32 v5,.flt .f32 v6,.int .i64 v7,.int .i64 v8] ++ post)) wr)) (hp:pre.length=off) (l' off' : Nat) (pre' post' : List AV) (wr' : Bool) (hg' : H.get l'=some (.row (pre' ++ ([.int .i32 u0,.int .i32 u1,.int .i32 u2,.flt .f32 u3,.flt .f32 u4,.flt .f32 u5,.flt .f32 u6,.int .i64 u7,.int .i64 u8] ++ post')) wr')) (hp' : pre'.length=off'):qR Try.prog 54 [.ptr l off,.ptr l' off'] H (.bool (cO atP [.int .i32 v0,.int .i32 v1,.int .i32 v2,.flt .f32 v3,.flt .f32 v4,.flt .f32 v5,.flt .f32 v6,.int .i64 v7,.int .i64 v8] [.int .i32 u0,.int .i32 u1,.int .i32 u2,.flt .f32 u3,.flt .f32 u4,.flt .f32 u5,.flt .f32 u6,.int .i64 u7,.int .i64 u8])):=by
 refine qF pF (by simp) ?_
 have q1:KdsL [K2,K2,K2,KF,KF,KF,KF,KI,KI,K2,K2,K2,KF,KF,KF,KF,KI,KI] [.int .i32 v0,.int .i32 v1,.int .i32 v2,.flt .f32 v3,.flt .f32 v4,.flt .f32 v5,.flt .f32 v6,.int .i64 v7,.int .i64 v8,.int .i32 u0,.int .i32 u1,.int .i32 u2,.flt .f32 u3,.flt .f32 u4,.flt .f32 u5,.flt .f32 u6,.int .i64 u7,.int .i64 u8]:=kL
 refine qL (φ:=φ0) (pm:=pmX 2 [] 5) 20 (ws:=[⟨l,off,[n2 0,n2 1,n2 2,nF 3,nF 4,nF 5,nF 6,nI 7,nI 8],false⟩,⟨l',off',[n2 9,n2 10,n2 11,nF 12,nF 13,nF 14,nF 15,nI 16,nI 17],false⟩]) (env:=[(0,.ptr 0 0),(1,.ptr 1 0)]) q1 (.cons (jE hg hp (dL q1)) (.cons (jE hg' hp' (dL q1)) .nil)) (qI rfl) .nil (eC q1 (.cons (t:=0) rfl (.cons (t:=1) rfl .nil))) dV qM ?_
 refine qNY kr ?_ ?_ ?_ ?_ ?_
 ·intro vs ls H2 E2 st hE
  have f3:¬ (v8=u8):=df st 0
  refine rf st hE (.bool (decide (u8 < v8))) (Grew.trans (Grew.refl _) (gk st)) ?_
  simp only [cO,atP]
  simp [f3]
 ·intro vs ls H4 E4 st hE
  have f5:(qO .f32 v6 u6 == some .eq)=false:=bf st 0
  have f6:v8=u8:=dt st 1
  refine rf st hE (.bool (qO .f32 u6 v6 == some .lt)) (Grew.trans (Grew.refl _) (gk st)) ?_
  simp only [cO,atP,f5]
  simp [f6]
 ·intro vs ls H7 E7 st hE
  have f8:¬ (v7=u7):=df st 0
  have f9:(qO .f32 v6 u6 == some .eq)=true:=bf st 1
  have f10:v8=u8:=dt st 2
  refine rf st hE (.bool (decide (u7 < v7))) (Grew.trans (Grew.refl _) (gk st)) ?_
  simp only [cO,atP,f9]
  simp [f8,f10]
 ·intro vs ls H11 E11 st hE
  have f12:(qO .f32 v3 u3 == some .eq)=false:=bf st 0
  have f13:v7=u7:=dt st 1
  have f14:(qO .f32 v6 u6 == some .eq)=true:=bf st 2
  have f15:v8=u8:=dt st 3
  refine rf st hE (.bool (qO .f32 u3 v3 == some .lt)) (Grew.trans (Grew.refl _) (gk st)) ?_
  simp only [cO,atP,f12,f14]
  simp [f13,f15]
 ·intro vs ls H16 E16 st hE
  have f17:(qO .f32 v3 u3 == some .eq)=true:=bf st 0
  have f18:v7=u7:=dt st 1
  have f19:(qO .f32 v6 u6 == some .eq)=true:=bf st 2
  have f20:v8=u8:=dt st 3
  have b21:=eo st hE 95 (.flt .f32 v3)
  have b22:=eo st hE 101 (.flt .f32 u3)
  obtain⟨w40,hw40⟩:∃ z,z=(!(qO .f32 v3 u3 == some .eq)):=⟨_,rfl⟩
  have b41:E16 76=.bool w40:=by rw [hw40];exact eo st hE 76 _
  have B1:=es st hE [(95,.flt .f32 v3),(101,.flt .f32 u3),(0,.ptr l (off+0)),(5,.int .i64 0),(60,.int .i64 0),(61,.bool true),(64,.ptr l (off+0)),(66,.ptr l (off+0)),(67,.ptr l (off+3)),(65,.int .i64 0),(68,.ptr l (off+3)),(1,.ptr l' (off'+0)),(70,.ptr l' (off'+0)),(72,.ptr l' (off'+0)),(73,.ptr l' (off'+3)),(71,.int .i64 0),(74,.ptr l' (off'+3)),(69,.flt .f32 v3),(75,.flt .f32 u3),(90,.ptr l (off+0)),(92,.ptr l (off+0)),(93,.ptr l (off+3)),(91,.int .i64 0),(94,.ptr l (off+3)),(96,.ptr l' (off'+0)),(98,.ptr l' (off'+0)),(99,.ptr l' (off'+3)),(97,.int .i64 0),(100,.ptr l' (off'+3))]
  have g52:Grew H H16:=(gk st)
  have g53:Grew H H16:=Grew.trans (Grew.refl _) g52
  have r54:=g52.at hg
  have r55:=g52.at hg'
  refine dS (d:=(some 102)) (f:=74) (args:=[.tmp 95,.tmp 101]) kr (R:=fun z H'=>z=.bool (decide (v3=u3))/\H'=H16) ?_ ?_
  ·show qJ _ _ [E16 95,E16 101] _ _
   rw [b21,b22]
   exact bD v3 u3 o3 p3 sv3 su3 H16
  rintro z H16 ⟨rfl,rfl⟩
  have q56:=q1.app (kL:KdsL [.bool,.bool] [.bool w40,.bool (decide (v3=u3))])
  refine qL (φ:=φ0) (pm:=pmX 2 [] 5) 20 (ws:=[⟨l,off,[n2 0,n2 1,n2 2,nF 3,nF 4,nF 5,nF 6,nI 7,nI 8],false⟩,⟨l',off',[n2 9,n2 10,n2 11,nF 12,nF 13,nF 14,nF 15,nI 16,nI 17],false⟩]) (env:=[(95,nF 3),(101,nF 12),(0,.ptr 0 0),(5,.lit (.int .i64 0)),(60,.lit (.int .i64 0)),(61,.lit (.bool true)),(64,.ptr 0 0),(66,.ptr 0 0),(67,.ptr 0 3),(65,.lit (.int .i64 0)),(68,.ptr 0 3),(1,.ptr 1 0),(70,.ptr 1 0),(72,.ptr 1 0),(73,.ptr 1 3),(71,.lit (.int .i64 0)),(74,.ptr 1 3),(69,nF 3),(75,nF 12),(90,.ptr 0 0),(92,.ptr 0 0),(93,.ptr 0 3),(91,.lit (.int .i64 0)),(94,.ptr 0 3),(96,.ptr 1 0),(98,.ptr 1 0),(99,.ptr 1 3),(97,.lit (.int .i64 0)),(100,.ptr 1 3),(76,nB 18),(102,nB 19)]) q56 (.cons (jE r54 hp (dL q56)) (.cons (jE r55 hp' (dL q56)) .nil)) (qI rfl) .nil (eC q56 (sc (sp B1) (.cons (qD rfl b41) (.cons qB .nil)))) dV qM ?_
  refine qFf kr ?_ ?_ ?_
  ·intro vs ls H57 E57 st hE
   have f58:¬ (v3=u3):=df st 0
   have b59:=eo st hE 109 (.flt .f32 v3)
   obtain⟨w91,hw91⟩:∃ z,z=(!(decide (v3=u3))):=⟨_,rfl⟩
   have b92:E57 103=.bool w91:=by rw [hw91];exact eo st hE 103 _
   have B2:=es st hE [(109,.flt .f32 v3),(5,.int .i64 0),(60,.int .i64 0),(61,.bool true),(0,.ptr l (off+0)),(64,.ptr l (off+0)),(66,.ptr l (off+0)),(67,.ptr l (off+3)),(65,.int .i64 0),(68,.ptr l (off+3)),(1,.ptr l' (off'+0)),(70,.ptr l' (off'+0)),(72,.ptr l' (off'+0)),(73,.ptr l' (off'+3)),(71,.int .i64 0),(74,.ptr l' (off'+3)),(69,.flt .f32 v3),(75,.flt .f32 u3),(76,.bool w40),(90,.ptr l (off+0)),(92,.ptr l (off+0)),(93,.ptr l (off+3)),(91,.int .i64 0),(94,.ptr l (off+3)),(96,.ptr l' (off'+0)),(98,.ptr l' (off'+0)),(99,.ptr l' (off'+3)),(97,.int .i64 0),(100,.ptr l' (off'+3)),(95,.flt .f32 v3),(101,.flt .f32 u3),(102,.bool (decide (v3=u3))),(104,.ptr l (off+0)),(106,.ptr l (off+0)),(107,.ptr l (off+3)),(105,.int .i64 0),(108,.ptr l (off+3))]
   have g98:Grew H16 H57:=(gk st)
   have g99:=Grew.trans g53 g98
   have r100:=g98.at r54
   have r101:=g98.at r55
   refine zB (d:=(some 110)) (f:=74) (args:=[.tmp 109,.const (.flt .f32 (some 0))]) kr (R:=fun z H'=>z=.bool (decide (v3=(some 0)))/\H'=H57) ?_ ?_
   ·show qJ _ _ [E57 109,.flt .f32 (some 0)] _ _
    rw [b59]
    exact bD v3 (some 0) o3 (fun b e=>by cases e;exact⟨by decide +kernel,by decide +kernel⟩) sv3 rfl H57
   rintro z H57 ⟨rfl,rfl⟩
   have q102:=q56.app (kL:KdsL [.bool,.bool] [.bool w91,.bool (decide (v3=(some 0)))])
   refine qL (φ:=φ0) (pm:=pmX 2 [] 5) 20 (ws:=[⟨l,off,[n2 0,n2 1,n2 2,nF 3,nF 4,nF 5,nF 6,nI 7,nI 8],false⟩,⟨l',off',[n2 9,n2 10,n2 11,nF 12,nF 13,nF 14,nF 15,nI 16,nI 17],false⟩]) (env:=[(109,nF 3),(5,.lit (.int .i64 0)),(60,.lit (.int .i64 0)),(61,.lit (.bool true)),(0,.ptr 0 0),(64,.ptr 0 0),(66,.ptr 0 0),(67,.ptr 0 3),(65,.lit (.int .i64 0)),(68,.ptr 0 3),(1,.ptr 1 0),(70,.ptr 1 0),(72,.ptr 1 0),(73,.ptr 1 3),(71,.lit (.int .i64 0)),(74,.ptr 1 3),(69,nF 3),(75,nF 12),(76,nB 18),(90,.ptr 0 0),(92,.ptr 0 0),(93,.ptr 0 3),(91,.lit (.int .i64 0)),(94,.ptr 0 3),(96,.ptr 1 0),(98,.ptr 1 0),(99,.ptr 1 3),(97,.lit (.int .i64 0)),(100,.ptr 1 3),(95,nF 3),(101,nF 12),(102,nB 19),(104,.ptr 0 0),(106,.ptr 0 0),(107,.ptr 0 3),(105,.lit (.int .i64 0)),(108,.ptr 0 3),(103,nB 20),(110,nB 21)]) q102 (.cons (jE r100 hp (dL q102)) (.cons (jE r101 hp' (dL q102)) .nil)) (qI rfl) .nil (eC q102 (sc (sp B2) (.cons (qD rfl b92) (.cons qB .nil)))) dV qM ?_
   refine zA kr fun vs ls H103 E103 st hE=>?_
   refine rf st hE (.bool (decide (v3=(some 0)))) (Grew.trans g99 (gk st)) ?_
   simp only [cO,atP,f17,f19]
   simp [f18,f20,f58]
  ·intro vs ls H104 E104 st hE
   have f105:(qO .f32 v4 u4 == some .eq)=false:=bf st 0
   have f106:v3=u3:=dt st 1
   refine rf st hE (.bool (qO .f32 u4 v4 == some .lt)) (Grew.trans g53 (gk st)) ?_
   simp only [cO,atP,f17,f19,f105]
   simp [f18,f20,f106]
  ·intro vs ls H107 E107 st hE
   have f108:(qO .f32 v4 u4 == some .eq)=true:=bf st 0
   have f109:v3=u3:=dt st 1
   have b110:=eo st hE 95 (.flt .f32 v4)
   have b111:=eo st hE 101 (.flt .f32 u4)
   obtain⟨w113,hw113⟩:∃ z,z=(!(decide (v3=u3))):=⟨_,rfl⟩
   have b114:E107 103=.bool w113:=by rw [hw113];exact eo st hE 103 _
   obtain⟨w134,hw134⟩:∃ z,z=(!(qO .f32 v4 u4 == some .eq)):=⟨_,rfl⟩
   have b135:E107 76=.bool w134:=by rw [hw134];exact eo st hE 76 _
   have B3:=es st hE [(95,.flt .f32 v4),(101,.flt .f32 u4),(0,.ptr l (off+0)),(5,.int .i64 1),(62,.int .i64 0),(63,.int .i64 1),(60,.int .i64 1),(61,.bool true),(64,.ptr l (off+0)),(66,.ptr l (off+0)),(67,.ptr l (off+3)),(65,.int .i64 1),(68,.ptr l (off+4)),(1,.ptr l' (off'+0)),(70,.ptr l' (off'+0)),(72,.ptr l' (off'+0)),(73,.ptr l' (off'+3)),(71,.int .i64 1),(74,.ptr l' (off'+4)),(69,.flt .f32 v4),(75,.flt .f32 u4),(90,.ptr l (off+0)),(92,.ptr l (off+0)),(93,.ptr l (off+3)),(91,.int .i64 1),(94,.ptr l (off+4)),(96,.ptr l' (off'+0)),(98,.ptr l' (off'+0)),(99,.ptr l' (off'+3)),(97,.int .i64 1),(100,.ptr l' (off'+4))]
   have g146:Grew H16 H107:=(gk st)
   have g147:=Grew.trans g53 g146
   have r148:=g146.at r54
   have r149:=g146.at r55
   refine dS (d:=(some 102)) (f:=74) (args:=[.tmp 95,.tmp 101]) kr (R:=fun z H'=>z=.bool (decide (v4=u4))/\H'=H107) ?_ ?_
   ·show qJ _ _ [E107 95,E107 101] _ _
    rw [b110,b111]
    exact bD v4 u4 o4 p4 sv4 su4 H107
   rintro z H107 ⟨rfl,rfl⟩
   have q150:=q56.app (kL:KdsL [.bool,.bool,.bool] [.bool w113,.bool w134,.bool (decide (v4=u4))])
   refine qL (φ:=φ0) (pm:=pmX 2 [] 5) 20 (ws:=[⟨l,off,[n2 0,n2 1,n2 2,nF 3,nF 4,nF 5,nF 6,nI 7,nI 8],false⟩,⟨l',off',[n2 9,n2 10,n2 11,nF 12,nF 13,nF 14,nF 15,nI 16,nI 17],false⟩]) (env:=[(95,nF 4),(101,nF 13),(0,.ptr 0 0),(5,.lit (.int .i64 1)),(62,.lit (.int .i64 0)),(63,.lit (.int .i64 1)),(60,.lit (.int .i64 1)),(61,.lit (.bool true)),(64,.ptr 0 0),(66,.ptr 0 0),(67,.ptr 0 3),(65,.lit (.int .i64 1)),(68,.ptr 0 4),(1,.ptr 1 0),(70,.ptr 1 0),(72,.ptr 1 0),(73,.ptr 1 3),(71,.lit (.int .i64 1)),(74,.ptr 1 4),(69,nF 4),(75,nF 13),(90,.ptr 0 0),(92,.ptr 0 0),(93,.ptr 0 3),(91,.lit (.int .i64 1)),(94,.ptr 0 4),(96,.ptr 1 0),(98,.ptr 1 0),(99,.ptr 1 3),(97,.lit (.int .i64 1)),(100,.ptr 1 4),(103,nB 20),(76,nB 21),(102,nB 22)]) q150 (.cons (jE r148 hp (dL q150)) (.cons (jE r149 hp' (dL q150)) .nil)) (qI rfl) .nil (eC q150 (sc (sp B3) (.cons (qD rfl b114) (.cons (qD rfl b135) (.cons qB .nil))))) dV qM ?_
   refine qFf kr ?_ ?_ ?_
   ·intro vs ls H151 E151 st hE
    have f152:¬ (v4=u4):=df st 0
    have b153:=eo st hE 109 (.flt .f32 v4)
    obtain⟨w187,hw187⟩:∃ z,z=(!(decide (v4=u4))):=⟨_,rfl⟩
    have b188:E151 103=.bool w187:=by rw [hw187];exact eo st hE 103 _
    have B4:=es st hE [(109,.flt .f32 v4),(5,.int .i64 1),(62,.int .i64 0),(63,.int .i64 1),(60,.int .i64 1),(61,.bool true),(0,.ptr l (off+0)),(64,.ptr l (off+0)),(66,.ptr l (off+0)),(67,.ptr l (off+3)),(65,.int .i64 1),(68,.ptr l (off+4)),(1,.ptr l' (off'+0)),(70,.ptr l' (off'+0)),(72,.ptr l' (off'+0)),(73,.ptr l' (off'+3)),(71,.int .i64 1),(74,.ptr l' (off'+4)),(69,.flt .f32 v4),(75,.flt .f32 u4),(76,.bool w134),(90,.ptr l (off+0)),(92,.ptr l (off+0)),(93,.ptr l (off+3)),(91,.int .i64 1),(94,.ptr l (off+4)),(96,.ptr l' (off'+0)),(98,.ptr l' (off'+0)),(99,.ptr l' (off'+3)),(97,.int .i64 1),(100,.ptr l' (off'+4)),(95,.flt .f32 v4),(101,.flt .f32 u4),(102,.bool (decide (v4=u4))),(104,.ptr l (off+0)),(106,.ptr l (off+0)),(107,.ptr l (off+3)),(105,.int .i64 1),(108,.ptr l (off+4))]
    have g194:Grew H107 H151:=(gk st)
    have g195:=Grew.trans g147 g194
    have r196:=g194.at r148
    have r197:=g194.at r149
    refine zB (d:=(some 110)) (f:=74) (args:=[.tmp 109,.const (.flt .f32 (some 0))]) kr (R:=fun z H'=>z=.bool (decide (v4=(some 0)))/\H'=H151) ?_ ?_
    ·show qJ _ _ [E151 109,.flt .f32 (some 0)] _ _
     rw [b153]
     exact bD v4 (some 0) o4 (fun b e=>by cases e;exact⟨by decide +kernel,by decide +kernel⟩) sv4 rfl H151
    rintro z H151 ⟨rfl,rfl⟩
    have q198:=q150.app (kL:KdsL [.bool,.bool] [.bool w187,.bool (decide (v4=(some 0)))])
    refine qL (φ:=φ0) (pm:=pmX 2 [] 5) 20 (ws:=[⟨l,off,[n2 0,n2 1,n2 2,nF 3,nF 4,nF 5,nF 6,nI 7,nI 8],false⟩,⟨l',off',[n2 9,n2 10,n2 11,nF 12,nF 13,nF 14,nF 15,nI 16,nI 17],false⟩]) (env:=[(109,nF 4),(5,.lit (.int .i64 1)),(62,.lit (.int .i64 0)),(63,.lit (.int .i64 1)),(60,.lit (.int .i64 1)),(61,.lit (.bool true)),(0,.ptr 0 0),(64,.ptr 0 0),(66,.ptr 0 0),(67,.ptr 0 3),(65,.lit (.int .i64 1)),(68,.ptr 0 4),(1,.ptr 1 0),(70,.ptr 1 0),(72,.ptr 1 0),(73,.ptr 1 3),(71,.lit (.int .i64 1)),(74,.ptr 1 4),(69,nF 4),(75,nF 13),(76,nB 21),(90,.ptr 0 0),(92,.ptr 0 0),(93,.ptr 0 3),(91,.lit (.int .i64 1)),(94,.ptr 0 4),(96,.ptr 1 0),(98,.ptr 1 0),(99,.ptr 1 3),(97,.lit (.int .i64 1)),(100,.ptr 1 4),(95,nF 4),(101,nF 13),(102,nB 22),(104,.ptr 0 0),(106,.ptr 0 0),(107,.ptr 0 3),(105,.lit (.int .i64 1)),(108,.ptr 0 4),(103,nB 23),(110,nB 24)]) q198 (.cons (jE r196 hp (dL q198)) (.cons (jE r197 hp' (dL q198)) .nil)) (qI rfl) .nil (eC q198 (sc (sp B4) (.cons (qD rfl b188) (.cons qB .nil)))) dV qM ?_
    refine zA kr fun vs ls H199 E199 st hE=>?_
    refine rf st hE (.bool (decide (v4=(some 0)))) (Grew.trans g195 (gk st)) ?_
    simp only [cO,atP,f17,f19,f108]
    simp [f18,f20,f109,f152]
   ·intro vs ls H200 E200 st hE
    have f201:(qO .f32 v5 u5 == some .eq)=false:=bf st 0
    have f202:v4=u4:=dt st 1
    refine rf st hE (.bool (qO .f32 u5 v5 == some .lt)) (Grew.trans g147 (gk st)) ?_
    simp only [cO,atP,f17,f19,f108,f201]
    simp [f18,f20,f109,f202]
   ·intro vs ls H203 E203 st hE
    have f204:(qO .f32 v5 u5 == some .eq)=true:=bf st 0
    have f205:v4=u4:=dt st 1
    have b206:=eo st hE 95 (.flt .f32 v5)
    have b207:=eo st hE 101 (.flt .f32 u5)
    obtain⟨w209,hw209⟩:∃ z,z=(!(decide (v4=u4))):=⟨_,rfl⟩
    have b210:E203 103=.bool w209:=by rw [hw209];exact eo st hE 103 _
    obtain⟨w230,hw230⟩:∃ z,z=(!(qO .f32 v5 u5 == some .eq)):=⟨_,rfl⟩
    have b231:E203 76=.bool w230:=by rw [hw230];exact eo st hE 76 _
    have B5:=es st hE [(95,.flt .f32 v5),(101,.flt .f32 u5),(0,.ptr l (off+0)),(5,.int .i64 2),(62,.int .i64 1),(63,.int .i64 2),(60,.int .i64 2),(61,.bool true),(64,.ptr l (off+0)),(66,.ptr l (off+0)),(67,.ptr l (off+3)),(65,.int .i64 2),(68,.ptr l (off+5)),(1,.ptr l' (off'+0)),(70,.ptr l' (off'+0)),(72,.ptr l' (off'+0)),(73,.ptr l' (off'+3)),(71,.int .i64 2),(74,.ptr l' (off'+5)),(69,.flt .f32 v5),(75,.flt .f32 u5),(90,.ptr l (off+0)),(92,.ptr l (off+0)),(93,.ptr l (off+3)),(91,.int .i64 2),(94,.ptr l (off+5)),(96,.ptr l' (off'+0)),(98,.ptr l' (off'+0)),(99,.ptr l' (off'+3)),(97,.int .i64 2),(100,.ptr l' (off'+5))]
    have g242:Grew H107 H203:=(gk st)
    have g243:=Grew.trans g147 g242
    have r244:=g242.at r148
    have r245:=g242.at r149
    refine dS (d:=(some 102)) (f:=74) (args:=[.tmp 95,.tmp 101]) kr (R:=fun z H'=>z=.bool (decide (v5=u5))/\H'=H203) ?_ ?_
    ·show qJ _ _ [E203 95,E203 101] _ _
     rw [b206,b207]
     exact bD v5 u5 o5 p5 sv5 su5 H203
    rintro z H203 ⟨rfl,rfl⟩
    have q246:=q150.app (kL:KdsL [.bool,.bool,.bool] [.bool w209,.bool w230,.bool (decide (v5=u5))])
    refine qL (φ:=φ0) (pm:=pmX 2 [] 5) 20 (ws:=[⟨l,off,[n2 0,n2 1,n2 2,nF 3,nF 4,nF 5,nF 6,nI 7,nI 8],false⟩,⟨l',off',[n2 9,n2 10,n2 11,nF 12,nF 13,nF 14,nF 15,nI 16,nI 17],false⟩]) (env:=[(95,nF 5),(101,nF 14),(0,.ptr 0 0),(5,.lit (.int .i64 2)),(62,.lit (.int .i64 1)),(63,.lit (.int .i64 2)),(60,.lit (.int .i64 2)),(61,.lit (.bool true)),(64,.ptr 0 0),(66,.ptr 0 0),(67,.ptr 0 3),(65,.lit (.int .i64 2)),(68,.ptr 0 5),(1,.ptr 1 0),(70,.ptr 1 0),(72,.ptr 1 0),(73,.ptr 1 3),(71,.lit (.int .i64 2)),(74,.ptr 1 5),(69,nF 5),(75,nF 14),(90,.ptr 0 0),(92,.ptr 0 0),(93,.ptr 0 3),(91,.lit (.int .i64 2)),(94,.ptr 0 5),(96,.ptr 1 0),(98,.ptr 1 0),(99,.ptr 1 3),(97,.lit (.int .i64 2)),(100,.ptr 1 5),(103,nB 23),(76,nB 24),(102,nB 25)]) q246 (.cons (jE r244 hp (dL q246)) (.cons (jE r245 hp' (dL q246)) .nil)) (qI rfl) .nil (eC q246 (sc (sp B5) (.cons (qD rfl b210) (.cons (qD rfl b231) (.cons qB .nil))))) dV qM ?_
    refine dB kr ?_ ?_
    ·intro vs ls H247 E247 st hE
     have f248:¬ (v5=u5):=df st 0
     have b249:=eo st hE 109 (.flt .f32 v5)
     obtain⟨w283,hw283⟩:∃ z,z=(!(decide (v5=u5))):=⟨_,rfl⟩
     have b284:E247 103=.bool w283:=by rw [hw283];exact eo st hE 103 _
     have B6:=es st hE [(109,.flt .f32 v5),(5,.int .i64 2),(62,.int .i64 1),(63,.int .i64 2),(60,.int .i64 2),(61,.bool true),(0,.ptr l (off+0)),(64,.ptr l (off+0)),(66,.ptr l (off+0)),(67,.ptr l (off+3)),(65,.int .i64 2),(68,.ptr l (off+5)),(1,.ptr l' (off'+0)),(70,.ptr l' (off'+0)),(72,.ptr l' (off'+0)),(73,.ptr l' (off'+3)),(71,.int .i64 2),(74,.ptr l' (off'+5)),(69,.flt .f32 v5),(75,.flt .f32 u5),(76,.bool w230),(90,.ptr l (off+0)),(92,.ptr l (off+0)),(93,.ptr l (off+3)),(91,.int .i64 2),(94,.ptr l (off+5)),(96,.ptr l' (off'+0)),(98,.ptr l' (off'+0)),(99,.ptr l' (off'+3)),(97,.int .i64 2),(100,.ptr l' (off'+5)),(95,.flt .f32 v5),(101,.flt .f32 u5),(102,.bool (decide (v5=u5))),(104,.ptr l (off+0)),(106,.ptr l (off+0)),(107,.ptr l (off+3)),(105,.int .i64 2),(108,.ptr l (off+5))]
     have g290:Grew H203 H247:=(gk st)
     have g291:=Grew.trans g243 g290
     have r292:=g290.at r244
     have r293:=g290.at r245
     refine zB (d:=(some 110)) (f:=74) (args:=[.tmp 109,.const (.flt .f32 (some 0))]) kr (R:=fun z H'=>z=.bool (decide (v5=(some 0)))/\H'=H247) ?_ ?_
     ·show qJ _ _ [E247 109,.flt .f32 (some 0)] _ _
      rw [b249]
      exact bD v5 (some 0) o5 (fun b e=>by cases e;exact⟨by decide +kernel,by decide +kernel⟩) sv5 rfl H247
     rintro z H247 ⟨rfl,rfl⟩
     have q294:=q246.app (kL:KdsL [.bool,.bool] [.bool w283,.bool (decide (v5=(some 0)))])
     refine qL (φ:=φ0) (pm:=pmX 2 [] 5) 20 (ws:=[⟨l,off,[n2 0,n2 1,n2 2,nF 3,nF 4,nF 5,nF 6,nI 7,nI 8],false⟩,⟨l',off',[n2 9,n2 10,n2 11,nF 12,nF 13,nF 14,nF 15,nI 16,nI 17],false⟩]) (env:=[(109,nF 5),(5,.lit (.int .i64 2)),(62,.lit (.int .i64 1)),(63,.lit (.int .i64 2)),(60,.lit (.int .i64 2)),(61,.lit (.bool true)),(0,.ptr 0 0),(64,.ptr 0 0),(66,.ptr 0 0),(67,.ptr 0 3),(65,.lit (.int .i64 2)),(68,.ptr 0 5),(1,.ptr 1 0),(70,.ptr 1 0),(72,.ptr 1 0),(73,.ptr 1 3),(71,.lit (.int .i64 2)),(74,.ptr 1 5),(69,nF 5),(75,nF 14),(76,nB 24),(90,.ptr 0 0),(92,.ptr 0 0),(93,.ptr 0 3),(91,.lit (.int .i64 2)),(94,.ptr 0 5),(96,.ptr 1 0),(98,.ptr 1 0),(99,.ptr 1 3),(97,.lit (.int .i64 2)),(100,.ptr 1 5),(95,nF 5),(101,nF 14),(102,nB 25),(104,.ptr 0 0),(106,.ptr 0 0),(107,.ptr 0 3),(105,.lit (.int .i64 2)),(108,.ptr 0 5),(103,nB 26),(110,nB 27)]) q294 (.cons (jE r292 hp (dL q294)) (.cons (jE r293 hp' (dL q294)) .nil)) (qI rfl) .nil (eC q294 (sc (sp B6) (.cons (qD rfl b284) (.cons qB .nil)))) dV qM ?_
     refine zA kr fun vs ls H295 E295 st hE=>?_
     refine rf st hE (.bool (decide (v5=(some 0)))) (Grew.trans g291 (gk st)) ?_
     simp only [cO,atP,f17,f19,f108,f204]
     simp [f18,f20,f109,f205,f248]
    ·intro vs ls H296 E296 st hE
     have f297:v5=u5:=dt st 0
     refine rf st hE (.bool false) (Grew.trans g243 (gk st)) ?_
     simp only [cO,atP,f17,f19,f108,f204]
     simp [f18,f20,f109,f205,f297]
theorem qLG (H:AHeap) (ms:LL) (hr:xJ KM ms) (S:AV) (hS:SlL H 9 ms S) (mxms:ms.length<=1048576):qJ Try.prog 60 [S] H fun r H'=>Grew H H'/\SlF H' 9 ms r/\FreshS H.next r:=by
 cases hS with
 | nil h0 =>
  refine qF zY (by simp) ?_
  have q1:KdsL [] []:=.nil
  refine rC 0 0 [] [(0,lN)] q1 (.cons (t:=0) rfl .nil) ?_
  refine zA kr fun vs ls H2 E2 st hE=>?_
  have gz:Grew H H2:=(Grew.trans (Grew.refl _) (gk st))
  exact re st hE (.nilslice) gz.next ⟨gz,.nil h0,.nil⟩
 | @sl l n cap rest wr hg hn hc =>
  subst hn
  have hS:SlL H 9 ms (.slice l 0 ms.length cap 9):=.sl hg rfl hc
  refine qF zY (by simp) ?_
  have q1:KdsL [.one] [.slice l 0 ms.length cap 9]:=.cons rfl .nil
  refine rD 0 0 [(.nilS (n1 0),.lit (.bool false))] [] [(0,n1 0)] q1 (.cons (⟨.slice l 0 ms.length cap 9,_,(dE q1),qFx rfl,fun E get=>by simp [zM,Opd.ev]⟩) .nil) (.cons (t:=0) rfl .nil) ?_
  refine zA kr fun vs ls H2 E2 st hE=>?_
  obtain⟨p3,e4,r5,n6⟩:=qEZ st.inn hE 5 0 0 0 9 kr (ds:=[]) kr
  have op3:H.next<=p3:=Nat.le_trans (Nat.le_refl _) (oM n6)
  have b7:=eo st hE 6 (.slice l 0 ms.length cap 9)
  have g8:Grew H H2:=(gk st)
  have g9:Grew H H2:=Grew.trans (Grew.refl _) g8
  have sx12:SlF H2 9 [] (.slice p3 0 0 0 9):=.sl (by simpa using r5) rfl (Nat.le_refl _)
  refine mI (d:=(some 7)) (sz:=9) (bytes:=48) (x:=.tmp 5) (y:=.tmp 6) kr (S:=.slice p3 0 0 0 9) (ys:=ms) (by show E2 5=_;exact e4) sx12 (.inr ⟨_,rfl⟩) (by show qQ _ _ (E2 6)=_;rw [b7];exact qFb hr.len (hS.grew g9)) (vC hr rfl) om ?_
  intro S10 H11 sS10 fS10 oS10
  have fr13:FreshS H.next (S10):=fS10.fresh (FreshS.of_le op3) g9.next
  have g14:=Grew.trans g9 oS10
  have q16:=q1.app (kL:KdsL [.one] [S10])
  refine rC 0 0 [] [(6,n1 0),(7,n1 1)] q16 (.cons (qD rfl b7) (.cons qB .nil)) ?_
  refine zA kr fun vs ls H17 E17 st hE=>?_
  have gz:Grew H H17:=(Grew.trans g14 (gk st))
  exact re st hE (S10) gz.next ⟨gz,(sS10.grew (st.inn.kept.grew (Nat.le_refl _))),fr13⟩
theorem qJS (H:AHeap) (ms:LL) (hr:∀ m ∈ ms,m.length=9) (h1:ms.flatten.all AV.one=true) (mx:ms.length<=1048576) (l cap:Nat) (hg:H.get l=some (.row ms.flatten true)) (i:Nat) (hi:i < ms.length) (m:List AV) (hm:m.length=9) (h1m:m.all AV.one=true) (lv:Nat) (hv:H.get lv=some (.row m true)) (hne:l ≠ lv) (hc:ms.length+1<=cap):qJ Try.prog 63 [.slice l 0 ms.length cap 9,.int .i64 (i:Int),.slice lv 0 1 1 9] H fun r H'=>r=.slice l 0 (ms.length+1) cap 9/\Only l H H'/\H'.get l=some (.row (ms.take i ++ [m] ++ ms.drop i).flatten true):=by
 have hF:=yQ hr
 have hlA:(ms.flatten ++ List.replicate 9 AV.any).length=(ms.length+1) * 9:=by rw [List.length_append,List.length_replicate,hF];omega
 have hlB:(laid (ms.flatten ++ List.replicate 9 AV.any) ((i+1) * 9) (ms.flatten.drop (i * 9))).length=(ms.length+1) * 9:=by unfold laid;simp only [List.length_append,List.length_take,List.length_drop,List.length_replicate];omega
 have min19:Nat.min 1 (ms.length+1 - i) * 9=9:=by show min _ _ * 9=9;omega
 refine qGA (j:=0) (k:=9) rfl hg om om ?_
 obtain⟨HA,eHA⟩:∃ z,z=H.put l (.row (ms.flatten ++ List.replicate 9 .any) true):=⟨_,rfl⟩
 rw [<- eHA]
 have nA:HA.next=H.next:=by rw [eHA];rfl
 have hgA:HA.get l=some (.row (ms.flatten ++ List.replicate 9 .any) true):=by rw [eHA];exact xM rfl (H.lt_of_get hg)
 have hvA:HA.get lv=some (.row m true):=by rw [eHA,xG (Ne.symm hne)];exact hv
 have oA:Only l H HA:=by rw [eHA];exact⟨Nat.le_refl _,fun l' _ hn=>xG hn⟩
 refine qF qW (by simp) ?_
 have q1:KdsL [.one,KI,.one,KI] [.slice l 0 ms.length cap 9,.int .i64 (i:Int),.slice lv 0 1 1 9,.int .i64 (ms.length:Int)]:=.cons rfl (.cons kA (.cons rfl (.cons kA .nil)))
 refine rC 0 0 [] [(0,n1 0),(1,nI 1),(2,n1 2)] q1 (.cons (t:=0) rfl (.cons (t:=1) rfl (.cons (t:=2) rfl .nil))) ?_
 refine zA kr fun vs ls H2 E2 st hE=>?_
 have b3:=eo st hE 10 (.slice l 0 ms.length cap 9)
 have b4:=eo st hE 11 (.int .i64 (i:Int))
 have B1:=es st hE [(10,.slice l 0 ms.length cap 9),(11,.int .i64 (i:Int)),(2,.slice lv 0 1 1 9),(0,.slice l 0 ms.length cap 9),(1,.int .i64 (i:Int))]
 have g8:Grew HA H2:=(gk st)
 have g9:Grew HA H2:=Grew.trans (Grew.refl _) g8
 have v10:zM E2 H2.get (.slSl 9 (.tmp 10) (some (.tmp 11)) none none)=some (.slice l (i * 9) (ms.length - i) (cap - i) 9):=by
  have h9:=vF (H:=H2) (lo:=(some (.tmp 11))) (hi:=none) (a:=i) (b:=ms.length) b3 (.inr (congrArg some b4)) (.inl ⟨rfl,rfl⟩) om om
  simpa using h9
 refine tK (d:=some 12) (op:=.slSl 9 (.tmp 10) (some (.tmp 11)) none none) (r:=.slice l (i * 9) (ms.length - i) (cap - i) 9) kr rfl v10 ?_
 have q11:=q1.app (.cons rfl .nil:KdsL [.one] [.slice l (i * 9) (ms.length - i) (cap - i) 9])
 refine rD 0 0 [(.len (n1 2),.lit (.int .i64 1)),(.len (n1 0),nI 3)] [] [(10,n1 0),(11,nI 1),(2,n1 2),(0,n1 0),(1,nI 1),(12,n1 4)] q11 (.cons (qZ (l:=lv) (o:=0) (n:=1) (cap:=1) (sz:=9) (dE q11) (dE q11)) (.cons (qZ (l:=l) (o:=0) (n:=ms.length) (cap:=cap) (sz:=9) (dE q11) (dE q11)) .nil)) (sc (sp B1) (.cons qB .nil)) ?_
 refine dB kr ?_ ?_
 ·intro vs ls H12 E12 st hE
  have f13:(i:Int)=(ms.length:Int):=dt st 0
  try rw [wrap_i64 om om] at f13
  exfalso;omega
 ·intro vs ls H23 E23 st hE
  have f24:¬ ((i:Int)=(ms.length:Int)):=df st 0
  have b25:=eo st hE 29 (.slice l 0 ms.length cap 9)
  obtain⟨w26,hw26⟩:∃ z,z=(IntKind.wrap .i64 ((ms.length:Int)+1)):=⟨_,rfl⟩
  have b27:E23 28=.int .i64 w26:=by rw [hw26];exact eo st hE 28 _
  have B2:=es st hE [(29,.slice l 0 ms.length cap 9),(0,.slice l 0 ms.length cap 9),(1,.int .i64 (i:Int)),(8,.int .i64 (ms.length:Int)),(7,.int .i64 1),(2,.slice lv 0 1 1 9)]
  have g33:Grew H2 H23:=(gk st)
  have g34:=Grew.trans g9 g33
  have nw26:w26=((ms.length:Int)+1):=by
   rw [hw26]
   rw [show (IntKind.wrap .i64 ((ms.length:Int)+1))=(ms.length:Int)+1 from wrap_i64 om om]
  refine tK (d:=some 30) (op:=.cap (.tmp 29)) (r:=.int .i64 (cap:Int)) kr rfl (qJw b25) ?_
  have q35:=q11.app (kL:KdsL [KI,KI] [.int .i64 w26,.int .i64 (cap:Int)])
  refine rC 0 0 [] [(29,n1 0),(0,n1 0),(1,nI 1),(8,nI 3),(7,.lit (.int .i64 1)),(2,n1 2),(28,nI 5),(30,nI 6)] q35 (sc (sp B2) (.cons (qD rfl b27) (.cons qB .nil))) ?_
  refine dB kr ?_ ?_
  ·intro vs ls H36 E36 st hE
   have f37:(cap:Int) < w26:=dt st 0
   have b38:=eo st hE 32 (.slice l 0 ms.length cap 9)
   have b39:=eo st hE 33 (.int .i64 (i:Int))
   have B3:=es st hE [(32,.slice l 0 ms.length cap 9),(33,.int .i64 (i:Int)),(8,.int .i64 (ms.length:Int)),(7,.int .i64 1),(1,.int .i64 (i:Int)),(2,.slice lv 0 1 1 9),(0,.slice l 0 ms.length cap 9)]
   have v47:zM E36 H36.get (.slSl 9 (.tmp 32) none (some (.tmp 33)) none)=some (.slice l 0 i cap 9):=by
    have h9:=vF (H:=H36) (lo:=none) (hi:=(some (.tmp 33))) (a:=0) (b:=i) b38 (.inl ⟨rfl,rfl⟩) (.inr (congrArg some b39)) om om
    simpa using h9
   refine tK (d:=some 34) (op:=.slSl 9 (.tmp 32) none (some (.tmp 33)) none) (r:=.slice l 0 i cap 9) kr rfl v47 ?_
   have q48:=q35.app (.cons rfl .nil:KdsL [.one] [.slice l 0 i cap 9])
   refine rC 0 0 [] [(32,n1 0),(33,nI 1),(8,nI 3),(7,.lit (.int .i64 1)),(1,nI 1),(2,n1 2),(0,n1 0),(34,n1 7)] q48 (sc (sp B3) (.cons qB .nil)) ?_
   refine zA kr fun vs ls H49 E49 st hE=>?_
   obtain⟨w51,hw51⟩:∃ z,z=(IntKind.wrap .i64 ((IntKind.wrap .i64 ((ms.length:Int)+1)) - (i:Int))):=⟨_,rfl⟩
   have nw51:w51=(((ms.length:Int)+1) - (i:Int)):=by
    rw [hw51]
    rw [show (IntKind.wrap .i64 ((ms.length:Int)+1))=(ms.length:Int)+1 from wrap_i64 om om]
    rw [show (IntKind.wrap .i64 (((ms.length:Int)+1) - (i:Int)))=((ms.length:Int)+1) - (i:Int) from wrap_i64 om om]
   exfalso;omega
  ·intro vs ls H60 E60 st hE
   have f61:¬ ((cap:Int) < w26):=df st 0
   have b62:=eo st hE 56 (.slice l 0 ms.length cap 9)
   obtain⟨w63,hw63⟩:∃ z,z=(IntKind.wrap .i64 ((ms.length:Int)+1)):=⟨_,rfl⟩
   have b64:E60 59=.int .i64 w63:=by rw [hw63];exact eo st hE 59 _
   have B4:=es st hE [(56,.slice l 0 ms.length cap 9),(2,.slice lv 0 1 1 9),(0,.slice l 0 ms.length cap 9),(1,.int .i64 (i:Int)),(7,.int .i64 1),(8,.int .i64 (ms.length:Int))]
   have g70:Grew H23 H60:=(gk st)
   have g71:=Grew.trans g34 g70
   have nw63:w63=((ms.length:Int)+1):=by
    rw [hw63]
    rw [show (IntKind.wrap .i64 ((ms.length:Int)+1))=(ms.length:Int)+1 from wrap_i64 om om]
   have e72:E60 59=.int .i64 (((ms.length+1):Nat):Int):=by
    rw [b64,hw63]
    rw [show (IntKind.wrap .i64 ((ms.length:Int)+1))=(ms.length:Int)+1 from wrap_i64 om om]
    first | rfl | (congr 1;done) | (congr 1;omega)
   have v73:zM E60 H60.get (.slSl 9 (.tmp 56) none (some (.tmp 59)) none)=some (.slice l 0 (ms.length+1) cap 9):=by
    have h9:=vF (H:=H60) (lo:=none) (hi:=(some (.tmp 59))) (a:=0) (b:=(ms.length+1)) b62 (.inl ⟨rfl,rfl⟩) (.inr (congrArg some e72)) om om
    simpa using h9
   refine tK (d:=some 60) (op:=.slSl 9 (.tmp 56) none (some (.tmp 59)) none) (r:=.slice l 0 (ms.length+1) cap 9) kr rfl v73 ?_
   have q74:=q35.app (.cons kA (.cons rfl .nil):KdsL [KI,.one] [.int .i64 w63,.slice l 0 (ms.length+1) cap 9])
   refine rC 0 0 [] [(56,n1 0),(2,n1 2),(0,n1 0),(1,nI 1),(7,.lit (.int .i64 1)),(8,nI 3),(59,nI 7),(60,n1 8)] q74 (sc (sp B4) (.cons (qD rfl b64) (.cons qB .nil))) ?_
   refine zA kr fun vs ls H75 E75 st hE=>?_
   have b76:=eo st hE 62 (.slice l 0 (ms.length+1) cap 9)
   obtain⟨w77,hw77⟩:∃ z,z=(IntKind.wrap .i64 ((i:Int)+1)):=⟨_,rfl⟩
   have b78:E75 65=.int .i64 w77:=by rw [hw77];exact eo st hE 65 _
   have B5:=es st hE [(62,.slice l 0 (ms.length+1) cap 9),(61,.slice lv 0 1 1 9),(0,.slice l 0 (ms.length+1) cap 9),(1,.int .i64 (i:Int)),(7,.int .i64 1),(2,.slice lv 0 1 1 9),(8,.int .i64 (ms.length:Int))]
   have g85:Grew H60 H75:=(gk st)
   have g86:=Grew.trans g71 g85
   have nw77:w77=((i:Int)+1):=by
    rw [hw77]
    rw [show (IntKind.wrap .i64 ((i:Int)+1))=(i:Int)+1 from wrap_i64 om om]
   have e87:E75 65=.int .i64 (((i+1):Nat):Int):=by
    rw [b78,hw77]
    rw [show (IntKind.wrap .i64 ((i:Int)+1))=(i:Int)+1 from wrap_i64 om om]
    first | rfl | (congr 1;done) | (congr 1;omega)
   have v88:zM E75 H75.get (.slSl 9 (.tmp 62) (some (.tmp 65)) none none)=some (.slice l ((i+1) * 9) ((ms.length+1) - (i+1)) (cap - (i+1)) 9):=by
    have h9:=vF (H:=H75) (lo:=(some (.tmp 65))) (hi:=none) (a:=(i+1)) (b:=(ms.length+1)) b76 (.inr (congrArg some e87)) (.inl ⟨rfl,rfl⟩) om om
    simpa using h9
   refine tK (d:=some 66) (op:=.slSl 9 (.tmp 62) (some (.tmp 65)) none none) (r:=.slice l ((i+1) * 9) ((ms.length+1) - (i+1)) (cap - (i+1)) 9) kr rfl v88 ?_
   have q89:=q74.app (.cons kA (.cons rfl .nil):KdsL [KI,.one] [.int .i64 w77,.slice l ((i+1) * 9) ((ms.length+1) - (i+1)) (cap - (i+1)) 9])
   refine rD 0 0 [(.call 79 [n1 2,n1 10],.lit (.bool false))] [] [(62,n1 8),(61,n1 2),(0,n1 8),(1,nI 1),(7,.lit (.int .i64 1)),(2,n1 2),(8,nI 3),(65,nI 9),(66,n1 10)] q89 (.cons (qH (args:=[.slice lv 0 1 1 9,.slice l ((i+1) * 9) ((ms.length+1) - (i+1)) (cap - (i+1)) 9]) (r:=.bool false) (dL q89) (dE q89) (fun H9 hk=>qJg Try.func79 kr kr kr (tS:=31) (tR:=4) (e:=40) (size:=9) kr kr kr (hk.grew (Nat.le_refl _) |>.at (Grew.at g86 hvA)) (hk.grew (Nat.le_refl _) |>.at (Grew.at g86 hgA)) (Ne.symm hne) om om om)) .nil) (sc (sp B5) (.cons (qD rfl b78) (.cons qB .nil))) ?_
   refine zA kr fun vs ls H90 E90 st hE=>?_
   have b91:=eo st hE 69 (.slice l 0 (ms.length+1) cap 9)
   obtain⟨w92,hw92⟩:∃ z,z=(IntKind.wrap .i64 ((i:Int)+1)):=⟨_,rfl⟩
   have b93:E90 72=.int .i64 w92:=by rw [hw92];exact eo st hE 72 _
   have B6:=es st hE [(69,.slice l 0 (ms.length+1) cap 9),(0,.slice l 0 (ms.length+1) cap 9),(1,.int .i64 (i:Int)),(2,.slice lv 0 1 1 9),(8,.int .i64 (ms.length:Int)),(7,.int .i64 1)]
   have g99:Grew H75 H90:=(gk st)
   have g100:=Grew.trans g86 g99
   have nw92:w92=((i:Int)+1):=by
    rw [hw92]
    rw [show (IntKind.wrap .i64 ((i:Int)+1))=(i:Int)+1 from wrap_i64 om om]
   have e101:E90 72=.int .i64 (((i+1):Nat):Int):=by
    rw [b93,hw92]
    rw [show (IntKind.wrap .i64 ((i:Int)+1))=(i:Int)+1 from wrap_i64 om om]
    first | rfl | (congr 1;done) | (congr 1;omega)
   have v102:zM E90 H90.get (.slSl 9 (.tmp 69) (some (.tmp 72)) none none)=some (.slice l ((i+1) * 9) ((ms.length+1) - (i+1)) (cap - (i+1)) 9):=by
    have h9:=vF (H:=H90) (lo:=(some (.tmp 72))) (hi:=none) (a:=(i+1)) (b:=(ms.length+1)) b91 (.inr (congrArg some e101)) (.inl ⟨rfl,rfl⟩) om om
    simpa using h9
   refine qBX (d:=some 73) (op:=.slSl 9 (.tmp 69) (some (.tmp 72)) none none) (r:=.slice l ((i+1) * 9) ((ms.length+1) - (i+1)) (cap - (i+1)) 9) kr rfl v102 ?_
   have q103:=q89.app (.cons kA (.cons rfl .nil):KdsL [KI,.one] [.int .i64 w92,.slice l ((i+1) * 9) ((ms.length+1) - (i+1)) (cap - (i+1)) 9])
   refine rC 0 0 [] [(69,n1 8),(0,n1 8),(1,nI 1),(2,n1 2),(8,nI 3),(7,.lit (.int .i64 1)),(72,nI 11),(73,n1 12)] q103 (sc (sp B6) (.cons (qD rfl b93) (.cons qB .nil))) ?_
   refine zA kr fun vs ls H104 E104 st hE=>?_
   have b105:=eo st hE 74 (.slice l 0 (ms.length+1) cap 9)
   have b106:=eo st hE 75 (.int .i64 (i:Int))
   have B7:=es st hE [(74,.slice l 0 (ms.length+1) cap 9),(75,.int .i64 (i:Int)),(73,.slice l ((i+1) * 9) ((ms.length+1) - (i+1)) (cap - (i+1)) 9),(0,.slice l 0 (ms.length+1) cap 9),(1,.int .i64 (i:Int)),(2,.slice lv 0 1 1 9),(8,.int .i64 (ms.length:Int)),(7,.int .i64 1)]
   have g113:Grew H90 H104:=(gk st)
   have g114:=Grew.trans g100 g113
   have v115:zM E104 H104.get (.slSl 9 (.tmp 74) (some (.tmp 75)) none none)=some (.slice l (i * 9) ((ms.length+1) - i) (cap - i) 9):=by
    have h9:=vF (H:=H104) (lo:=(some (.tmp 75))) (hi:=none) (a:=i) (b:=(ms.length+1)) b105 (.inr (congrArg some b106)) (.inl ⟨rfl,rfl⟩) om om
    simpa using h9
   refine qBX (d:=some 76) (op:=.slSl 9 (.tmp 74) (some (.tmp 75)) none none) (r:=.slice l (i * 9) ((ms.length+1) - i) (cap - i) 9) kr rfl v115 ?_
   have q116:=q103.app (.cons rfl .nil:KdsL [.one] [.slice l (i * 9) ((ms.length+1) - i) (cap - i) 9])
   refine rC 0 0 [] [(74,n1 8),(75,nI 1),(73,n1 12),(0,n1 8),(1,nI 1),(2,n1 2),(8,nI 3),(7,.lit (.int .i64 1)),(76,n1 13)] q116 (sc (sp B7) (.cons qB .nil)) ?_
   refine zA kr fun vs ls H117 E117 st hE=>?_
   have b118:=eo st hE 73 (.slice l ((i+1) * 9) ((ms.length+1) - (i+1)) (cap - (i+1)) 9)
   have b119:=eo st hE 76 (.slice l (i * 9) ((ms.length+1) - i) (cap - i) 9)
   have B8:=es st hE [(73,.slice l ((i+1) * 9) ((ms.length+1) - (i+1)) (cap - (i+1)) 9),(76,.slice l (i * 9) ((ms.length+1) - i) (cap - i) 9),(0,.slice l 0 (ms.length+1) cap 9),(1,.int .i64 (i:Int)),(2,.slice lv 0 1 1 9),(8,.int .i64 (ms.length:Int)),(7,.int .i64 1)]
   have g125:Grew H104 H117:=(gk st)
   have g126:=Grew.trans g114 g125
   have rw9:=g126.at hgA
   have rv9:=g126.at hvA
   refine qGl (d:=some 77) (x:=.tmp 73) (y:=.tmp 76) kr b118 (by show qQ _ _ (E117 76)=_;rw [b119];exact uG rw9 om (by rw [hlA];omega)) (by show min _ _ ≠ 0;omega) rw9 (by rw [hlA];omega) (by rw [qGp hF hi];exact List.all_eq_true.2 fun x hx=>List.all_eq_true.1 h1 x (List.mem_of_mem_drop hx)) ?_
   rw [qGp hF hi]
   obtain⟨H127,eH127⟩:∃ z,z=H117.put l (.row (laid (ms.flatten ++ List.replicate 9 .any) ((i+1) * 9) (ms.flatten.drop (i * 9))) true):=⟨_,rfl⟩
   rw [<- eH127]
   have rH127:H127.get l=some (.row (laid (ms.flatten ++ List.replicate 9 .any) ((i+1) * 9) (ms.flatten.drop (i * 9))) true):=by rw [eH127];exact xM rfl (H117.lt_of_get rw9)
   have vH127:H127.get lv=some (.row m true):=by rw [eH127,xG (Ne.symm hne)];exact rv9
   have oH127:Only l HA H127:=by rw [eH127];exact⟨g126.next,fun l' hl hn=>by rw [xG hn];exact g126.get l' hl⟩
   have qH127:Only l H H127:=oA.trans oH127
   refine rC 0 0 [] [(73,n1 12),(76,n1 13),(0,n1 8),(1,nI 1),(2,n1 2),(8,nI 3),(7,.lit (.int .i64 1))] q116 (sp B8) ?_
   refine zA kr fun vs ls H129 E129 st hE=>?_
   have b130:=eo st hE 78 (.slice l 0 (ms.length+1) cap 9)
   have b131:=eo st hE 79 (.int .i64 (i:Int))
   have B9:=es st hE [(78,.slice l 0 (ms.length+1) cap 9),(79,.int .i64 (i:Int)),(2,.slice lv 0 1 1 9),(0,.slice l 0 (ms.length+1) cap 9),(8,.int .i64 (ms.length:Int)),(1,.int .i64 (i:Int)),(7,.int .i64 1)]
   have g137:Grew H127 H129:=(gk st)
   have g138:Grew H127 H129:=Grew.trans (Grew.refl _) g137
   have v139:zM E129 H129.get (.slSl 9 (.tmp 78) (some (.tmp 79)) none none)=some (.slice l (i * 9) ((ms.length+1) - i) (cap - i) 9):=by
    have h9:=vF (H:=H129) (lo:=(some (.tmp 79))) (hi:=none) (a:=i) (b:=(ms.length+1)) b130 (.inr (congrArg some b131)) (.inl ⟨rfl,rfl⟩) om om
    simpa using h9
   refine tK (d:=some 80) (op:=.slSl 9 (.tmp 78) (some (.tmp 79)) none none) (r:=.slice l (i * 9) ((ms.length+1) - i) (cap - i) 9) kr rfl v139 ?_
   have q140:=q116.app (.cons rfl .nil:KdsL [.one] [.slice l (i * 9) ((ms.length+1) - i) (cap - i) 9])
   refine rC 0 0 [] [(78,n1 8),(79,nI 1),(2,n1 2),(0,n1 8),(8,nI 3),(1,nI 1),(7,.lit (.int .i64 1)),(80,n1 14)] q140 (sc (sp B9) (.cons qB .nil)) ?_
   refine zA kr fun vs ls H141 E141 st hE=>?_
   have b142:=eo st hE 80 (.slice l (i * 9) ((ms.length+1) - i) (cap - i) 9)
   have b143:=eo st hE 81 (.slice lv 0 1 1 9)
   have B10:=es st hE [(80,.slice l (i * 9) ((ms.length+1) - i) (cap - i) 9),(81,.slice lv 0 1 1 9),(0,.slice l 0 (ms.length+1) cap 9),(8,.int .i64 (ms.length:Int)),(2,.slice lv 0 1 1 9),(1,.int .i64 (i:Int)),(7,.int .i64 1)]
   have g149:Grew H129 H141:=(gk st)
   have g150:=Grew.trans g138 g149
   have rw9:=g150.at rH127
   have rv9:=g150.at vH127
   refine qHV (d:=some 82) (x:=.tmp 80) (y:=.tmp 81) (m:=1) (ys:=m) kr b142 (by show qQ _ _ (E141 81)=_;rw [b143];rw [uG (n:=1) rv9 om om];rw [List.drop_zero,List.take_of_length_le om]) (by show min _ _ ≠ 0;omega) rw9 (by rw [hlB];omega) (by rw [min19,List.take_of_length_le om];exact h1m) ?_
   rw [min19,List.take_of_length_le (show m.length<=9 by omega)]
   obtain⟨H151,eH151⟩:∃ z,z=H141.put l (.row (laid (laid (ms.flatten ++ List.replicate 9 .any) ((i+1) * 9) (ms.flatten.drop (i * 9))) (i * 9) m) true):=⟨_,rfl⟩
   rw [<- eH151]
   have rH151:H151.get l=some (.row (laid (laid (ms.flatten ++ List.replicate 9 .any) ((i+1) * 9) (ms.flatten.drop (i * 9))) (i * 9) m) true):=by rw [eH151];exact xM rfl (H141.lt_of_get rw9)
   have vH151:H151.get lv=some (.row m true):=by rw [eH151,xG (Ne.symm hne)];exact rv9
   have oH151:Only l H127 H151:=by rw [eH151];exact⟨g150.next,fun l' hl hn=>by rw [xG hn];exact g150.get l' hl⟩
   have qH151:Only l H H151:=qH127.trans oH151
   refine rC 0 0 [] [(80,n1 14),(81,n1 2),(0,n1 8),(8,nI 3),(2,n1 2),(1,nI 1),(7,.lit (.int .i64 1))] q140 (sp B10) ?_
   refine zA kr fun vs ls H153 E153 st hE=>?_
   have g9:Grew H151 H153:=(Grew.trans (Grew.refl _) (gk st))
   refine jA kr (zJ st.inn hE (.inr rfl) (a:=.slice l 0 (ms.length+1) cap 9) kr (by rw [nA];exact Nat.le_trans qH151.next g9.next) ⟨rfl,qH151.trans (.of_grew g9),?_⟩)
   rw [<- qDX hr m i (Nat.le_of_lt hi),<- qJb (R:=List.replicate 9 .any) hF (by simp) hm hi];exact g9.at rH151
theorem qJR (H:AHeap) (ms:LL) (hr:∀ m ∈ ms,m.length=9) (h1:ms.flatten.all AV.one=true) (mx:ms.length<=1048576) (l cap:Nat) (hg:H.get l=some (.row ms.flatten true)) (i:Nat) (hi:i < ms.length) (m:List AV) (hm:m.length=9) (h1m:m.all AV.one=true) (lv:Nat) (hv:H.get lv=some (.row m true)) (hne:l ≠ lv) (hc:cap=ms.length):qJ Try.prog 63 [.slice l 0 ms.length cap 9,.int .i64 (i:Int),.slice lv 0 1 1 9] H fun r H'=>∃ l2 c,H.next<=l2/\ms.length+1<=c/\r=.slice l2 0 (ms.length+1) c 9/\Grew H H'/\H'.get l2=some (.row (ms.take i ++ [m] ++ ms.drop i).flatten true):=by
 have hF:=yQ hr
 have min19:Nat.min 1 (ms.length+1 - i) * 9=9:=by show min _ _ * 9=9;omega
 refine qF qW (by simp) ?_
 have q1:KdsL [.one,KI,.one,KI] [.slice l 0 ms.length cap 9,.int .i64 (i:Int),.slice lv 0 1 1 9,.int .i64 (ms.length:Int)]:=.cons rfl (.cons kA (.cons rfl (.cons kA .nil)))
 refine rC 0 0 [] [(0,n1 0),(1,nI 1),(2,n1 2)] q1 (.cons (t:=0) rfl (.cons (t:=1) rfl (.cons (t:=2) rfl .nil))) ?_
 refine zA kr fun vs ls H2 E2 st hE=>?_
 have b3:=eo st hE 10 (.slice l 0 ms.length cap 9)
 have b4:=eo st hE 11 (.int .i64 (i:Int))
 have B1:=es st hE [(10,.slice l 0 ms.length cap 9),(11,.int .i64 (i:Int)),(2,.slice lv 0 1 1 9),(0,.slice l 0 ms.length cap 9),(1,.int .i64 (i:Int))]
 have g8:Grew H H2:=(gk st)
 have g9:Grew H H2:=Grew.trans (Grew.refl _) g8
 have v10:zM E2 H2.get (.slSl 9 (.tmp 10) (some (.tmp 11)) none none)=some (.slice l (i * 9) (ms.length - i) (cap - i) 9):=by
  have h9:=vF (H:=H2) (lo:=(some (.tmp 11))) (hi:=none) (a:=i) (b:=ms.length) b3 (.inr (congrArg some b4)) (.inl ⟨rfl,rfl⟩) om om
  simpa using h9
 refine tK (d:=some 12) (op:=.slSl 9 (.tmp 10) (some (.tmp 11)) none none) (r:=.slice l (i * 9) (ms.length - i) (cap - i) 9) kr rfl v10 ?_
 have q11:=q1.app (.cons rfl .nil:KdsL [.one] [.slice l (i * 9) (ms.length - i) (cap - i) 9])
 refine rD 0 0 [(.len (n1 2),.lit (.int .i64 1)),(.len (n1 0),nI 3)] [] [(10,n1 0),(11,nI 1),(2,n1 2),(0,n1 0),(1,nI 1),(12,n1 4)] q11 (.cons (qZ (l:=lv) (o:=0) (n:=1) (cap:=1) (sz:=9) (dE q11) (dE q11)) (.cons (qZ (l:=l) (o:=0) (n:=ms.length) (cap:=cap) (sz:=9) (dE q11) (dE q11)) .nil)) (sc (sp B1) (.cons qB .nil)) ?_
 refine dB kr ?_ ?_
 ·intro vs ls H12 E12 st hE
  have f13:(i:Int)=(ms.length:Int):=dt st 0
  try rw [wrap_i64 om om] at f13
  exfalso;omega
 ·intro vs ls H23 E23 st hE
  have f24:¬ ((i:Int)=(ms.length:Int)):=df st 0
  have b25:=eo st hE 29 (.slice l 0 ms.length cap 9)
  obtain⟨w26,hw26⟩:∃ z,z=(IntKind.wrap .i64 ((ms.length:Int)+1)):=⟨_,rfl⟩
  have b27:E23 28=.int .i64 w26:=by rw [hw26];exact eo st hE 28 _
  have B2:=es st hE [(29,.slice l 0 ms.length cap 9),(0,.slice l 0 ms.length cap 9),(1,.int .i64 (i:Int)),(8,.int .i64 (ms.length:Int)),(7,.int .i64 1),(2,.slice lv 0 1 1 9)]
  have g33:Grew H2 H23:=(gk st)
  have g34:=Grew.trans g9 g33
  have nw26:w26=((ms.length:Int)+1):=by
   rw [hw26]
   rw [show (IntKind.wrap .i64 ((ms.length:Int)+1))=(ms.length:Int)+1 from wrap_i64 om om]
  refine tK (d:=some 30) (op:=.cap (.tmp 29)) (r:=.int .i64 (cap:Int)) kr rfl (qJw b25) ?_
  have q35:=q11.app (kL:KdsL [KI,KI] [.int .i64 w26,.int .i64 (cap:Int)])
  refine rC 0 0 [] [(29,n1 0),(0,n1 0),(1,nI 1),(8,nI 3),(7,.lit (.int .i64 1)),(2,n1 2),(28,nI 5),(30,nI 6)] q35 (sc (sp B2) (.cons (qD rfl b27) (.cons qB .nil))) ?_
  refine dB kr ?_ ?_
  ·intro vs ls H36 E36 st hE
   have f37:(cap:Int) < w26:=dt st 0
   have b38:=eo st hE 32 (.slice l 0 ms.length cap 9)
   have b39:=eo st hE 33 (.int .i64 (i:Int))
   have B3:=es st hE [(32,.slice l 0 ms.length cap 9),(33,.int .i64 (i:Int)),(8,.int .i64 (ms.length:Int)),(7,.int .i64 1),(1,.int .i64 (i:Int)),(2,.slice lv 0 1 1 9),(0,.slice l 0 ms.length cap 9)]
   have g45:Grew H23 H36:=(gk st)
   have g46:=Grew.trans g34 g45
   have v47:zM E36 H36.get (.slSl 9 (.tmp 32) none (some (.tmp 33)) none)=some (.slice l 0 i cap 9):=by
    have h9:=vF (H:=H36) (lo:=none) (hi:=(some (.tmp 33))) (a:=0) (b:=i) b38 (.inl ⟨rfl,rfl⟩) (.inr (congrArg some b39)) om om
    simpa using h9
   refine tK (d:=some 34) (op:=.slSl 9 (.tmp 32) none (some (.tmp 33)) none) (r:=.slice l 0 i cap 9) kr rfl v47 ?_
   have q48:=q35.app (.cons rfl .nil:KdsL [.one] [.slice l 0 i cap 9])
   refine rC 0 0 [] [(32,n1 0),(33,nI 1),(8,nI 3),(7,.lit (.int .i64 1)),(1,nI 1),(2,n1 2),(0,n1 0),(34,n1 7)] q48 (sc (sp B3) (.cons qB .nil)) ?_
   refine zA kr fun vs ls H49 E49 st hE=>?_
   have b50:=eo st hE 34 (.slice l 0 i cap 9)
   obtain⟨w51,hw51⟩:∃ z,z=(IntKind.wrap .i64 ((IntKind.wrap .i64 ((ms.length:Int)+1)) - (i:Int))):=⟨_,rfl⟩
   have b52:E49 39=.int .i64 w51:=by rw [hw51];exact eo st hE 39 _
   have B4:=es st hE [(34,.slice l 0 i cap 9),(1,.int .i64 (i:Int)),(2,.slice lv 0 1 1 9),(7,.int .i64 1),(0,.slice l 0 ms.length cap 9),(8,.int .i64 (ms.length:Int))]
   have g58:Grew H36 H49:=(gk st)
   have g59:=Grew.trans g46 g58
   have nw51:w51=(((ms.length:Int)+1) - (i:Int)):=by
    rw [hw51]
    rw [show (IntKind.wrap .i64 ((ms.length:Int)+1))=(ms.length:Int)+1 from wrap_i64 om om]
    rw [show (IntKind.wrap .i64 (((ms.length:Int)+1) - (i:Int)))=((ms.length:Int)+1) - (i:Int) from wrap_i64 om om]
   have e60:E49 39=.int .i64 ((((ms.length+1) - i):Nat):Int):=by
    rw [b52,hw51]
    rw [show (IntKind.wrap .i64 ((ms.length:Int)+1))=(ms.length:Int)+1 from wrap_i64 om om]
    rw [show (IntKind.wrap .i64 (((ms.length:Int)+1) - (i:Int)))=((ms.length:Int)+1) - (i:Int) from wrap_i64 om om]
    first | rfl | (congr 1;done) | (congr 1;omega)
   have rw9:=g59.at hg
   have rv9:=g59.at hv
   refine qHj (sz:=9) (bytes:=48) (zs:=[AV.int .i32 0,.int .i32 0,.int .i32 0,.flt .f32 (some 0),.flt .f32 (some 0),.flt .f32 (some 0),.flt .f32 (some 0),.int .i64 0,.int .i64 0]) (d:=some 40) (x:=.tmp 34) (y:=.tmp 39) (m:=ms.length+1 - i) kr b50 (by show E49 39=_;rw [e60]) rw9 (by rw [hF];omega) (by decide) om om om (by show (2 * (i+(ms.length+1 - i))+192) * 48<=281474976710656;omega) rfl ?_
   intro c hc9
   rw [show i+(ms.length+1 - i)=ms.length+1 by omega] at hc9 ⊢
   rw [List.drop_zero]
   obtain⟨Z,hZe⟩:∃ z,z=(List.replicate (ms.length+1 - i) [AV.int .i32 0,.int .i32 0,.int .i32 0,.flt .f32 (some 0),.flt .f32 (some 0),.flt .f32 (some 0),.flt .f32 (some 0),.int .i64 0,.int .i64 0]).flatten:=⟨_,rfl⟩
   rw [<- hZe]
   have hZ:Z.length=(ms.length+1 - i) * 9:=by rw [hZe];simp
   have hlB0:(ms.flatten.take (i * 9) ++ Z).length=(ms.length+1) * 9:=by rw [List.length_append,List.length_take,hZ,hF];omega
   have hlB:(laid (ms.flatten.take (i * 9) ++ Z) (i * 9) m).length=(ms.length+1) * 9:=by unfold laid;simp only [List.length_append,List.length_take,List.length_drop];omega
   obtain⟨l2,el2⟩:∃ z,z=H49.next:=⟨_,rfl⟩
   obtain⟨HB,eHB⟩:∃ z,z=H49.new (.row (ms.flatten.take (i * 9) ++ Z) true):=⟨_,rfl⟩
   rw [<- eHB,<- el2]
   have rHB:HB.get l2=some (.row (ms.flatten.take (i * 9) ++ Z) true):=by rw [eHB,el2];exact qBk rfl
   have gHB:Grew H49 HB:=by rw [eHB];exact(Grew.refl _).new _
   have gAB:Grew H HB:=Grew.trans g59 gHB
   have l2l:l2 ≠ l:=by rw [el2];exact Nat.ne_of_gt (H49.lt_of_get rw9)
   have l2v:l2 ≠ lv:=by rw [el2];exact Nat.ne_of_gt (H49.lt_of_get rv9)
   have l2n:H.next<=l2:=by rw [el2];exact g59.next
   have q61:=q48.app (.cons kA (.cons rfl .nil):KdsL [KI,.one] [.int .i64 w51,.slice l2 0 (ms.length+1) c 9])
   refine rC 0 0 [] [(34,n1 7),(1,nI 1),(2,n1 2),(7,.lit (.int .i64 1)),(0,n1 0),(8,nI 3),(39,nI 8),(40,n1 9)] q61 (sc (sp B4) (.cons (qD rfl b52) (.cons qB .nil))) ?_
   refine zA kr fun vs ls H62 E62 st hE=>?_
   have b63:=eo st hE 41 (.slice l2 0 (ms.length+1) c 9)
   have b64:=eo st hE 42 (.int .i64 (i:Int))
   have B5:=es st hE [(41,.slice l2 0 (ms.length+1) c 9),(42,.int .i64 (i:Int)),(2,.slice lv 0 1 1 9),(9,.slice l2 0 (ms.length+1) c 9),(1,.int .i64 (i:Int)),(7,.int .i64 1),(0,.slice l 0 ms.length cap 9),(8,.int .i64 (ms.length:Int))]
   have g71:Grew HB H62:=(gk st)
   have g72:Grew HB H62:=Grew.trans (Grew.refl _) g71
   have v73:zM E62 H62.get (.slSl 9 (.tmp 41) (some (.tmp 42)) none none)=some (.slice l2 (i * 9) ((ms.length+1) - i) (c - i) 9):=by
    have h9:=vF (H:=H62) (lo:=(some (.tmp 42))) (hi:=none) (a:=i) (b:=(ms.length+1)) b63 (.inr (congrArg some b64)) (.inl ⟨rfl,rfl⟩) om om
    simpa using h9
   refine tK (d:=some 43) (op:=.slSl 9 (.tmp 41) (some (.tmp 42)) none none) (r:=.slice l2 (i * 9) ((ms.length+1) - i) (c - i) 9) kr rfl v73 ?_
   have q74:=q61.app (.cons rfl .nil:KdsL [.one] [.slice l2 (i * 9) ((ms.length+1) - i) (c - i) 9])
   refine rC 0 0 [] [(41,n1 9),(42,nI 1),(2,n1 2),(9,n1 9),(1,nI 1),(7,.lit (.int .i64 1)),(0,n1 0),(8,nI 3),(43,n1 10)] q74 (sc (sp B5) (.cons qB .nil)) ?_
   refine zA kr fun vs ls H75 E75 st hE=>?_
   have b76:=eo st hE 43 (.slice l2 (i * 9) ((ms.length+1) - i) (c - i) 9)
   have b77:=eo st hE 44 (.slice lv 0 1 1 9)
   have B6:=es st hE [(43,.slice l2 (i * 9) ((ms.length+1) - i) (c - i) 9),(44,.slice lv 0 1 1 9),(9,.slice l2 0 (ms.length+1) c 9),(1,.int .i64 (i:Int)),(7,.int .i64 1),(0,.slice l 0 ms.length cap 9),(8,.int .i64 (ms.length:Int)),(2,.slice lv 0 1 1 9)]
   have g84:Grew H62 H75:=(gk st)
   have g85:=Grew.trans g72 g84
   have rw9:=g85.at rHB
   have gA9:Grew H H75:=Grew.trans gAB g85
   refine qHV (d:=some 45) (x:=.tmp 43) (y:=.tmp 44) (m:=1) (ys:=m) kr b76 (by show qQ _ _ (E75 44)=_;rw [b77];rw [uG (n:=1) (gA9.at hv) om om];rw [List.drop_zero,List.take_of_length_le om]) (by show min _ _ ≠ 0;omega) rw9 (by rw [hlB0];omega) (by rw [min19,List.take_of_length_le om];exact h1m) ?_
   rw [min19,List.take_of_length_le (show m.length<=9 by omega)]
   obtain⟨H86,eH86⟩:∃ z,z=H75.put l2 (.row (laid (ms.flatten.take (i * 9) ++ Z) (i * 9) m) true):=⟨_,rfl⟩
   rw [<- eH86]
   have rH86:H86.get l2=some (.row (laid (ms.flatten.take (i * 9) ++ Z) (i * 9) m) true):=by rw [eH86];exact xM rfl (H75.lt_of_get rw9)
   have qH86:Grew H H86:=by rw [eH86];exact gA9.put l2n _
   refine rC 0 0 [] [(43,n1 10),(44,n1 2),(9,n1 9),(1,nI 1),(7,.lit (.int .i64 1)),(0,n1 0),(8,nI 3),(2,n1 2)] q74 (sp B6) ?_
   refine zA kr fun vs ls H88 E88 st hE=>?_
   have b89:=eo st hE 46 (.slice l2 0 (ms.length+1) c 9)
   obtain⟨w90,hw90⟩:∃ z,z=(IntKind.wrap .i64 ((i:Int)+1)):=⟨_,rfl⟩
   have b91:E88 49=.int .i64 w90:=by rw [hw90];exact eo st hE 49 _
   have B7:=es st hE [(46,.slice l2 0 (ms.length+1) c 9),(0,.slice l 0 ms.length cap 9),(1,.int .i64 (i:Int)),(9,.slice l2 0 (ms.length+1) c 9),(8,.int .i64 (ms.length:Int)),(7,.int .i64 1),(2,.slice lv 0 1 1 9)]
   have g98:Grew H86 H88:=(gk st)
   have g99:Grew H86 H88:=Grew.trans (Grew.refl _) g98
   have nw90:w90=((i:Int)+1):=by
    rw [hw90]
    rw [show (IntKind.wrap .i64 ((i:Int)+1))=(i:Int)+1 from wrap_i64 om om]
   have e100:E88 49=.int .i64 (((i+1):Nat):Int):=by
    rw [b91,hw90]
    rw [show (IntKind.wrap .i64 ((i:Int)+1))=(i:Int)+1 from wrap_i64 om om]
    first | rfl | (congr 1;done) | (congr 1;omega)
   have v101:zM E88 H88.get (.slSl 9 (.tmp 46) (some (.tmp 49)) none none)=some (.slice l2 ((i+1) * 9) ((ms.length+1) - (i+1)) (c - (i+1)) 9):=by
    have h9:=vF (H:=H88) (lo:=(some (.tmp 49))) (hi:=none) (a:=(i+1)) (b:=(ms.length+1)) b89 (.inr (congrArg some e100)) (.inl ⟨rfl,rfl⟩) om om
    simpa using h9
   refine qBX (d:=some 50) (op:=.slSl 9 (.tmp 46) (some (.tmp 49)) none none) (r:=.slice l2 ((i+1) * 9) ((ms.length+1) - (i+1)) (c - (i+1)) 9) kr rfl v101 ?_
   have q102:=q74.app (.cons kA (.cons rfl .nil):KdsL [KI,.one] [.int .i64 w90,.slice l2 ((i+1) * 9) ((ms.length+1) - (i+1)) (c - (i+1)) 9])
   refine rC 0 0 [] [(46,n1 9),(0,n1 0),(1,nI 1),(9,n1 9),(8,nI 3),(7,.lit (.int .i64 1)),(2,n1 2),(49,nI 11),(50,n1 12)] q102 (sc (sp B7) (.cons (qD rfl b91) (.cons qB .nil))) ?_
   refine zA kr fun vs ls H103 E103 st hE=>?_
   have b104:=eo st hE 51 (.slice l 0 ms.length cap 9)
   have b105:=eo st hE 52 (.int .i64 (i:Int))
   have B8:=es st hE [(51,.slice l 0 ms.length cap 9),(52,.int .i64 (i:Int)),(50,.slice l2 ((i+1) * 9) ((ms.length+1) - (i+1)) (c - (i+1)) 9),(9,.slice l2 0 (ms.length+1) c 9),(0,.slice l 0 ms.length cap 9),(8,.int .i64 (ms.length:Int)),(7,.int .i64 1),(2,.slice lv 0 1 1 9),(1,.int .i64 (i:Int))]
   have g113:Grew H88 H103:=(gk st)
   have g114:=Grew.trans g99 g113
   have v115:zM E103 H103.get (.slSl 9 (.tmp 51) (some (.tmp 52)) none none)=some (.slice l (i * 9) (ms.length - i) (cap - i) 9):=by
    have h9:=vF (H:=H103) (lo:=(some (.tmp 52))) (hi:=none) (a:=i) (b:=ms.length) b104 (.inr (congrArg some b105)) (.inl ⟨rfl,rfl⟩) om om
    simpa using h9
   refine qBX (d:=some 53) (op:=.slSl 9 (.tmp 51) (some (.tmp 52)) none none) (r:=.slice l (i * 9) (ms.length - i) (cap - i) 9) kr rfl v115 ?_
   have q116:=q102.app (.cons rfl .nil:KdsL [.one] [.slice l (i * 9) (ms.length - i) (cap - i) 9])
   refine rC 0 0 [] [(51,n1 0),(52,nI 1),(50,n1 12),(9,n1 9),(0,n1 0),(8,nI 3),(7,.lit (.int .i64 1)),(2,n1 2),(1,nI 1),(53,n1 13)] q116 (sc (sp B8) (.cons qB .nil)) ?_
   refine zA kr fun vs ls H117 E117 st hE=>?_
   have b118:=eo st hE 50 (.slice l2 ((i+1) * 9) ((ms.length+1) - (i+1)) (c - (i+1)) 9)
   have b119:=eo st hE 53 (.slice l (i * 9) (ms.length - i) (cap - i) 9)
   have B9:=es st hE [(50,.slice l2 ((i+1) * 9) ((ms.length+1) - (i+1)) (c - (i+1)) 9),(53,.slice l (i * 9) (ms.length - i) (cap - i) 9),(9,.slice l2 0 (ms.length+1) c 9),(0,.slice l 0 ms.length cap 9),(8,.int .i64 (ms.length:Int)),(7,.int .i64 1),(2,.slice lv 0 1 1 9),(1,.int .i64 (i:Int))]
   have g126:Grew H103 H117:=(gk st)
   have g127:=Grew.trans g114 g126
   have rw9:=g127.at rH86
   have gA9:Grew H H117:=Grew.trans qH86 g127
   refine qGl (d:=some 54) (x:=.tmp 50) (y:=.tmp 53) kr b118 (by show qQ _ _ (E117 53)=_;rw [b119];exact uG (gA9.at hg) om (by rw [hF];omega)) (by show min _ _ ≠ 0;omega) rw9 (by rw [hlB];omega) (by rw [qEk hF hi];exact List.all_eq_true.2 fun x hx=>List.all_eq_true.1 h1 x (List.mem_of_mem_drop hx)) ?_
   rw [qEk hF hi]
   obtain⟨H128,eH128⟩:∃ z,z=H117.put l2 (.row (laid (laid (ms.flatten.take (i * 9) ++ Z) (i * 9) m) ((i+1) * 9) (ms.flatten.drop (i * 9))) true):=⟨_,rfl⟩
   rw [<- eH128]
   have rH128:H128.get l2=some (.row (laid (laid (ms.flatten.take (i * 9) ++ Z) (i * 9) m) ((i+1) * 9) (ms.flatten.drop (i * 9))) true):=by rw [eH128];exact xM rfl (H117.lt_of_get rw9)
   have qH128:Grew H H128:=by rw [eH128];exact gA9.put l2n _
   refine rC 0 0 [] [(50,n1 12),(53,n1 13),(9,n1 9),(0,n1 0),(8,nI 3),(7,.lit (.int .i64 1)),(2,n1 2),(1,nI 1)] q116 (sp B9) ?_
   refine zA kr fun vs ls H130 E130 st hE=>?_
   have g9:Grew H128 H130:=(Grew.trans (Grew.refl _) (gk st))
   refine jA kr (zJ st.inn hE (.inr rfl) (a:=.slice l2 0 (ms.length+1) c 9) kr (Grew.trans qH128 g9).next ⟨l2,c,l2n,hc9,rfl,Grew.trans qH128 g9,?_⟩)
   rw [<- qDX hr m i (Nat.le_of_lt hi),<- qJa (Z:=Z) hF hZ hm hi];exact g9.at rH128
  ·intro vs ls H131 E131 st hE
   have f132:¬ ((cap:Int) < w26):=df st 0
   obtain⟨w134,hw134⟩:∃ z,z=(IntKind.wrap .i64 ((ms.length:Int)+1)):=⟨_,rfl⟩
   have nw134:w134=((ms.length:Int)+1):=by
    rw [hw134]
    rw [show (IntKind.wrap .i64 ((ms.length:Int)+1))=(ms.length:Int)+1 from wrap_i64 om om]
   try rw [wrap_i64 om om] at f132
   exfalso;omega
theorem qLI (H:AHeap) (ms:LL) (hr:∀ m ∈ ms,m.length=9) (mx:ms.length<=1048576) (S:AV) (hS:SlF H 9 ms S) (m:List AV) (hm:m.length=9) (h1m:m.all AV.one=true) (lv:Nat) (hv:H.get lv=some (.row m true)):qJ Try.prog 63 [S,.int .i64 (ms.length:Int),.slice lv 0 1 1 9] H fun r H'=>SlF H' 9 (ms ++ [m]) r/\FromS H.next S r/\OnlyS S H H':=by
 cases hS with
 | nil h0 =>
  subst h0
  refine qF qW (by simp) ?_
  have q1:KdsL [.one] [.slice lv 0 1 1 9]:=.cons rfl .nil
  refine rD 0 0 [(.len (n1 0),.lit (.int .i64 1))] [] [(0,lN),(1,.lit (.int .i64 0)),(2,n1 0)] q1 (.cons (qZ (l:=lv) (o:=0) (n:=1) (cap:=1) (sz:=9) (dE q1) (dE q1)) .nil) (.cons (t:=0) rfl (.cons (t:=1) rfl (.cons (t:=2) rfl .nil))) ?_
  refine zA kr fun vs ls H2 E2 st hE=>?_
  have b3:=eo st hE 23 (.nilslice)
  have b4:=eo st hE 24 (.slice lv 0 1 1 9)
  have b5:=eo st hE 8 (.int .i64 0)
  have b6:=eo st hE 7 (.int .i64 1)
  have b7:=eo st hE 0 (.nilslice)
  have B1:=es st hE [(23,.nilslice),(24,.slice lv 0 1 1 9),(8,.int .i64 0),(7,.int .i64 1),(0,.nilslice),(1,.int .i64 0),(2,.slice lv 0 1 1 9)]
  have g10:Grew H H2:=(gk st)
  have g11:Grew H H2:=Grew.trans (Grew.refl _) g10
  refine mI (d:=some 25) (sz:=9) (bytes:=48) (x:=.tmp 23) (y:=.tmp 24) kr (S:=.nilslice) (ys:=[m]) b3 (.nil rfl) (.inl rfl) (by show qQ _ _ (E2 24)=_;rw [b4];exact qFc (g11.at hv) hm) (by simpa using h1m) (by show (2 * 1+192) * 48<=281474976710656;decide) ?_
  intro S9 H12 s9 f9 o9
  have f8:=f9.mono g11.next
  have o8:OnlyS .nilslice H H12:=(OnlyS.of_grew g11).trans' (OnlyS.of_grew o9)
  have q13:=q1.app (kL:KdsL [.one] [S9])
  refine rC 0 0 [] [(23,lN),(24,n1 0),(8,.lit (.int .i64 0)),(7,.lit (.int .i64 1)),(0,lN),(1,.lit (.int .i64 0)),(2,n1 0),(25,n1 1)] q13 (sc (sp B1) (.cons qB .nil)) ?_
  refine zA kr fun vs ls H14 E14 st hE=>?_
  have g9:Grew H12 H14:=(Grew.trans (Grew.refl _) (gk st))
  exact jA kr (zJ st.inn hE (.inr rfl) (a:=S9) kr (Nat.le_trans o8.next g9.next) ⟨by simpa using s9.grew g9,f8,o8.trans' (.of_grew g9)⟩)
 | @sl l n cap hg hn hcc =>
  subst hn
  have hS:SlF H 9 ms (.slice l 0 ms.length cap 9):=.sl hg rfl hcc
  refine qF qW (by simp) ?_
  have q1:KdsL [.one,KI,.one,KI] [.slice l 0 ms.length cap 9,.int .i64 (0:Int),.slice lv 0 1 1 9,.int .i64 (ms.length:Int)]:=.cons rfl (.cons kA (.cons rfl (.cons kA .nil)))
  refine rC 0 0 [] [(0,n1 0),(1,nI 3),(2,n1 2)] q1 (.cons (t:=0) rfl (.cons (t:=1) rfl (.cons (t:=2) rfl .nil))) ?_
  refine zA kr fun vs ls H2 E2 st hE=>?_
  have b3:=eo st hE 10 (.slice l 0 ms.length cap 9)
  have b4:=eo st hE 11 (.int .i64 (ms.length:Int))
  have b5:=eo st hE 2 (.slice lv 0 1 1 9)
  have b6:=eo st hE 0 (.slice l 0 ms.length cap 9)
  have b7:=eo st hE 1 (.int .i64 (ms.length:Int))
  have B2:=es st hE [(10,.slice l 0 ms.length cap 9),(11,.int .i64 (ms.length:Int)),(2,.slice lv 0 1 1 9),(0,.slice l 0 ms.length cap 9),(1,.int .i64 (ms.length:Int))]
  have g8:Grew H H2:=(gk st)
  have g9:Grew H H2:=Grew.trans (Grew.refl _) g8
  have v10:zM E2 H2.get (.slSl 9 (.tmp 10) (some (.tmp 11)) none none)=some (.slice l (ms.length * 9) (ms.length - ms.length) (cap - ms.length) 9):=by
   have h9:=vF (H:=H2) (lo:=(some (.tmp 11))) (hi:=none) (a:=ms.length) (b:=ms.length) b3 (.inr (congrArg some b4)) (.inl ⟨rfl,rfl⟩) om om
   simpa using h9
  refine tK (d:=some 12) (op:=.slSl 9 (.tmp 10) (some (.tmp 11)) none none) (r:=.slice l (ms.length * 9) (ms.length - ms.length) (cap - ms.length) 9) kr rfl v10 ?_
  have q11:=q1.app (.cons rfl .nil:KdsL [.one] [.slice l (ms.length * 9) (ms.length - ms.length) (cap - ms.length) 9])
  refine rD 0 0 [(.len (n1 2),.lit (.int .i64 1)),(.len (n1 0),nI 3)] [] [(10,n1 0),(11,nI 3),(2,n1 2),(0,n1 0),(1,nI 3),(12,n1 4)] q11 (.cons (qZ (l:=lv) (o:=0) (n:=1) (cap:=1) (sz:=9) (dE q11) (dE q11)) (.cons (qZ (l:=l) (o:=0) (n:=ms.length) (cap:=cap) (sz:=9) (dE q11) (dE q11)) .nil)) (sc (sp B2) (.cons qB .nil)) ?_
  refine zA kr fun vs ls H12 E12 st hE=>?_
  have b13:=eo st hE 23 (.slice l 0 ms.length cap 9)
  have b14:=eo st hE 24 (.slice lv 0 1 1 9)
  have B3:=es st hE [(23,.slice l 0 ms.length cap 9),(24,.slice lv 0 1 1 9),(8,.int .i64 (ms.length:Int)),(7,.int .i64 1),(0,.slice l 0 ms.length cap 9),(1,.int .i64 (ms.length:Int)),(2,.slice lv 0 1 1 9)]
  have g20:Grew H2 H12:=(gk st)
  have g21:=Grew.trans g9 g20
  refine bF (d:=some 25) (sz:=9) (bytes:=48) (x:=.tmp 23) (y:=.tmp 24) kr (S:=.slice l 0 ms.length cap 9) (ms:=ms) (ys:=[m]) b13 (hS.grew g21) hr (by show qQ _ _ (E12 24)=_;rw [b14];exact qFc (g21.at hv) hm) (by simpa using h1m) (by show (2 * (ms.length+1)+192) * 48<=281474976710656;omega) ?_
  intro S9 H22 s9 f9 o9
  have f8:=f9.mono g21.next
  have o8:OnlyS (.slice l 0 ms.length cap 9) H H22:=(OnlyS.of_grew g21).trans' o9
  have q23:=q11.app (kL:KdsL [.one] [S9])
  refine rC 0 0 [] [(23,n1 0),(24,n1 2),(8,nI 3),(7,.lit (.int .i64 1)),(0,n1 0),(1,nI 3),(2,n1 2),(25,n1 5)] q23 (sc (sp B3) (.cons qB .nil)) ?_
  refine zA kr fun vs ls H24 E24 st hE=>?_
  have g9:Grew H22 H24:=(Grew.trans (Grew.refl _) (gk st))
  exact jA kr (zJ st.inn hE (.inr rfl) (a:=S9) kr (Nat.le_trans o8.next g9.next) ⟨s9.grew g9,f8,o8.trans' (.of_grew g9)⟩)
theorem qHH (H:AHeap) (ms:LL) (hr:xJ KM ms) (mx:ms.length<=1048576) (S:AV) (hS:SlF H 9 ms S) (i:Nat) (hi:i<=ms.length) (m:List AV) (hk:KdsL KM m) (lv:Nat) (hv:H.get lv=some (.row m true)) (hap:ApartL S lv):qJ Try.prog 63 [S,.int .i64 (i:Int),.slice lv 0 1 1 9] H fun r H'=>SlF H' 9 (ms.take i ++ [m] ++ ms.drop i) r/\FromS H.next S r/\OnlyS S H H':=by
 have hrm:xJ KM [m]:=fun x hx=>by rw [List.mem_singleton.1 hx];exact hk
 have hm:m.length=9:=hrm.len _ (by simp)
 have h1m:m.all AV.one=true:=by have:=vC hrm rfl;simpa using this
 by_cases hl:i=ms.length
 ·subst hl
  have:=qLI H ms hr.len mx S hS m hm h1m lv hv
  rw [List.take_length,List.drop_length,List.append_nil]
  exact this
 ·have hlt:i < ms.length:=by omega
  cases hS with
  | nil h0=>subst h0;simp at hlt
  | @sl l n cap hg hn hcc =>
   subst hn
   have hne:l ≠ lv:=fun e=>hap.ne ⟨_,_,_,_,by rw [e]⟩
   have h1:=vC hr rfl
   have hlen:(ms.take i ++ [m] ++ ms.drop i).length=ms.length+1:=by simp;omega
   by_cases hc:ms.length+1<=cap
   ·refine(qJS H ms hr.len h1 mx l cap hg i hlt m hm h1m lv hv hne hc).mono ?_
    rintro r H' ⟨rfl,ho,row⟩
    exact⟨.sl row hlen hc,⟨fun l' hl'=>.inr (by rw [atS hl'];exact⟨_,_,_,_,rfl⟩)⟩,.of_only ho⟩
   ·refine(qJR H ms hr.len h1 mx l cap hg i hlt m hm h1m lv hv hne om).mono ?_
    rintro r H' ⟨l2,c,h2,h3,rfl,g,row⟩
    exact⟨.sl row hlen h3,⟨fun l' hl'=>.inl (by rw [atS hl'];exact h2)⟩,.of_grew g⟩
def qNS (ms:LL):List AV->Nat
 | .int _ a :: .int _ b :: .int _ c :: _=>lin ms a b c
 | _=>0
def qOW (ms:LL):List AV->Bool
 | .int _ a :: .int _ b :: .int _ c :: _=>fnd ms a b c
 | _=>false
def pG (ms:LL) (m:List AV):LL:=
 if qOW ms m=true then (if pQ m (ms.getD (qNS ms m) [])=true then ms.set (qNS ms m) m else ms) else ms.take (qNS ms m) ++ [m] ++ ms.drop (qNS ms m)
def jU (ms:LL) (m:List AV):Bool:=qOW ms m || !decide ((ms.length:Int)=200)
theorem qHN (ms:LL) (a b c:Int):lin ms a b c<=ms.length:=by unfold lin;exact(List.takeWhile_sublist _).length_le
theorem qFA {ms:LL} {a b c:Int} (h:fnd ms a b c=true):lin ms a b c < ms.length:=by
 unfold fnd at h
 rw [Bool.and_eq_true] at h
 exact of_decide_eq_true h.1
theorem qLD {ms:LL} (h:xJ KM ms) {m:List AV} (k:KdsL KM m) {i:Nat}:xJ KM (ms.take i ++ [m] ++ ms.drop i):=by
 intro y hy
 simp only [List.mem_append,List.mem_singleton] at hy
 rcases hy with (hy | hy) | hy
 ·exact h y (List.mem_of_mem_take hy)
 ·rw [hy];exact k
 ·exact h y (List.mem_of_mem_drop hy)
theorem qKB {ms:LL} (h:xJ KM ms) {m:List AV} (k:KdsL KM m):xJ KM (pG ms m):=by
 unfold pG
 split
 ·split
  ·exact xJ.set h k
  ·exact h
 ·exact qLD h k
theorem qNq (ms:LL) (m:List AV):qNS ms m<=ms.length:=by
 unfold qNS
 split
 ·exact qHN _ _ _ _
 ·exact Nat.zero_le _
theorem qMf (ms:LL) (m:List AV):(pG ms m).length=if qOW ms m=true then ms.length else ms.length+1:=by
 have:=qNq ms m
 unfold pG
 split
 ·split <;> simp
 ·simp;omega
theorem qNk (H:AHeap) (x:ON) (hx:fOk .f32 x) (ms:LL) (hr:xJ KM ms) (hsort:qBd ms) (S:AV) (hS:SlL H 9 ms S) (a b c:Int) (p:Nat) (fd:Bool) (hp:lin ms a b c=p) (hfd:fnd ms a b c=fd) (hmax:ms.length < 2^40):qR Try.prog 61 [.agg [.flt .f32 x,S],.agg [.int .i32 a,.int .i32 b,.int .i32 c]] H (.tuple [.int .i64 (p:Int),.bool fd]):=by
 subst hp
 subst hfd
 exact qOr H x hx ms hr hsort S hS a b c hmax
theorem qPj (H:AHeap) (x:ON) (hx:fOk .f32 x) (ms:LL) (hr:xJ KM ms) (S:AV) (hS:SlF H 9 ms S) (hsort:qBd ms) (hmx:ms.length<=1048576) (lm:Nat) (hlm:H.get lm=some (.row [.flt .f32 x,S] true)) (hap:ApartL S lm) (v0 v1 v2:Int) (v3 v4 v5 v6:ON) (v7 v8:Int) (o3:fOk .f32 v3) (o4:fOk .f32 v4) (o5:fOk .f32 v5) (o6:fOk .f32 v6):qJ Try.prog 37 [.ptr lm 0,.agg [.int .i32 v0,.int .i32 v1,.int .i32 v2,.flt .f32 v3,.flt .f32 v4,.flt .f32 v5,.flt .f32 v6,.int .i64 v7,.int .i64 v8]] H fun r H'=>Only2 (PT lm) S H H'/\r=.bool (jU ms [.int .i32 v0,.int .i32 v1,.int .i32 v2,.flt .f32 v3,.flt .f32 v4,.flt .f32 v5,.flt .f32 v6,.int .i64 v7,.int .i64 v8])/\(jU ms [.int .i32 v0,.int .i32 v1,.int .i32 v2,.flt .f32 v3,.flt .f32 v4,.flt .f32 v5,.flt .f32 v6,.int .i64 v7,.int .i64 v8]=true -> ∃ S',H'.get lm=some (.row [.flt .f32 x,S'] true)/\SlF H' 9 (pG ms [.int .i32 v0,.int .i32 v1,.int .i32 v2,.flt .f32 v3,.flt .f32 v4,.flt .f32 v5,.flt .f32 v6,.int .i64 v7,.int .i64 v8]) S'/\FromS H.next S S'):=by
 obtain⟨p,hp⟩:∃ p,lin ms v0 v1 v2=p:=⟨_,rfl⟩
 obtain⟨fd,hfd⟩:∃ p,fnd ms v0 v1 v2=p:=⟨_,rfl⟩
 have hpl0:p<=ms.length:=by rw [<- hp];exact qHN _ _ _ _
 refine qF dO (by simp) ?_
 have q1:KdsL [KF,.one,K2,K2,K2,KF,KF,KF,KF,KI,KI,KI,.bool,KI] [.flt .f32 x,S,.int .i32 v0,.int .i32 v1,.int .i32 v2,.flt .f32 v3,.flt .f32 v4,.flt .f32 v5,.flt .f32 v6,.int .i64 v7,.int .i64 v8,.int .i64 (p:Int),.bool fd,.int .i64 (ms.length:Int)]:=kL
 refine qL (φ:=φ0) (pm:=pmR 1 [(.call 61 [.agg [nF 0,n1 1],.agg [n2 2,n2 3,n2 4]],.tup [nI 11,nB 12]),(.len (n1 1),nI 13)] 0) 20 (ws:=[wf lm [nF 0,n1 1]]) (env:=[(0,.ptr 0 0),(1,.agg [n2 2,n2 3,n2 4,nF 5,nF 6,nF 7,nF 8,nI 9,nI 10])]) q1 (.cons (wR hlm q1) .nil) (qI rfl) (.cons (qH (args:=[.agg [.flt .f32 x,S],.agg [.int .i32 v0,.int .i32 v1,.int .i32 v2]]) (dL q1) (dE q1) (fun H9 hk=>qNk H9 x hx ms hr hsort S ((hS.grew (hk.grew (Nat.le_refl _)))).toL v0 v1 v2 p fd hp hfd (qLY hmx))) (.cons (⟨_,_,(dE q1),(dE q1),yS (hS.toL)⟩) .nil)) (eC q1 (.cons (t:=0) rfl (.cons (t:=1) rfl .nil))) qU qM ?_
 refine qFf kr ?_ ?_ ?_
 ·intro vs ls H2 E2 st hE
  have f3:fd=true:=bf st 0
  have hpl:p < ms.length:=by rw [<- hp];exact qFA (hfd.trans f3)
  obtain⟨p4,e5,r6,n7⟩:=pO st hE 3 1 [.int .i32 v0,.int .i32 v1,.int .i32 v2,.flt .f32 v3,.flt .f32 v4,.flt .f32 v5,.flt .f32 v6,.int .i64 v7,.int .i64 v8]
  have op4:H.next<=p4:=Nat.le_trans (Nat.le_refl _) (oM n7)
  have ne8:=apn hlm (oM n7)
  have ne9:ApartL (S) p4:=hS.apart_new (oM n7)
  have B1:=es st hE [(34,S),(35,.int .i64 (p:Int)),(30,.agg [.int .i32 v0,.int .i32 v1,.int .i32 v2,.flt .f32 v3,.flt .f32 v4,.flt .f32 v5,.flt .f32 v6,.int .i64 v7,.int .i64 v8]),(29,.bool fd),(0,.ptr lm 0),(5,.int .i64 (p:Int)),(6,.bool fd)]
  have g17:Grew H H2:=(gk st)
  have g18:Only2 (PT lm) S H H2:=(Only2.refl _ _ _).grewR g17
  have r19:=g17.at hlm
  have s20:=hS.grew g17
  have hlt21:p < ms.length:=by omega
  obtain⟨lS21,cap21,rest21,wr21,eS21,gS21⟩:=(s20.toL).isSl hlt21
  have ne22:Apart lm lS21:=⟨fun e=>(show ApartL (S) lm by assumption).ne ⟨0,_,_,_,by rw [e];exact eS21⟩⟩
  have ne23:Apart p4 lS21:=⟨fun e=>(show ApartL (S) p4 by assumption).ne ⟨0,_,_,_,by rw [e];exact eS21⟩⟩
  obtain⟨v21_0,v21_1,v21_2,v21_3,v21_4,v21_5,v21_6,v21_7,v21_8,hm21,ho21_3,ho21_4,ho21_5,ho21_6⟩:=zZ (hr.get hlt21)
  have he21:ms.getD p []=[.int .i32 v21_0,.int .i32 v21_1,.int .i32 v21_2,.flt .f32 v21_3,.flt .f32 v21_4,.flt .f32 v21_5,.flt .f32 v21_6,.int .i64 v21_7,.int .i64 v21_8]:=by rw [<- hm21,List.getD_eq_getElem?_getD,List.getElem?_eq_getElem hlt21];rfl
  have q24:=q1.app (kL:KdsL [K2,K2,K2,KF,KF,KF,KF,KI,KI,.bool,KI] [.int .i32 v21_0,.int .i32 v21_1,.int .i32 v21_2,.flt .f32 v21_3,.flt .f32 v21_4,.flt .f32 v21_5,.flt .f32 v21_6,.int .i64 v21_7,.int .i64 v21_8,.bool (pQ [.int .i32 v0,.int .i32 v1,.int .i32 v2,.flt .f32 v3,.flt .f32 v4,.flt .f32 v5,.flt .f32 v6,.int .i64 v7,.int .i64 v8] [.int .i32 v21_0,.int .i32 v21_1,.int .i32 v21_2,.flt .f32 v21_3,.flt .f32 v21_4,.flt .f32 v21_5,.flt .f32 v21_6,.int .i64 v21_7,.int .i64 v21_8]),.int .i64 (ms.length:Int)])
  refine qL (φ:=φ0) (pm:=pmR 3 [(.ia 9 (n1 1) (nI 11),.ptr 2 0),(.call 62 [.agg [n2 2,n2 3,n2 4,nF 5,nF 6,nF 7,nF 8,nI 9,nI 10],.agg [n2 14,n2 15,n2 16,nF 17,nF 18,nF 19,nF 20,nI 21,nI 22]],nB 23),(.len (n1 1),nI 24)] 0) 20 (ws:=[wf lm [nF 0,n1 1],wf p4 [n2 2,n2 3,n2 4,nF 5,nF 6,nF 7,nF 8,nI 9,nI 10],⟨lS21,(p * 9),[n2 14,n2 15,n2 16,nF 17,nF 18,nF 19,nF 20,nI 21,nI 22],false⟩]) (env:=[(34,n1 1),(35,nI 11),(30,.agg [n2 2,n2 3,n2 4,nF 5,nF 6,nF 7,nF 8,nI 9,nI 10]),(29,nB 12),(0,.ptr 0 0),(5,nI 11),(6,nB 12),(3,.ptr 1 0)]) q24 (.cons (wR r19 q24) (.cons (wR r6 q24) (.cons (zV hr gS21 hlt21 rfl (by rw [hm21];exact(dL q24))) .nil))) (qI rfl) (.cons (bA (k:=p) (dE q24) eS21 (dE q24) hlt21 rfl) (.cons (qH (args:=[.agg [.int .i32 v0,.int .i32 v1,.int .i32 v2,.flt .f32 v3,.flt .f32 v4,.flt .f32 v5,.flt .f32 v6,.int .i64 v7,.int .i64 v8],.agg [.int .i32 v21_0,.int .i32 v21_1,.int .i32 v21_2,.flt .f32 v21_3,.flt .f32 v21_4,.flt .f32 v21_5,.flt .f32 v21_6,.int .i64 v21_7,.int .i64 v21_8]]) (dL q24) (dE q24) (fun H9 hk=>qFP v0 v1 v2 v3 v4 v5 v6 v7 v8 o3 o4 o5 o6 v21_0 v21_1 v21_2 v21_3 v21_4 v21_5 v21_6 v21_7 v21_8 ho21_3 ho21_4 ho21_5 ho21_6 H9)) (.cons (⟨_,_,(dE q24),(dE q24),yS (s20.toL)⟩) .nil))) (eC q24 (sc B1 (.cons e5 .nil))) qU qM ?_
  refine qMP kr ?_ ?_ ?_ ?_
  ·intro vs ls H25 E25 st hE
   have f26:(pQ [.int .i32 v0,.int .i32 v1,.int .i32 v2,.flt .f32 v3,.flt .f32 v4,.flt .f32 v5,.flt .f32 v6,.int .i64 v7,.int .i64 v8] [.int .i32 v21_0,.int .i32 v21_1,.int .i32 v21_2,.flt .f32 v21_3,.flt .f32 v21_4,.flt .f32 v21_5,.flt .f32 v21_6,.int .i64 v21_7,.int .i64 v21_8])=true:=bf st 0
   have f27:fd=true:=bf st 1
   have hpl:p < ms.length:=by rw [<- hp];exact qFA (hfd.trans f27)
   have b28:=eo st hE 46 (.ptr lS21 ((p * 9)+0))
   have b29:=eo st hE 45 (.agg [.int .i32 v0,.int .i32 v1,.int .i32 v2,.flt .f32 v3,.flt .f32 v4,.flt .f32 v5,.flt .f32 v6,.int .i64 v7,.int .i64 v8])
   have B2:=es st hE [(45,.agg [.int .i32 v0,.int .i32 v1,.int .i32 v2,.flt .f32 v3,.flt .f32 v4,.flt .f32 v5,.flt .f32 v6,.int .i64 v7,.int .i64 v8]),(0,.ptr lm 0)]
   have g31:Grew H2 H25:=(gk st)
   have g32:Only2 (PT lm) S H H25:=g18.grewR g31
   have r33:=g31.at r19
   have s36:=s20.grew g31
   refine qGn (d:=none) (n:=9) (x:=.tmp 46) (y:=.tmp 45) kr (S:=S) (ms:=ms) (k:=p) (m':=[.int .i32 v0,.int .i32 v1,.int .i32 v2,.flt .f32 v3,.flt .f32 v4,.flt .f32 v5,.flt .f32 v6,.int .i64 v7,.int .i64 v8]) (s36) eS21 b28 hlt21 hr.len (by show AV.cells (E25 45)=_;rw [b29];rfl) rfl rfl rfl ?_
   intro H37 s37 oo37
   have hln37:(ms.set p [.int .i32 v0,.int .i32 v1,.int .i32 v2,.flt .f32 v3,.flt .f32 v4,.flt .f32 v5,.flt .f32 v6,.int .i64 v7,.int .i64 v8]).length=ms.length:=by simp
   have g38:Only2 (PT lm) S H H37:=g32.trans oo37
   have r39:=oo37.at r33 am
   refine qL (φ:=φ0) (pm:=pmR 1 [] 0) 20 (ws:=[wf lm [nF 0,n1 1]]) (env:=[(45,.agg [n2 2,n2 3,n2 4,nF 5,nF 6,nF 7,nF 8,nI 9,nI 10]),(0,.ptr 0 0)]) q24 (.cons (wR r39 q24) .nil) (qI rfl) .nil (eC q24 (sn B2)) qU qM ?_
   refine zA kr fun vs ls H41 E41 st hE=>?_
   have g9:Only2 (PT lm) S H H41:=(g38.grewR (gk st))
   have q9:jU ms [.int .i32 v0,.int .i32 v1,.int .i32 v2,.flt .f32 v3,.flt .f32 v4,.flt .f32 v5,.flt .f32 v6,.int .i64 v7,.int .i64 v8]=true:=by
    show (fnd ms v0 v1 v2 || !decide ((ms.length:Int)=200))=_
    rw [hfd,f27]
    rfl
   have l9:pG ms [.int .i32 v0,.int .i32 v1,.int .i32 v2,.flt .f32 v3,.flt .f32 v4,.flt .f32 v5,.flt .f32 v6,.int .i64 v7,.int .i64 v8]=(ms.set p [.int .i32 v0,.int .i32 v1,.int .i32 v2,.flt .f32 v3,.flt .f32 v4,.flt .f32 v5,.flt .f32 v6,.int .i64 v7,.int .i64 v8]):=by
    show (if fnd ms v0 v1 v2=true then (if pQ [.int .i32 v0,.int .i32 v1,.int .i32 v2,.flt .f32 v3,.flt .f32 v4,.flt .f32 v5,.flt .f32 v6,.int .i64 v7,.int .i64 v8] (ms.getD (lin ms v0 v1 v2) [])=true then ms.set (lin ms v0 v1 v2) [.int .i32 v0,.int .i32 v1,.int .i32 v2,.flt .f32 v3,.flt .f32 v4,.flt .f32 v5,.flt .f32 v6,.int .i64 v7,.int .i64 v8] else ms) else ms.take (lin ms v0 v1 v2) ++ [[.int .i32 v0,.int .i32 v1,.int .i32 v2,.flt .f32 v3,.flt .f32 v4,.flt .f32 v5,.flt .f32 v6,.int .i64 v7,.int .i64 v8]] ++ ms.drop (lin ms v0 v1 v2))=_
    rw [hfd,hp,f27]
    rw [he21,if_pos rfl,if_pos f26]
   have r9:=(gk st).at r39
   have s9:=s37.grew (gk st)
   exact jA kr (zJ st.inn hE (.inr rfl) (a:=.bool true) kr g9.next ⟨g9,by rw [q9],fun _=>⟨_,r9,by rw [l9];exact s9,⟨fun l h=>.inr h⟩⟩⟩)
  ·intro vs ls H42 E42 st hE
   have f43:(pQ [.int .i32 v0,.int .i32 v1,.int .i32 v2,.flt .f32 v3,.flt .f32 v4,.flt .f32 v5,.flt .f32 v6,.int .i64 v7,.int .i64 v8] [.int .i32 v21_0,.int .i32 v21_1,.int .i32 v21_2,.flt .f32 v21_3,.flt .f32 v21_4,.flt .f32 v21_5,.flt .f32 v21_6,.int .i64 v21_7,.int .i64 v21_8])=false:=bf st 0
   have f44:fd=true:=bf st 1
   have hpl:p < ms.length:=by rw [<- hp];exact qFA (hfd.trans f44)
   have g9:Only2 (PT lm) S H H42:=(g18.grewR (gk st))
   have q9:jU ms [.int .i32 v0,.int .i32 v1,.int .i32 v2,.flt .f32 v3,.flt .f32 v4,.flt .f32 v5,.flt .f32 v6,.int .i64 v7,.int .i64 v8]=true:=by
    show (fnd ms v0 v1 v2 || !decide ((ms.length:Int)=200))=_
    rw [hfd,f44]
    rfl
   have l9:pG ms [.int .i32 v0,.int .i32 v1,.int .i32 v2,.flt .f32 v3,.flt .f32 v4,.flt .f32 v5,.flt .f32 v6,.int .i64 v7,.int .i64 v8]=ms:=by
    show (if fnd ms v0 v1 v2=true then (if pQ [.int .i32 v0,.int .i32 v1,.int .i32 v2,.flt .f32 v3,.flt .f32 v4,.flt .f32 v5,.flt .f32 v6,.int .i64 v7,.int .i64 v8] (ms.getD (lin ms v0 v1 v2) [])=true then ms.set (lin ms v0 v1 v2) [.int .i32 v0,.int .i32 v1,.int .i32 v2,.flt .f32 v3,.flt .f32 v4,.flt .f32 v5,.flt .f32 v6,.int .i64 v7,.int .i64 v8] else ms) else ms.take (lin ms v0 v1 v2) ++ [[.int .i32 v0,.int .i32 v1,.int .i32 v2,.flt .f32 v3,.flt .f32 v4,.flt .f32 v5,.flt .f32 v6,.int .i64 v7,.int .i64 v8]] ++ ms.drop (lin ms v0 v1 v2))=_
    rw [hfd,hp,f44]
    rw [he21,if_pos rfl,if_neg (by rw [f43];decide)]
   have r9:=(gk st).at r19
   have s9:=s20.grew (gk st)
   exact jA kr (zJ st.inn hE (.inr rfl) (a:=.bool true) kr g9.next ⟨g9,by rw [q9],fun _=>⟨_,r9,by rw [l9];exact s9,⟨fun l h=>.inr h⟩⟩⟩)
  ·intro vs ls H45 E45 st hE
   have f46:(ms.length:Int)=200:=dt st 0
   have f47:fd=false:=bf st 1
   have g9:Only2 (PT lm) S H H45:=(g18.grewR (gk st))
   have q9:jU ms [.int .i32 v0,.int .i32 v1,.int .i32 v2,.flt .f32 v3,.flt .f32 v4,.flt .f32 v5,.flt .f32 v6,.int .i64 v7,.int .i64 v8]=false:=by
    show (fnd ms v0 v1 v2 || !decide ((ms.length:Int)=200))=_
    rw [hfd,f47]
    simp [f46]
   exact jA kr (zJ st.inn hE (.inr rfl) (a:=.bool false) kr g9.next ⟨g9,by rw [q9],fun h=>by rw [q9] at h;cases h⟩)
  ·intro vs ls H48 E48 st hE
   have f49:¬ ((ms.length:Int)=200):=df st 0
   have f50:fd=false:=bf st 1
   obtain⟨p51,e52,r53,n54⟩:=qEZ st.inn hE 23 3 1 1 9 kr (ds:=[.int .i32 v0,.int .i32 v1,.int .i32 v2,.flt .f32 v3,.flt .f32 v4,.flt .f32 v5,.flt .f32 v6,.int .i64 v7,.int .i64 v8]) kr
   have op51:H.next<=p51:=Nat.le_trans g18.next (oM n54)
   have ne55:=apn r19 (oM n54)
   have ne56:=apn r6 (oM n54)
   have ne57:=apn gS21 (oM n54)
   have ne58:ApartL (S) p51:=s20.apart_new (oM n54)
   have b59:=eo st hE 20 S
   have b60:=eo st hE 21 (.int .i64 (p:Int))
   have B3:=es st hE [(20,S),(21,.int .i64 (p:Int)),(16,.ptr lm 0),(0,.ptr lm 0)]
   have g63:Grew H2 H48:=(gk st)
   have g64:Only2 (PT lm) S H H48:=g18.grewR g63
   have r65:=g63.at r19
   have s68:=s20.grew g63
   refine dS (d:=(some 24)) (f:=63) (args:=[.tmp 20,.tmp 21,.tmp 23]) kr (R:=fun z H'=>SlF H' 9 (ms.take p ++ [[.int .i32 v0,.int .i32 v1,.int .i32 v2,.flt .f32 v3,.flt .f32 v4,.flt .f32 v5,.flt .f32 v6,.int .i64 v7,.int .i64 v8]] ++ ms.drop p) z/\FromS H48.next (S) z/\OnlyS (S) H48 H') ?_ ?_
   ·show qJ _ _ [E48 20,E48 21,E48 23] _ _
    rw [b59,b60,e52]
    exact qHH H48 ms hr hmx (S) s68 p om [.int .i32 v0,.int .i32 v1,.int .i32 v2,.flt .f32 v3,.flt .f32 v4,.flt .f32 v5,.flt .f32 v6,.int .i64 v7,.int .i64 v8] (.cons kA (.cons kA (.cons kA (.cons (kF o3) (.cons (kF o4) (.cons (kF o5) (.cons (kF o6) (.cons kA (.cons kA .nil))))))))) p51 r53 am
   rintro S69 H70 ⟨sS69,fS69,oS69⟩
   have g71:Only2 (PT lm) S H H70:=g64.trans oS69
   have ne72:=aL fS69 r65 am
   have ne73:=aL fS69 r53 am
   have r74:=oS69.at r65 am
   have r75:=oS69.at r53 am
   have q76:=q24.app (kL:KdsL [.one] [S69])
   refine rC 1 0 [wf p51 [n2 2,n2 3,n2 4,nF 5,nF 6,nF 7,nF 8,nI 9,nI 10],⟨lm,0,[nF 0,n1 1],true⟩] [(20,n1 1),(21,nI 11),(16,.ptr 1 0),(0,.ptr 1 0),(23,.sl 0 0 1 1 9),(24,n1 25)] q76 (sc (sp B3) (.cons (qD rfl e52) (.cons qB .nil))) ?_
   refine zA kr fun vs ls H77 E77 st hE=>?_
   have g9:Only2 (PT lm) S H H77:=(qGg g71 (st.inn.kept) ⟨(.inl rfl),trivial⟩)
   have q9:jU ms [.int .i32 v0,.int .i32 v1,.int .i32 v2,.flt .f32 v3,.flt .f32 v4,.flt .f32 v5,.flt .f32 v6,.int .i64 v7,.int .i64 v8]=true:=by
    show (fnd ms v0 v1 v2 || !decide ((ms.length:Int)=200))=_
    rw [hfd,f50]
    simp [f49]
   have l9:pG ms [.int .i32 v0,.int .i32 v1,.int .i32 v2,.flt .f32 v3,.flt .f32 v4,.flt .f32 v5,.flt .f32 v6,.int .i64 v7,.int .i64 v8]=(ms.take p ++ [[.int .i32 v0,.int .i32 v1,.int .i32 v2,.flt .f32 v3,.flt .f32 v4,.flt .f32 v5,.flt .f32 v6,.int .i64 v7,.int .i64 v8]] ++ ms.drop p):=by
    show (if fnd ms v0 v1 v2=true then (if pQ [.int .i32 v0,.int .i32 v1,.int .i32 v2,.flt .f32 v3,.flt .f32 v4,.flt .f32 v5,.flt .f32 v6,.int .i64 v7,.int .i64 v8] (ms.getD (lin ms v0 v1 v2) [])=true then ms.set (lin ms v0 v1 v2) [.int .i32 v0,.int .i32 v1,.int .i32 v2,.flt .f32 v3,.flt .f32 v4,.flt .f32 v5,.flt .f32 v6,.int .i64 v7,.int .i64 v8] else ms) else ms.take (lin ms v0 v1 v2) ++ [[.int .i32 v0,.int .i32 v1,.int .i32 v2,.flt .f32 v3,.flt .f32 v4,.flt .f32 v5,.flt .f32 v6,.int .i64 v7,.int .i64 v8]] ++ ms.drop (lin ms v0 v1 v2))=_
    rw [hfd,hp,f50]
    rw [if_neg (by decide)]
   have r9:H77.get lm=some (.row [.flt .f32 x,S69] true):=rW st 1
   have s9:=(sS69.keep st.inn.kept ⟨by assumption,trivial⟩)
   exact jA kr (zJ st.inn hE (.inr rfl) (a:=.bool true) kr g9.next ⟨g9,by rw [q9],fun _=>⟨_,r9,by rw [l9];exact s9,(fS69.mono g64.next)⟩⟩)
 ·intro vs ls H78 E78 st hE
  have f79:(ms.length:Int)=200:=dt st 0
  have f80:fd=false:=bf st 1
  have g9:Only2 (PT lm) S H H78:=((Only2.refl _ _ _).grewR (gk st))
  have q9:jU ms [.int .i32 v0,.int .i32 v1,.int .i32 v2,.flt .f32 v3,.flt .f32 v4,.flt .f32 v5,.flt .f32 v6,.int .i64 v7,.int .i64 v8]=false:=by
   show (fnd ms v0 v1 v2 || !decide ((ms.length:Int)=200))=_
   rw [hfd,f80]
   simp [f79]
  exact jA kr (zJ st.inn hE (.inr rfl) (a:=.bool false) kr g9.next ⟨g9,by rw [q9],fun h=>by rw [q9] at h;cases h⟩)
 ·intro vs ls H81 E81 st hE
  have f82:¬ ((ms.length:Int)=200):=df st 0
  have f83:fd=false:=bf st 1
  obtain⟨p84,e85,r86,n87⟩:=qEZ st.inn hE 23 2 1 1 9 kr (ds:=[.int .i32 v0,.int .i32 v1,.int .i32 v2,.flt .f32 v3,.flt .f32 v4,.flt .f32 v5,.flt .f32 v6,.int .i64 v7,.int .i64 v8]) kr
  have op84:H.next<=p84:=Nat.le_trans (Nat.le_refl _) (oM n87)
  have ne88:=apn hlm (oM n87)
  have ne89:ApartL (S) p84:=hS.apart_new (oM n87)
  have b90:=eo st hE 20 S
  have b91:=eo st hE 21 (.int .i64 (p:Int))
  have B4:=es st hE [(20,S),(21,.int .i64 (p:Int)),(16,.ptr lm 0),(0,.ptr lm 0)]
  have g94:Grew H H81:=(gk st)
  have g95:Only2 (PT lm) S H H81:=(Only2.refl _ _ _).grewR g94
  have r96:=g94.at hlm
  have s97:=hS.grew g94
  refine dS (d:=(some 24)) (f:=63) (args:=[.tmp 20,.tmp 21,.tmp 23]) kr (R:=fun z H'=>SlF H' 9 (ms.take p ++ [[.int .i32 v0,.int .i32 v1,.int .i32 v2,.flt .f32 v3,.flt .f32 v4,.flt .f32 v5,.flt .f32 v6,.int .i64 v7,.int .i64 v8]] ++ ms.drop p) z/\FromS H81.next (S) z/\OnlyS (S) H81 H') ?_ ?_
  ·show qJ _ _ [E81 20,E81 21,E81 23] _ _
   rw [b90,b91,e85]
   exact qHH H81 ms hr hmx (S) s97 p om [.int .i32 v0,.int .i32 v1,.int .i32 v2,.flt .f32 v3,.flt .f32 v4,.flt .f32 v5,.flt .f32 v6,.int .i64 v7,.int .i64 v8] (.cons kA (.cons kA (.cons kA (.cons (kF o3) (.cons (kF o4) (.cons (kF o5) (.cons (kF o6) (.cons kA (.cons kA .nil))))))))) p84 r86 am
  rintro S98 H99 ⟨sS98,fS98,oS98⟩
  have g100:Only2 (PT lm) S H H99:=g95.trans oS98
  have ne101:=aL fS98 r96 am
  have ne102:=aL fS98 r86 am
  have r103:=oS98.at r96 am
  have r104:=oS98.at r86 am
  have q105:=q1.app (kL:KdsL [.one] [S98])
  refine rC 1 0 [wf p84 [n2 2,n2 3,n2 4,nF 5,nF 6,nF 7,nF 8,nI 9,nI 10],⟨lm,0,[nF 0,n1 1],true⟩] [(20,n1 1),(21,nI 11),(16,.ptr 1 0),(0,.ptr 1 0),(23,.sl 0 0 1 1 9),(24,n1 14)] q105 (sc (sp B4) (.cons (qD rfl e85) (.cons qB .nil))) ?_
  refine zA kr fun vs ls H106 E106 st hE=>?_
  have g9:Only2 (PT lm) S H H106:=(qGg g100 (st.inn.kept) ⟨(.inl rfl),trivial⟩)
  have q9:jU ms [.int .i32 v0,.int .i32 v1,.int .i32 v2,.flt .f32 v3,.flt .f32 v4,.flt .f32 v5,.flt .f32 v6,.int .i64 v7,.int .i64 v8]=true:=by
   show (fnd ms v0 v1 v2 || !decide ((ms.length:Int)=200))=_
   rw [hfd,f83]
   simp [f82]
  have l9:pG ms [.int .i32 v0,.int .i32 v1,.int .i32 v2,.flt .f32 v3,.flt .f32 v4,.flt .f32 v5,.flt .f32 v6,.int .i64 v7,.int .i64 v8]=(ms.take p ++ [[.int .i32 v0,.int .i32 v1,.int .i32 v2,.flt .f32 v3,.flt .f32 v4,.flt .f32 v5,.flt .f32 v6,.int .i64 v7,.int .i64 v8]] ++ ms.drop p):=by
   show (if fnd ms v0 v1 v2=true then (if pQ [.int .i32 v0,.int .i32 v1,.int .i32 v2,.flt .f32 v3,.flt .f32 v4,.flt .f32 v5,.flt .f32 v6,.int .i64 v7,.int .i64 v8] (ms.getD (lin ms v0 v1 v2) [])=true then ms.set (lin ms v0 v1 v2) [.int .i32 v0,.int .i32 v1,.int .i32 v2,.flt .f32 v3,.flt .f32 v4,.flt .f32 v5,.flt .f32 v6,.int .i64 v7,.int .i64 v8] else ms) else ms.take (lin ms v0 v1 v2) ++ [[.int .i32 v0,.int .i32 v1,.int .i32 v2,.flt .f32 v3,.flt .f32 v4,.flt .f32 v5,.flt .f32 v6,.int .i64 v7,.int .i64 v8]] ++ ms.drop (lin ms v0 v1 v2))=_
   rw [hfd,hp,f83]
   rw [if_neg (by decide)]
  have r9:H106.get lm=some (.row [.flt .f32 x,S98] true):=rW st 1
  have s9:=(sS98.keep st.inn.kept ⟨by assumption,trivial⟩)
  exact jA kr (zJ st.inn hE (.inr rfl) (a:=.bool true) kr g9.next ⟨g9,by rw [q9],fun _=>⟨_,r9,by rw [l9];exact s9,(fS98.mono g95.next)⟩⟩)
theorem qKp {x:ON} {ms:LL} (h:wM x ms=true):ms.length<=200:=by
 simp only [wM,Bool.and_eq_true,decide_eq_true_eq] at h
 exact h.2.1
theorem qHe {x:ON} {ms:LL} (hr:xJ KM ms) (h:wM x ms=true):∀ m ∈ ms,yA m=true:=by
 intro m hm
 obtain⟨i,hi,he⟩:=List.getElem_of_mem hm
 have hk:qDe ms i=true:=by
  cases hb:qDe ms i with
  | true=>rfl
  | false=>rw [mG hi hb] at h;cases h
 have hm2:pK (ms.getD i [])=true:=by
  unfold qDe at hk;rw [Bool.and_eq_true] at hk;exact hk.1
 have hg:ms.getD i []=m:=by rw [<- he];simp [List.getD_eq_getElem?_getD,hi]
 rw [hg] at hm2
 obtain⟨v0,v1,v2,v3,v4,v5,v6,v7,v8,rfl,o3,o4,o5,o6⟩:=zZ (hr m hm)
 have hd:KdsL KM [.int .i32 v0,.int .i32 v1,.int .i32 v2,.flt .f32 v3,.flt .f32 v4,.flt .f32 v5,.flt .f32 v6,.int .i64 v7,.int .i64 v8]:=.cons kA (.cons kA (.cons kA (.cons (kF o3) (.cons (kF o4) (.cons (kF o5) (.cons (kF o6) (.cons kA (.cons kA .nil))))))))
 obtain⟨z,hz⟩:=qMO (μ:=fun _=>none) hd (by decide)
 have e:=qPp wJ kr ⟨[z],.cons hz RL.nil⟩ (kZ _ hd) (tC v0 v1 v2 v3 v4 v5 v6 v7 v8 o3 o4 o5 o6)
 rw [<- e];exact hm2
theorem qMU (v0 v1 v2:Int) (v3 v4 v5 v6:ON) (v7 v8:Int) (o3:fOk .f32 v3) (o4:fOk .f32 v4) (o5:fOk .f32 v5) (o6:fOk .f32 v6) (u0 u1 u2:Int) (u3 u4 u5 u6:ON) (u7 u8:Int) (p3:fOk .f32 u3) (p4:fOk .f32 u4) (p5:fOk .f32 u5) (p6:fOk .f32 u6) (h:yA [.int .i32 v0,.int .i32 v1,.int .i32 v2,.flt .f32 v3,.flt .f32 v4,.flt .f32 v5,.flt .f32 v6,.int .i64 v7,.int .i64 v8]=true) (h' : yA [.int .i32 u0,.int .i32 u1,.int .i32 u2,.flt .f32 u3,.flt .f32 u4,.flt .f32 u5,.flt .f32 u6,.int .i64 u7,.int .i64 u8]=true):cO atP [.int .i32 v0,.int .i32 v1,.int .i32 v2,.flt .f32 v3,.flt .f32 v4,.flt .f32 v5,.flt .f32 v6,.int .i64 v7,.int .i64 v8] [.int .i32 u0,.int .i32 u1,.int .i32 u2,.flt .f32 u3,.flt .f32 u4,.flt .f32 u5,.flt .f32 u6,.int .i64 u7,.int .i64 u8]=pQ [.int .i32 v0,.int .i32 v1,.int .i32 v2,.flt .f32 v3,.flt .f32 v4,.flt .f32 v5,.flt .f32 v6,.int .i64 v7,.int .i64 v8] [.int .i32 u0,.int .i32 u1,.int .i32 u2,.flt .f32 u3,.flt .f32 u4,.flt .f32 u5,.flt .f32 u6,.int .i64 u7,.int .i64 u8]:=by
 obtain⟨a3,a4,a5⟩:=xQ h o3 o4 o5
 obtain⟨b3,b4,b5⟩:=xQ h' p3 p4 p5
 unfold pQ
 rw [h,h']
 simp only [cO,at_eq o3 p3 a3 b3,at_eq o4 p4 a4 b4,at_eq o5 p5 a5 b5,Bool.true_and]
theorem bX {ms:LL} {m:List AV} (h:ms.length<=200):jU ms m=decide (((pG ms m).length:Int)<=200):=by
 unfold jU
 rw [qMf]
 cases qOW ms m with
 | true =>
  rw [if_pos rfl]
  exact(decide_eq_true om).symm
 | false =>
  rw [if_neg (by decide)]
  by_cases h2:(ms.length:Int)=200
  ·rw [decide_eq_true h2,decide_eq_false om];rfl
  ·rw [decide_eq_false h2,decide_eq_true om];rfl
theorem qHK (H:AHeap) (x:ON) (hx:fOk .f32 x) (ms:LL) (hr:xJ KM ms) (S:AV) (hS:SlL H 9 ms S) (mxms:ms.length<=1048576):qJ Try.prog 36 [.agg [.flt .f32 x,S]] H fun r H'=>Grew H H' /\ ∃ S',r=.agg [.flt .f32 x,S']/\SlF H' 9 ms S'/\FreshS H.next S':=by
 refine qF qAw (by simp) ?_
 have q1:KdsL [KF,.one] [.flt .f32 x,S]:=kL
 refine rC 0 0 [] [(0,.agg [nF 0,n1 1])] q1 (.cons (t:=0) rfl .nil) ?_
 refine zA kr fun vs ls H2 E2 st hE=>?_
 obtain⟨p3,e4,r5,n6⟩:=pO st hE 2 1 [.flt .f32 (some 0),.nilslice]
 have op3:H.next<=p3:=Nat.le_trans (Nat.le_refl _) (oM n6)
 have b7:=eo st hE 6 S
 have B1:=es st hE [(6,S),(4,.flt .f32 x)]
 have g9:Grew H H2:=(gk st)
 have g10:Grew H H2:=Grew.trans (Grew.refl _) g9
 refine qHk (free:=false) (d:=(some 7)) (f:=60) (args:=[.tmp 6]) kr (R:=fun z H'=>Grew H2 H'/\SlF H' 9 ms z/\FreshS H2.next z) ?_ ?_
 ·show qJ _ _ [E2 6] _ _
  rw [b7]
  exact qLG H2 ms hr (S) (hS.grew g10) mxms
 rintro S11 H12 ⟨gS11,sS11,fS11⟩
 refine⟨gS11,?_⟩
 have ne13:ApartL (S11) p3:=fS11.apartL (H2.lt_of_get r5)
 have fr14:FreshS H.next (S11):=fS11.mono g10.next
 have g15:=Grew.trans g10 gS11
 have r16:=gS11.at r5
 have q17:=q1.app (kL:KdsL [.one] [S11])
 refine qL (φ:=φ0) (pm:=pmR 0 [] 0) 20 (ws:=[⟨p3,0,[lF,lN],true⟩]) (env:=[(6,n1 1),(4,nF 0),(2,.ptr 0 0),(7,n1 2)]) q17 (.cons (wO r16 q17) .nil) sd .nil (eC q17 (sc (sp B1) (.cons (qD rfl e4) (.cons qB .nil)))) qU qM ?_
 refine zA kr fun vs ls H18 E18 st hE=>?_
 have gz:Grew H H18:=(qK g15 (st.inn.kept) ⟨op3,trivial⟩)
 exact re st hE (.agg [.flt .f32 x,S11]) gz.next ⟨gz,_,rfl,(sS11.keep st.inn.kept ⟨by assumption,trivial⟩),fr14⟩
theorem vA {ks:List Kd} {ms:LL} (h:xJ ks ms) {a b:Nat}:xJ ks ((ms.take b).drop a):=fun m hm=>h m (List.mem_of_mem_take (List.mem_of_mem_drop hm))
theorem qKx {ms:LL} {m:List AV} {p:Nat} (h:p < ms.length):(((ms.take p).drop 0 ++ [m]) ++ (ms.take ms.length).drop (p+1))=ms.set p m:=by
 rw [List.set_eq_take_append_cons_drop,if_pos h]
 simp
theorem qKu (ms:LL) (p:Nat):((ms.take p).drop 0 ++ (ms.take ms.length).drop p)=ms:=by simp
theorem qKw (ms:LL) (m:List AV) (p:Nat):(((ms.take p).drop 0 ++ [m]) ++ (ms.take ms.length).drop p)=ms.take p ++ [m] ++ ms.drop p:=by simp
theorem qIC (H:AHeap) (ms:LL) (hr:xJ KM ms) (S:AV) (hS:SlL H 9 ms S) (a b c:Int) (p:Nat) (fd:Bool) (hp:lin ms a b c=p) (hfd:fnd ms a b c=fd) (hmax:ms.length < 2^40):qR Try.prog 53 [S,.agg [.int .i32 a,.int .i32 b,.int .i32 c]] H (.tuple [.int .i64 (p:Int),.bool fd]):=by
 subst hp
 subst hfd
 exact qJX H ms hr S hS a b c hmax
theorem qFS (v0 v1 v2:Int) (v3 v4 v5 v6:ON) (v7 v8:Int) (o3:fOk .f32 v3) (o4:fOk .f32 v4) (o5:fOk .f32 v5) (o6:fOk .f32 v6) (u0 u1 u2:Int) (u3 u4 u5 u6:ON) (u7 u8:Int) (p3:fOk .f32 u3) (p4:fOk .f32 u4) (p5:fOk .f32 u5) (p6:fOk .f32 u6) (h:yA [.int .i32 v0,.int .i32 v1,.int .i32 v2,.flt .f32 v3,.flt .f32 v4,.flt .f32 v5,.flt .f32 v6,.int .i64 v7,.int .i64 v8]=true) (h' : yA [.int .i32 u0,.int .i32 u1,.int .i32 u2,.flt .f32 u3,.flt .f32 u4,.flt .f32 u5,.flt .f32 u6,.int .i64 u7,.int .i64 u8]=true) (H:AHeap) (l off:Nat) (pre post:List AV) (wr:Bool) (hg:H.get l=some (.row (pre ++ ([.int .i32 v0,.int .i32 v1,.int .i32 v2,.flt .f32 v3,.flt .f32 v4,.flt .f32 v5,.flt .f32 v6,.int .i64 v7,.int .i64 v8] ++ post)) wr)) (hp:pre.length=off) (l' off' : Nat) (pre' post' : List AV) (wr' : Bool) (hg' : H.get l'=some (.row (pre' ++ ([.int .i32 u0,.int .i32 u1,.int .i32 u2,.flt .f32 u3,.flt .f32 u4,.flt .f32 u5,.flt .f32 u6,.int .i64 u7,.int .i64 u8] ++ post')) wr')) (hp' : pre'.length=off'):qR Try.prog 54 [.ptr l off,.ptr l' off'] H (.bool (pQ [.int .i32 v0,.int .i32 v1,.int .i32 v2,.flt .f32 v3,.flt .f32 v4,.flt .f32 v5,.flt .f32 v6,.int .i64 v7,.int .i64 v8] [.int .i32 u0,.int .i32 u1,.int .i32 u2,.flt .f32 u3,.flt .f32 u4,.flt .f32 u5,.flt .f32 u6,.int .i64 u7,.int .i64 u8])):=by
 obtain⟨a3,a4,a5⟩:=xQ h o3 o4 o5
 obtain⟨b3,b4,b5⟩:=xQ h' p3 p4 p5
 rw [<- qMU v0 v1 v2 v3 v4 v5 v6 v7 v8 o3 o4 o5 o6 u0 u1 u2 u3 u4 u5 u6 u7 u8 p3 p4 p5 p6 h h']
 exact qGU v0 v1 v2 v3 v4 v5 v6 v7 v8 o3 o4 o5 o6 u0 u1 u2 u3 u4 u5 u6 u7 u8 p3 p4 p5 p6 a3 a4 a5 b3 b4 b5 H l off pre post wr hg hp l' off' pre' post' wr' hg' hp'
def tbY:List (Nat × AFun):=tb.filter fun p=>!(p.1 == 54)
theorem hG:qDw Try.prog tbY:=fun f a h=>qU f a (List.mem_filter.1 h).1
def pmY (fl:Nat) (ru:List (RK × SV)) (un:Nat):Pm:=⟨fl,ru,tbY,ap,un⟩
theorem qLO (H:AHeap) (ms:LL) (hr:xJ KM ms) (S:AV) (hS:SlL H 9 ms S) (mxms:ms.length<=1048576) (hmk:∀ m ∈ ms,yA m=true) (v0 v1 v2:Int) (v3 v4 v5 v6:ON) (v7 v8:Int) (o3:fOk .f32 v3) (o4:fOk .f32 v4) (o5:fOk .f32 v5) (o6:fOk .f32 v6) (hv:yA [.int .i32 v0,.int .i32 v1,.int .i32 v2,.flt .f32 v3,.flt .f32 v4,.flt .f32 v5,.flt .f32 v6,.int .i64 v7,.int .i64 v8]=true):qJ Try.prog 31 [S,.agg [.int .i32 v0,.int .i32 v1,.int .i32 v2,.flt .f32 v3,.flt .f32 v4,.flt .f32 v5,.flt .f32 v6,.int .i64 v7,.int .i64 v8]] H fun r H'=>Grew H H'/\SlF H' 9 (pG ms [.int .i32 v0,.int .i32 v1,.int .i32 v2,.flt .f32 v3,.flt .f32 v4,.flt .f32 v5,.flt .f32 v6,.int .i64 v7,.int .i64 v8]) r/\FreshS H.next r:=by
 obtain⟨p,hp⟩:∃ p,lin ms v0 v1 v2=p:=⟨_,rfl⟩
 obtain⟨fd,hfd⟩:∃ p,fnd ms v0 v1 v2=p:=⟨_,rfl⟩
 have hpl0:p<=ms.length:=by rw [<- hp];exact qHN _ _ _ _
 refine qF qAD (by simp) ?_
 have q1:KdsL [.one,K2,K2,K2,KF,KF,KF,KF,KI,KI,KI,.bool] [S,.int .i32 v0,.int .i32 v1,.int .i32 v2,.flt .f32 v3,.flt .f32 v4,.flt .f32 v5,.flt .f32 v6,.int .i64 v7,.int .i64 v8,.int .i64 (p:Int),.bool fd]:=kL
 refine qL (φ:=φ0) (pm:=pmY 0 [(.call 53 [n1 0,.agg [n2 1,n2 2,n2 3]],.tup [nI 10,nB 11])] 0) 20 (ws:=[]) (env:=[(0,n1 0),(1,.agg [n2 1,n2 2,n2 3,nF 4,nF 5,nF 6,nF 7,nI 8,nI 9])]) q1 .nil (qI rfl) (.cons (qH (args:=[S,.agg [.int .i32 v0,.int .i32 v1,.int .i32 v2]]) (dL q1) (dE q1) (fun H9 hk=>qIC H9 ms hr S (hS.grew (Grew.trans (Grew.refl _) (hk.grew (Nat.le_refl _)))) v0 v1 v2 p fd hp hfd (qLY mxms))) .nil) (eC q1 (.cons (t:=0) rfl (.cons (t:=1) rfl .nil))) hG qM ?_
 refine zA kr fun vs ls H2 E2 st hE=>?_
 obtain⟨p3,e4,r5,n6⟩:=qEZ st.inn hE 15 1 0 0 9 kr (ds:=[]) kr
 have op3:H.next<=p3:=Nat.le_trans (Nat.le_refl _) (oM n6)
 obtain⟨p7,e8,r9,n10⟩:=pO st hE 3 0 [.int .i32 v0,.int .i32 v1,.int .i32 v2,.flt .f32 v3,.flt .f32 v4,.flt .f32 v5,.flt .f32 v6,.int .i64 v7,.int .i64 v8]
 have op7:H.next<=p7:=Nat.le_trans (Nat.le_refl _) (oM n10)
 have ne11:Apart p3 p7:=⟨qKI st.inn hE 15 3 1 0 (v:=.sl 1 0 0 0 9) (v':=.ptr 0 0) kr kr rfl rfl (cs:=[]) kr (by decide) e4 e8 rfl rfl⟩
 have b12:=eo st hE 16 S
 have b13:=eo st hE 17 (.int .i64 (p:Int))
 have B1:=es st hE [(16,S),(17,.int .i64 (p:Int)),(6,.bool fd),(0,S),(5,.int .i64 (p:Int))]
 have g17:Grew H H2:=(gk st)
 have g18:Grew H H2:=Grew.trans (Grew.refl _) g17
 obtain⟨V19,hV19,sV19⟩:=uH hr.len hS 0 p om om
 have lV19:((ms.take p).drop 0).length<=ms.length:=by rw [List.length_drop,List.length_take];omega
 refine tK (d:=some 18) (op:=.slSl 9 (.tmp 16) none (some (.tmp 17)) none) (r:=V19) kr rfl (sV19 _ _ 16 none (some (.tmp 17)) b12 (.inl ⟨rfl,rfl⟩) (.inr (congrArg some b13))) ?_
 have q20:=q1.app (.cons hV19.one .nil:KdsL [.one] [V19])
 refine qL (φ:=φ0) (pm:=pmY 2 [] 0) 20 (ws:=[wf p3 [],wf p7 [n2 1,n2 2,n2 3,nF 4,nF 5,nF 6,nF 7,nI 8,nI 9]]) (env:=[(16,n1 0),(17,nI 10),(6,nB 11),(0,n1 0),(5,nI 10),(15,.sl 0 0 0 0 9),(3,.ptr 1 0),(18,n1 12)]) q20 wA (qI rfl) .nil (eC q20 (sc (sp B1) (.cons (qD rfl e4) (.cons (qD rfl e8) (.cons qB .nil))))) hG qM ?_
 refine zA kr fun vs ls H21 E21 st hE=>?_
 have b22:=eo st hE 15 (.slice p3 0 0 0 9)
 have b23:=eo st hE 18 V19
 have B2:=es st hE [(18,V19),(6,.bool fd),(0,S),(5,.int .i64 (p:Int)),(3,.ptr p7 0)]
 have g28:Grew H2 H21:=(gk st)
 have g29:=Grew.trans g18 g28
 have r30:=g28.at r5
 have r31:=g28.at r9
 have sx34:SlF H21 9 [] (.slice p3 0 0 0 9):=.sl (by simpa using r30) rfl (Nat.le_refl _)
 refine mI (d:=(some 19)) (sz:=9) (bytes:=48) (x:=.tmp 15) (y:=.tmp 18) kr (S:=.slice p3 0 0 0 9) (ys:=((ms.take p).drop 0)) (by show E21 15=_;exact b22) sx34 (.inr ⟨_,rfl⟩) (by show qQ _ _ (E21 18)=_;rw [b23];exact hV19.src _ g29) (vC (vA hr) rfl) (by first | omega | (simp only [List.length_append,List.length_cons,List.length_nil,List.length_drop,List.length_take];omega)) ?_
 intro S32 H33 sS32 fS32 oS32
 have ne35:=aL fS32 r31 (ApartL.of aS)
 have fr36:FreshS H.next (S32):=fS32.fresh (FreshS.of_le op3) g29.next
 have g37:=Grew.trans g29 oS32
 have r39:=oS32.at r31
 have q40:=q20.app (kL:KdsL [.one] [S32])
 refine qL (φ:=φ0) (pm:=pmY 1 [] 0) 20 (ws:=[wf p7 [n2 1,n2 2,n2 3,nF 4,nF 5,nF 6,nF 7,nI 8,nI 9]]) (env:=[(18,n1 12),(6,nB 11),(0,n1 0),(5,nI 10),(3,.ptr 0 0),(19,n1 13)]) q40 (.cons (wR r39 q40) .nil) (qI rfl) .nil (eC q40 (sc (sp B2) (.cons qB .nil))) hG qM ?_
 refine dB kr ?_ ?_
 ·intro vs ls H41 E41 st hE
  have f42:fd=true:=bf st 0
  have hpl:p < ms.length:=by rw [<- hp];exact qFA (hfd.trans f42)
  have B3:=es st hE [(21,S),(22,.int .i64 (p:Int)),(3,.ptr p7 0),(7,S32),(0,S),(5,.int .i64 (p:Int))]
  have g49:Grew H33 H41:=(gk st)
  have g50:=Grew.trans g37 g49
  have r51:=g49.at r39
  have s52:=sS32.grew g49
  have hlt53:p < ms.length:=by omega
  obtain⟨lS53,cap53,rest53,wr53,eS53,gB53⟩:=hS.isSl hlt53
  have gS53:=g50.at gB53
  have ne54:=apn gB53 op7
  obtain⟨v53_0,v53_1,v53_2,v53_3,v53_4,v53_5,v53_6,v53_7,v53_8,hm53,ho53_3,ho53_4,ho53_5,ho53_6⟩:=zZ (hr.get hlt53)
  have he53:ms.getD p []=[.int .i32 v53_0,.int .i32 v53_1,.int .i32 v53_2,.flt .f32 v53_3,.flt .f32 v53_4,.flt .f32 v53_5,.flt .f32 v53_6,.int .i64 v53_7,.int .i64 v53_8]:=by rw [<- hm53,List.getD_eq_getElem?_getD,List.getElem?_eq_getElem hlt53];rfl
  have q55:=q40.app (kL:KdsL [K2,K2,K2,KF,KF,KF,KF,KI,KI] [.int .i32 v53_0,.int .i32 v53_1,.int .i32 v53_2,.flt .f32 v53_3,.flt .f32 v53_4,.flt .f32 v53_5,.flt .f32 v53_6,.int .i64 v53_7,.int .i64 v53_8])
  refine qL (φ:=φ0) (pm:=pmY 2 [(.ia 9 (n1 0) (nI 10),.ptr 1 0)] 0) 20 (ws:=[wf p7 [n2 1,n2 2,n2 3,nF 4,nF 5,nF 6,nF 7,nI 8,nI 9],⟨lS53,(p * 9),[n2 14,n2 15,n2 16,nF 17,nF 18,nF 19,nF 20,nI 21,nI 22],false⟩]) (env:=[(21,n1 0),(22,nI 10),(3,.ptr 0 0),(7,n1 13),(0,n1 0),(5,nI 10)]) q55 (.cons (wR r51 q55) (.cons (zV hr gS53 hlt53 rfl (by rw [hm53];exact(dL q55))) .nil)) (qI rfl) (.cons (bA (k:=p) (dE q55) eS53 (dE q55) hlt53 rfl) .nil) (eC q55 B3) hG qM ?_
  refine zA kr fun vs ls H56 E56 st hE=>?_
  have b57:=eo st hE 3 (.ptr p7 0)
  have b58:=eo st hE 23 (.ptr lS53 ((p * 9)+0))
  have B4:=es st hE [(3,.ptr p7 0),(23,.ptr lS53 ((p * 9)+0)),(7,S32),(0,S),(5,.int .i64 (p:Int))]
  have g62:Grew H41 H56:=(gk st)
  have g63:=Grew.trans g50 g62
  have r64:=g62.at r51
  have r65:=g62.at gS53
  have s66:=s52.grew g62
  obtain⟨pre67,post67,es67,el67⟩:=yR hr.len hlt53 rest53
  have gz67:=r65
  rw [es67,hm53] at gz67
  refine zB (d:=(some 24)) (f:=54) (args:=[.tmp 3,.tmp 23]) kr (R:=fun z H'=>z=.bool (pQ [.int .i32 v0,.int .i32 v1,.int .i32 v2,.flt .f32 v3,.flt .f32 v4,.flt .f32 v5,.flt .f32 v6,.int .i64 v7,.int .i64 v8] [.int .i32 v53_0,.int .i32 v53_1,.int .i32 v53_2,.flt .f32 v53_3,.flt .f32 v53_4,.flt .f32 v53_5,.flt .f32 v53_6,.int .i64 v53_7,.int .i64 v53_8])/\H'=H56) ?_ ?_
  ·show qJ _ _ [E56 3,E56 23] _ _
   rw [b57,b58]
   exact qFS v0 v1 v2 v3 v4 v5 v6 v7 v8 o3 o4 o5 o6 v53_0 v53_1 v53_2 v53_3 v53_4 v53_5 v53_6 v53_7 v53_8 ho53_3 ho53_4 ho53_5 ho53_6 hv (by rw [<- he53];exact hmk _ (by rw [List.getD_eq_getElem?_getD,List.getElem?_eq_getElem hlt53];exact List.getElem_mem _)) H56 p7 0 [] [] true (by simpa using r64) rfl lS53 ((p * 9)) pre67 post67 _ gz67 el67
  rintro z H56 ⟨rfl,rfl⟩
  have q68:=q55.app (kL:KdsL [.bool] [.bool (pQ [.int .i32 v0,.int .i32 v1,.int .i32 v2,.flt .f32 v3,.flt .f32 v4,.flt .f32 v5,.flt .f32 v6,.int .i64 v7,.int .i64 v8] [.int .i32 v53_0,.int .i32 v53_1,.int .i32 v53_2,.flt .f32 v53_3,.flt .f32 v53_4,.flt .f32 v53_5,.flt .f32 v53_6,.int .i64 v53_7,.int .i64 v53_8])])
  refine qL (φ:=φ0) (pm:=pmY 2 [] 0) 20 (ws:=[wf p7 [n2 1,n2 2,n2 3,nF 4,nF 5,nF 6,nF 7,nI 8,nI 9],⟨lS53,(p * 9),[n2 14,n2 15,n2 16,nF 17,nF 18,nF 19,nF 20,nI 21,nI 22],false⟩]) (env:=[(3,.ptr 0 0),(23,.ptr 1 0),(7,n1 13),(0,n1 0),(5,nI 10),(24,nB 23)]) q68 (.cons (wR r64 q68) (.cons (zV hr r65 hlt53 rfl (by rw [hm53];exact(dL q68))) .nil)) (qI rfl) .nil (eC q68 (sc (sp B4) (.cons qB .nil))) hG qM ?_
  refine dB kr ?_ ?_
  ·intro vs ls H69 E69 st hE
   have f70:(pQ [.int .i32 v0,.int .i32 v1,.int .i32 v2,.flt .f32 v3,.flt .f32 v4,.flt .f32 v5,.flt .f32 v6,.int .i64 v7,.int .i64 v8] [.int .i32 v53_0,.int .i32 v53_1,.int .i32 v53_2,.flt .f32 v53_3,.flt .f32 v53_4,.flt .f32 v53_5,.flt .f32 v53_6,.int .i64 v53_7,.int .i64 v53_8])=true:=bf st 0
   obtain⟨p71,e72,r73,n74⟩:=qEZ st.inn hE 27 2 1 1 9 kr (ds:=[.int .i32 v0,.int .i32 v1,.int .i32 v2,.flt .f32 v3,.flt .f32 v4,.flt .f32 v5,.flt .f32 v6,.int .i64 v7,.int .i64 v8]) kr
   have op71:H.next<=p71:=Nat.le_trans g63.next (oM n74)
   have ne75:=apn r64 (oM n74)
   have ne76:=apn r65 (oM n74)
   have ne77:ApartL (S32) p71:=s66.apart_new (oM n74)
   have b78:=eo st hE 25 S32
   have B5:=es st hE [(25,S32),(7,S32),(0,S),(5,.int .i64 (p:Int)),(3,.ptr p7 0)]
   have g83:Grew H56 H69:=(gk st)
   have g84:=Grew.trans g63 g83
   have r85:=g83.at r64
   have s87:=s66.grew g83
   refine bF (d:=(some 28)) (sz:=9) (bytes:=48) (x:=.tmp 25) (y:=.tmp 27) kr (S:=S32) (ms:=((ms.take p).drop 0)) (ys:=[[.int .i32 v0,.int .i32 v1,.int .i32 v2,.flt .f32 v3,.flt .f32 v4,.flt .f32 v5,.flt .f32 v6,.int .i64 v7,.int .i64 v8]]) (by show E69 25=_;exact b78) s87 (vA hr).len (by show qQ _ _ (E69 27)=_;rw [e72];exact qFc r73 rfl) (vC (ks:=KM) (xJ.one (ks:=KM) (.cons kA (.cons kA (.cons kA (.cons (kF o3) (.cons (kF o4) (.cons (kF o5) (.cons (kF o6) (.cons kA (.cons kA .nil)))))))))) rfl) (by first | omega | (simp only [List.length_append,List.length_cons,List.length_nil,List.length_drop,List.length_take];omega)) ?_
   intro S88 H89 sS88 fS88 oS88
   have ne90:=aL fS88 r85 am
   have ne91:=aL fS88 r73 am
   have fr92:FreshS H.next (S88):=fS88.fresh fr36 g84.next
   have g93:Grew H H89:=OnlyS.own g84 fr36 oS88
   have r94:=oS88.at r85 am
   have r95:=oS88.at r73 am
   have q96:=q68.app (kL:KdsL [.one] [S88])
   refine qL (φ:=φ0) (pm:=pmY 2 [] 0) 20 (ws:=[wf p7 [n2 1,n2 2,n2 3,nF 4,nF 5,nF 6,nF 7,nI 8,nI 9],wf p71 [n2 1,n2 2,n2 3,nF 4,nF 5,nF 6,nF 7,nI 8,nI 9]]) (env:=[(25,n1 13),(7,n1 13),(0,n1 0),(5,nI 10),(3,.ptr 0 0),(27,.sl 1 0 1 1 9),(28,n1 24)]) q96 wA (qI rfl) .nil (eC q96 (sc (sp B5) (.cons (qD rfl e72) (.cons qB .nil)))) hG qM ?_
   refine zA kr fun vs ls H97 E97 st hE=>?_
   have b98:=eo st hE 30 S
   obtain⟨w99,hw99⟩:∃ z,z=(IntKind.wrap .i64 ((p:Int)+1)):=⟨_,rfl⟩
   have b100:E97 32=.int .i64 w99:=by rw [hw99];exact eo st hE 32 _
   have B6:=es st hE [(30,S),(29,S88),(7,S88),(0,S),(5,.int .i64 (p:Int)),(3,.ptr p7 0)]
   have g106:Grew H89 H97:=(gk st)
   have g107:=Grew.trans g93 g106
   have r108:=g106.at r94
   have s110:=sS88.grew g106
   have e111:E97 32=.int .i64 (((p+1):Nat):Int):=by rw [b100,hw99];exact congrArg _ (wrap64 om)
   obtain⟨V112,hV112,sV112⟩:=uH hr.len hS (p+1) ms.length om om
   have lV112:((ms.take ms.length).drop (p+1)).length<=ms.length:=by rw [List.length_drop,List.length_take];omega
   refine tK (d:=some 33) (op:=.slSl 9 (.tmp 30) (some (.tmp 32)) none none) (r:=V112) kr rfl (sV112 _ _ 30 (some (.tmp 32)) none b98 (.inr (congrArg some e111)) (.inl ⟨rfl,rfl⟩)) ?_
   have q113:=q96.app (.cons kA (.cons hV112.one .nil):KdsL [KI,.one] [.int .i64 w99,V112])
   refine qL (φ:=φ0) (pm:=pmY 1 [] 0) 20 (ws:=[wf p7 [n2 1,n2 2,n2 3,nF 4,nF 5,nF 6,nF 7,nI 8,nI 9]]) (env:=[(30,n1 0),(29,n1 24),(7,n1 24),(0,n1 0),(5,nI 10),(3,.ptr 0 0),(32,nI 25),(33,n1 26)]) q113 wA (qI rfl) .nil (eC q113 (sc (sp B6) (.cons (qD rfl b100) (.cons qB .nil)))) hG qM ?_
   refine zA kr fun vs ls H114 E114 st hE=>?_
   have b115:=eo st hE 29 S88
   have b116:=eo st hE 33 V112
   have B7:=es st hE [(29,S88),(33,V112),(7,S88),(0,S),(5,.int .i64 (p:Int)),(3,.ptr p7 0)]
   have g121:Grew H97 H114:=(gk st)
   have g122:=Grew.trans g107 g121
   have r123:=g121.at r108
   have s124:=s110.grew g121
   refine bF (d:=(some 34)) (sz:=9) (bytes:=48) (x:=.tmp 29) (y:=.tmp 33) kr (S:=S88) (ms:=(((ms.take p).drop 0) ++ [[.int .i32 v0,.int .i32 v1,.int .i32 v2,.flt .f32 v3,.flt .f32 v4,.flt .f32 v5,.flt .f32 v6,.int .i64 v7,.int .i64 v8]])) (ys:=((ms.take ms.length).drop (p+1))) (by show E114 29=_;exact b115) s124 (xJ.append (vA hr) (xJ.one (ks:=KM) (.cons kA (.cons kA (.cons kA (.cons (kF o3) (.cons (kF o4) (.cons (kF o5) (.cons (kF o6) (.cons kA (.cons kA .nil))))))))))).len (by show qQ _ _ (E114 33)=_;rw [b116];exact hV112.src _ g122) (vC (vA hr) rfl) (by first | omega | (simp only [List.length_append,List.length_cons,List.length_nil,List.length_drop,List.length_take];omega)) ?_
   intro S125 H126 sS125 fS125 oS125
   have ne127:=aL fS125 r123 am
   have fr128:FreshS H.next (S125):=fS125.fresh fr92 g122.next
   have g129:Grew H H126:=OnlyS.own g122 fr92 oS125
   have r130:=oS125.at r123 am
   have q131:=q113.app (kL:KdsL [.one] [S125])
   refine qL (φ:=φ0) (pm:=pmY 1 [] 0) 20 (ws:=[wf p7 [n2 1,n2 2,n2 3,nF 4,nF 5,nF 6,nF 7,nI 8,nI 9]]) (env:=[(29,n1 24),(33,n1 26),(7,n1 24),(0,n1 0),(5,nI 10),(3,.ptr 0 0),(34,n1 27)]) q131 wA (qI rfl) .nil (eC q131 (sc (sp B7) (.cons qB .nil))) hG qM ?_
   refine zA kr fun vs ls H132 E132 st hE=>?_
   have gz:Grew H H132:=(Grew.trans g129 (gk st))
   have l9:((((ms.take p).drop 0) ++ [[.int .i32 v0,.int .i32 v1,.int .i32 v2,.flt .f32 v3,.flt .f32 v4,.flt .f32 v5,.flt .f32 v6,.int .i64 v7,.int .i64 v8]]) ++ ((ms.take ms.length).drop (p+1)))=pG ms [.int .i32 v0,.int .i32 v1,.int .i32 v2,.flt .f32 v3,.flt .f32 v4,.flt .f32 v5,.flt .f32 v6,.int .i64 v7,.int .i64 v8]:=by
    show _=(if fnd ms v0 v1 v2=true then (if pQ [.int .i32 v0,.int .i32 v1,.int .i32 v2,.flt .f32 v3,.flt .f32 v4,.flt .f32 v5,.flt .f32 v6,.int .i64 v7,.int .i64 v8] (ms.getD (lin ms v0 v1 v2) [])=true then ms.set (lin ms v0 v1 v2) [.int .i32 v0,.int .i32 v1,.int .i32 v2,.flt .f32 v3,.flt .f32 v4,.flt .f32 v5,.flt .f32 v6,.int .i64 v7,.int .i64 v8] else ms) else ms.take (lin ms v0 v1 v2) ++ [[.int .i32 v0,.int .i32 v1,.int .i32 v2,.flt .f32 v3,.flt .f32 v4,.flt .f32 v5,.flt .f32 v6,.int .i64 v7,.int .i64 v8]] ++ ms.drop (lin ms v0 v1 v2))
    rw [hfd,hp,f42]
    rw [he53,if_pos rfl,if_pos f70]
    exact qKx om
   exact re st hE (S125) gz.next ⟨gz,by rw [<- l9];exact(sS125.grew (st.inn.kept.grew (Nat.le_refl _))),fr128⟩
  ·intro vs ls H133 E133 st hE
   have f134:(pQ [.int .i32 v0,.int .i32 v1,.int .i32 v2,.flt .f32 v3,.flt .f32 v4,.flt .f32 v5,.flt .f32 v6,.int .i64 v7,.int .i64 v8] [.int .i32 v53_0,.int .i32 v53_1,.int .i32 v53_2,.flt .f32 v53_3,.flt .f32 v53_4,.flt .f32 v53_5,.flt .f32 v53_6,.int .i64 v53_7,.int .i64 v53_8])=false:=bf st 0
   have b135:=eo st hE 36 S
   have b136:=eo st hE 37 (.int .i64 (p:Int))
   have B8:=es st hE [(36,S),(37,.int .i64 (p:Int)),(35,S32),(7,S32),(3,.ptr p7 0),(0,S),(5,.int .i64 (p:Int))]
   have g142:Grew H56 H133:=(gk st)
   have g143:=Grew.trans g63 g142
   have r144:=g142.at r64
   have s146:=s66.grew g142
   obtain⟨V147,hV147,sV147⟩:=uH hr.len hS p ms.length om om
   have lV147:((ms.take ms.length).drop p).length<=ms.length:=by rw [List.length_drop,List.length_take];omega
   refine tK (d:=some 38) (op:=.slSl 9 (.tmp 36) (some (.tmp 37)) none none) (r:=V147) kr rfl (sV147 _ _ 36 (some (.tmp 37)) none b135 (.inr (congrArg some b136)) (.inl ⟨rfl,rfl⟩)) ?_
   have q148:=q68.app (.cons hV147.one .nil:KdsL [.one] [V147])
   refine qL (φ:=φ0) (pm:=pmY 1 [] 0) 20 (ws:=[wf p7 [n2 1,n2 2,n2 3,nF 4,nF 5,nF 6,nF 7,nI 8,nI 9]]) (env:=[(36,n1 0),(37,nI 10),(35,n1 13),(7,n1 13),(3,.ptr 0 0),(0,n1 0),(5,nI 10),(38,n1 24)]) q148 wA (qI rfl) .nil (eC q148 (sc (sp B8) (.cons qB .nil))) hG qM ?_
   refine zA kr fun vs ls H149 E149 st hE=>?_
   have b150:=eo st hE 35 S32
   have b151:=eo st hE 38 V147
   have B9:=es st hE [(35,S32),(38,V147),(7,S32),(3,.ptr p7 0),(0,S),(5,.int .i64 (p:Int))]
   have g156:Grew H133 H149:=(gk st)
   have g157:=Grew.trans g143 g156
   have r158:=g156.at r144
   have s159:=s146.grew g156
   refine bF (d:=(some 39)) (sz:=9) (bytes:=48) (x:=.tmp 35) (y:=.tmp 38) kr (S:=S32) (ms:=((ms.take p).drop 0)) (ys:=((ms.take ms.length).drop p)) (by show E149 35=_;exact b150) s159 (vA hr).len (by show qQ _ _ (E149 38)=_;rw [b151];exact hV147.src _ g157) (vC (vA hr) rfl) (by first | omega | (simp only [List.length_append,List.length_cons,List.length_nil,List.length_drop,List.length_take];omega)) ?_
   intro S160 H161 sS160 fS160 oS160
   have ne162:=aL fS160 r158 am
   have fr163:FreshS H.next (S160):=fS160.fresh fr36 g157.next
   have g164:Grew H H161:=OnlyS.own g157 fr36 oS160
   have r165:=oS160.at r158 am
   have q166:=q148.app (kL:KdsL [.one] [S160])
   refine qL (φ:=φ0) (pm:=pmY 1 [] 0) 20 (ws:=[wf p7 [n2 1,n2 2,n2 3,nF 4,nF 5,nF 6,nF 7,nI 8,nI 9]]) (env:=[(35,n1 13),(38,n1 24),(7,n1 13),(3,.ptr 0 0),(0,n1 0),(5,nI 10),(39,n1 25)]) q166 wA (qI rfl) .nil (eC q166 (sc (sp B9) (.cons qB .nil))) hG qM ?_
   refine zA kr fun vs ls H167 E167 st hE=>?_
   have gz:Grew H H167:=(Grew.trans g164 (gk st))
   have l9:(((ms.take p).drop 0) ++ ((ms.take ms.length).drop p))=pG ms [.int .i32 v0,.int .i32 v1,.int .i32 v2,.flt .f32 v3,.flt .f32 v4,.flt .f32 v5,.flt .f32 v6,.int .i64 v7,.int .i64 v8]:=by
    show _=(if fnd ms v0 v1 v2=true then (if pQ [.int .i32 v0,.int .i32 v1,.int .i32 v2,.flt .f32 v3,.flt .f32 v4,.flt .f32 v5,.flt .f32 v6,.int .i64 v7,.int .i64 v8] (ms.getD (lin ms v0 v1 v2) [])=true then ms.set (lin ms v0 v1 v2) [.int .i32 v0,.int .i32 v1,.int .i32 v2,.flt .f32 v3,.flt .f32 v4,.flt .f32 v5,.flt .f32 v6,.int .i64 v7,.int .i64 v8] else ms) else ms.take (lin ms v0 v1 v2) ++ [[.int .i32 v0,.int .i32 v1,.int .i32 v2,.flt .f32 v3,.flt .f32 v4,.flt .f32 v5,.flt .f32 v6,.int .i64 v7,.int .i64 v8]] ++ ms.drop (lin ms v0 v1 v2))
    rw [hfd,hp,f42]
    rw [he53,if_pos rfl,if_neg (by rw [f134];decide)]
    exact qKu _ _
   exact re st hE (S160) gz.next ⟨gz,by rw [<- l9];exact(sS160.grew (st.inn.kept.grew (Nat.le_refl _))),fr163⟩
 ·intro vs ls H168 E168 st hE
  have f169:fd=false:=bf st 0
  obtain⟨p170,e171,r172,n173⟩:=qEZ st.inn hE 42 1 1 1 9 kr (ds:=[.int .i32 v0,.int .i32 v1,.int .i32 v2,.flt .f32 v3,.flt .f32 v4,.flt .f32 v5,.flt .f32 v6,.int .i64 v7,.int .i64 v8]) kr
  have op170:H.next<=p170:=Nat.le_trans g37.next (oM n173)
  have ne174:=apn r39 (oM n173)
  have ne175:ApartL (S32) p170:=sS32.apart_new (oM n173)
  have b176:=eo st hE 40 S32
  have B10:=es st hE [(40,S32),(7,S32),(0,S),(5,.int .i64 (p:Int))]
  have g180:Grew H33 H168:=(gk st)
  have g181:=Grew.trans g37 g180
  have s183:=sS32.grew g180
  refine bF (d:=(some 43)) (sz:=9) (bytes:=48) (x:=.tmp 40) (y:=.tmp 42) kr (S:=S32) (ms:=((ms.take p).drop 0)) (ys:=[[.int .i32 v0,.int .i32 v1,.int .i32 v2,.flt .f32 v3,.flt .f32 v4,.flt .f32 v5,.flt .f32 v6,.int .i64 v7,.int .i64 v8]]) (by show E168 40=_;exact b176) s183 (vA hr).len (by show qQ _ _ (E168 42)=_;rw [e171];exact qFc r172 rfl) (vC (ks:=KM) (xJ.one (ks:=KM) (.cons kA (.cons kA (.cons kA (.cons (kF o3) (.cons (kF o4) (.cons (kF o5) (.cons (kF o6) (.cons kA (.cons kA .nil)))))))))) rfl) (by first | omega | (simp only [List.length_append,List.length_cons,List.length_nil,List.length_drop,List.length_take];omega)) ?_
  intro S184 H185 sS184 fS184 oS184
  have ne186:=aL fS184 r172 am
  have fr187:FreshS H.next (S184):=fS184.fresh fr36 g181.next
  have g188:Grew H H185:=OnlyS.own g181 fr36 oS184
  have r189:=oS184.at r172 am
  have q190:=q40.app (kL:KdsL [.one] [S184])
  refine qL (φ:=φ0) (pm:=pmY 1 [] 0) 20 (ws:=[wf p170 [n2 1,n2 2,n2 3,nF 4,nF 5,nF 6,nF 7,nI 8,nI 9]]) (env:=[(40,n1 13),(7,n1 13),(0,n1 0),(5,nI 10),(42,.sl 0 0 1 1 9),(43,n1 14)]) q190 wA (qI rfl) .nil (eC q190 (sc (sp B10) (.cons (qD rfl e171) (.cons qB .nil)))) hG qM ?_
  refine zA kr fun vs ls H191 E191 st hE=>?_
  have b192:=eo st hE 45 S
  have b193:=eo st hE 46 (.int .i64 (p:Int))
  have B11:=es st hE [(45,S),(46,.int .i64 (p:Int)),(44,S184)]
  have g195:Grew H185 H191:=(gk st)
  have g196:=Grew.trans g188 g195
  have s198:=sS184.grew g195
  obtain⟨V199,hV199,sV199⟩:=uH hr.len hS p ms.length om om
  have lV199:((ms.take ms.length).drop p).length<=ms.length:=by rw [List.length_drop,List.length_take];omega
  refine tK (d:=some 47) (op:=.slSl 9 (.tmp 45) (some (.tmp 46)) none none) (r:=V199) kr rfl (sV199 _ _ 45 (some (.tmp 46)) none b192 (.inr (congrArg some b193)) (.inl ⟨rfl,rfl⟩)) ?_
  have q200:=q190.app (.cons hV199.one .nil:KdsL [.one] [V199])
  refine qL (φ:=φ0) (pm:=pmY 0 [] 0) 20 (ws:=[]) (env:=[(45,n1 0),(46,nI 10),(44,n1 14),(47,n1 15)]) q200 .nil (qI rfl) .nil (eC q200 (sc (sp B11) (.cons qB .nil))) hG qM ?_
  refine zA kr fun vs ls H201 E201 st hE=>?_
  have b202:=eo st hE 44 S184
  have b203:=eo st hE 47 V199
  have B12:=es st hE [(44,S184),(47,V199)]
  have g204:Grew H191 H201:=(gk st)
  have g205:=Grew.trans g196 g204
  have s206:=s198.grew g204
  refine bF (d:=(some 48)) (sz:=9) (bytes:=48) (x:=.tmp 44) (y:=.tmp 47) kr (S:=S184) (ms:=(((ms.take p).drop 0) ++ [[.int .i32 v0,.int .i32 v1,.int .i32 v2,.flt .f32 v3,.flt .f32 v4,.flt .f32 v5,.flt .f32 v6,.int .i64 v7,.int .i64 v8]])) (ys:=((ms.take ms.length).drop p)) (by show E201 44=_;exact b202) s206 (xJ.append (vA hr) (xJ.one (ks:=KM) (.cons kA (.cons kA (.cons kA (.cons (kF o3) (.cons (kF o4) (.cons (kF o5) (.cons (kF o6) (.cons kA (.cons kA .nil))))))))))).len (by show qQ _ _ (E201 47)=_;rw [b203];exact hV199.src _ g205) (vC (vA hr) rfl) (by first | omega | (simp only [List.length_append,List.length_cons,List.length_nil,List.length_drop,List.length_take];omega)) ?_
  intro S207 H208 sS207 fS207 oS207
  have fr209:FreshS H.next (S207):=fS207.fresh fr187 g205.next
  have g210:Grew H H208:=OnlyS.own g205 fr187 oS207
  have q211:=q200.app (kL:KdsL [.one] [S207])
  refine qL (φ:=φ0) (pm:=pmY 0 [] 0) 20 (ws:=[]) (env:=[(44,n1 14),(47,n1 15),(48,n1 16)]) q211 .nil (qI rfl) .nil (eC q211 (sc (sp B12) (.cons qB .nil))) hG qM ?_
  refine zA kr fun vs ls H212 E212 st hE=>?_
  have gz:Grew H H212:=(Grew.trans g210 (gk st))
  have l9:((((ms.take p).drop 0) ++ [[.int .i32 v0,.int .i32 v1,.int .i32 v2,.flt .f32 v3,.flt .f32 v4,.flt .f32 v5,.flt .f32 v6,.int .i64 v7,.int .i64 v8]]) ++ ((ms.take ms.length).drop p))=pG ms [.int .i32 v0,.int .i32 v1,.int .i32 v2,.flt .f32 v3,.flt .f32 v4,.flt .f32 v5,.flt .f32 v6,.int .i64 v7,.int .i64 v8]:=by
   show _=(if fnd ms v0 v1 v2=true then (if pQ [.int .i32 v0,.int .i32 v1,.int .i32 v2,.flt .f32 v3,.flt .f32 v4,.flt .f32 v5,.flt .f32 v6,.int .i64 v7,.int .i64 v8] (ms.getD (lin ms v0 v1 v2) [])=true then ms.set (lin ms v0 v1 v2) [.int .i32 v0,.int .i32 v1,.int .i32 v2,.flt .f32 v3,.flt .f32 v4,.flt .f32 v5,.flt .f32 v6,.int .i64 v7,.int .i64 v8] else ms) else ms.take (lin ms v0 v1 v2) ++ [[.int .i32 v0,.int .i32 v1,.int .i32 v2,.flt .f32 v3,.flt .f32 v4,.flt .f32 v5,.flt .f32 v6,.int .i64 v7,.int .i64 v8]] ++ ms.drop (lin ms v0 v1 v2))
   rw [hfd,hp,f169]
   rw [if_neg (by decide)]
   exact qKw _ _ _
  exact re st hE (S207) gz.next ⟨gz,by rw [<- l9];exact(sS207.grew (st.inn.kept.grew (Nat.le_refl _))),fr209⟩
theorem bB (s a b c:ON):∃ p0 p1 p2 d:Int,zQ s a b c=([.int .i32 p0,.int .i32 p1,.int .i32 p2],d):=by
 unfold zQ
 repeat' split
 all_goals exact⟨_,_,_,_,rfl⟩
def φ2:Nat->List AV->AV:=fun g vs=>if g=2 then (match vs with
 | [.flt .f64 x]=>.flt .f64 (qGL x)
 | _=>.undef) else .undef
theorem qOs (H:AHeap) (x:ON):qR Try.prog 107 [.flt .f64 x] H (.flt .f64 (qGL x)):=qOS Try.func107 kr kr kr kr x
def ap2:List (Nat × Nat × List Kd × Kd):=[(82,0,[.flt .f32],.bits),(107,2,[.f64n],.f64n)]
theorem qOa:qCk Try.prog φ2 ap2:=.bits (fun x H _=>qEJ H x) (.app (fun vs H h=>by
 cases h with | cons h1 h2 =>
 cases h2
 obtain⟨x,rfl,hx⟩:=h1
 exact⟨qOs H x,qON ⟨x,rfl,hx⟩⟩) .nil)
def KV:List Kd:=[.flt .f32,.flt .f32,.flt .f32]
theorem qHA (m v:List AV) (h:KdsL KM m/\KdsL KV v):∃ r:ON,fOk .f32 r/\(∀ H,qR Try.prog 86 [.agg m,.agg v] H (.flt .f32 r)) /\ ∀ (H:AHeap) (l off:Nat) (pre post:List AV) (wr:Bool),H.get l=some (.row (pre ++ (m ++ post)) wr)->pre.length=off->qR Try.prog 84 [.ptr l off,.agg v] H (.flt .f32 r):=by
 obtain⟨r,h1,_,h2,h3⟩:=qIU (φ:=φ2) 20 (sh:=.k (.flt .f32)) (f:=86) (g:=84) qU qOa h.1 h.2 (by decide) (by decide) kr
 cases h1 with
 | k h1 =>
  obtain⟨x,rfl,hx⟩:=h1
  exact⟨x,hx,h2,h3⟩
open Classical in
noncomputable def jO (v m:List AV):ON:=if h:KdsL KM m/\KdsL KV v then Classical.choose (qHA m v h) else none
theorem qEt (v m:List AV):fOk .f32 (jO v m):=by
 unfold jO
 split
 ·rename_i h;exact(Classical.choose_spec (qHA m v h)).1
 ·intro b hb;cases hb
theorem qPi (m v:List AV) (h:KdsL KM m) (hv:KdsL KV v) (H:AHeap):qR Try.prog 86 [.agg m,.agg v] H (.flt .f32 (jO v m)):=by
 unfold jO;rw [dif_pos ⟨h,hv⟩];exact(Classical.choose_spec (qHA m v ⟨h,hv⟩)).2.1 H
theorem qJW (m v:List AV) (h:KdsL KM m) (hv:KdsL KV v) {H:AHeap} {l off:Nat} {pre post:List AV} {wr:Bool} (hg:H.get l=some (.row (pre ++ (m ++ post)) wr)) (hp:pre.length=off):qR Try.prog 84 [.ptr l off,.agg v] H (.flt .f32 (jO v m)):=by
 unfold jO;rw [dif_pos ⟨h,hv⟩];exact(Classical.choose_spec (qHA m v ⟨h,hv⟩)).2.2 H l off pre post wr hg hp
end Go.Proofs.Ytacligocjfhckaa
