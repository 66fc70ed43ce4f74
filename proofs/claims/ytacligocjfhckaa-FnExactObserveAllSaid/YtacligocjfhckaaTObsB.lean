/- Contracts: the nearest mark, by both. -/
import Derived.Test.YtacligocjfhckaaTWithinB
import Derived.Test.YtacligocjfhckaaTCell
import Derived.Test.YtacligocjfhckaaSxE
set_option linter.unusedVariables false
set_option linter.unusedSimpArgs false
namespace Go.Proofs.Ytacligocjfhckaa
open Go.Ab
set_option maxRecDepth 100000
set_option maxHeartbeats 1000000
attribute [local irreducible] Res
theorem qMZ (m m' : List AV) (h:KdsL K3 m/\KdsL K3 m'):∃ b:Bool,∀ H,qR Try.prog 87 [.agg m,.agg m'] H (.bool b)/\qR Try.prog 83 [.agg m,.agg m'] H (.bool b):=by
 obtain⟨b,h2⟩:=qIT (φ:=φ0) (pm:=pm) 20 (f:=83) (g:=87) rfl rfl qU qM (gk:=[(true,K3),(true,K3)]) (gv:=[(true,m),(true,m')]) (.cons h.1 (.cons h.2 .nil)) (by decide) kr
 exact⟨b,fun H=>⟨(h2 H).2,(h2 H).1⟩⟩
open Classical in
noncomputable def qFm (m m' : List AV):Bool:=if h:KdsL K3 m/\KdsL K3 m' then Classical.choose (qMZ m m' h) else false
theorem qJT (m m' : List AV) (h:KdsL K3 m) (h' : KdsL K3 m') (H:AHeap):qR Try.prog 87 [.agg m,.agg m'] H (.bool (qFm m m')):=by
 unfold qFm;rw [dif_pos ⟨h,h'⟩];exact(Classical.choose_spec (qMZ m m' ⟨h,h'⟩) H).1
theorem qGT (m m' : List AV) (h:KdsL K3 m) (h' : KdsL K3 m') (H:AHeap):qR Try.prog 83 [.agg m,.agg m'] H (.bool (qFm m m')):=by
 unfold qFm;rw [dif_pos ⟨h,h'⟩];exact(Classical.choose_spec (qMZ m m' ⟨h,h'⟩) H).2
def pJ (a b:ON):Bool:=qO .f32 a b == some .lt || qO .f32 a b == some .eq
noncomputable def dF (v:List AV) (g:ON) (c:List AV) (s:Int × ON) (i:Nat) (L:List AV):Int × ON:=
 if qFm (L.take 3) c=true then (if pJ (jO v L) g=true then (if s.1 < 0 then ((i:Int),jO v L) else if (qO .f32 (jO v L) s.2 == some .lt)=true then ((i:Int),jO v L) else s) else s) else s
noncomputable def zF (v:List AV) (g:ON) (c:List AV) (ms:LL):Nat->Int × ON
 | 0=>(-1,some 0)
 | k+1=>dF v g c (zF v g c ms k) k (ms.getD k [])
theorem qAO (v:List AV) (g:ON) (c:List AV) (ms:LL):∀ k,fOk .f32 (zF v g c ms k).2 /\ -1<=(zF v g c ms k).1/\(zF v g c ms k).1 < k
 | 0=>⟨fun b e=>by cases e;exact⟨by decide +kernel,by decide +kernel⟩,Int.le_refl _,by show (-1:Int) < _;omega⟩
 | k+1=>by
  obtain⟨h1,h2,h3⟩:=qAO v g c ms k
  have hs:fOk .f32 (zF v g c ms k).2 /\ -1<=(zF v g c ms k).1/\(zF v g c ms k).1 < ((k+1:Nat):Int):=⟨h1,h2,by omega⟩
  have hn:fOk .f32 ((k:Int),jO v (ms.getD k [])).2 /\ -1<=((k:Int),jO v (ms.getD k [])).1/\((k:Int),jO v (ms.getD k [])).1 < ((k+1:Nat):Int):=⟨qEt _ _,by show (-1:Int)<=k;omega,by show (k:Int) < _;omega⟩
  unfold zF dF
  split
  ·split
   ·split
    ·exact hn
    ·split
     ·exact hn
     ·exact hs
   ·exact hs
  ·exact hs
noncomputable def jH (x:ON) (ms:LL) (a b c g:ON):Int × Int:=
 if pJ (some 0) g=true then (if (zQ x a b c).2=0 then ((zF [.flt .f32 a,.flt .f32 b,.flt .f32 c] g (zQ x a b c).1 ms ms.length).1,0) else (-1,(zQ x a b c).2)) else (-1,2)
noncomputable def qEQ (x:ON) (ms:LL) (a b c g:ON):Int × Int:=
 if (jH x ms a b c g).2=0 then (if (jH x ms a b c g).1 < 0 then (0,6) else ((jH x ms a b c g).1,0)) else (0,(jH x ms a b c g).2)
theorem qAN (x:ON) (ms:LL) (a b c g:ON):-1<=(jH x ms a b c g).1/\(jH x ms a b c g).1 < ms.length:=by
 unfold jH
 split
 ·split
  ·have:=qAO [.flt .f32 a,.flt .f32 b,.flt .f32 c] g (zQ x a b c).1 ms ms.length
   exact this.2
  ·exact⟨Int.le_refl _,by show (-1:Int) < _;omega⟩
 ·exact⟨Int.le_refl _,by show (-1:Int) < _;omega⟩
theorem qEK (H:AHeap) (x:ON) (hx:fOk .f32 x) (ms:LL) (hr:xJ KM ms) (S:AV) (hS:SlL H 9 ms S) (mxms:ms.length<=1048576) (a b c:ON) (ha:fOk .f32 a) (hb:fOk .f32 b) (hc:fOk .f32 c) (g:ON) (hg:fOk .f32 g):qR Try.prog 70 [.agg [.flt .f32 x,S],.agg [.flt .f32 a,.flt .f32 b,.flt .f32 c],.flt .f32 g] H (.tuple [.int .i64 (qEQ x ms a b c g).1,.int .i64 (qEQ x ms a b c g).2]):=by
 obtain⟨c0,c1,c2,d,hce⟩:=bB x a b c
 have kc1:=fun H=>qEI x a b c hx ha hb hc H
 have kc2:=fun H=>qCW x a b c hx ha hb hc H
 rw [hce] at kc1 kc2
 refine qF dP (by simp) ?_
 have q1:KdsL [KF,.one,KF,KF,KF,KF,K2,K2,K2,KI,KI] [.flt .f32 x,S,.flt .f32 a,.flt .f32 b,.flt .f32 c,.flt .f32 g,.int .i32 c0,.int .i32 c1,.int .i32 c2,.int .i64 d,.int .i64 (ms.length:Int)]:=kL
 refine rD 0 0 [(.call 73 [nF 0,.agg [nF 2,nF 3,nF 4]],.tup [.agg [n2 6,n2 7,n2 8],nI 9]),(.len (n1 1),nI 10)] [] [(0,.agg [nF 0,n1 1]),(1,.agg [nF 2,nF 3,nF 4]),(2,nF 5)] q1 (.cons (qH (args:=[.flt .f32 x,.agg [.flt .f32 a,.flt .f32 b,.flt .f32 c]]) (dL q1) (dE q1) (fun H9 hk=>kc1 H9)) (.cons (⟨_,_,(dE q1),(dE q1),yS hS⟩) .nil)) (.cons (t:=0) rfl (.cons (t:=1) rfl (.cons (t:=2) rfl .nil))) ?_
 refine qFf kr ?_ ?_ ?_
 ·intro vs ls H2 E2 st hE
  have f3:(qO .f32 (some 0) g == some .lt || qO .f32 (some 0) g == some .eq)=false:=bf st 0
  refine rf st hE (.tuple [.int .i64 0,.int .i64 2]) (Grew.trans (Grew.refl _) (gk st)) ?_
  have hI:jH x ms a b c g=((-1:Int),(2:Int)):=by
   unfold jH;rw [if_neg (by unfold pJ;rw [f3];decide)]
  unfold qEQ;rw [hI]
  rfl
 ·intro vs ls H4 E4 st hE
  have f5:¬ (d=0):=df st 0
  have f6:(qO .f32 (some 0) g == some .lt || qO .f32 (some 0) g == some .eq)=true:=bf st 1
  refine rf st hE (.tuple [.int .i64 0,.int .i64 d]) (Grew.trans (Grew.refl _) (gk st)) ?_
  have hI:jH x ms a b c g=((-1:Int),d):=by
   unfold jH;rw [if_pos (show pJ (some 0) g=true from f6),hce];show (if d=0 then _ else _)=_;rw [if_neg f5]
  unfold qEQ;rw [hI]
  show _=AV.tuple [.int .i64 (if d=0 then _ else ((0:Int),d)).1,.int .i64 (if d=0 then _ else ((0:Int),d)).2];rw [if_neg f5]
 ·intro vs ls H7 E7 st hE
  have f8:d=0:=dt st 0
  have f9:(qO .f32 (some 0) g == some .lt || qO .f32 (some 0) g == some .eq)=true:=bf st 1
  obtain⟨p10,e11,r12,n13⟩:=pO st hE 4 1 [.flt .f32 a,.flt .f32 b,.flt .f32 c]
  have op10:H.next<=p10:=Nat.le_trans (Nat.le_refl _) (oM n13)
  obtain⟨p14,e15,r16,n17⟩:=pO st hE 8 2 [.int .i32 c0,.int .i32 c1,.int .i32 c2]
  have op14:H.next<=p14:=Nat.le_trans (Nat.le_refl _) (oM n17)
  have ne18:=pn st hE 4 1 8 2 [.nd 2 (.flt .f32),.nd 3 (.flt .f32),.nd 4 (.flt .f32)] e11 e15
  have b19:=eo st hE 31 (.int .i64 0)
  have b20:=eo st hE 30 (.int .i64 (ms.length:Int))
  have b21:=eo st hE 29 S
  have b22:=eo st hE 2 (.flt .f32 g)
  have b23:=eo st hE 10 (.int .i64 (-1))
  have b24:=eo st hE 11 (.flt .f32 (some 0))
  have g25:Grew H H7:=(gk st)
  have g26:Grew H H7:=Grew.trans (Grew.refl _) g25
  refine yH kr (fun z E H'=>∃ (i:Nat),z+i=ms.length/\E 30=.int .i64 (ms.length:Int)/\E 29=S/\E 4=.ptr p10 0/\E 8=.ptr p14 0/\E 2=.flt .f32 g/\E 31=.int .i64 (i:Int)/\E 10=.int .i64 (zF [.flt .f32 a,.flt .f32 b,.flt .f32 c] g [.int .i32 c0,.int .i32 c1,.int .i32 c2] ms i).1/\E 11=.flt .f32 (zF [.flt .f32 a,.flt .f32 b,.flt .f32 c] g [.int .i32 c0,.int .i32 c1,.int .i32 c2] ms i).2/\Grew H H'/\H'.get p10=some (.row [.flt .f32 a,.flt .f32 b,.flt .f32 c] true)/\H'.get p14=some (.row [.int .i32 c0,.int .i32 c1,.int .i32 c2] true)) (ms.length) ⟨0,by omega,b20,b21,e11,e15,b22,b19,b23,b24,g26,r12,r16⟩ ?_
  rintro z27 Ei27 Hi27 ⟨i27,hz27,c27_30,c27_29,c27_4,c27_8,c27_2,ci27,cv27_10,cv27_11,gt27,r27_0,r27_1⟩
  have q28:=q1.app (.cons kA (.cons kA (.cons ⟨_,rfl,(qAO [.flt .f32 a,.flt .f32 b,.flt .f32 c] g [.int .i32 c0,.int .i32 c1,.int .i32 c2] ms i27).1⟩ .nil)):KdsL [KI,KI,KF] [.int .i64 (i27:Int),.int .i64 (zF [.flt .f32 a,.flt .f32 b,.flt .f32 c] g [.int .i32 c0,.int .i32 c1,.int .i32 c2] ms i27).1,.flt .f32 (zF [.flt .f32 a,.flt .f32 b,.flt .f32 c] g [.int .i32 c0,.int .i32 c1,.int .i32 c2] ms i27).2])
  refine rC 2 0 [wf p10 [nF 2,nF 3,nF 4],wf p14 [n2 6,n2 7,n2 8]] [(30,nI 10),(29,n1 1),(4,.ptr 0 0),(8,.ptr 1 0),(2,nF 5),(31,nI 11),(10,nI 12),(11,nF 13)] q28 (.cons c27_30 (.cons c27_29 (.cons c27_4 (.cons c27_8 (.cons c27_2 (.cons ci27 (.cons cv27_10 (.cons cv27_11 .nil)))))))) ?_
  refine dB kr ?_ ?_
  ·intro vs ls H29 E29 st hE
   have f30:(i27:Int) < (ms.length:Int):=dt st 0
   have B1:=es st hE [(29,S),(31,.int .i64 (i27:Int)),(33,.int .i64 (i27:Int)),(4,.ptr p10 0),(8,.ptr p14 0),(2,.flt .f32 g),(10,.int .i64 (zF [.flt .f32 a,.flt .f32 b,.flt .f32 c] g [.int .i32 c0,.int .i32 c1,.int .i32 c2] ms i27).1),(11,.flt .f32 (zF [.flt .f32 a,.flt .f32 b,.flt .f32 c] g [.int .i32 c0,.int .i32 c1,.int .i32 c2] ms i27).2),(30,.int .i64 (ms.length:Int))]
   have g40:Grew Hi27 H29:=(gk st)
   have g41:=Grew.trans gt27 g40
   have r42:=g40.at r27_0
   have r43:=g40.at r27_1
   have hlt44:i27 < ms.length:=by omega
   obtain⟨lS44,cap44,rest44,wr44,eS44,gB44⟩:=hS.isSl hlt44
   have gS44:=g41.at gB44
   have ne45:=apn gB44 op10
   have ne46:=apn gB44 op14
   obtain⟨v44_0,v44_1,v44_2,v44_3,v44_4,v44_5,v44_6,v44_7,v44_8,hm44,ho44_3,ho44_4,ho44_5,ho44_6⟩:=zZ (hr.get hlt44)
   have he44:ms.getD i27 []=[.int .i32 v44_0,.int .i32 v44_1,.int .i32 v44_2,.flt .f32 v44_3,.flt .f32 v44_4,.flt .f32 v44_5,.flt .f32 v44_6,.int .i64 v44_7,.int .i64 v44_8]:=by rw [<- hm44,List.getD_eq_getElem?_getD,List.getElem?_eq_getElem hlt44];rfl
   have q47:=q28.app (.cons kA (.cons kA (.cons kA (.cons (kF ho44_3) (.cons (kF ho44_4) (.cons (kF ho44_5) (.cons (kF ho44_6) (.cons kA (.cons kA (.cons ⟨_,rfl,qEt _ _⟩ (.cons kA .nil)))))))))):KdsL [K2,K2,K2,KF,KF,KF,KF,KI,KI,KF,.bool] [.int .i32 v44_0,.int .i32 v44_1,.int .i32 v44_2,.flt .f32 v44_3,.flt .f32 v44_4,.flt .f32 v44_5,.flt .f32 v44_6,.int .i64 v44_7,.int .i64 v44_8,.flt .f32 (jO [.flt .f32 a,.flt .f32 b,.flt .f32 c] [.int .i32 v44_0,.int .i32 v44_1,.int .i32 v44_2,.flt .f32 v44_3,.flt .f32 v44_4,.flt .f32 v44_5,.flt .f32 v44_6,.int .i64 v44_7,.int .i64 v44_8]),.bool (qFm [.int .i32 v44_0,.int .i32 v44_1,.int .i32 v44_2] [.int .i32 c0,.int .i32 c1,.int .i32 c2])])
   refine qL (φ:=φ0) (pm:=pmR 3 [(.ia 9 (n1 1) (nI 11),.ptr 2 0),(.call 86 [.agg [n2 14,n2 15,n2 16,nF 17,nF 18,nF 19,nF 20,nI 21,nI 22],.agg [nF 2,nF 3,nF 4]],nF 23),(.call 87 [.agg [n2 14,n2 15,n2 16],.agg [n2 6,n2 7,n2 8]],nB 24)] 0) 20 (ws:=[wf p10 [nF 2,nF 3,nF 4],wf p14 [n2 6,n2 7,n2 8],⟨lS44,(i27 * 9),[n2 14,n2 15,n2 16,nF 17,nF 18,nF 19,nF 20,nI 21,nI 22],false⟩]) (env:=[(29,n1 1),(31,nI 11),(33,nI 11),(4,.ptr 0 0),(8,.ptr 1 0),(2,nF 5),(10,nI 12),(11,nF 13),(30,nI 10)]) q47 (.cons (wR r42 q47) (.cons (wR r43 q47) (.cons (zV hr gS44 hlt44 rfl (by rw [hm44];exact(dL q47))) .nil))) (qI rfl) (.cons (bA (k:=i27) (dE q47) eS44 (dE q47) hlt44 rfl) (.cons (qH (args:=[.agg [.int .i32 v44_0,.int .i32 v44_1,.int .i32 v44_2,.flt .f32 v44_3,.flt .f32 v44_4,.flt .f32 v44_5,.flt .f32 v44_6,.int .i64 v44_7,.int .i64 v44_8],.agg [.flt .f32 a,.flt .f32 b,.flt .f32 c]]) (dL q47) (dE q47) (fun H9 hk=>qPi [.int .i32 v44_0,.int .i32 v44_1,.int .i32 v44_2,.flt .f32 v44_3,.flt .f32 v44_4,.flt .f32 v44_5,.flt .f32 v44_6,.int .i64 v44_7,.int .i64 v44_8] [.flt .f32 a,.flt .f32 b,.flt .f32 c] (.cons kA (.cons kA (.cons kA (.cons (kF ho44_3) (.cons (kF ho44_4) (.cons (kF ho44_5) (.cons (kF ho44_6) (.cons kA (.cons kA .nil))))))))) (.cons (kF ha) (.cons (kF hb) (.cons (kF hc) .nil))) H9)) (.cons (qH (args:=[.agg [.int .i32 v44_0,.int .i32 v44_1,.int .i32 v44_2],.agg [.int .i32 c0,.int .i32 c1,.int .i32 c2]]) (dL q47) (dE q47) (fun H9 hk=>qJT [.int .i32 v44_0,.int .i32 v44_1,.int .i32 v44_2] [.int .i32 c0,.int .i32 c1,.int .i32 c2] (.cons kA (.cons kA (.cons kA .nil))) (.cons kA (.cons kA (.cons kA .nil))) H9)) .nil))) (eC q47 B1) qU qM ?_
   refine qNY kr ?_ ?_ ?_ ?_ ?_
   ·intro vs ls H48 E48 st hE
    have f49:(zF [.flt .f32 a,.flt .f32 b,.flt .f32 c] g [.int .i32 c0,.int .i32 c1,.int .i32 c2] ms i27).1 < 0:=dt st 0
    have f50:(qO .f32 (jO [.flt .f32 a,.flt .f32 b,.flt .f32 c] [.int .i32 v44_0,.int .i32 v44_1,.int .i32 v44_2,.flt .f32 v44_3,.flt .f32 v44_4,.flt .f32 v44_5,.flt .f32 v44_6,.int .i64 v44_7,.int .i64 v44_8]) g == some .lt || qO .f32 (jO [.flt .f32 a,.flt .f32 b,.flt .f32 c] [.int .i32 v44_0,.int .i32 v44_1,.int .i32 v44_2,.flt .f32 v44_3,.flt .f32 v44_4,.flt .f32 v44_5,.flt .f32 v44_6,.int .i64 v44_7,.int .i64 v44_8]) g == some .eq)=true:=bf st 1
    have f51:(qFm [.int .i32 v44_0,.int .i32 v44_1,.int .i32 v44_2] [.int .i32 c0,.int .i32 c1,.int .i32 c2])=true:=bf st 2
    obtain⟨w52,hw52⟩:∃ z,z=(IntKind.wrap .i64 ((i27:Int)+1)):=⟨_,rfl⟩
    have b53:E48 31=.int .i64 w52:=by rw [hw52];exact eo st hE 31 _
    have b54:=eo st hE 30 (.int .i64 (ms.length:Int))
    have b55:=eo st hE 29 S
    have b56:=eo st hE 4 (.ptr p10 0)
    have b57:=eo st hE 8 (.ptr p14 0)
    have b58:=eo st hE 2 (.flt .f32 g)
    have b59:=eo st hE 10 (.int .i64 (i27:Int))
    have b60:=eo st hE 11 (.flt .f32 (jO [.flt .f32 a,.flt .f32 b,.flt .f32 c] [.int .i32 v44_0,.int .i32 v44_1,.int .i32 v44_2,.flt .f32 v44_3,.flt .f32 v44_4,.flt .f32 v44_5,.flt .f32 v44_6,.int .i64 v44_7,.int .i64 v44_8]))
    have g61:Grew H29 H48:=(gk st)
    have g62:=Grew.trans g41 g61
    have r63:=g61.at r42
    have r64:=g61.at r43
    have hz9:z27 - 1 < z27:=by omega
    have hy9:z27 - 1+(i27+1)=ms.length:=by omega
    have hi9:E48 31=.int .i64 ((i27+1:Nat):Int):=by rw [b53,hw52,wrap64 om]
    have hn9:zF [.flt .f32 a,.flt .f32 b,.flt .f32 c] g [.int .i32 c0,.int .i32 c1,.int .i32 c2] ms (i27+1)=((i27:Int),(jO [.flt .f32 a,.flt .f32 b,.flt .f32 c] [.int .i32 v44_0,.int .i32 v44_1,.int .i32 v44_2,.flt .f32 v44_3,.flt .f32 v44_4,.flt .f32 v44_5,.flt .f32 v44_6,.int .i64 v44_7,.int .i64 v44_8])):=by
     show dF _ _ _ _ _ _=_;unfold dF;rw [he44,show List.take 3 ([.int .i32 v44_0,.int .i32 v44_1,.int .i32 v44_2,.flt .f32 v44_3,.flt .f32 v44_4,.flt .f32 v44_5,.flt .f32 v44_6,.int .i64 v44_7,.int .i64 v44_8]:List AV)=[.int .i32 v44_0,.int .i32 v44_1,.int .i32 v44_2] from rfl,if_pos f51,if_pos (show pJ (jO [.flt .f32 a,.flt .f32 b,.flt .f32 c] [.int .i32 v44_0,.int .i32 v44_1,.int .i32 v44_2,.flt .f32 v44_3,.flt .f32 v44_4,.flt .f32 v44_5,.flt .f32 v44_6,.int .i64 v44_7,.int .i64 v44_8]) g=true from f50),if_pos f49]
    exact jV kr ⟨z27 - 1,hz9,i27+1,hy9,b54,b55,b56,b57,b58,hi9,(by rw [hn9];exact b59),(by rw [hn9];exact b60),g62,r63,r64⟩
   ·intro vs ls H66 E66 st hE
    have f67:(qO .f32 (jO [.flt .f32 a,.flt .f32 b,.flt .f32 c] [.int .i32 v44_0,.int .i32 v44_1,.int .i32 v44_2,.flt .f32 v44_3,.flt .f32 v44_4,.flt .f32 v44_5,.flt .f32 v44_6,.int .i64 v44_7,.int .i64 v44_8]) (zF [.flt .f32 a,.flt .f32 b,.flt .f32 c] g [.int .i32 c0,.int .i32 c1,.int .i32 c2] ms i27).2 == some .lt)=true:=bf st 0
    have f68:¬ ((zF [.flt .f32 a,.flt .f32 b,.flt .f32 c] g [.int .i32 c0,.int .i32 c1,.int .i32 c2] ms i27).1 < 0):=df st 1
    have f69:(qO .f32 (jO [.flt .f32 a,.flt .f32 b,.flt .f32 c] [.int .i32 v44_0,.int .i32 v44_1,.int .i32 v44_2,.flt .f32 v44_3,.flt .f32 v44_4,.flt .f32 v44_5,.flt .f32 v44_6,.int .i64 v44_7,.int .i64 v44_8]) g == some .lt || qO .f32 (jO [.flt .f32 a,.flt .f32 b,.flt .f32 c] [.int .i32 v44_0,.int .i32 v44_1,.int .i32 v44_2,.flt .f32 v44_3,.flt .f32 v44_4,.flt .f32 v44_5,.flt .f32 v44_6,.int .i64 v44_7,.int .i64 v44_8]) g == some .eq)=true:=bf st 2
    have f70:(qFm [.int .i32 v44_0,.int .i32 v44_1,.int .i32 v44_2] [.int .i32 c0,.int .i32 c1,.int .i32 c2])=true:=bf st 3
    obtain⟨w71,hw71⟩:∃ z,z=(IntKind.wrap .i64 ((i27:Int)+1)):=⟨_,rfl⟩
    have b72:E66 31=.int .i64 w71:=by rw [hw71];exact eo st hE 31 _
    have b73:=eo st hE 30 (.int .i64 (ms.length:Int))
    have b74:=eo st hE 29 S
    have b75:=eo st hE 4 (.ptr p10 0)
    have b76:=eo st hE 8 (.ptr p14 0)
    have b77:=eo st hE 2 (.flt .f32 g)
    have b78:=eo st hE 10 (.int .i64 (i27:Int))
    have b79:=eo st hE 11 (.flt .f32 (jO [.flt .f32 a,.flt .f32 b,.flt .f32 c] [.int .i32 v44_0,.int .i32 v44_1,.int .i32 v44_2,.flt .f32 v44_3,.flt .f32 v44_4,.flt .f32 v44_5,.flt .f32 v44_6,.int .i64 v44_7,.int .i64 v44_8]))
    have g80:Grew H29 H66:=(gk st)
    have g81:=Grew.trans g41 g80
    have r82:=g80.at r42
    have r83:=g80.at r43
    have hz9:z27 - 1 < z27:=by omega
    have hy9:z27 - 1+(i27+1)=ms.length:=by omega
    have hi9:E66 31=.int .i64 ((i27+1:Nat):Int):=by rw [b72,hw71,wrap64 om]
    have hn9:zF [.flt .f32 a,.flt .f32 b,.flt .f32 c] g [.int .i32 c0,.int .i32 c1,.int .i32 c2] ms (i27+1)=((i27:Int),(jO [.flt .f32 a,.flt .f32 b,.flt .f32 c] [.int .i32 v44_0,.int .i32 v44_1,.int .i32 v44_2,.flt .f32 v44_3,.flt .f32 v44_4,.flt .f32 v44_5,.flt .f32 v44_6,.int .i64 v44_7,.int .i64 v44_8])):=by
     show dF _ _ _ _ _ _=_;unfold dF;rw [he44,show List.take 3 ([.int .i32 v44_0,.int .i32 v44_1,.int .i32 v44_2,.flt .f32 v44_3,.flt .f32 v44_4,.flt .f32 v44_5,.flt .f32 v44_6,.int .i64 v44_7,.int .i64 v44_8]:List AV)=[.int .i32 v44_0,.int .i32 v44_1,.int .i32 v44_2] from rfl,if_pos f70,if_pos (show pJ (jO [.flt .f32 a,.flt .f32 b,.flt .f32 c] [.int .i32 v44_0,.int .i32 v44_1,.int .i32 v44_2,.flt .f32 v44_3,.flt .f32 v44_4,.flt .f32 v44_5,.flt .f32 v44_6,.int .i64 v44_7,.int .i64 v44_8]) g=true from f69),if_neg f68,if_pos f67]
    exact jV kr ⟨z27 - 1,hz9,i27+1,hy9,b73,b74,b75,b76,b77,hi9,(by rw [hn9];exact b78),(by rw [hn9];exact b79),g81,r82,r83⟩
   ·intro vs ls H85 E85 st hE
    have f86:(qO .f32 (jO [.flt .f32 a,.flt .f32 b,.flt .f32 c] [.int .i32 v44_0,.int .i32 v44_1,.int .i32 v44_2,.flt .f32 v44_3,.flt .f32 v44_4,.flt .f32 v44_5,.flt .f32 v44_6,.int .i64 v44_7,.int .i64 v44_8]) (zF [.flt .f32 a,.flt .f32 b,.flt .f32 c] g [.int .i32 c0,.int .i32 c1,.int .i32 c2] ms i27).2 == some .lt)=false:=bf st 0
    have f87:¬ ((zF [.flt .f32 a,.flt .f32 b,.flt .f32 c] g [.int .i32 c0,.int .i32 c1,.int .i32 c2] ms i27).1 < 0):=df st 1
    have f88:(qO .f32 (jO [.flt .f32 a,.flt .f32 b,.flt .f32 c] [.int .i32 v44_0,.int .i32 v44_1,.int .i32 v44_2,.flt .f32 v44_3,.flt .f32 v44_4,.flt .f32 v44_5,.flt .f32 v44_6,.int .i64 v44_7,.int .i64 v44_8]) g == some .lt || qO .f32 (jO [.flt .f32 a,.flt .f32 b,.flt .f32 c] [.int .i32 v44_0,.int .i32 v44_1,.int .i32 v44_2,.flt .f32 v44_3,.flt .f32 v44_4,.flt .f32 v44_5,.flt .f32 v44_6,.int .i64 v44_7,.int .i64 v44_8]) g == some .eq)=true:=bf st 2
    have f89:(qFm [.int .i32 v44_0,.int .i32 v44_1,.int .i32 v44_2] [.int .i32 c0,.int .i32 c1,.int .i32 c2])=true:=bf st 3
    obtain⟨w90,hw90⟩:∃ z,z=(IntKind.wrap .i64 ((i27:Int)+1)):=⟨_,rfl⟩
    have b91:E85 31=.int .i64 w90:=by rw [hw90];exact eo st hE 31 _
    have b92:=eo st hE 30 (.int .i64 (ms.length:Int))
    have b93:=eo st hE 29 S
    have b94:=eo st hE 4 (.ptr p10 0)
    have b95:=eo st hE 8 (.ptr p14 0)
    have b96:=eo st hE 2 (.flt .f32 g)
    have b97:=eo st hE 10 (.int .i64 (zF [.flt .f32 a,.flt .f32 b,.flt .f32 c] g [.int .i32 c0,.int .i32 c1,.int .i32 c2] ms i27).1)
    have b98:=eo st hE 11 (.flt .f32 (zF [.flt .f32 a,.flt .f32 b,.flt .f32 c] g [.int .i32 c0,.int .i32 c1,.int .i32 c2] ms i27).2)
    have g99:Grew H29 H85:=(gk st)
    have g100:=Grew.trans g41 g99
    have r101:=g99.at r42
    have r102:=g99.at r43
    have hz9:z27 - 1 < z27:=by omega
    have hy9:z27 - 1+(i27+1)=ms.length:=by omega
    have hi9:E85 31=.int .i64 ((i27+1:Nat):Int):=by rw [b91,hw90,wrap64 om]
    have hn9:zF [.flt .f32 a,.flt .f32 b,.flt .f32 c] g [.int .i32 c0,.int .i32 c1,.int .i32 c2] ms (i27+1)=(zF [.flt .f32 a,.flt .f32 b,.flt .f32 c] g [.int .i32 c0,.int .i32 c1,.int .i32 c2] ms i27):=by
     show dF _ _ _ _ _ _=_;unfold dF;rw [he44,show List.take 3 ([.int .i32 v44_0,.int .i32 v44_1,.int .i32 v44_2,.flt .f32 v44_3,.flt .f32 v44_4,.flt .f32 v44_5,.flt .f32 v44_6,.int .i64 v44_7,.int .i64 v44_8]:List AV)=[.int .i32 v44_0,.int .i32 v44_1,.int .i32 v44_2] from rfl,if_pos f89,if_pos (show pJ (jO [.flt .f32 a,.flt .f32 b,.flt .f32 c] [.int .i32 v44_0,.int .i32 v44_1,.int .i32 v44_2,.flt .f32 v44_3,.flt .f32 v44_4,.flt .f32 v44_5,.flt .f32 v44_6,.int .i64 v44_7,.int .i64 v44_8]) g=true from f88),if_neg f87,if_neg (by rw [f86];decide)]
    exact jV kr ⟨z27 - 1,hz9,i27+1,hy9,b92,b93,b94,b95,b96,hi9,(by rw [hn9];exact b97),(by rw [hn9];exact b98),g100,r101,r102⟩
   ·intro vs ls H104 E104 st hE
    have f105:(qO .f32 (jO [.flt .f32 a,.flt .f32 b,.flt .f32 c] [.int .i32 v44_0,.int .i32 v44_1,.int .i32 v44_2,.flt .f32 v44_3,.flt .f32 v44_4,.flt .f32 v44_5,.flt .f32 v44_6,.int .i64 v44_7,.int .i64 v44_8]) g == some .lt || qO .f32 (jO [.flt .f32 a,.flt .f32 b,.flt .f32 c] [.int .i32 v44_0,.int .i32 v44_1,.int .i32 v44_2,.flt .f32 v44_3,.flt .f32 v44_4,.flt .f32 v44_5,.flt .f32 v44_6,.int .i64 v44_7,.int .i64 v44_8]) g == some .eq)=false:=bf st 0
    have f106:(qFm [.int .i32 v44_0,.int .i32 v44_1,.int .i32 v44_2] [.int .i32 c0,.int .i32 c1,.int .i32 c2])=true:=bf st 1
    obtain⟨w107,hw107⟩:∃ z,z=(IntKind.wrap .i64 ((i27:Int)+1)):=⟨_,rfl⟩
    have b108:E104 31=.int .i64 w107:=by rw [hw107];exact eo st hE 31 _
    have b109:=eo st hE 30 (.int .i64 (ms.length:Int))
    have b110:=eo st hE 29 S
    have b111:=eo st hE 4 (.ptr p10 0)
    have b112:=eo st hE 8 (.ptr p14 0)
    have b113:=eo st hE 2 (.flt .f32 g)
    have b114:=eo st hE 10 (.int .i64 (zF [.flt .f32 a,.flt .f32 b,.flt .f32 c] g [.int .i32 c0,.int .i32 c1,.int .i32 c2] ms i27).1)
    have b115:=eo st hE 11 (.flt .f32 (zF [.flt .f32 a,.flt .f32 b,.flt .f32 c] g [.int .i32 c0,.int .i32 c1,.int .i32 c2] ms i27).2)
    have g116:Grew H29 H104:=(gk st)
    have g117:=Grew.trans g41 g116
    have r118:=g116.at r42
    have r119:=g116.at r43
    have hz9:z27 - 1 < z27:=by omega
    have hy9:z27 - 1+(i27+1)=ms.length:=by omega
    have hi9:E104 31=.int .i64 ((i27+1:Nat):Int):=by rw [b108,hw107,wrap64 om]
    have hn9:zF [.flt .f32 a,.flt .f32 b,.flt .f32 c] g [.int .i32 c0,.int .i32 c1,.int .i32 c2] ms (i27+1)=(zF [.flt .f32 a,.flt .f32 b,.flt .f32 c] g [.int .i32 c0,.int .i32 c1,.int .i32 c2] ms i27):=by
     show dF _ _ _ _ _ _=_;unfold dF;rw [he44,show List.take 3 ([.int .i32 v44_0,.int .i32 v44_1,.int .i32 v44_2,.flt .f32 v44_3,.flt .f32 v44_4,.flt .f32 v44_5,.flt .f32 v44_6,.int .i64 v44_7,.int .i64 v44_8]:List AV)=[.int .i32 v44_0,.int .i32 v44_1,.int .i32 v44_2] from rfl,if_pos f106,if_neg (by unfold pJ;rw [f105];decide)]
    exact jV kr ⟨z27 - 1,hz9,i27+1,hy9,b109,b110,b111,b112,b113,hi9,(by rw [hn9];exact b114),(by rw [hn9];exact b115),g117,r118,r119⟩
   ·intro vs ls H121 E121 st hE
    have f122:(qFm [.int .i32 v44_0,.int .i32 v44_1,.int .i32 v44_2] [.int .i32 c0,.int .i32 c1,.int .i32 c2])=false:=bf st 0
    obtain⟨w123,hw123⟩:∃ z,z=(IntKind.wrap .i64 ((i27:Int)+1)):=⟨_,rfl⟩
    have b124:E121 31=.int .i64 w123:=by rw [hw123];exact eo st hE 31 _
    have b125:=eo st hE 30 (.int .i64 (ms.length:Int))
    have b126:=eo st hE 29 S
    have b127:=eo st hE 4 (.ptr p10 0)
    have b128:=eo st hE 8 (.ptr p14 0)
    have b129:=eo st hE 2 (.flt .f32 g)
    have b130:=eo st hE 10 (.int .i64 (zF [.flt .f32 a,.flt .f32 b,.flt .f32 c] g [.int .i32 c0,.int .i32 c1,.int .i32 c2] ms i27).1)
    have b131:=eo st hE 11 (.flt .f32 (zF [.flt .f32 a,.flt .f32 b,.flt .f32 c] g [.int .i32 c0,.int .i32 c1,.int .i32 c2] ms i27).2)
    have g132:Grew H29 H121:=(gk st)
    have g133:=Grew.trans g41 g132
    have r134:=g132.at r42
    have r135:=g132.at r43
    have hz9:z27 - 1 < z27:=by omega
    have hy9:z27 - 1+(i27+1)=ms.length:=by omega
    have hi9:E121 31=.int .i64 ((i27+1:Nat):Int):=by rw [b124,hw123,wrap64 om]
    have hn9:zF [.flt .f32 a,.flt .f32 b,.flt .f32 c] g [.int .i32 c0,.int .i32 c1,.int .i32 c2] ms (i27+1)=(zF [.flt .f32 a,.flt .f32 b,.flt .f32 c] g [.int .i32 c0,.int .i32 c1,.int .i32 c2] ms i27):=by
     show dF _ _ _ _ _ _=_;unfold dF;rw [he44,show List.take 3 ([.int .i32 v44_0,.int .i32 v44_1,.int .i32 v44_2,.flt .f32 v44_3,.flt .f32 v44_4,.flt .f32 v44_5,.flt .f32 v44_6,.int .i64 v44_7,.int .i64 v44_8]:List AV)=[.int .i32 v44_0,.int .i32 v44_1,.int .i32 v44_2] from rfl,if_neg (by rw [f122];decide)]
    exact jV kr ⟨z27 - 1,hz9,i27+1,hy9,b125,b126,b127,b128,b129,hi9,(by rw [hn9];exact b130),(by rw [hn9];exact b131),g133,r134,r135⟩
  ·intro vs ls H137 E137 st hE
   have f138:¬ ((i27:Int) < (ms.length:Int)):=df st 0
   obtain⟨w141,hw141⟩:∃ z,z=(decide ((i27:Int) < (ms.length:Int))):=⟨_,rfl⟩
   have b142:E137 32=.bool w141:=by rw [hw141];exact eo st hE 32 _
   have B2:=es st hE [(31,.int .i64 (i27:Int)),(30,.int .i64 (ms.length:Int)),(29,S),(4,.ptr p10 0),(8,.ptr p14 0),(2,.flt .f32 g),(10,.int .i64 (zF [.flt .f32 a,.flt .f32 b,.flt .f32 c] g [.int .i32 c0,.int .i32 c1,.int .i32 c2] ms i27).1),(11,.flt .f32 (zF [.flt .f32 a,.flt .f32 b,.flt .f32 c] g [.int .i32 c0,.int .i32 c1,.int .i32 c2] ms i27).2)]
   have g149:Grew Hi27 H137:=(gk st)
   have g150:=Grew.trans gt27 g149
   have r151:=g149.at r27_0
   have r152:=g149.at r27_1
   refine xL (id:=0) kr ?_
   have q153:=q28.app (kL:KdsL [.bool] [.bool w141])
   refine rC 2 0 [wf p10 [nF 2,nF 3,nF 4],wf p14 [n2 6,n2 7,n2 8]] [(31,nI 11),(30,nI 10),(29,n1 1),(4,.ptr 0 0),(8,.ptr 1 0),(2,nF 5),(10,nI 12),(11,nF 13),(32,nB 14)] q153 (sc B2 (.cons b142 .nil)) ?_
   refine dB kr ?_ ?_
   ·intro vs ls H154 E154 st hE
    have f155:(zF [.flt .f32 a,.flt .f32 b,.flt .f32 c] g [.int .i32 c0,.int .i32 c1,.int .i32 c2] ms i27).1 < 0:=dt st 0
    refine rf st hE (.tuple [.int .i64 0,.int .i64 6]) (Grew.trans g150 (gk st)) ?_
    have hI:jH x ms a b c g=((zF [.flt .f32 a,.flt .f32 b,.flt .f32 c] g [.int .i32 c0,.int .i32 c1,.int .i32 c2] ms ms.length).1,(0:Int)):=by
     unfold jH;rw [if_pos (show pJ (some 0) g=true from f9),hce];show (if d=0 then _ else _)=_;rw [if_pos f8]
    rw [show ms.length=i27 by omega] at hI
    unfold qEQ;rw [hI]
    show _=AV.tuple [.int .i64 (if (0:Int)=0 then (if (zF [.flt .f32 a,.flt .f32 b,.flt .f32 c] g [.int .i32 c0,.int .i32 c1,.int .i32 c2] ms i27).1 < 0 then ((0:Int),(6:Int)) else ((zF [.flt .f32 a,.flt .f32 b,.flt .f32 c] g [.int .i32 c0,.int .i32 c1,.int .i32 c2] ms i27).1,0)) else (0,0)).1,.int .i64 (if (0:Int)=0 then (if (zF [.flt .f32 a,.flt .f32 b,.flt .f32 c] g [.int .i32 c0,.int .i32 c1,.int .i32 c2] ms i27).1 < 0 then ((0:Int),(6:Int)) else ((zF [.flt .f32 a,.flt .f32 b,.flt .f32 c] g [.int .i32 c0,.int .i32 c1,.int .i32 c2] ms i27).1,0)) else (0,0)).2];rw [if_pos rfl,if_pos f155]
   ·intro vs ls H156 E156 st hE
    have f157:¬ ((zF [.flt .f32 a,.flt .f32 b,.flt .f32 c] g [.int .i32 c0,.int .i32 c1,.int .i32 c2] ms i27).1 < 0):=df st 0
    refine rf st hE (.tuple [.int .i64 (zF [.flt .f32 a,.flt .f32 b,.flt .f32 c] g [.int .i32 c0,.int .i32 c1,.int .i32 c2] ms i27).1,.int .i64 0]) (Grew.trans g150 (gk st)) ?_
    have hI:jH x ms a b c g=((zF [.flt .f32 a,.flt .f32 b,.flt .f32 c] g [.int .i32 c0,.int .i32 c1,.int .i32 c2] ms ms.length).1,(0:Int)):=by
     unfold jH;rw [if_pos (show pJ (some 0) g=true from f9),hce];show (if d=0 then _ else _)=_;rw [if_pos f8]
    rw [show ms.length=i27 by omega] at hI
    unfold qEQ;rw [hI]
    show _=AV.tuple [.int .i64 (if (0:Int)=0 then (if (zF [.flt .f32 a,.flt .f32 b,.flt .f32 c] g [.int .i32 c0,.int .i32 c1,.int .i32 c2] ms i27).1 < 0 then ((0:Int),(6:Int)) else ((zF [.flt .f32 a,.flt .f32 b,.flt .f32 c] g [.int .i32 c0,.int .i32 c1,.int .i32 c2] ms i27).1,0)) else (0,0)).1,.int .i64 (if (0:Int)=0 then (if (zF [.flt .f32 a,.flt .f32 b,.flt .f32 c] g [.int .i32 c0,.int .i32 c1,.int .i32 c2] ms i27).1 < 0 then ((0:Int),(6:Int)) else ((zF [.flt .f32 a,.flt .f32 b,.flt .f32 c] g [.int .i32 c0,.int .i32 c1,.int .i32 c2] ms i27).1,0)) else (0,0)).2];rw [if_pos rfl,if_neg f157]
theorem qFU (H:AHeap) (x:ON) (hx:fOk .f32 x) (ms:LL) (hr:xJ KM ms) (S:AV) (hS:SlL H 9 ms S) (mxms:ms.length<=1048576) (a b c:ON) (ha:fOk .f32 a) (hb:fOk .f32 b) (hc:fOk .f32 c) (g:ON) (hg:fOk .f32 g) (l:Nat) (hl:H.get l=some (.row [.flt .f32 x,S] true)):qR Try.prog 66 [.ptr l 0,.agg [.flt .f32 a,.flt .f32 b,.flt .f32 c],.flt .f32 g] H (.tuple [.int .i64 (jH x ms a b c g).1,.int .i64 (jH x ms a b c g).2]):=by
 obtain⟨c0,c1,c2,d,hce⟩:=bB x a b c
 have kc1:=fun H=>qEI x a b c hx ha hb hc H
 have kc2:=fun H=>qCW x a b c hx ha hb hc H
 rw [hce] at kc1 kc2
 refine qF gV (by simp) ?_
 have q1:KdsL [KF,.one,KF,KF,KF,KF,K2,K2,K2,KI] [.flt .f32 x,S,.flt .f32 a,.flt .f32 b,.flt .f32 c,.flt .f32 g,.int .i32 c0,.int .i32 c1,.int .i32 c2,.int .i64 d]:=kL
 refine qL (φ:=φ0) (pm:=pmR 1 [(.call 69 [nF 0,.agg [nF 2,nF 3,nF 4]],.tup [.agg [n2 6,n2 7,n2 8],nI 9])] 0) 20 (ws:=[wf l [nF 0,n1 1]]) (env:=[(0,.ptr 0 0),(1,.agg [nF 2,nF 3,nF 4]),(2,nF 5)]) q1 (.cons (wR hl q1) .nil) (qI rfl) (.cons (qH (args:=[.flt .f32 x,.agg [.flt .f32 a,.flt .f32 b,.flt .f32 c]]) (dL q1) (dE q1) (fun H9 hk=>kc2 H9)) .nil) (eC q1 (.cons (t:=0) rfl (.cons (t:=1) rfl (.cons (t:=2) rfl .nil)))) qU qM ?_
 refine qMP kr ?_ ?_ ?_ ?_
 ·intro vs ls H2 E2 st hE
  have f3:d=2:=dt st 0
  refine rf st hE (.tuple [.int .i64 (-1),.int .i64 2]) (Grew.trans (Grew.refl _) (gk st)) ?_
  have hI:jH x ms a b c g=((-1:Int),(2:Int)):=by
   unfold jH;rw [hce,f3];show (if pJ (some 0) g=true then (if (2:Int)=0 then _ else ((-1:Int),(2:Int))) else ((-1:Int),(2:Int)))=((-1:Int),(2:Int));rw [if_neg (show ¬ (2:Int)=0 by decide)];split <;> rfl
  rw [hI]
 ·intro vs ls H4 E4 st hE
  have f5:(qO .f32 (some 0) g == some .lt || qO .f32 (some 0) g == some .eq)=false:=bf st 0
  have f6:¬ (d=2):=df st 1
  refine rf st hE (.tuple [.int .i64 (-1),.int .i64 2]) (Grew.trans (Grew.refl _) (gk st)) ?_
  have hI:jH x ms a b c g=((-1:Int),(2:Int)):=by
   unfold jH;rw [if_neg (by unfold pJ;rw [f5];decide)]
  rw [hI]
 ·intro vs ls H7 E7 st hE
  have f8:¬ (d=0):=df st 0
  have f9:(qO .f32 (some 0) g == some .lt || qO .f32 (some 0) g == some .eq)=true:=bf st 1
  have f10:¬ (d=2):=df st 2
  refine rf st hE (.tuple [.int .i64 (-1),.int .i64 d]) (Grew.trans (Grew.refl _) (gk st)) ?_
  have hI:jH x ms a b c g=((-1:Int),d):=by
   unfold jH;rw [if_pos (show pJ (some 0) g=true from f9),hce];show (if d=0 then _ else _)=_;rw [if_neg f8]
  rw [hI]
 ·intro vs ls H11 E11 st hE
  have f12:d=0:=dt st 0
  have f13:(qO .f32 (some 0) g == some .lt || qO .f32 (some 0) g == some .eq)=true:=bf st 1
  have f14:¬ (d=2):=df st 2
  obtain⟨p15,e16,r17,n18⟩:=pO st hE 8 2 [.int .i32 c0,.int .i32 c1,.int .i32 c2]
  have op15:H.next<=p15:=Nat.le_trans (Nat.le_refl _) (oM n18)
  obtain⟨p19,e20,r21,n22⟩:=pO st hE 4 1 [.flt .f32 a,.flt .f32 b,.flt .f32 c]
  have op19:H.next<=p19:=Nat.le_trans (Nat.le_refl _) (oM n22)
  have ne23:=pn st hE 8 2 4 1 [.nd 6 (.int .i32),.nd 7 (.int .i32),.nd 8 (.int .i32)] e16 e20
  have ne24:=apn hl (oM n18)
  have ne25:=apn hl (oM n22)
  have b26:=eo st hE 12 (.int .i64 0)
  have b27:=eo st hE 0 (.ptr l 0)
  have b28:=eo st hE 2 (.flt .f32 g)
  have b29:=eo st hE 10 (.int .i64 (-1))
  have b30:=eo st hE 11 (.flt .f32 (some 0))
  have g31:Grew H H11:=(gk st)
  have g32:Grew H H11:=Grew.trans (Grew.refl _) g31
  have r33:=g31.at hl
  refine yH kr (fun z E H'=>∃ (i:Nat),z+i=ms.length/\E 0=.ptr l 0/\E 8=.ptr p15 0/\E 4=.ptr p19 0/\E 2=.flt .f32 g/\E 12=.int .i64 (i:Int)/\E 10=.int .i64 (zF [.flt .f32 a,.flt .f32 b,.flt .f32 c] g [.int .i32 c0,.int .i32 c1,.int .i32 c2] ms i).1/\E 11=.flt .f32 (zF [.flt .f32 a,.flt .f32 b,.flt .f32 c] g [.int .i32 c0,.int .i32 c1,.int .i32 c2] ms i).2/\Grew H H'/\H'.get l=some (.row [.flt .f32 x,S] true)/\H'.get p15=some (.row [.int .i32 c0,.int .i32 c1,.int .i32 c2] true)/\H'.get p19=some (.row [.flt .f32 a,.flt .f32 b,.flt .f32 c] true)) (ms.length) ⟨0,by omega,b27,e16,e20,b28,b26,b29,b30,g32,r33,r17,r21⟩ ?_
  rintro z34 Ei34 Hi34 ⟨i34,hz34,c34_0,c34_8,c34_4,c34_2,ci34,cv34_10,cv34_11,gt34,r34_0,r34_1,r34_2⟩
  have q35:=q1.app (.cons kA (.cons kA (.cons ⟨_,rfl,(qAO [.flt .f32 a,.flt .f32 b,.flt .f32 c] g [.int .i32 c0,.int .i32 c1,.int .i32 c2] ms i34).1⟩ (.cons kA .nil))):KdsL [KI,KI,KF,KI] [.int .i64 (i34:Int),.int .i64 (zF [.flt .f32 a,.flt .f32 b,.flt .f32 c] g [.int .i32 c0,.int .i32 c1,.int .i32 c2] ms i34).1,.flt .f32 (zF [.flt .f32 a,.flt .f32 b,.flt .f32 c] g [.int .i32 c0,.int .i32 c1,.int .i32 c2] ms i34).2,.int .i64 (ms.length:Int)])
  refine rD 3 0 [(.len (n1 1),nI 13)] [wf l [nF 0,n1 1],wf p15 [n2 6,n2 7,n2 8],wf p19 [nF 2,nF 3,nF 4]] [(0,.ptr 0 0),(8,.ptr 1 0),(4,.ptr 2 0),(2,nF 5),(12,nI 10),(10,nI 11),(11,nF 12)] q35 (.cons (⟨_,_,(dE q35),(dE q35),yS hS⟩) .nil) (.cons c34_0 (.cons c34_8 (.cons c34_4 (.cons c34_2 (.cons ci34 (.cons cv34_10 (.cons cv34_11 .nil))))))) ?_
  refine dB kr ?_ ?_
  ·intro vs ls H36 E36 st hE
   have f37:(i34:Int) < (ms.length:Int):=dt st 0
   have B1:=es st hE [(45,S),(46,.int .i64 (i34:Int)),(8,.ptr p15 0),(0,.ptr l 0),(12,.int .i64 (i34:Int)),(4,.ptr p19 0),(2,.flt .f32 g),(10,.int .i64 (zF [.flt .f32 a,.flt .f32 b,.flt .f32 c] g [.int .i32 c0,.int .i32 c1,.int .i32 c2] ms i34).1),(11,.flt .f32 (zF [.flt .f32 a,.flt .f32 b,.flt .f32 c] g [.int .i32 c0,.int .i32 c1,.int .i32 c2] ms i34).2)]
   have g47:Grew Hi34 H36:=(gk st)
   have g48:=Grew.trans gt34 g47
   have r49:=g47.at r34_0
   have r50:=g47.at r34_1
   have r51:=g47.at r34_2
   have hlt52:i34 < ms.length:=by omega
   obtain⟨lS52,cap52,rest52,wr52,eS52,gB52⟩:=hS.isSl hlt52
   have gS52:=g48.at gB52
   have ne53:=apn gB52 op15
   have ne54:=apn gB52 op19
   obtain⟨v52_0,v52_1,v52_2,v52_3,v52_4,v52_5,v52_6,v52_7,v52_8,hm52,ho52_3,ho52_4,ho52_5,ho52_6⟩:=zZ (hr.get hlt52)
   have he52:ms.getD i34 []=[.int .i32 v52_0,.int .i32 v52_1,.int .i32 v52_2,.flt .f32 v52_3,.flt .f32 v52_4,.flt .f32 v52_5,.flt .f32 v52_6,.int .i64 v52_7,.int .i64 v52_8]:=by rw [<- hm52,List.getD_eq_getElem?_getD,List.getElem?_eq_getElem hlt52];rfl
   have q55:=q35.app (.cons kA (.cons kA (.cons kA (.cons (kF ho52_3) (.cons (kF ho52_4) (.cons (kF ho52_5) (.cons (kF ho52_6) (.cons kA (.cons kA (.cons kA (.cons ⟨_,rfl,qEt _ _⟩ .nil)))))))))):KdsL [K2,K2,K2,KF,KF,KF,KF,KI,KI,.bool,KF] [.int .i32 v52_0,.int .i32 v52_1,.int .i32 v52_2,.flt .f32 v52_3,.flt .f32 v52_4,.flt .f32 v52_5,.flt .f32 v52_6,.int .i64 v52_7,.int .i64 v52_8,.bool (qFm [.int .i32 v52_0,.int .i32 v52_1,.int .i32 v52_2] [.int .i32 c0,.int .i32 c1,.int .i32 c2]),.flt .f32 (jO [.flt .f32 a,.flt .f32 b,.flt .f32 c] [.int .i32 v52_0,.int .i32 v52_1,.int .i32 v52_2,.flt .f32 v52_3,.flt .f32 v52_4,.flt .f32 v52_5,.flt .f32 v52_6,.int .i64 v52_7,.int .i64 v52_8])])
   refine qL (φ:=φ0) (pm:=pmR 4 [(.ia 9 (n1 1) (nI 10),.ptr 3 0),(.call 83 [.agg [n2 14,n2 15,n2 16],.agg [n2 6,n2 7,n2 8]],nB 23),(.call 84 [.ptr 3 0,.agg [nF 2,nF 3,nF 4]],nF 24)] 0) 20 (ws:=[wf l [nF 0,n1 1],wf p15 [n2 6,n2 7,n2 8],wf p19 [nF 2,nF 3,nF 4],⟨lS52,(i34 * 9),[n2 14,n2 15,n2 16,nF 17,nF 18,nF 19,nF 20,nI 21,nI 22],false⟩]) (env:=[(45,n1 1),(46,nI 10),(8,.ptr 1 0),(0,.ptr 0 0),(12,nI 10),(4,.ptr 2 0),(2,nF 5),(10,nI 11),(11,nF 12)]) q55 (.cons (wR r49 q55) (.cons (wR r50 q55) (.cons (wR r51 q55) (.cons (zV hr gS52 hlt52 rfl (by rw [hm52];exact(dL q55))) .nil)))) (qI rfl) (.cons (bA (k:=i34) (dE q55) eS52 (dE q55) hlt52 rfl) (.cons (qH (args:=[.agg [.int .i32 v52_0,.int .i32 v52_1,.int .i32 v52_2],.agg [.int .i32 c0,.int .i32 c1,.int .i32 c2]]) (dL q55) (dE q55) (fun H9 hk=>qGT [.int .i32 v52_0,.int .i32 v52_1,.int .i32 v52_2] [.int .i32 c0,.int .i32 c1,.int .i32 c2] (.cons kA (.cons kA (.cons kA .nil))) (.cons kA (.cons kA (.cons kA .nil))) H9)) (.cons (qH (args:=[.ptr lS52 ((i34 * 9)+0),.agg [.flt .f32 a,.flt .f32 b,.flt .f32 c]]) (r:=.flt .f32 (jO [.flt .f32 a,.flt .f32 b,.flt .f32 c] [.int .i32 v52_0,.int .i32 v52_1,.int .i32 v52_2,.flt .f32 v52_3,.flt .f32 v52_4,.flt .f32 v52_5,.flt .f32 v52_6,.int .i64 v52_7,.int .i64 v52_8])) (dL q55) (dE q55) (fun H9 hk=>(by obtain⟨pre,post,g1,g2⟩:=yR hr.len hlt52 rest52;exact qJW [.int .i32 v52_0,.int .i32 v52_1,.int .i32 v52_2,.flt .f32 v52_3,.flt .f32 v52_4,.flt .f32 v52_5,.flt .f32 v52_6,.int .i64 v52_7,.int .i64 v52_8] [.flt .f32 a,.flt .f32 b,.flt .f32 c] (.cons kA (.cons kA (.cons kA (.cons (kF ho52_3) (.cons (kF ho52_4) (.cons (kF ho52_5) (.cons (kF ho52_6) (.cons kA (.cons kA .nil))))))))) (.cons (kF ha) (.cons (kF hb) (.cons (kF hc) .nil))) (by rw [((hk.grew (Nat.le_refl _)).at gS52),g1,hm52]) g2))) .nil))) (eC q55 B1) qU qM ?_
   refine qNY kr ?_ ?_ ?_ ?_ ?_
   ·intro vs ls H56 E56 st hE
    have f57:(qFm [.int .i32 v52_0,.int .i32 v52_1,.int .i32 v52_2] [.int .i32 c0,.int .i32 c1,.int .i32 c2])=false:=bf st 0
    obtain⟨w58,hw58⟩:∃ z,z=(IntKind.wrap .i64 ((i34:Int)+1)):=⟨_,rfl⟩
    have b59:E56 12=.int .i64 w58:=by rw [hw58];exact eo st hE 12 _
    have b60:=eo st hE 0 (.ptr l 0)
    have b61:=eo st hE 8 (.ptr p15 0)
    have b62:=eo st hE 4 (.ptr p19 0)
    have b63:=eo st hE 2 (.flt .f32 g)
    have b64:=eo st hE 10 (.int .i64 (zF [.flt .f32 a,.flt .f32 b,.flt .f32 c] g [.int .i32 c0,.int .i32 c1,.int .i32 c2] ms i34).1)
    have b65:=eo st hE 11 (.flt .f32 (zF [.flt .f32 a,.flt .f32 b,.flt .f32 c] g [.int .i32 c0,.int .i32 c1,.int .i32 c2] ms i34).2)
    have g66:Grew H36 H56:=(gk st)
    have g67:=Grew.trans g48 g66
    have r68:=g66.at r49
    have r69:=g66.at r50
    have r70:=g66.at r51
    have hz9:z34 - 1 < z34:=by omega
    have hy9:z34 - 1+(i34+1)=ms.length:=by omega
    have hi9:E56 12=.int .i64 ((i34+1:Nat):Int):=by rw [b59,hw58,wrap64 om]
    have hn9:zF [.flt .f32 a,.flt .f32 b,.flt .f32 c] g [.int .i32 c0,.int .i32 c1,.int .i32 c2] ms (i34+1)=(zF [.flt .f32 a,.flt .f32 b,.flt .f32 c] g [.int .i32 c0,.int .i32 c1,.int .i32 c2] ms i34):=by
     show dF _ _ _ _ _ _=_;unfold dF;rw [he52,show List.take 3 ([.int .i32 v52_0,.int .i32 v52_1,.int .i32 v52_2,.flt .f32 v52_3,.flt .f32 v52_4,.flt .f32 v52_5,.flt .f32 v52_6,.int .i64 v52_7,.int .i64 v52_8]:List AV)=[.int .i32 v52_0,.int .i32 v52_1,.int .i32 v52_2] from rfl,if_neg (by rw [f57];decide)]
    exact jV kr ⟨z34 - 1,hz9,i34+1,hy9,b60,b61,b62,b63,hi9,(by rw [hn9];exact b64),(by rw [hn9];exact b65),g67,r68,r69,r70⟩
   ·intro vs ls H72 E72 st hE
    have f73:(zF [.flt .f32 a,.flt .f32 b,.flt .f32 c] g [.int .i32 c0,.int .i32 c1,.int .i32 c2] ms i34).1 < 0:=dt st 0
    have f74:(qO .f32 (jO [.flt .f32 a,.flt .f32 b,.flt .f32 c] [.int .i32 v52_0,.int .i32 v52_1,.int .i32 v52_2,.flt .f32 v52_3,.flt .f32 v52_4,.flt .f32 v52_5,.flt .f32 v52_6,.int .i64 v52_7,.int .i64 v52_8]) g == some .lt || qO .f32 (jO [.flt .f32 a,.flt .f32 b,.flt .f32 c] [.int .i32 v52_0,.int .i32 v52_1,.int .i32 v52_2,.flt .f32 v52_3,.flt .f32 v52_4,.flt .f32 v52_5,.flt .f32 v52_6,.int .i64 v52_7,.int .i64 v52_8]) g == some .eq)=true:=bf st 1
    have f75:(qFm [.int .i32 v52_0,.int .i32 v52_1,.int .i32 v52_2] [.int .i32 c0,.int .i32 c1,.int .i32 c2])=true:=bf st 2
    obtain⟨w76,hw76⟩:∃ z,z=(IntKind.wrap .i64 ((i34:Int)+1)):=⟨_,rfl⟩
    have b77:E72 12=.int .i64 w76:=by rw [hw76];exact eo st hE 12 _
    have b78:=eo st hE 0 (.ptr l 0)
    have b79:=eo st hE 8 (.ptr p15 0)
    have b80:=eo st hE 4 (.ptr p19 0)
    have b81:=eo st hE 2 (.flt .f32 g)
    have b82:=eo st hE 10 (.int .i64 (i34:Int))
    have b83:=eo st hE 11 (.flt .f32 (jO [.flt .f32 a,.flt .f32 b,.flt .f32 c] [.int .i32 v52_0,.int .i32 v52_1,.int .i32 v52_2,.flt .f32 v52_3,.flt .f32 v52_4,.flt .f32 v52_5,.flt .f32 v52_6,.int .i64 v52_7,.int .i64 v52_8]))
    have g84:Grew H36 H72:=(gk st)
    have g85:=Grew.trans g48 g84
    have r86:=g84.at r49
    have r87:=g84.at r50
    have r88:=g84.at r51
    have hz9:z34 - 1 < z34:=by omega
    have hy9:z34 - 1+(i34+1)=ms.length:=by omega
    have hi9:E72 12=.int .i64 ((i34+1:Nat):Int):=by rw [b77,hw76,wrap64 om]
    have hn9:zF [.flt .f32 a,.flt .f32 b,.flt .f32 c] g [.int .i32 c0,.int .i32 c1,.int .i32 c2] ms (i34+1)=((i34:Int),(jO [.flt .f32 a,.flt .f32 b,.flt .f32 c] [.int .i32 v52_0,.int .i32 v52_1,.int .i32 v52_2,.flt .f32 v52_3,.flt .f32 v52_4,.flt .f32 v52_5,.flt .f32 v52_6,.int .i64 v52_7,.int .i64 v52_8])):=by
     show dF _ _ _ _ _ _=_;unfold dF;rw [he52,show List.take 3 ([.int .i32 v52_0,.int .i32 v52_1,.int .i32 v52_2,.flt .f32 v52_3,.flt .f32 v52_4,.flt .f32 v52_5,.flt .f32 v52_6,.int .i64 v52_7,.int .i64 v52_8]:List AV)=[.int .i32 v52_0,.int .i32 v52_1,.int .i32 v52_2] from rfl,if_pos f75,if_pos (show pJ (jO [.flt .f32 a,.flt .f32 b,.flt .f32 c] [.int .i32 v52_0,.int .i32 v52_1,.int .i32 v52_2,.flt .f32 v52_3,.flt .f32 v52_4,.flt .f32 v52_5,.flt .f32 v52_6,.int .i64 v52_7,.int .i64 v52_8]) g=true from f74),if_pos f73]
    exact jV kr ⟨z34 - 1,hz9,i34+1,hy9,b78,b79,b80,b81,hi9,(by rw [hn9];exact b82),(by rw [hn9];exact b83),g85,r86,r87,r88⟩
   ·intro vs ls H90 E90 st hE
    have f91:(qO .f32 (jO [.flt .f32 a,.flt .f32 b,.flt .f32 c] [.int .i32 v52_0,.int .i32 v52_1,.int .i32 v52_2,.flt .f32 v52_3,.flt .f32 v52_4,.flt .f32 v52_5,.flt .f32 v52_6,.int .i64 v52_7,.int .i64 v52_8]) (zF [.flt .f32 a,.flt .f32 b,.flt .f32 c] g [.int .i32 c0,.int .i32 c1,.int .i32 c2] ms i34).2 == some .lt)=true:=bf st 0
    have f92:¬ ((zF [.flt .f32 a,.flt .f32 b,.flt .f32 c] g [.int .i32 c0,.int .i32 c1,.int .i32 c2] ms i34).1 < 0):=df st 1
    have f93:(qO .f32 (jO [.flt .f32 a,.flt .f32 b,.flt .f32 c] [.int .i32 v52_0,.int .i32 v52_1,.int .i32 v52_2,.flt .f32 v52_3,.flt .f32 v52_4,.flt .f32 v52_5,.flt .f32 v52_6,.int .i64 v52_7,.int .i64 v52_8]) g == some .lt || qO .f32 (jO [.flt .f32 a,.flt .f32 b,.flt .f32 c] [.int .i32 v52_0,.int .i32 v52_1,.int .i32 v52_2,.flt .f32 v52_3,.flt .f32 v52_4,.flt .f32 v52_5,.flt .f32 v52_6,.int .i64 v52_7,.int .i64 v52_8]) g == some .eq)=true:=bf st 2
    have f94:(qFm [.int .i32 v52_0,.int .i32 v52_1,.int .i32 v52_2] [.int .i32 c0,.int .i32 c1,.int .i32 c2])=true:=bf st 3
    obtain⟨w95,hw95⟩:∃ z,z=(IntKind.wrap .i64 ((i34:Int)+1)):=⟨_,rfl⟩
    have b96:E90 12=.int .i64 w95:=by rw [hw95];exact eo st hE 12 _
    have b97:=eo st hE 0 (.ptr l 0)
    have b98:=eo st hE 8 (.ptr p15 0)
    have b99:=eo st hE 4 (.ptr p19 0)
    have b100:=eo st hE 2 (.flt .f32 g)
    have b101:=eo st hE 10 (.int .i64 (i34:Int))
    have b102:=eo st hE 11 (.flt .f32 (jO [.flt .f32 a,.flt .f32 b,.flt .f32 c] [.int .i32 v52_0,.int .i32 v52_1,.int .i32 v52_2,.flt .f32 v52_3,.flt .f32 v52_4,.flt .f32 v52_5,.flt .f32 v52_6,.int .i64 v52_7,.int .i64 v52_8]))
    have g103:Grew H36 H90:=(gk st)
    have g104:=Grew.trans g48 g103
    have r105:=g103.at r49
    have r106:=g103.at r50
    have r107:=g103.at r51
    have hz9:z34 - 1 < z34:=by omega
    have hy9:z34 - 1+(i34+1)=ms.length:=by omega
    have hi9:E90 12=.int .i64 ((i34+1:Nat):Int):=by rw [b96,hw95,wrap64 om]
    have hn9:zF [.flt .f32 a,.flt .f32 b,.flt .f32 c] g [.int .i32 c0,.int .i32 c1,.int .i32 c2] ms (i34+1)=((i34:Int),(jO [.flt .f32 a,.flt .f32 b,.flt .f32 c] [.int .i32 v52_0,.int .i32 v52_1,.int .i32 v52_2,.flt .f32 v52_3,.flt .f32 v52_4,.flt .f32 v52_5,.flt .f32 v52_6,.int .i64 v52_7,.int .i64 v52_8])):=by
     show dF _ _ _ _ _ _=_;unfold dF;rw [he52,show List.take 3 ([.int .i32 v52_0,.int .i32 v52_1,.int .i32 v52_2,.flt .f32 v52_3,.flt .f32 v52_4,.flt .f32 v52_5,.flt .f32 v52_6,.int .i64 v52_7,.int .i64 v52_8]:List AV)=[.int .i32 v52_0,.int .i32 v52_1,.int .i32 v52_2] from rfl,if_pos f94,if_pos (show pJ (jO [.flt .f32 a,.flt .f32 b,.flt .f32 c] [.int .i32 v52_0,.int .i32 v52_1,.int .i32 v52_2,.flt .f32 v52_3,.flt .f32 v52_4,.flt .f32 v52_5,.flt .f32 v52_6,.int .i64 v52_7,.int .i64 v52_8]) g=true from f93),if_neg f92,if_pos f91]
    exact jV kr ⟨z34 - 1,hz9,i34+1,hy9,b97,b98,b99,b100,hi9,(by rw [hn9];exact b101),(by rw [hn9];exact b102),g104,r105,r106,r107⟩
   ·intro vs ls H109 E109 st hE
    have f110:(qO .f32 (jO [.flt .f32 a,.flt .f32 b,.flt .f32 c] [.int .i32 v52_0,.int .i32 v52_1,.int .i32 v52_2,.flt .f32 v52_3,.flt .f32 v52_4,.flt .f32 v52_5,.flt .f32 v52_6,.int .i64 v52_7,.int .i64 v52_8]) (zF [.flt .f32 a,.flt .f32 b,.flt .f32 c] g [.int .i32 c0,.int .i32 c1,.int .i32 c2] ms i34).2 == some .lt)=false:=bf st 0
    have f111:¬ ((zF [.flt .f32 a,.flt .f32 b,.flt .f32 c] g [.int .i32 c0,.int .i32 c1,.int .i32 c2] ms i34).1 < 0):=df st 1
    have f112:(qO .f32 (jO [.flt .f32 a,.flt .f32 b,.flt .f32 c] [.int .i32 v52_0,.int .i32 v52_1,.int .i32 v52_2,.flt .f32 v52_3,.flt .f32 v52_4,.flt .f32 v52_5,.flt .f32 v52_6,.int .i64 v52_7,.int .i64 v52_8]) g == some .lt || qO .f32 (jO [.flt .f32 a,.flt .f32 b,.flt .f32 c] [.int .i32 v52_0,.int .i32 v52_1,.int .i32 v52_2,.flt .f32 v52_3,.flt .f32 v52_4,.flt .f32 v52_5,.flt .f32 v52_6,.int .i64 v52_7,.int .i64 v52_8]) g == some .eq)=true:=bf st 2
    have f113:(qFm [.int .i32 v52_0,.int .i32 v52_1,.int .i32 v52_2] [.int .i32 c0,.int .i32 c1,.int .i32 c2])=true:=bf st 3
    obtain⟨w114,hw114⟩:∃ z,z=(IntKind.wrap .i64 ((i34:Int)+1)):=⟨_,rfl⟩
    have b115:E109 12=.int .i64 w114:=by rw [hw114];exact eo st hE 12 _
    have b116:=eo st hE 0 (.ptr l 0)
    have b117:=eo st hE 8 (.ptr p15 0)
    have b118:=eo st hE 4 (.ptr p19 0)
    have b119:=eo st hE 2 (.flt .f32 g)
    have b120:=eo st hE 10 (.int .i64 (zF [.flt .f32 a,.flt .f32 b,.flt .f32 c] g [.int .i32 c0,.int .i32 c1,.int .i32 c2] ms i34).1)
    have b121:=eo st hE 11 (.flt .f32 (zF [.flt .f32 a,.flt .f32 b,.flt .f32 c] g [.int .i32 c0,.int .i32 c1,.int .i32 c2] ms i34).2)
    have g122:Grew H36 H109:=(gk st)
    have g123:=Grew.trans g48 g122
    have r124:=g122.at r49
    have r125:=g122.at r50
    have r126:=g122.at r51
    have hz9:z34 - 1 < z34:=by omega
    have hy9:z34 - 1+(i34+1)=ms.length:=by omega
    have hi9:E109 12=.int .i64 ((i34+1:Nat):Int):=by rw [b115,hw114,wrap64 om]
    have hn9:zF [.flt .f32 a,.flt .f32 b,.flt .f32 c] g [.int .i32 c0,.int .i32 c1,.int .i32 c2] ms (i34+1)=(zF [.flt .f32 a,.flt .f32 b,.flt .f32 c] g [.int .i32 c0,.int .i32 c1,.int .i32 c2] ms i34):=by
     show dF _ _ _ _ _ _=_;unfold dF;rw [he52,show List.take 3 ([.int .i32 v52_0,.int .i32 v52_1,.int .i32 v52_2,.flt .f32 v52_3,.flt .f32 v52_4,.flt .f32 v52_5,.flt .f32 v52_6,.int .i64 v52_7,.int .i64 v52_8]:List AV)=[.int .i32 v52_0,.int .i32 v52_1,.int .i32 v52_2] from rfl,if_pos f113,if_pos (show pJ (jO [.flt .f32 a,.flt .f32 b,.flt .f32 c] [.int .i32 v52_0,.int .i32 v52_1,.int .i32 v52_2,.flt .f32 v52_3,.flt .f32 v52_4,.flt .f32 v52_5,.flt .f32 v52_6,.int .i64 v52_7,.int .i64 v52_8]) g=true from f112),if_neg f111,if_neg (by rw [f110];decide)]
    exact jV kr ⟨z34 - 1,hz9,i34+1,hy9,b116,b117,b118,b119,hi9,(by rw [hn9];exact b120),(by rw [hn9];exact b121),g123,r124,r125,r126⟩
   ·intro vs ls H128 E128 st hE
    have f129:(qO .f32 (jO [.flt .f32 a,.flt .f32 b,.flt .f32 c] [.int .i32 v52_0,.int .i32 v52_1,.int .i32 v52_2,.flt .f32 v52_3,.flt .f32 v52_4,.flt .f32 v52_5,.flt .f32 v52_6,.int .i64 v52_7,.int .i64 v52_8]) g == some .lt || qO .f32 (jO [.flt .f32 a,.flt .f32 b,.flt .f32 c] [.int .i32 v52_0,.int .i32 v52_1,.int .i32 v52_2,.flt .f32 v52_3,.flt .f32 v52_4,.flt .f32 v52_5,.flt .f32 v52_6,.int .i64 v52_7,.int .i64 v52_8]) g == some .eq)=false:=bf st 0
    have f130:(qFm [.int .i32 v52_0,.int .i32 v52_1,.int .i32 v52_2] [.int .i32 c0,.int .i32 c1,.int .i32 c2])=true:=bf st 1
    obtain⟨w131,hw131⟩:∃ z,z=(IntKind.wrap .i64 ((i34:Int)+1)):=⟨_,rfl⟩
    have b132:E128 12=.int .i64 w131:=by rw [hw131];exact eo st hE 12 _
    have b133:=eo st hE 0 (.ptr l 0)
    have b134:=eo st hE 8 (.ptr p15 0)
    have b135:=eo st hE 4 (.ptr p19 0)
    have b136:=eo st hE 2 (.flt .f32 g)
    have b137:=eo st hE 10 (.int .i64 (zF [.flt .f32 a,.flt .f32 b,.flt .f32 c] g [.int .i32 c0,.int .i32 c1,.int .i32 c2] ms i34).1)
    have b138:=eo st hE 11 (.flt .f32 (zF [.flt .f32 a,.flt .f32 b,.flt .f32 c] g [.int .i32 c0,.int .i32 c1,.int .i32 c2] ms i34).2)
    have g139:Grew H36 H128:=(gk st)
    have g140:=Grew.trans g48 g139
    have r141:=g139.at r49
    have r142:=g139.at r50
    have r143:=g139.at r51
    have hz9:z34 - 1 < z34:=by omega
    have hy9:z34 - 1+(i34+1)=ms.length:=by omega
    have hi9:E128 12=.int .i64 ((i34+1:Nat):Int):=by rw [b132,hw131,wrap64 om]
    have hn9:zF [.flt .f32 a,.flt .f32 b,.flt .f32 c] g [.int .i32 c0,.int .i32 c1,.int .i32 c2] ms (i34+1)=(zF [.flt .f32 a,.flt .f32 b,.flt .f32 c] g [.int .i32 c0,.int .i32 c1,.int .i32 c2] ms i34):=by
     show dF _ _ _ _ _ _=_;unfold dF;rw [he52,show List.take 3 ([.int .i32 v52_0,.int .i32 v52_1,.int .i32 v52_2,.flt .f32 v52_3,.flt .f32 v52_4,.flt .f32 v52_5,.flt .f32 v52_6,.int .i64 v52_7,.int .i64 v52_8]:List AV)=[.int .i32 v52_0,.int .i32 v52_1,.int .i32 v52_2] from rfl,if_pos f130,if_neg (by unfold pJ;rw [f129];decide)]
    exact jV kr ⟨z34 - 1,hz9,i34+1,hy9,b133,b134,b135,b136,hi9,(by rw [hn9];exact b137),(by rw [hn9];exact b138),g140,r141,r142,r143⟩
  ·intro vs ls H145 E145 st hE
   have f146:¬ ((i34:Int) < (ms.length:Int)):=df st 0
   obtain⟨w155,hw155⟩:∃ z,z=(decide ((i34:Int) < (ms.length:Int))):=⟨_,rfl⟩
   have b156:E145 39=.bool w155:=by rw [hw155];exact eo st hE 39 _
   have B2:=es st hE [(12,.int .i64 (i34:Int)),(0,.ptr l 0),(34,.ptr l 0),(35,.ptr l 0),(36,.ptr l 1),(37,S),(33,.int .i64 (i34:Int)),(38,.int .i64 (ms.length:Int)),(8,.ptr p15 0),(4,.ptr p19 0),(2,.flt .f32 g),(10,.int .i64 (zF [.flt .f32 a,.flt .f32 b,.flt .f32 c] g [.int .i32 c0,.int .i32 c1,.int .i32 c2] ms i34).1),(11,.flt .f32 (zF [.flt .f32 a,.flt .f32 b,.flt .f32 c] g [.int .i32 c0,.int .i32 c1,.int .i32 c2] ms i34).2)]
   have g162:Grew Hi34 H145:=(gk st)
   have g163:=Grew.trans gt34 g162
   have r164:=g162.at r34_0
   have r165:=g162.at r34_1
   have r166:=g162.at r34_2
   refine xL (id:=0) kr ?_
   have q167:=q35.app (kL:KdsL [.bool] [.bool w155])
   refine rC 3 0 [wf l [nF 0,n1 1],wf p15 [n2 6,n2 7,n2 8],wf p19 [nF 2,nF 3,nF 4]] [(12,nI 10),(0,.ptr 0 0),(34,.ptr 0 0),(35,.ptr 0 0),(36,.ptr 0 1),(37,n1 1),(33,nI 10),(38,nI 13),(8,.ptr 1 0),(4,.ptr 2 0),(2,nF 5),(10,nI 11),(11,nF 12),(39,nB 14)] q167 (sc B2 (.cons b156 .nil)) ?_
   refine zA kr fun vs ls H168 E168 st hE=>?_
   refine rf st hE (.tuple [.int .i64 (zF [.flt .f32 a,.flt .f32 b,.flt .f32 c] g [.int .i32 c0,.int .i32 c1,.int .i32 c2] ms i34).1,.int .i64 0]) (Grew.trans g163 (gk st)) ?_
   have hI:jH x ms a b c g=((zF [.flt .f32 a,.flt .f32 b,.flt .f32 c] g [.int .i32 c0,.int .i32 c1,.int .i32 c2] ms ms.length).1,(0:Int)):=by
    unfold jH;rw [if_pos (show pJ (some 0) g=true from f13),hce];show (if d=0 then _ else _)=_;rw [if_pos f12]
   rw [show ms.length=i34 by omega] at hI
   rw [hI]
theorem qLH (H:AHeap) (ms:LL) (hr:∀ m ∈ ms,m.length=9) (h1:ms.flatten.all AV.one=true) (mx:ms.length<=1048576) (l cap:Nat) (hg:H.get l=some (.row ms.flatten true)) (hcc:ms.length<=cap) (i:Nat) (hi:i < ms.length):qJ Try.prog 71 [.slice l 0 ms.length cap 9,.int .i64 (i:Int),.int .i64 ((i+1:Nat):Int)] H fun r H'=>r=.slice l 0 (ms.length - 1) cap 9/\Only l H H'/\H'.get l=some (.row ((ms.eraseIdx i).flatten ++ (List.replicate 1 [AV.int .i32 0,.int .i32 0,.int .i32 0,.flt .f32 (some 0),.flt .f32 (some 0),.flt .f32 (some 0),.flt .f32 (some 0),.int .i64 0,.int .i64 0]).flatten) true):=by
 have hF:=yQ hr
 have hlB:(laid ms.flatten (i * 9) (ms.flatten.drop ((i+1) * 9))).length=ms.length * 9:=by unfold laid;simp only [List.length_append,List.length_take,List.length_drop];omega
 refine qF xB (by simp) ?_
 have q1:KdsL [.one,KI,KI,KI] [.slice l 0 ms.length cap 9,.int .i64 (i:Int),.int .i64 ((i+1:Nat):Int),.int .i64 (ms.length:Int)]:=.cons rfl (.cons kA (.cons kA (.cons kA .nil)))
 refine rD 0 0 [(.len (n1 0),nI 3)] [] [(0,n1 0),(1,nI 1),(2,nI 2)] q1 (.cons (qZ (l:=l) (o:=0) (n:=ms.length) (cap:=cap) (sz:=9) (dE q1) (dE q1)) .nil) (.cons (t:=0) rfl (.cons (t:=1) rfl (.cons (t:=2) rfl .nil))) ?_
 refine zA kr fun vs ls H2 E2 st hE=>?_
 have b3:=eo st hE 8 (.slice l 0 ms.length cap 9)
 have b4:=eo st hE 9 (.int .i64 (i:Int))
 have b5:=eo st hE 10 (.int .i64 ((i+1:Nat):Int))
 have b6:=eo st hE 12 (.int .i64 (ms.length:Int))
 have B1:=es st hE [(8,.slice l 0 ms.length cap 9),(9,.int .i64 (i:Int)),(10,.int .i64 ((i+1:Nat):Int)),(12,.int .i64 (ms.length:Int)),(1,.int .i64 (i:Int)),(2,.int .i64 ((i+1:Nat):Int)),(0,.slice l 0 ms.length cap 9)]
 have g10:Grew H H2:=(gk st)
 have g11:Grew H H2:=Grew.trans (Grew.refl _) g10
 refine tK (d:=some 13) (op:=.slSl 9 (.tmp 8) (some (.tmp 9)) (some (.tmp 10)) (some (.tmp 12))) kr rfl (qMw (a:=i) (b:=i+1) (m:=ms.length) b3 b4 b5 b6 om om om) ?_
 refine rD 0 0 [(.len (n1 0),nI 3)] [] [(8,n1 0),(9,nI 1),(10,nI 2),(12,nI 3),(1,nI 1),(2,nI 2),(0,n1 0)] q1 (.cons (qZ (l:=l) (o:=0) (n:=ms.length) (cap:=cap) (sz:=9) (dE q1) (dE q1)) .nil) (sp B1) ?_
 refine dB kr ?_ ?_
 ·intro vs ls H13 E13 st hE
  have f14:(i:Int)=((i+1:Nat):Int):=dt st 0
  exfalso;omega
 ·intro vs ls H15 E15 st hE
  have f16:¬ ((i:Int)=((i+1:Nat):Int)):=df st 0
  have b17:=eo st hE 20 (.slice l 0 ms.length cap 9)
  have b18:=eo st hE 21 (.int .i64 (i:Int))
  have B2:=es st hE [(20,.slice l 0 ms.length cap 9),(21,.int .i64 (i:Int)),(0,.slice l 0 ms.length cap 9),(2,.int .i64 ((i+1:Nat):Int)),(7,.int .i64 (ms.length:Int))]
  have g22:Grew H2 H15:=(gk st)
  have g23:=Grew.trans g11 g22
  have v24:zM E15 H15.get (.slSl 9 (.tmp 20) none (some (.tmp 21)) none)=some (.slice l 0 i cap 9):=by
   have h9:=vF (H:=H15) (lo:=none) (hi:=(some (.tmp 21))) (a:=0) (b:=i) b17 (.inl ⟨rfl,rfl⟩) (.inr (congrArg some b18)) om om
   simpa using h9
  refine qBX (d:=some 22) (op:=.slSl 9 (.tmp 20) none (some (.tmp 21)) none) (r:=.slice l 0 i cap 9) kr rfl v24 ?_
  have q25:=q1.app (.cons rfl .nil:KdsL [.one] [.slice l 0 i cap 9])
  refine rC 0 0 [] [(20,n1 0),(21,nI 1),(0,n1 0),(2,nI 2),(7,nI 3),(22,n1 4)] q25 (sc (sp B2) (.cons qB .nil)) ?_
  refine zA kr fun vs ls H26 E26 st hE=>?_
  have b27:=eo st hE 23 (.slice l 0 ms.length cap 9)
  have b28:=eo st hE 24 (.int .i64 ((i+1:Nat):Int))
  have B3:=es st hE [(23,.slice l 0 ms.length cap 9),(24,.int .i64 ((i+1:Nat):Int)),(22,.slice l 0 i cap 9),(0,.slice l 0 ms.length cap 9),(7,.int .i64 (ms.length:Int))]
  have g32:Grew H15 H26:=(gk st)
  have g33:=Grew.trans g23 g32
  have v34:zM E26 H26.get (.slSl 9 (.tmp 23) (some (.tmp 24)) none none)=some (.slice l ((i+1) * 9) (ms.length - (i+1)) (cap - (i+1)) 9):=by
   have h9:=vF (H:=H26) (lo:=(some (.tmp 24))) (hi:=none) (a:=(i+1)) (b:=ms.length) b27 (.inr (congrArg some b28)) (.inl ⟨rfl,rfl⟩) om om
   simpa using h9
  refine qBX (d:=some 25) (op:=.slSl 9 (.tmp 23) (some (.tmp 24)) none none) (r:=.slice l ((i+1) * 9) (ms.length - (i+1)) (cap - (i+1)) 9) kr rfl v34 ?_
  have q35:=q25.app (.cons rfl .nil:KdsL [.one] [.slice l ((i+1) * 9) (ms.length - (i+1)) (cap - (i+1)) 9])
  refine rC 0 0 [] [(23,n1 0),(24,nI 2),(22,n1 4),(0,n1 0),(7,nI 3),(25,n1 5)] q35 (sc (sp B3) (.cons qB .nil)) ?_
  refine zA kr fun vs ls H36 E36 st hE=>?_
  have b37:=eo st hE 22 (.slice l 0 i cap 9)
  have b38:=eo st hE 25 (.slice l ((i+1) * 9) (ms.length - (i+1)) (cap - (i+1)) 9)
  have B4:=es st hE [(22,.slice l 0 i cap 9),(25,.slice l ((i+1) * 9) (ms.length - (i+1)) (cap - (i+1)) 9),(0,.slice l 0 ms.length cap 9),(7,.int .i64 (ms.length:Int))]
  have g41:Grew H26 H36:=(gk st)
  have g42:=Grew.trans g33 g41
  have rw9:=g42.at hg
  have hy9:qQ H36.get 9 (.slice l ((i+1) * 9) (ms.length - (i+1)) (cap - (i+1)) 9)=some (ms.flatten.drop ((i+1) * 9),ms.length - (i+1)):=by
   by_cases h0:ms.length - (i+1)=0
   ·rw [h0,List.drop_eq_nil_of_le om];simp [qQ]
   ·rw [uG rw9 h0 om,List.take_of_length_le (by rw [List.length_drop];omega)]
  refine qEU (sz:=9) (bytes:=48) (d:=some 26) (x:=.tmp 22) (y:=.tmp 25) kr b37 (by show qQ _ _ (E36 25)=_;rw [b38];exact hy9) rw9 om om om om (List.all_eq_true.2 fun x hx=>List.all_eq_true.1 h1 x (List.mem_of_mem_drop hx)) ?_
  rw [show i+(ms.length - (i+1))=ms.length - 1 by omega,Nat.zero_add]
  obtain⟨H43,eH43⟩:∃ z,z=H36.put l (.row (laid ms.flatten (i * 9) (ms.flatten.drop ((i+1) * 9))) true):=⟨_,rfl⟩
  rw [<- eH43]
  have rH43:H43.get l=some (.row (laid ms.flatten (i * 9) (ms.flatten.drop ((i+1) * 9))) true):=by rw [eH43];exact xM rfl (H36.lt_of_get rw9)
  have oH43:Only l H H43:=by rw [eH43];exact⟨g42.next,fun l' hl hn=>by rw [xG hn];exact g42.get l' hl⟩
  have qH43:=oH43
  have q44:=q35.app (.cons rfl (.cons kA .nil):KdsL [.one,KI] [.slice l 0 (ms.length - 1) cap 9,.int .i64 (((ms.length - 1):Nat):Int)])
  refine rD 0 0 [(.len (n1 6),nI 7)] [] [(22,n1 4),(25,n1 5),(0,n1 0),(7,nI 3),(26,n1 6)] q44 (.cons (qZ (l:=l) (o:=0) (n:=(ms.length - 1)) (cap:=cap) (sz:=9) (dE q44) (dE q44)) .nil) (sc (sp B4) (.cons qB .nil)) ?_
  refine zA kr fun vs ls H45 E45 st hE=>?_
  have b46:=eo st hE 27 (.slice l 0 (ms.length - 1) cap 9)
  have b47:=eo st hE 29 (.int .i64 (((ms.length - 1):Nat):Int))
  have b48:=eo st hE 30 (.int .i64 (ms.length:Int))
  have B5:=es st hE [(27,.slice l 0 (ms.length - 1) cap 9),(29,.int .i64 (((ms.length - 1):Nat):Int)),(30,.int .i64 (ms.length:Int)),(0,.slice l 0 (ms.length - 1) cap 9)]
  have g50:Grew H43 H45:=(gk st)
  have g51:Grew H43 H45:=Grew.trans (Grew.refl _) g50
  have v52:zM E45 H45.get (.slSl 9 (.tmp 27) (some (.tmp 29)) (some (.tmp 30)) none)=some (.slice l ((ms.length - 1) * 9) (ms.length - (ms.length - 1)) (cap - (ms.length - 1)) 9):=by
   have h9:=vF (H:=H45) (lo:=(some (.tmp 29))) (hi:=(some (.tmp 30))) (a:=(ms.length - 1)) (b:=ms.length) b46 (.inr (congrArg some b47)) (.inr (congrArg some b48)) om om
   simpa using h9
  refine tK (d:=some 31) (op:=.slSl 9 (.tmp 27) (some (.tmp 29)) (some (.tmp 30)) none) (r:=.slice l ((ms.length - 1) * 9) (ms.length - (ms.length - 1)) (cap - (ms.length - 1)) 9) kr rfl v52 ?_
  have q53:=q44.app (.cons rfl .nil:KdsL [.one] [.slice l ((ms.length - 1) * 9) (ms.length - (ms.length - 1)) (cap - (ms.length - 1)) 9])
  refine rC 0 0 [] [(27,n1 6),(29,nI 7),(30,nI 3),(0,n1 6),(31,n1 8)] q53 (sc (sp B5) (.cons qB .nil)) ?_
  refine zA kr fun vs ls H54 E54 st hE=>?_
  have b55:=eo st hE 31 (.slice l ((ms.length - 1) * 9) (ms.length - (ms.length - 1)) (cap - (ms.length - 1)) 9)
  have B6:=es st hE [(31,.slice l ((ms.length - 1) * 9) (ms.length - (ms.length - 1)) (cap - (ms.length - 1)) 9),(0,.slice l 0 (ms.length - 1) cap 9)]
  have g57:Grew H45 H54:=(gk st)
  have g58:=Grew.trans g51 g57
  have rw9:=g58.at rH43
  refine qIZ (d:=none) (sz:=9) (zs:=[AV.int .i32 0,.int .i32 0,.int .i32 0,.flt .f32 (some 0),.flt .f32 (some 0),.flt .f32 (some 0),.flt .f32 (some 0),.int .i64 0,.int .i64 0]) (x:=.tmp 31) kr b55 om rw9 (by rw [hlB];omega) rfl rfl ?_
  rw [show ms.length - (ms.length - 1)=1 by omega]
  obtain⟨H59,eH59⟩:∃ z,z=H54.put l (.row (laid (laid ms.flatten (i * 9) (ms.flatten.drop ((i+1) * 9))) ((ms.length - 1) * 9) (List.replicate 1 [AV.int .i32 0,.int .i32 0,.int .i32 0,.flt .f32 (some 0),.flt .f32 (some 0),.flt .f32 (some 0),.flt .f32 (some 0),.int .i64 0,.int .i64 0]).flatten) true):=⟨_,rfl⟩
  rw [<- eH59]
  have rH59:H59.get l=some (.row (laid (laid ms.flatten (i * 9) (ms.flatten.drop ((i+1) * 9))) ((ms.length - 1) * 9) (List.replicate 1 [AV.int .i32 0,.int .i32 0,.int .i32 0,.flt .f32 (some 0),.flt .f32 (some 0),.flt .f32 (some 0),.flt .f32 (some 0),.int .i64 0,.int .i64 0]).flatten) true):=by rw [eH59];exact xM rfl (H54.lt_of_get rw9)
  have oH59:Only l H43 H59:=by rw [eH59];exact⟨g58.next,fun l' hl hn=>by rw [xG hn];exact g58.get l' hl⟩
  have qH59:Only l H H59:=qH43.trans oH59
  refine rC 0 0 [] [(31,n1 8),(0,n1 6)] q53 (sn B6) ?_
  refine zA kr fun vs ls H61 E61 st hE=>?_
  have g9:Grew H59 H61:=(Grew.trans (Grew.refl _) (gk st))
  refine jA kr (zJ st.inn hE (.inr rfl) (a:=.slice l 0 (ms.length - 1) cap 9) kr (Nat.le_trans qH59.next g9.next) ⟨rfl,qH59.trans (.of_grew g9),?_⟩)
  rw [<- qIy hr i hi,<- qKY (Z:=(List.replicate 1 [AV.int .i32 0,.int .i32 0,.int .i32 0,.flt .f32 (some 0),.flt .f32 (some 0),.flt .f32 (some 0),.flt .f32 (some 0),.int .i64 0,.int .i64 0]).flatten) hF (by decide) hi];exact g9.at rH59
theorem qJQ (H:AHeap) (ms:LL) (hr:xJ KM ms) (mx:ms.length<=1048576) (S:AV) (hS:SlF H 9 ms S) (i:Nat) (hi:i < ms.length):qJ Try.prog 71 [S,.int .i64 (i:Int),.int .i64 ((i+1:Nat):Int)] H fun r H'=>OnlyS S H H'/\SlF H' 9 (ms.eraseIdx i) r/\FromS H.next S r:=by
 cases hS with
 | nil h0=>subst h0;simp at hi
 | @sl l n cap hg hn hcc =>
  subst hn
  refine qIi (qLH H ms hr.len (vC hr rfl) mx l cap hg hcc i hi) ?_
  rintro r H' ⟨rfl,ho,row⟩
  refine⟨l,_,_,true,row,.of_only (ho.put _),.sl (qKD row) ?_ ?_,⟨fun l' hl'=>.inr (by rw [atS hl'];exact⟨_,_,_,_,rfl⟩)⟩⟩
  ·rw [List.length_eraseIdx,if_pos hi]
  ·omega
theorem qHO (a b c:Int):∀ ms:LL,(∀ j,j < lin ms a b c->qAl (ms.getD j []) (plc a b c) < 0)/\(lin ms a b c < ms.length -> ¬ qAl (ms.getD (lin ms a b c) []) (plc a b c) < 0)
 | []=>by simp [lin]
 | m :: ms=>by
  obtain⟨h1,h2⟩:=qHO a b c ms
  by_cases h:qAl m (plc a b c) < 0
  ·have e:lin (m :: ms) a b c=lin ms a b c+1:=by
    unfold lin
    rw [List.takeWhile_cons,if_pos (by simpa using h)];rfl
   rw [e]
   refine⟨fun j hj=>?_,fun hl=>?_⟩
   ·cases j with
    | zero=>simpa using h
    | succ j=>simpa using h1 j om
   ·simpa using h2 (by simpa using hl)
  ·have e:lin (m :: ms) a b c=0:=by
    unfold lin
    rw [List.takeWhile_cons,if_neg (by simpa using h)];rfl
   rw [e]
   exact⟨fun j hj=>by omega,fun _=>by simpa using h⟩
theorem qLt (a b c a' b' c' : Int):wB a b c a' b' c' = - wB a' b' c' a b c:=by
 unfold wB qCJ
 (repeat' split) <;> omega
theorem pZ {ms:LL} (hr:xJ KM ms) {t:Nat} (h:t < ms.length):∃ (v0 v1 v2:Int) (r:List AV),ms.getD t []=.int .i32 v0 :: .int .i32 v1 :: .int .i32 v2 :: r:=by
 obtain⟨v0,v1,v2,v3,v4,v5,v6,v7,v8,hm,_⟩:=zZ (hr.get h)
 exact⟨v0,v1,v2,_,by rw [List.getD_eq_getElem?_getD,List.getElem?_eq_getElem h];exact hm⟩
theorem qJO (ms:LL) (m:List AV) (p:Nat) (hp:p<=ms.length) (t:Nat):(ms.take p ++ [m] ++ ms.drop p).getD t []=if t < p then ms.getD t [] else if t=p then m else ms.getD (t - 1) []:=by
 simp only [List.getD_eq_getElem?_getD,List.append_assoc]
 by_cases h:t < p
 ·rw [if_pos h,List.getElem?_append_left (by rw [List.length_take];omega),List.getElem?_take,if_pos h]
 ·rw [if_neg h,List.getElem?_append_right (by rw [List.length_take];omega),List.length_take,Nat.min_eq_left hp]
  by_cases h2:t=p
  ·subst h2;simp
  ·rw [if_neg h2,List.getElem?_append_right (by simp;omega),List.getElem?_drop]
   simp only [List.length_cons,List.length_nil]
   rw [show p+(t - p - (0+1))=t - 1 by omega]
theorem qKT (ms:LL) (m:List AV) (p:Nat) (hp:p < ms.length) (t:Nat):(ms.set p m).getD t []=if t=p then m else ms.getD t []:=by
 simp only [List.getD_eq_getElem?_getD,List.getElem?_set]
 by_cases h:t=p
 ·subst h;simp [hp]
 ·rw [if_neg h,if_neg (Ne.symm h)]
theorem qKC {ms:LL} (hr:xJ KM ms) (hs:qBd ms) {m:List AV} (hk:KdsL KM m):qBd (pG ms m):=by
 obtain⟨a,b,c,v3,v4,v5,v6,v7,v8,rfl,_⟩:=zZ hk
 obtain⟨p,hp⟩:∃ p,lin ms a b c=p:=⟨_,rfl⟩
 obtain⟨l1,l2⟩:=qHO a b c ms
 have hle:=qHN ms a b c
 rw [hp] at l1 l2 hle
 show qBd (if fnd ms a b c=true then (if pQ _ (ms.getD (lin ms a b c) [])=true then ms.set (lin ms a b c) _ else ms) else ms.take (lin ms a b c) ++ [_] ++ ms.drop (lin ms a b c))
 rw [hp]
 split
 ·rename_i hf
  have hlt:p < ms.length:=by rw [<- hp];exact qFA hf
  have h0:qAl (ms.getD p []) (plc a b c)=0:=by
   unfold fnd at hf
   rw [Bool.and_eq_true,hp] at hf
   exact of_decide_eq_true hf.2
  obtain⟨w0,w1,w2,r,hw⟩:=pZ hr hlt
  rw [hw] at h0
  obtain⟨rfl,rfl,rfl⟩:=qFs.1 (show wB w0 w1 w2 a b c=0 from h0)
  split
  ·intro t ht
   rw [List.length_set] at ht
   rw [qKT _ _ _ hlt,qKT _ _ _ hlt]
   have h9:=hs t ht
   by_cases e1:t=p
   ·subst e1
    rw [if_pos rfl,if_neg om]
    obtain⟨u0,u1,u2,s,hu⟩:=pZ hr ht
    rw [hw,hu] at h9
    rw [hu];exact h9
   ·rw [if_neg e1]
    by_cases e2:t+1=p
    ·rw [if_pos e2]
     obtain⟨u0,u1,u2,s,hu⟩:=pZ hr (show t < ms.length by omega)
     rw [e2,hw,hu] at h9
     rw [hu];exact h9
    ·rw [if_neg e2];exact h9
  ·exact hs
 ·rename_i hf
  intro t ht
  have hlen:(ms.take p ++ [_] ++ ms.drop p).length=ms.length+1:=(show (ms.take p ++ [[AV.int .i32 a,.int .i32 b,.int .i32 c,.flt .f32 v3,.flt .f32 v4,.flt .f32 v5,.flt .f32 v6,.int .i64 v7,.int .i64 v8]] ++ ms.drop p).length=ms.length+1 by simp;omega)
  rw [hlen] at ht
  rw [qJO _ _ _ hle,qJO _ _ _ hle]
  by_cases e1:t+1 < p
  ·rw [if_pos om,if_pos e1];exact hs t om
  ·by_cases e2:t+1=p
   ·rw [if_pos om,if_neg om,if_pos e2]
    obtain⟨u0,u1,u2,s,hu⟩:=pZ hr (show t < ms.length by omega)
    have:=l1 t om
    rw [hu] at this
    rw [hu];exact this
   ·by_cases e3:t=p
    ·subst e3
     rw [if_neg om,if_pos rfl,if_neg om,if_neg om,Nat.add_sub_cancel]
     have hlt:t < ms.length:=by omega
     obtain⟨u0,u1,u2,s,hu⟩:=pZ hr hlt
     have h3:=l2 hlt
     have h4:qAl (ms.getD t []) (plc a b c) ≠ 0:=by
      intro h0
      apply hf
      unfold fnd
      rw [hp,Bool.and_eq_true]
      exact⟨decide_eq_true hlt,decide_eq_true h0⟩
     rw [hu] at h3 h4
     rw [hu]
     have h3' : ¬ wB u0 u1 u2 a b c < 0:=h3
     have h4' : wB u0 u1 u2 a b c ≠ 0:=h4
     show wB a b c u0 u1 u2 < 0
     rw [qLt];omega
    ·rw [if_neg om,if_neg e3,if_neg om,if_neg om,Nat.add_sub_cancel]
     have:=hs (t - 1) om
     rw [show t - 1+1=t by omega] at this
     exact this
theorem qIW {ms:LL} (h:∀ m ∈ ms,yA m=true) {m:List AV} (hm:yA m=true):∀ m' ∈ pG ms m,yA m'=true:=by
 intro m' hm'
 unfold pG at hm'
 split at hm'
 ·split at hm'
  ·rcases List.mem_or_eq_of_mem_set hm' with h1 | h1
   ·exact h _ h1
   ·rw [h1];exact hm
  ·exact h _ hm'
 ·simp only [List.mem_append,List.mem_singleton] at hm'
  rcases hm' with (hm' | hm') | hm'
  ·exact h _ (List.mem_of_mem_take hm')
  ·rw [hm'];exact hm
  ·exact h _ (List.mem_of_mem_drop hm')
noncomputable def qGY (w x wt a:ON):ON:=fop .quo .f32 (fop .add .f32 (fop .mul .f32 w x) (fop .mul .f32 wt a)) (fop .add .f32 w wt)
noncomputable def qDu (w wt:ON):ON:=if bQ (fop .add .f32 w wt)=true then fop .add .f32 w wt else w
noncomputable def qOD (m:List AV) (a b c wt:ON) (t:Int):List AV:=match m with
 | [_,_,_,.flt _ x,.flt _ y,.flt _ z,.flt _ w,.int _ s,.int _ l]=>[.flt .f32 (qGY w x wt a),.flt .f32 (qGY w y wt b),.flt .f32 (qGY w z wt c),.flt .f32 (qDu w wt),.int .i64 (min (s+1) 1000000),.int .i64 (max l t)]
 | _=>[]
noncomputable def qCh (x:ON) (ms:LL) (a b c wt:ON) (t:Int) (g:ON):List AV:=
 if (jH x ms a b c g).1 < 0 then [.flt .f32 a,.flt .f32 b,.flt .f32 c,.flt .f32 wt,.int .i64 1,.int .i64 t] else qOD (ms.getD (jH x ms a b c g).1.toNat []) a b c wt t
noncomputable def bE (x:ON) (ms:LL) (a b c g:ON):LL:=
 if (jH x ms a b c g).1 < 0 then ms else ms.eraseIdx (jH x ms a b c g).1.toNat
def qME (x:ON):List AV->List AV × Int
 | .flt _ p :: .flt _ q :: .flt _ r :: _=>zQ x p q r
 | _=>([.int .i32 0,.int .i32 0,.int .i32 0],0)
open Classical in
noncomputable def vM (x:ON) (ms:LL) (a b c wt:ON) (t:Int) (g:ON):Int:=
 if zI wt=true/\0<=t/\t<=1000000000 then (if (jH x ms a b c g).2=0 then (if (qME x (qCh x ms a b c wt t g)).2=0 then (if jU (bE x ms a b c g) ((qME x (qCh x ms a b c wt t g)).1 ++ qCh x ms a b c wt t g)=true then 0 else 3) else 3) else (jH x ms a b c g).2) else 2
noncomputable def qMm (x:ON) (ms:LL) (a b c wt:ON) (t:Int) (g:ON):ON:=if vM x ms a b c wt t g=0 then x else some 0
noncomputable def qHZ (x:ON) (ms:LL) (a b c wt:ON) (t:Int) (g:ON):List AV:=if vM x ms a b c wt t g=0 then (qME x (qCh x ms a b c wt t g)).1 else [.int .i32 0,.int .i32 0,.int .i32 0]
noncomputable def qEj (x:ON) (ms:LL) (a b c wt:ON) (t:Int) (g:ON):Bool:=if vM x ms a b c wt t g=0 then !decide ((jH x ms a b c g).1 < 0) else false
noncomputable def qDM (x:ON) (ms:LL) (a b c wt:ON) (t:Int) (g:ON):LL:=if vM x ms a b c wt t g=0 then pG (bE x ms a b c g) ((qME x (qCh x ms a b c wt t g)).1 ++ qCh x ms a b c wt t g) else []
theorem vT {x:ON} {ms:LL} {a b c wt:ON} {t:Int} {g:ON} {d:Int} (h:vM x ms a b c wt t g=d) (hd:d ≠ 0):vM x ms a b c wt t g=d/\qMm x ms a b c wt t g=some 0/\qHZ x ms a b c wt t g=[.int .i32 0,.int .i32 0,.int .i32 0]/\qEj x ms a b c wt t g=false/\qDM x ms a b c wt t g=[]:=by
 have h0:¬ vM x ms a b c wt t g=0:=by rw [h];exact hd
 exact⟨h,if_neg h0,if_neg h0,if_neg h0,if_neg h0⟩
theorem yI {x:ON} {ms:LL} {a b c wt:ON} {t:Int} {g:ON} (h:vM x ms a b c wt t g=0):vM x ms a b c wt t g=0/\qMm x ms a b c wt t g=x/\qHZ x ms a b c wt t g=(qME x (qCh x ms a b c wt t g)).1/\qEj x ms a b c wt t g = !decide ((jH x ms a b c g).1 < 0)/\qDM x ms a b c wt t g=pG (bE x ms a b c g) ((qME x (qCh x ms a b c wt t g)).1 ++ qCh x ms a b c wt t g):=
 ⟨h,if_pos h,if_pos h,if_pos h,if_pos h⟩
theorem qPt:fOk .f32 (some 0):=fun b e=>by cases e;exact⟨by decide +kernel,by decide +kernel⟩
structure OkMs (ms:LL):Prop where
  rcs:xJ KM ms
  sort:qBd ms
  mks:∀ m ∈ ms,yA m=true
  len:ms.length<=200
theorem qBs {x:ON} {ms:LL} (hr:xJ KM ms) (h:wM x ms=true):OkMs ms:=⟨hr,qIR h,qHe hr h,qKp h⟩
theorem tG {v0 v1 v2:Int} {v3 v4 v5 v6:ON} {v7 v8:Int} (h:yA [.int .i32 v0,.int .i32 v1,.int .i32 v2,.flt .f32 v3,.flt .f32 v4,.flt .f32 v5,.flt .f32 v6,.int .i64 v7,.int .i64 v8]=true):mA v3 v4 v5=true/\zI v6=true/\(1<=v7/\v7<=1000000)/\0<=v8/\v8<=1000000000:=by
 have h:(mA v3 v4 v5 && (zI v6 && (decide (1<=v7/\v7<=1000000) && decide (0<=v8/\v8<=1000000000))))=true:=h
 simp only [Bool.and_eq_true,decide_eq_true_eq] at h
 exact h
theorem qOO {w wt:ON} (hw:fOk .f32 w) (hwt:fOk .f32 wt) (h:zI w=true) (ht:zI wt=true):fOk .f32 (qDu w wt)/\zI (qDu w wt)=true:=by
 unfold qDu
 split
 ·rename_i hf
  refine⟨zS,?_⟩
  unfold zI
  rw [hf,qJm hw hwt (qN h).1 (qN ht).1 (qN h).2 (qN ht).2 hf];rfl
 ·exact⟨hw,h⟩
theorem qGf {x:ON} {ms:LL} (hg:OkMs ms) {a b c wt:ON} {t:Int} {g:ON} (ha:fOk .f32 a) (hb:fOk .f32 b) (hc:fOk .f32 c) (hw:fOk .f32 wt):∃ (p q r w:ON) (s l:Int),qCh x ms a b c wt t g=[.flt .f32 p,.flt .f32 q,.flt .f32 r,.flt .f32 w,.int .i64 s,.int .i64 l]/\fOk .f32 p/\fOk .f32 q/\fOk .f32 r/\fOk .f32 w/\(zI wt=true->0<=t->t<=1000000000->zI w=true/\(1<=s/\s<=1000000)/\0<=l/\l<=1000000000):=by
 unfold qCh
 split
 ·exact⟨a,b,c,wt,1,t,rfl,ha,hb,hc,hw,fun h1 h2 h3=>⟨h1,by omega,h2,h3⟩⟩
 ·rename_i hn
  have hr9:=qAN x ms a b c g
  have hl:(jH x ms a b c g).1.toNat < ms.length:=by omega
  obtain⟨v0,v1,v2,v3,v4,v5,v6,v7,v8,hm,o3,o4,o5,o6⟩:=zZ (hg.rcs.get hl)
  have hk:=hg.mks _ (List.getElem_mem hl)
  rw [hm] at hk
  obtain⟨k1,k2,k3,k4⟩:=tG hk
  have he:ms.getD (jH x ms a b c g).1.toNat []=[.int .i32 v0,.int .i32 v1,.int .i32 v2,.flt .f32 v3,.flt .f32 v4,.flt .f32 v5,.flt .f32 v6,.int .i64 v7,.int .i64 v8]:=by rw [List.getD_eq_getElem?_getD,List.getElem?_eq_getElem hl];exact hm
  rw [he]
  refine⟨_,_,_,_,_,_,rfl,zS,zS,zS,?_,fun h1 h2 h3=>⟨(qOO o6 hw k2 h1).2,by omega,by omega,by omega⟩⟩
  unfold qDu
  split
  ·exact zS
  ·exact o6
theorem qJx {s p q r:ON} (h:(zQ s p q r).2=0):mA p q r=true:=by
 unfold zQ at h
 split at h
 ·split at h
  ·assumption
  ·cases h
 ·cases h
theorem qIa {x:ON} {p q r w:ON} {s l c0 c1 c2:Int} (hce:zQ x p q r=([.int .i32 c0,.int .i32 c1,.int .i32 c2],0)) (h:zI w=true/\(1<=s/\s<=1000000)/\0<=l/\l<=1000000000):yA [.int .i32 c0,.int .i32 c1,.int .i32 c2,.flt .f32 p,.flt .f32 q,.flt .f32 r,.flt .f32 w,.int .i64 s,.int .i64 l]=true:=by
 show (mA p q r && (zI w && (decide (1<=s/\s<=1000000) && decide (0<=l/\l<=1000000000))))=true
 rw [qJx (by rw [hce]),h.1,decide_eq_true h.2.1,decide_eq_true h.2.2];rfl
theorem qDY (ms:LL) (i t:Nat):(ms.eraseIdx i).getD t []=if t < i then ms.getD t [] else ms.getD (t+1) []:=by
 simp only [List.getD_eq_getElem?_getD,List.getElem?_eraseIdx]
 split <;> rfl
theorem qIv {ms:LL} (hr:xJ KM ms) (hs:qBd ms) (i:Nat) (hi:i < ms.length):qBd (ms.eraseIdx i):=by
 intro t ht
 rw [List.length_eraseIdx,if_pos hi] at ht
 rw [qDY,qDY]
 by_cases h1:t+1 < i
 ·rw [if_pos om,if_pos h1];exact hs t om
 ·by_cases h2:t < i
  ·rw [if_pos h2,if_neg h1]
   obtain⟨a,b,c,u,e⟩:=pZ hr (t:=t) om
   obtain⟨a',b',c',u',e'⟩:=pZ hr (t:=t+1) om
   obtain⟨a2,b2,c2,u2,e2⟩:=pZ hr (t:=t+1+1) om
   have q1:=hs t om
   have q2:=hs (t+1) om
   rw [e,e'] at q1
   rw [e',e2] at q2
   rw [e,e2]
   exact qDT (a':=a') (b':=b') (c':=c') q1 q2
  ·rw [if_neg h2,if_neg om];exact hs (t+1) om
theorem xR (x:ON) {ms:LL} (hg:OkMs ms) (a b c g:ON):OkMs (bE x ms a b c g):=by
 unfold bE
 split
 ·exact hg
 ·have hr9:=qAN x ms a b c g
  have hl:(jH x ms a b c g).1.toNat < ms.length:=by omega
  have hsub:=List.eraseIdx_sublist ms (jH x ms a b c g).1.toNat
  exact⟨fun m hm=>hg.rcs m (hsub.mem hm),qIv hg.rcs hg.sort _ hl,fun m hm=>hg.mks m (hsub.mem hm),Nat.le_trans hsub.length_le hg.len⟩
theorem tM {x:ON} {ms:LL} (hg:OkMs ms) {a b c wt:ON} {t:Int} {g:ON} (ha:fOk .f32 a) (hb:fOk .f32 b) (hc:fOk .f32 c) (hw:fOk .f32 wt) (h:vM x ms a b c wt t g=0):OkMs (qDM x ms a b c wt t g):=by
 obtain⟨_,_,_,_,hL⟩:=yI h
 rw [hL]
 obtain⟨p,q,r,w,s,l,hM,op,oq,or,ow,hv⟩:=qGf (x:=x) (t:=t) (g:=g) hg ha hb hc hw
 have hR:=xR x hg a b c g
 unfold vM at h
 rw [hM] at h ⊢
 split at h
 ·rename_i h1
  split at h
  ·split at h
   ·rename_i h2 h3
    obtain⟨c0,c1,c2,d,hce⟩:=bB x p q r
    have e3:qME x [.flt .f32 p,.flt .f32 q,.flt .f32 r,.flt .f32 w,.int .i64 s,.int .i64 l]=zQ x p q r:=rfl
    rw [e3,hce] at h3 ⊢
    have h3:d=0:=h3
    subst h3
    have hk:KdsL KM [.int .i32 c0,.int .i32 c1,.int .i32 c2,.flt .f32 p,.flt .f32 q,.flt .f32 r,.flt .f32 w,.int .i64 s,.int .i64 l]:=.cons kA (.cons kA (.cons kA (.cons (kF op) (.cons (kF oq) (.cons (kF or) (.cons (kF ow) (.cons kA (.cons kA .nil))))))))
    have hm:=qIa hce (hv h1.1 h1.2.1 h1.2.2)
    split at h
    ·rename_i h4
     rw [e3,hce] at h4
     have q1:=bX (m:=[.int .i32 c0,.int .i32 c1,.int .i32 c2,.flt .f32 p,.flt .f32 q,.flt .f32 r,.flt .f32 w,.int .i64 s,.int .i64 l]) hR.len
     have h4:jU (bE x ms a b c g) [.int .i32 c0,.int .i32 c1,.int .i32 c2,.flt .f32 p,.flt .f32 q,.flt .f32 r,.flt .f32 w,.int .i64 s,.int .i64 l]=true:=h4
     rw [h4] at q1
     have q2:=of_decide_eq_true q1.symm
     exact⟨qKB hR.rcs hk,qKC hR.rcs hR.sort hk,qIW hR.mks hm,by
      show (pG (bE x ms a b c g) [.int .i32 c0,.int .i32 c1,.int .i32 c2,.flt .f32 p,.flt .f32 q,.flt .f32 r,.flt .f32 w,.int .i64 s,.int .i64 l]).length<=200
      omega⟩
    ·cases h
   ·cases h
  ·rename_i h2;exact absurd h h2
 ·cases h
theorem qIn (s a b c:ON):(zQ s a b c).2=0 \/ (zQ s a b c).2=2 \/ (zQ s a b c).2=3:=by
 unfold zQ
 repeat' split
 all_goals first | exact .inl rfl | exact .inr (.inl rfl) | exact .inr (.inr rfl)
theorem qHd {x:ON} {ms:LL} {a b c g:ON} {m1 m2:Int} (h:qEQ x ms a b c g=(m1,m2)):(m2=0->0<=m1/\m1 < ms.length/\jH x ms a b c g=(m1,0))/\(m2=6->(jH x ms a b c g).1 < 0/\(jH x ms a b c g).2=0)/\(m2 ≠ 0->m2 ≠ 6->(jH x ms a b c g).2=m2):=by
 have hr:=qAN x ms a b c g
 have h6:(jH x ms a b c g).2 ≠ 6:=by
  unfold jH
  have:=qIn x a b c
  split
  ·split
   ·show (0:Int) ≠ 6;decide
   ·show (zQ x a b c).2 ≠ 6;omega
  ·show (2:Int) ≠ 6;decide
 unfold qEQ at h
 split at h
 ·rename_i h0
  split at h
  ·rename_i h1
   cases h
   exact⟨fun e=>absurd e (by decide),fun _=>⟨h1,h0⟩,fun _ e=>absurd rfl e⟩
  ·rename_i h1
   cases h
   refine⟨fun _=>⟨by omega,hr.2,Prod.ext rfl h0⟩,fun e=>absurd e (by decide),fun e=>absurd rfl e⟩
 ·rename_i h0
  cases h
  exact⟨fun e=>absurd e h0,fun e=>absurd e h6,fun _ _=>rfl⟩
theorem qKa (H:AHeap) (x:ON) (hx:fOk .f32 x) (ms:LL) (hr:xJ KM ms) (S:AV) (hS:SlL H 9 ms S) (mxms:ms.length<=1048576) (ho:OkMs ms) (a b c:ON) (ha:fOk .f32 a) (hb:fOk .f32 b) (hc:fOk .f32 c) (wt:ON) (hwt:fOk .f32 wt) (t:Int) (g:ON) (hg:fOk .f32 g):qJ Try.prog 45 [.agg [.flt .f32 x,S],.agg [.flt .f32 a,.flt .f32 b,.flt .f32 c],.flt .f32 wt,.int .i64 t,.flt .f32 g] H fun r H'=>Grew H H' /\ ∃ S',r=.tuple [.agg [.flt .f32 (qMm x ms a b c wt t g),S'],.agg (qHZ x ms a b c wt t g),.bool (qEj x ms a b c wt t g),.int .i64 (vM x ms a b c wt t g)]/\SlF H' 9 (qDM x ms a b c wt t g) S'/\FreshS H.next S':=by
 obtain⟨m1,m2,hN⟩:∃ m1 m2,qEQ x ms a b c g=(m1,m2):=⟨_,_,rfl⟩
 have hNc:=qHd hN
 refine qF kG (by simp) ?_
 refine gY 0 kr ?_
 have q1:KdsL [KF,.one,KF,KF,KF,KF,KI,KF,KI,KI] [.flt .f32 x,S,.flt .f32 a,.flt .f32 b,.flt .f32 c,.flt .f32 wt,.int .i64 t,.flt .f32 g,.int .i64 m1,.int .i64 m2]:=kL
 refine rC 0 4 [] [(0,.agg [nF 0,n1 1]),(1,.agg [nF 2,nF 3,nF 4]),(2,nF 5),(3,nI 6),(4,nF 7)] q1 (.cons (t:=0) rfl (.cons (t:=1) rfl (.cons (t:=2) rfl (.cons (t:=3) rfl (.cons (t:=4) rfl .nil))))) ?_
 refine zA kr fun vs ls H2 E2 st hE=>?_
 obtain⟨p3,e4,r5,n6⟩:=pO st hE 10 2 [.flt .f32 (some 0),.nilslice]
 have op3:H.next<=p3:=Nat.le_trans (Nat.le_refl _) (oM n6)
 obtain⟨p7,e8,r9,n10⟩:=pO st hE 11 3 [.int .i32 0,.int .i32 0,.int .i32 0]
 have op7:H.next<=p7:=Nat.le_trans (Nat.le_refl _) (oM n10)
 obtain⟨p11,e12,r13,n14⟩:=pO st hE 5 0 [.flt .f32 x,S]
 have op11:H.next<=p11:=Nat.le_trans (Nat.le_refl _) (oM n14)
 obtain⟨p15,e16,r17,n18⟩:=pO st hE 6 1 [.flt .f32 a,.flt .f32 b,.flt .f32 c]
 have op15:H.next<=p15:=Nat.le_trans (Nat.le_refl _) (oM n18)
 have ne19:=pn st hE 10 2 11 3 [lF,lN] e4 e8
 have ne20:=pn st hE 10 2 5 0 [lF,lN] e4 e12
 have ne21:=pn st hE 10 2 6 1 [lF,lN] e4 e16
 have ne22:=pn st hE 11 3 5 0 [l0,l0,l0] e8 e12
 have ne23:=pn st hE 11 3 6 1 [l0,l0,l0] e8 e16
 have ne24:=pn st hE 5 0 6 1 [.nd 0 (.flt .f32),.nd 1 .one] e12 e16
 have B1:=es st hE [(2,.flt .f32 wt),(3,.int .i64 t),(4,.flt .f32 g)]
 have g28:Grew H H2:=(gk st)
 have g29:Grew H H2:=Grew.trans (Grew.refl _) g28
 refine qGm kr ?_
 refine qAW 5 (fun E H'=>E 2=.flt .f32 wt/\E 3=.int .i64 t/\E 10=.ptr p3 0/\E 11=.ptr p7 0/\E 5=.ptr p11 0/\E 6=.ptr p15 0/\E 14=.int .i64 m1/\E 15=.int .i64 m2/\Grew H H'/\H'.get p3=some (.row [.flt .f32 (some 0),.nilslice] true)/\H'.get p7=some (.row [.int .i32 0,.int .i32 0,.int .i32 0] true)/\H'.get p11=some (.row [.flt .f32 x,S] true)/\H'.get p15=some (.row [.flt .f32 a,.flt .f32 b,.flt .f32 c] true)/\zI wt=true/\0<=t/\t<=1000000000/\(m2=0 \/ m2=6)) kr ?_ ?_
 ·have q31:=q1.app (kL:KdsL [.bool] [.bool (zI wt)])
  refine rD 2 4 [(.call 55 [nF 5],nB 10),(.call 70 [.agg [nF 0,n1 1],.agg [nF 2,nF 3,nF 4],nF 7],.tup [nI 8,nI 9])] [wf p11 [nF 0,n1 1],wf p15 [nF 2,nF 3,nF 4],⟨p3,0,[lF,lN],true⟩,⟨p7,0,[l0,l0,l0],true⟩] [(2,nF 5),(3,nI 6),(4,nF 7),(10,.ptr 2 0),(11,.ptr 3 0),(5,.ptr 0 0),(6,.ptr 1 0)] q31 (.cons (qH (args:=[.flt .f32 wt]) (dL q31) (dE q31) (fun H9 hk=>qCV wt hwt H9)) (.cons (qH (args:=[.agg [.flt .f32 x,S],.agg [.flt .f32 a,.flt .f32 b,.flt .f32 c],.flt .f32 g]) (r:=.tuple [.int .i64 m1,.int .i64 m2]) (dL q31) (dE q31) (fun H9 hk=>(by have h9:=qEK H9 x hx ms hr S (hS.grew (qK g29 hk ⟨op3,⟨op7,trivial⟩⟩)) mxms a b c ha hb hc g hg;rw [hN] at h9;exact h9))) .nil)) (sc B1 (.cons e4 (.cons e8 (.cons e12 (.cons e16 .nil))))) ?_
  refine qPe kr ?_ ?_ ?_ ?_ ?_ ?_
  ·intro vs ls H32 E32 st hE
   have f33:(zI wt)=false:=bf st 0
   have gz:Grew H H32:=(qK g29 (st.inn.kept) ⟨op3,⟨op7,trivial⟩⟩)
   have hC:vM x ms a b c wt t g=2:=by
    unfold vM;rw [if_neg (fun q9=>absurd q9.1 (by rw [f33];decide))]
   obtain⟨_,eX,eP2,eK2,eL2⟩:=vT hC (by decide)
   exact jA kr (qCv kr (zJ st.inn hE (.inr rfl) (a:=.tuple [.agg [.flt .f32 (some 0),.nilslice],.agg [.int .i32 0,.int .i32 0,.int .i32 0],.bool false,.int .i64 2]) kr gz.next (by rw [hC,eX,eP2,eK2,eL2];exact⟨gz,_,rfl,(.nil rfl),FreshS.nil⟩)))
  ·intro vs ls H34 E34 st hE
   have f35:1000000000 < t:=dt st 0
   have f36:¬ (t < 0):=df st 1
   have f37:(zI wt)=true:=bf st 2
   have gz:Grew H H34:=(qK g29 (st.inn.kept) ⟨op3,⟨op7,trivial⟩⟩)
   have hC:vM x ms a b c wt t g=2:=by
    unfold vM;rw [if_neg (fun q9=>by have:=q9.2;omega)]
   obtain⟨_,eX,eP2,eK2,eL2⟩:=vT hC (by decide)
   exact jA kr (qCv kr (zJ st.inn hE (.inr rfl) (a:=.tuple [.agg [.flt .f32 (some 0),.nilslice],.agg [.int .i32 0,.int .i32 0,.int .i32 0],.bool false,.int .i64 2]) kr gz.next (by rw [hC,eX,eP2,eK2,eL2];exact⟨gz,_,rfl,(.nil rfl),FreshS.nil⟩)))
  ·intro vs ls H38 E38 st hE
   have f39:¬ (m2=6):=df st 0
   have f40:¬ (m2=0):=df st 1
   have f41:¬ (1000000000 < t):=df st 2
   have f42:¬ (t < 0):=df st 3
   have f43:(zI wt)=true:=bf st 4
   have gz:Grew H H38:=(qK g29 (st.inn.kept) ⟨op3,⟨op7,trivial⟩⟩)
   have hC:vM x ms a b c wt t g=m2:=by
    unfold vM;rw [if_pos ⟨f43,by omega,by omega⟩]
    rw [show (jH x ms a b c g).2=m2 from hNc.2.2 f40 f39,if_neg f40]
   obtain⟨_,eX,eP2,eK2,eL2⟩:=vT hC f40
   exact jA kr (qCv kr (zJ st.inn hE (.inr rfl) (a:=.tuple [.agg [.flt .f32 (some 0),.nilslice],.agg [.int .i32 0,.int .i32 0,.int .i32 0],.bool false,.int .i64 m2]) kr gz.next (by rw [hC,eX,eP2,eK2,eL2];exact⟨gz,_,rfl,(.nil rfl),FreshS.nil⟩)))
  ·intro vs ls H44 E44 st hE
   have f45:m2=6:=dt st 0
   have f46:¬ (m2=0):=df st 1
   have f47:¬ (1000000000 < t):=df st 2
   have f48:¬ (t < 0):=df st 3
   have f49:(zI wt)=true:=bf st 4
   have b50:=eo st hE 5 (.ptr p11 0)
   have b51:=eo st hE 6 (.ptr p15 0)
   have b52:=eo st hE 2 (.flt .f32 wt)
   have b53:=eo st hE 3 (.int .i64 t)
   have b54:=eo st hE 15 (.int .i64 m2)
   have b55:=eo st hE 14 (.int .i64 m1)
   have b56:=eo st hE 10 (.ptr p3 0)
   have b57:=eo st hE 11 (.ptr p7 0)
   have g58:Grew H2 H44:=(gk st)
   have g59:=Grew.trans g29 g58
   have r60:=g58.at r13
   have r61:=g58.at r17
   have r62:=g58.at r5
   have r63:=g58.at r9
   exact vS kr ⟨b52,b53,b56,b57,b50,b51,b55,b54,g59,r62,r63,r60,r61,f49,by omega,by omega,(.inr f45)⟩
  ·intro vs ls H64 E64 st hE
   have f65:m2=0:=dt st 0
   obtain⟨hge9,hlt9,hI9⟩:=hNc.1 f65
   have f66:¬ (1000000000 < t):=df st 1
   have f67:¬ (t < 0):=df st 2
   have f68:(zI wt)=true:=bf st 3
   have b69:=eo st hE 5 (.ptr p11 0)
   have b70:=eo st hE 6 (.ptr p15 0)
   have b71:=eo st hE 2 (.flt .f32 wt)
   have b72:=eo st hE 3 (.int .i64 t)
   have b73:=eo st hE 15 (.int .i64 m2)
   have b74:=eo st hE 14 (.int .i64 m1)
   have b75:=eo st hE 10 (.ptr p3 0)
   have b76:=eo st hE 11 (.ptr p7 0)
   have g77:Grew H2 H64:=(gk st)
   have g78:=Grew.trans g29 g77
   have r79:=g77.at r13
   have r80:=g77.at r17
   have r81:=g77.at r5
   have r82:=g77.at r9
   exact vS kr ⟨b71,b72,b75,b76,b69,b70,b74,b73,g78,r81,r82,r79,r80,f68,by omega,by omega,(.inl f65)⟩
  ·intro vs ls H83 E83 st hE
   have f84:t < 0:=dt st 0
   have f85:(zI wt)=true:=bf st 1
   have gz:Grew H H83:=(qK g29 (st.inn.kept) ⟨op3,⟨op7,trivial⟩⟩)
   have hC:vM x ms a b c wt t g=2:=by
    unfold vM;rw [if_neg (fun q9=>by have:=q9.2;omega)]
   obtain⟨_,eX,eP2,eK2,eL2⟩:=vT hC (by decide)
   exact jA kr (qCv kr (zJ st.inn hE (.inr rfl) (a:=.tuple [.agg [.flt .f32 (some 0),.nilslice],.agg [.int .i32 0,.int .i32 0,.int .i32 0],.bool false,.int .i64 2]) kr gz.next (by rw [hC,eX,eP2,eK2,eL2];exact⟨gz,_,rfl,(.nil rfl),FreshS.nil⟩)))
 ·rintro E30 H30 ⟨c30_2,c30_3,c30_10,c30_11,c30_5,c30_6,c30_14,c30_15,gt30,r30_0,r30_1,r30_2,r30_3,hsd30,ht130,ht230,hm30⟩
  have hn230:(jH x ms a b c g).2=0:=by
   rcases hm30 with e | e
   ·rw [(hNc.1 e).2.2]
   ·exact(hNc.2.1 e).2
  have hkn30:(!decide ((jH x ms a b c g).1 < 0))=decide (m2=0):=by
   rcases hm30 with e | e
   ·rw [(hNc.1 e).2.2,decide_eq_true e]
    show (!decide (m1 < 0))=true
    rw [decide_eq_false (by have:=(hNc.1 e).1;omega)];rfl
   ·rw [decide_eq_true (hNc.2.1 e).1,decide_eq_false om];rfl
  refine rC 4 4 [wf p3 [lF,lN],wf p7 [l0,l0,l0],wf p11 [nF 0,n1 1],wf p15 [nF 2,nF 3,nF 4]] [(2,nF 5),(3,nI 6),(10,.ptr 0 0),(11,.ptr 1 0),(5,.ptr 2 0),(6,.ptr 3 0),(14,nI 8),(15,nI 9)] q1 (.cons c30_2 (.cons c30_3 (.cons c30_10 (.cons c30_11 (.cons c30_5 (.cons c30_6 (.cons c30_14 (.cons c30_15 .nil)))))))) ?_
  refine zA kr fun vs ls H87 E87 st hE=>?_
  have b88:=eo st hE 48 (.agg [.flt .f32 x,S])
  have B2:=es st hE [(48,.agg [.flt .f32 x,S]),(6,.ptr p15 0),(2,.flt .f32 wt),(3,.int .i64 t),(15,.int .i64 m2),(5,.ptr p11 0),(14,.int .i64 m1),(10,.ptr p3 0),(11,.ptr p7 0)]
  have g97:Grew H30 H87:=(gk st)
  have g98:=Grew.trans gt30 g97
  have r99:=g97.at r30_0
  have r100:=g97.at r30_1
  have r101:=g97.at r30_2
  have r102:=g97.at r30_3
  refine zB (d:=(some 49)) (f:=36) (args:=[.tmp 48]) kr (R:=fun z H'=>Grew H87 H' /\ ∃ S',z=.agg [.flt .f32 x,S']/\SlF H' 9 ms S'/\FreshS H87.next S') ?_ ?_
  ·show qJ _ _ [E87 48] _ _
   rw [b88]
   exact qHK H87 x hx ms hr (S) (hS.grew g98) mxms
  rintro z H103 ⟨gH103,S104,rfl,sS104,fS104⟩
  have ne105:ApartL (S104) p3:=fS104.apartL (H87.lt_of_get r99)
  have ne106:ApartL (S104) p7:=fS104.apartL (H87.lt_of_get r100)
  have ne107:ApartL (S104) p11:=fS104.apartL (H87.lt_of_get r101)
  have ne108:ApartL (S104) p15:=fS104.apartL (H87.lt_of_get r102)
  have fr109:FreshS H.next (S104):=fS104.mono g98.next
  have g110:=Grew.trans g98 gH103
  have r111:=gH103.at r99
  have r112:=gH103.at r100
  have r113:=gH103.at r101
  have r114:=gH103.at r102
  refine gY 2 kr ?_
  have q115:=q1.app (kL:KdsL [.one] [S104])
  refine rC 4 4 [wf p3 [lF,lN],wf p7 [l0,l0,l0],wf p11 [nF 0,n1 1],wf p15 [nF 2,nF 3,nF 4]] [(48,.agg [nF 0,n1 1]),(6,.ptr 3 0),(2,nF 5),(3,nI 6),(15,nI 9),(5,.ptr 2 0),(14,nI 8),(10,.ptr 0 0),(11,.ptr 1 0),(49,.agg [nF 0,n1 10])] q115 (sc (sp B2) (.cons qB .nil)) ?_
  refine zA kr fun vs ls H116 E116 st hE=>?_
  obtain⟨p117,e118,r119,n120⟩:=pO st hE 16 4 [.flt .f32 x,S104]
  have op117:H.next<=p117:=Nat.le_trans g110.next (oM n120)
  obtain⟨p121,e122,r123,n124⟩:=pO st hE 17 5 [.int .i32 0,.int .i32 0,.int .i32 0,.flt .f32 a,.flt .f32 b,.flt .f32 c,.flt .f32 wt,.int .i64 1,.int .i64 t]
  have op121:H.next<=p121:=Nat.le_trans g110.next (oM n124)
  have ne125:=pn st hE 16 4 17 5 [.nd 0 (.flt .f32),.nd 10 .one] e118 e122
  have ne126:=apn r111 (oM n120)
  have ne127:=apn r112 (oM n120)
  have ne128:=apn r113 (oM n120)
  have ne129:=apn r114 (oM n120)
  have ne130:ApartL (S104) p117:=sS104.apart_new (oM n120)
  have ne131:=apn r111 (oM n124)
  have ne132:=apn r112 (oM n124)
  have ne133:=apn r113 (oM n124)
  have ne134:=apn r114 (oM n124)
  have ne135:ApartL (S104) p121:=sS104.apart_new (oM n124)
  obtain⟨w136,hw136⟩:∃ z,z=(decide (m2=0)):=⟨_,rfl⟩
  have b137:E116 18=.bool w136:=by rw [hw136];exact eo st hE 18 _
  have B3:=es st hE [(5,.ptr p11 0),(14,.int .i64 m1),(2,.flt .f32 wt),(6,.ptr p15 0),(3,.int .i64 t),(15,.int .i64 m2),(10,.ptr p3 0),(11,.ptr p7 0)]
  have g146:Grew H103 H116:=(gk st)
  have g147:=Grew.trans g110 g146
  have r148:=g146.at r111
  have r149:=g146.at r112
  have r150:=g146.at r113
  have r151:=g146.at r114
  have s152:=sS104.grew g146
  refine qGm kr ?_
  refine qAW 2 (fun E H'=>∃ (np153:ON) (nq153:ON) (nr153:ON) (nw153:ON) (ns153:Int) (nl153:Int) (sa153:AV),E 18=.bool w136/\E 5=.ptr p11 0/\E 16=.ptr p117 0/\E 17=.ptr p121 0/\E 15=.int .i64 m2/\E 10=.ptr p3 0/\E 11=.ptr p7 0/\Grew H H'/\H'.get p3=some (.row [.flt .f32 (some 0),.nilslice] true)/\H'.get p7=some (.row [.int .i32 0,.int .i32 0,.int .i32 0] true)/\H'.get p11=some (.row [.flt .f32 x,S] true)/\H'.get p117=some (.row [.flt .f32 x,sa153] true)/\H'.get p121=some (.row [.int .i32 0,.int .i32 0,.int .i32 0,.flt .f32 np153,.flt .f32 nq153,.flt .f32 nr153,.flt .f32 nw153,.int .i64 ns153,.int .i64 nl153] true)/\SlF H' 9 (bE x ms a b c g) sa153/\FreshS H.next sa153/\ApartL sa153 p3/\ApartL sa153 p7/\ApartL sa153 p11/\ApartL sa153 p117/\ApartL sa153 p121/\qCh x ms a b c wt t g=[.flt .f32 np153,.flt .f32 nq153,.flt .f32 nr153,.flt .f32 nw153,.int .i64 ns153,.int .i64 nl153]/\fOk .f32 np153/\fOk .f32 nq153/\fOk .f32 nr153/\fOk .f32 nw153) kr ?_ ?_
  ·have q154:=q115.app (kL:KdsL [.bool] [.bool w136])
   refine rC 6 4 [wf p3 [lF,lN],wf p7 [l0,l0,l0],wf p11 [nF 0,n1 1],wf p15 [nF 2,nF 3,nF 4],wf p117 [nF 0,n1 10],wf p121 [l0,l0,l0,nF 2,nF 3,nF 4,nF 5,.lit (.int .i64 1),nI 6]] [(5,.ptr 2 0),(14,nI 8),(2,nF 5),(6,.ptr 3 0),(3,nI 6),(15,nI 9),(10,.ptr 0 0),(11,.ptr 1 0),(18,nB 11),(16,.ptr 4 0),(17,.ptr 5 0)] q154 (sc B3 (.cons b137 (.cons e118 (.cons e122 .nil)))) ?_
   refine dB kr ?_ ?_
   ·intro vs ls H155 E155 st hE
    have f156:w136=true:=bf st 0
    have fz157:m2=0:=of_decide_eq_true (hw136.symm.trans f156)
    obtain⟨hge9,hlt9,hI9⟩:=hNc.1 fz157
    have B4:=es st hE [(58,S),(59,.int .i64 m1),(16,.ptr p117 0),(14,.int .i64 m1),(2,.flt .f32 wt),(6,.ptr p15 0),(17,.ptr p121 0),(3,.int .i64 t),(5,.ptr p11 0),(15,.int .i64 m2),(10,.ptr p3 0),(11,.ptr p7 0),(18,.bool w136)]
    have g171:Grew H116 H155:=(gk st)
    have g172:=Grew.trans g147 g171
    have r173:=g171.at r148
    have r174:=g171.at r149
    have r175:=g171.at r150
    have r176:=g171.at r151
    have r177:=g171.at r119
    have r178:=g171.at r123
    have s179:=s152.grew g171
    obtain⟨k180,rfl⟩:∃ k:Nat,m1=(k:Int):=⟨Int.toNat m1,by omega⟩
    have hlt181:k180 < ms.length:=by omega
    obtain⟨lS181,cap181,rest181,wr181,eS181,gB181⟩:=hS.isSl hlt181
    have gS181:=g172.at gB181
    have ne182:=apn gB181 op3
    have ne183:=apn gB181 op7
    have ne184:=apn gB181 op11
    have ne185:=apn gB181 op15
    have ne186:=apn gB181 op117
    have ne187:=apn gB181 op121
    obtain⟨v181_0,v181_1,v181_2,v181_3,v181_4,v181_5,v181_6,v181_7,v181_8,hm181,ho181_3,ho181_4,ho181_5,ho181_6⟩:=zZ (hr.get hlt181)
    have he181:ms.getD k180 []=[.int .i32 v181_0,.int .i32 v181_1,.int .i32 v181_2,.flt .f32 v181_3,.flt .f32 v181_4,.flt .f32 v181_5,.flt .f32 v181_6,.int .i64 v181_7,.int .i64 v181_8]:=by rw [<- hm181,List.getD_eq_getElem?_getD,List.getElem?_eq_getElem hlt181];rfl
    have q188:KdsL [KF,.one,KF,KF,KF,KF,KI,KF,KI,KI,.one,.bool,K2,K2,K2,KF,KF,KF,KF,KI,KI] [.flt .f32 x,S,.flt .f32 a,.flt .f32 b,.flt .f32 c,.flt .f32 wt,.int .i64 t,.flt .f32 g,.int .i64 (k180:Int),.int .i64 m2,S104,.bool w136,.int .i32 v181_0,.int .i32 v181_1,.int .i32 v181_2,.flt .f32 v181_3,.flt .f32 v181_4,.flt .f32 v181_5,.flt .f32 v181_6,.int .i64 v181_7,.int .i64 v181_8]:=kL
    refine qL (φ:=φ0) (pm:=pmR 7 [(.ia 9 (n1 1) (nI 8),.ptr 6 0)] 4) 20 (ws:=[wf p3 [lF,lN],wf p7 [l0,l0,l0],wf p11 [nF 0,n1 1],wf p15 [nF 2,nF 3,nF 4],wf p117 [nF 0,n1 10],wf p121 [l0,l0,l0,nF 2,nF 3,nF 4,nF 5,.lit (.int .i64 1),nI 6],⟨lS181,(k180 * 9),[n2 12,n2 13,n2 14,nF 15,nF 16,nF 17,nF 18,nI 19,nI 20],false⟩]) (env:=[(58,n1 1),(59,nI 8),(16,.ptr 4 0),(14,nI 8),(2,nF 5),(6,.ptr 3 0),(17,.ptr 5 0),(3,nI 6),(5,.ptr 2 0),(15,nI 9),(10,.ptr 0 0),(11,.ptr 1 0),(18,nB 11)]) q188 (.cons (wR r173 q188) (.cons (wR r174 q188) (.cons (wR r175 q188) (.cons (wR r176 q188) (.cons (wR r177 q188) (.cons (wR r178 q188) (.cons (zV hr gS181 hlt181 rfl (by rw [hm181];exact(dL q188))) .nil))))))) (qI rfl) (.cons (bA (k:=k180) (dE q188) eS181 (dE q188) hlt181 rfl) .nil) (eC q188 B4) qU qM ?_
    refine zA kr fun vs ls H189 E189 st hE=>?_
    obtain⟨p190,e191,r192,n193⟩:=pO st hE 19 7 [.int .i32 v181_0,.int .i32 v181_1,.int .i32 v181_2,.flt .f32 v181_3,.flt .f32 v181_4,.flt .f32 v181_5,.flt .f32 v181_6,.int .i64 v181_7,.int .i64 v181_8]
    have op190:H.next<=p190:=Nat.le_trans g172.next (oM n193)
    have ne194:=apn r173 (oM n193)
    have ne195:=apn r174 (oM n193)
    have ne196:=apn r175 (oM n193)
    have ne197:=apn r176 (oM n193)
    have ne198:=apn r177 (oM n193)
    have ne199:=apn r178 (oM n193)
    have ne200:=apn gS181 (oM n193)
    have ne201:ApartL (S104) p190:=s179.apart_new (oM n193)
    have b202:=eo st hE 63 S104
    have b203:=eo st hE 64 (.int .i64 (k180:Int))
    obtain⟨w204,hw204⟩:∃ z,z=(IntKind.wrap .i64 ((k180:Int)+1)):=⟨_,rfl⟩
    have b205:E189 66=.int .i64 w204:=by rw [hw204];exact eo st hE 66 _
    have B5:=es st hE [(63,S104),(64,.int .i64 (k180:Int)),(16,.ptr p117 0),(2,.flt .f32 wt),(6,.ptr p15 0),(17,.ptr p121 0),(3,.int .i64 t),(5,.ptr p11 0),(15,.int .i64 m2),(10,.ptr p3 0),(11,.ptr p7 0),(18,.bool w136)]
    have g216:Grew H155 H189:=(gk st)
    have g217:=Grew.trans g172 g216
    have r218:=g216.at r173
    have r219:=g216.at r174
    have r220:=g216.at r175
    have r221:=g216.at r176
    have r222:=g216.at r177
    have r223:=g216.at r178
    have s225:=s179.grew g216
    refine zB (d:=(some 67)) (f:=71) (args:=[.tmp 63,.tmp 64,.tmp 66]) kr (R:=fun z H'=>OnlyS (S104) H189 H'/\SlF H' 9 (ms.eraseIdx k180) z/\FromS H189.next (S104) z) ?_ ?_
    ·show qJ _ _ [E189 63,E189 64,E189 66] _ _
     rw [b202,b203,b205]
     exact(by rw [hw204,wrap64 om];exact qJQ H189 ms hr mxms (S104) s225 k180 om)
    rintro S226 H227 ⟨oS226,sS226,fS226⟩
    have ne228:=aL fS226 r218 am
    have ne229:=aL fS226 r219 am
    have ne230:=aL fS226 r220 am
    have ne231:=aL fS226 r221 am
    have ne232:=aL fS226 r222 am
    have ne233:=aL fS226 r223 am
    have ne234:=aL fS226 r192 am
    have fr235:FreshS H.next (S226):=fS226.fresh fr109 g217.next
    have g236:Grew H H227:=OnlyS.own g217 fr109 oS226
    have r237:=oS226.at r218 am
    have r238:=oS226.at r219 am
    have r239:=oS226.at r220 am
    have r240:=oS226.at r221 am
    have r241:=oS226.at r222 am
    have r242:=oS226.at r223 am
    have r243:=oS226.at r192 am
    refine gY 3 kr ?_
    have q244:=q188.app (kL:KdsL [KI,.one] [.int .i64 w204,S226])
    refine rC 5 4 [wf p3 [lF,lN],wf p7 [l0,l0,l0],wf p11 [nF 0,n1 1],wf p15 [nF 2,nF 3,nF 4],wf p190 [n2 12,n2 13,n2 14,nF 15,nF 16,nF 17,nF 18,nI 19,nI 20],⟨p117,0,[nF 0,n1 10],true⟩,⟨p121,0,[l0,l0,l0,nF 2,nF 3,nF 4,nF 5,.lit (.int .i64 1),nI 6],true⟩] [(63,n1 10),(64,nI 8),(16,.ptr 5 0),(2,nF 5),(6,.ptr 3 0),(17,.ptr 6 0),(3,nI 6),(5,.ptr 2 0),(15,nI 9),(10,.ptr 0 0),(11,.ptr 1 0),(18,nB 11),(66,nI 21),(19,.ptr 4 0),(67,n1 22)] q244 (sc (sp B5) (.cons (qD rfl b205) (.cons (qD rfl e191) (.cons qB .nil)))) ?_
    refine zA kr fun vs ls H245 E245 st hE=>?_
    have r246:H245.get p117=some (.row [.flt .f32 x,S226] true):=rW st 5
    obtain⟨w247,hw247⟩:∃ z,z=(fop .quo .f32 (fop .add .f32 (fop .mul .f32 v181_6 v181_3) (fop .mul .f32 wt a)) (fop .add .f32 v181_6 wt)):=⟨_,rfl⟩
    obtain⟨w248,hw248⟩:∃ z,z=(fop .quo .f32 (fop .add .f32 (fop .mul .f32 v181_6 v181_4) (fop .mul .f32 wt b)) (fop .add .f32 v181_6 wt)):=⟨_,rfl⟩
    obtain⟨w249,hw249⟩:∃ z,z=(fop .quo .f32 (fop .add .f32 (fop .mul .f32 v181_6 v181_5) (fop .mul .f32 wt c)) (fop .add .f32 v181_6 wt)):=⟨_,rfl⟩
    obtain⟨w250,hw250⟩:∃ z,z=(fop .add .f32 v181_6 wt):=⟨_,rfl⟩
    have r251:H245.get p121=some (.row [.int .i32 0,.int .i32 0,.int .i32 0,.flt .f32 (fop .quo .f32 (fop .add .f32 (fop .mul .f32 v181_6 v181_3) (fop .mul .f32 wt a)) (fop .add .f32 v181_6 wt)),.flt .f32 (fop .quo .f32 (fop .add .f32 (fop .mul .f32 v181_6 v181_4) (fop .mul .f32 wt b)) (fop .add .f32 v181_6 wt)),.flt .f32 (fop .quo .f32 (fop .add .f32 (fop .mul .f32 v181_6 v181_5) (fop .mul .f32 wt c)) (fop .add .f32 v181_6 wt)),.flt .f32 (fop .add .f32 v181_6 wt),.int .i64 1,.int .i64 t] true):=rW st 6
    rw [<- hw247] at r251
    rw [<- hw248] at r251
    rw [<- hw249] at r251
    rw [<- hw250] at r251
    have b252:E245 20=.flt .f32 w250:=by rw [hw250];exact eo st hE 20 _
    have B6:=es st hE [(19,.ptr p190 0),(17,.ptr p121 0),(3,.int .i64 t),(5,.ptr p11 0),(15,.int .i64 m2),(16,.ptr p117 0),(10,.ptr p3 0),(11,.ptr p7 0),(18,.bool w136)]
    have g263:Grew H H245:=qK g236 st.inn.kept ⟨op117,⟨op121,trivial⟩⟩
    have r264:=zH st.inn.kept r237 ⟨aS,⟨aS,trivial⟩⟩
    have r265:=zH st.inn.kept r238 ⟨aS,⟨aS,trivial⟩⟩
    have r266:=zH st.inn.kept r239 ⟨aS,⟨aS,trivial⟩⟩
    have r268:=zH st.inn.kept r243 ⟨aS,⟨aS,trivial⟩⟩
    have s269:=sS226.keep st.inn.kept ⟨by assumption,⟨by assumption,trivial⟩⟩
    refine qGm kr ?_
    refine qAW 2 (fun E H'=>∃ (nw2270:ON),E 19=.ptr p190 0/\E 17=.ptr p121 0/\E 3=.int .i64 t/\E 5=.ptr p11 0/\E 15=.int .i64 m2/\E 16=.ptr p117 0/\E 10=.ptr p3 0/\E 11=.ptr p7 0/\E 18=.bool w136/\Grew H H'/\H'.get p3=some (.row [.flt .f32 (some 0),.nilslice] true)/\H'.get p7=some (.row [.int .i32 0,.int .i32 0,.int .i32 0] true)/\H'.get p11=some (.row [.flt .f32 x,S] true)/\H'.get p190=some (.row [.int .i32 v181_0,.int .i32 v181_1,.int .i32 v181_2,.flt .f32 v181_3,.flt .f32 v181_4,.flt .f32 v181_5,.flt .f32 v181_6,.int .i64 v181_7,.int .i64 v181_8] true)/\H'.get p117=some (.row [.flt .f32 x,S226] true)/\H'.get p121=some (.row [.int .i32 0,.int .i32 0,.int .i32 0,.flt .f32 w247,.flt .f32 w248,.flt .f32 w249,.flt .f32 nw2270,.int .i64 1,.int .i64 t] true)/\SlF H' 9 (ms.eraseIdx k180) S226/\nw2270=qDu v181_6 wt/\fOk .f32 nw2270) kr ?_ ?_
    ·have q271:=q244.app (.cons ⟨_,rfl,hw247 ▸ zS⟩ (.cons ⟨_,rfl,hw248 ▸ zS⟩ (.cons ⟨_,rfl,hw249 ▸ zS⟩ (.cons ⟨_,rfl,hw250 ▸ zS⟩ .nil))):KdsL [KF,KF,KF,KF] [.flt .f32 w247,.flt .f32 w248,.flt .f32 w249,.flt .f32 w250])
     refine rC 4 4 [wf p3 [lF,lN],wf p7 [l0,l0,l0],wf p11 [nF 0,n1 1],wf p190 [n2 12,n2 13,n2 14,nF 15,nF 16,nF 17,nF 18,nI 19,nI 20],⟨p117,0,[nF 0,n1 22],true⟩,⟨p121,0,[l0,l0,l0,nF 23,nF 24,nF 25,nF 26,.lit (.int .i64 1),nI 6],true⟩] [(19,.ptr 3 0),(17,.ptr 5 0),(3,nI 6),(5,.ptr 2 0),(15,nI 9),(16,.ptr 4 0),(10,.ptr 0 0),(11,.ptr 1 0),(18,nB 11),(20,nF 26)] q271 (sc B6 (.cons b252 .nil)) ?_
     refine dB kr ?_ ?_
     ·intro vs ls H272 E272 st hE
      have f273:(qO .f32 (fop .sub .f32 w250 w250) (some 0) == some .eq)=false:=bf st 0
      have r274:H272.get p117=some (.row [.flt .f32 x,S226] true):=rW st 4
      have r275:H272.get p121=some (.row [.int .i32 0,.int .i32 0,.int .i32 0,.flt .f32 w247,.flt .f32 w248,.flt .f32 w249,.flt .f32 v181_6,.int .i64 1,.int .i64 t] true):=rW st 5
      have b276:=eo st hE 19 (.ptr p190 0)
      have b277:=eo st hE 3 (.int .i64 t)
      have b278:=eo st hE 17 (.ptr p121 0)
      have b279:=eo st hE 5 (.ptr p11 0)
      have b280:=eo st hE 15 (.int .i64 m2)
      have b281:=eo st hE 16 (.ptr p117 0)
      have b282:=eo st hE 10 (.ptr p3 0)
      have b283:=eo st hE 11 (.ptr p7 0)
      have b284:=eo st hE 18 (.bool w136)
      have g286:Grew H H272:=qK g263 st.inn.kept ⟨op117,⟨op121,trivial⟩⟩
      have r287:=zH st.inn.kept r264 ⟨aS,⟨aS,trivial⟩⟩
      have r288:=zH st.inn.kept r265 ⟨aS,⟨aS,trivial⟩⟩
      have r289:=zH st.inn.kept r266 ⟨aS,⟨aS,trivial⟩⟩
      have r290:=zH st.inn.kept r268 ⟨aS,⟨aS,trivial⟩⟩
      have s291:=s269.keep st.inn.kept ⟨by assumption,⟨by assumption,trivial⟩⟩
      have hf9:bQ (fop .add .f32 v181_6 wt)=false:=by rw [<- xH];first | exact f273 | (rw [hw250] at f273;exact f273)
      have hw9:qDu v181_6 wt=v181_6:=by unfold qDu;rw [hf9];first | rfl | exact(‹v181_6=_›).symm
      exact vS kr ⟨v181_6,b276,b278,b277,b279,b280,b281,b282,b283,b284,g286,r287,r288,r289,r290,r274,r275,s291,hw9.symm,ho181_6⟩
     ·intro vs ls H292 E292 st hE
      have f293:(qO .f32 (fop .sub .f32 w250 w250) (some 0) == some .eq)=true:=bf st 0
      have b294:=eo st hE 19 (.ptr p190 0)
      have b295:=eo st hE 3 (.int .i64 t)
      have b296:=eo st hE 17 (.ptr p121 0)
      have b297:=eo st hE 5 (.ptr p11 0)
      have b298:=eo st hE 15 (.int .i64 m2)
      have b299:=eo st hE 16 (.ptr p117 0)
      have b300:=eo st hE 10 (.ptr p3 0)
      have b301:=eo st hE 11 (.ptr p7 0)
      have b302:=eo st hE 18 (.bool w136)
      have g303:Grew H245 H292:=(gk st)
      have g304:=Grew.trans g263 g303
      have r305:=g303.at r264
      have r306:=g303.at r265
      have r307:=g303.at r266
      have r308:=g303.at r268
      have r309:=g303.at r246
      have r310:=g303.at r251
      have s311:=s269.grew g303
      have hf9:bQ (fop .add .f32 v181_6 wt)=true:=by rw [<- xH];first | exact f293 | (rw [hw250] at f293;exact f293)
      have hw9:qDu v181_6 wt=w250:=by unfold qDu;rw [hf9];first | rfl | exact(‹w250=_›).symm
      exact vS kr ⟨w250,b294,b296,b295,b297,b298,b299,b300,b301,b302,g304,r305,r306,r307,r308,r309,r310,s311,hw9.symm,hw250 ▸ zS⟩
    ·rintro E270 H270 ⟨nw2270,c270_19,c270_17,c270_3,c270_5,c270_15,c270_16,c270_10,c270_11,c270_18,gt270,r270_0,r270_1,r270_2,r270_3,r270_4,r270_5,so270_0,hfw270,hfo270⟩
     have q312:=q244.app (.cons ⟨_,rfl,hw247 ▸ zS⟩ (.cons ⟨_,rfl,hw248 ▸ zS⟩ (.cons ⟨_,rfl,hw249 ▸ zS⟩ (.cons ⟨_,rfl,hw250 ▸ zS⟩ (.cons (kF hfo270) .nil)))):KdsL [KF,KF,KF,KF,KF] [.flt .f32 w247,.flt .f32 w248,.flt .f32 w249,.flt .f32 w250,.flt .f32 nw2270])
     refine rC 4 4 [wf p3 [lF,lN],wf p7 [l0,l0,l0],wf p11 [nF 0,n1 1],wf p190 [n2 12,n2 13,n2 14,nF 15,nF 16,nF 17,nF 18,nI 19,nI 20],⟨p117,0,[nF 0,n1 22],true⟩,⟨p121,0,[l0,l0,l0,nF 23,nF 24,nF 25,nF 27,.lit (.int .i64 1),nI 6],true⟩] [(19,.ptr 3 0),(17,.ptr 5 0),(3,nI 6),(5,.ptr 2 0),(15,nI 9),(16,.ptr 4 0),(10,.ptr 0 0),(11,.ptr 1 0),(18,nB 11)] q312 (.cons c270_19 (.cons c270_17 (.cons c270_3 (.cons c270_5 (.cons c270_15 (.cons c270_16 (.cons c270_10 (.cons c270_11 (.cons c270_18 .nil))))))))) ?_
     refine zA kr fun vs ls H313 E313 st hE=>?_
     have B7:=es st hE [(104,.ptr p190 7),(17,.ptr p121 0),(108,.ptr p190 8),(110,.int .i64 t),(5,.ptr p11 0),(15,.int .i64 m2),(16,.ptr p117 0),(10,.ptr p3 0),(11,.ptr p7 0),(18,.bool w136)]
     have g324:Grew H270 H313:=(gk st)
     have g325:=Grew.trans gt270 g324
     have r326:=g324.at r270_0
     have r327:=g324.at r270_1
     have r328:=g324.at r270_2
     have r329:=g324.at r270_3
     have r330:=g324.at r270_4
     have r331:=g324.at r270_5
     have s332:=so270_0.grew g324
     refine wH kr ?_ ?_
     ·refine rC 4 4 [wf p3 [lF,lN],wf p7 [l0,l0,l0],wf p11 [nF 0,n1 1],wf p190 [n2 12,n2 13,n2 14,nF 15,nF 16,nF 17,nF 18,nI 19,nI 20],⟨p117,0,[nF 0,n1 22],true⟩,⟨p121,0,[l0,l0,l0,nF 23,nF 24,nF 25,nF 27,.lit (.int .i64 1),nI 6],true⟩] [(104,.ptr 3 7),(17,.ptr 5 0),(108,.ptr 3 8),(110,nI 6),(5,.ptr 2 0),(15,nI 9),(16,.ptr 4 0),(10,.ptr 0 0),(11,.ptr 1 0),(18,nB 11)] q312 B7 ?_
      refine zA kr fun vs ls H334 E334 st hE=>?_
      obtain⟨w338,hw338⟩:∃ z,z=(if 1000000 < (IntKind.wrap .i64 (v181_7+1)) then 1000000 else (IntKind.wrap .i64 (v181_7+1))):=⟨_,rfl⟩
      have b339:E334 107=.int .i64 w338:=by rw [hw338];exact eo st hE 107 _
      have B8:=es st hE [(108,.ptr p190 8),(110,.int .i64 t),(112,.ptr p121 7),(17,.ptr p121 0),(5,.ptr p11 0),(15,.int .i64 m2),(16,.ptr p117 0),(10,.ptr p3 0),(11,.ptr p7 0),(18,.bool w136)]
      have g347:Grew H313 H334:=(gk st)
      have g348:=Grew.trans g325 g347
      have r349:=g347.at r326
      have r350:=g347.at r327
      have r351:=g347.at r328
      have r352:=g347.at r329
      have r353:=g347.at r330
      have r354:=g347.at r331
      have s355:=s332.grew g347
      refine wH kr ?_ ?_
      ·have q356:=q312.app (kL:KdsL [KI] [.int .i64 w338])
       refine rC 4 4 [wf p3 [lF,lN],wf p7 [l0,l0,l0],wf p11 [nF 0,n1 1],wf p190 [n2 12,n2 13,n2 14,nF 15,nF 16,nF 17,nF 18,nI 19,nI 20],⟨p117,0,[nF 0,n1 22],true⟩,⟨p121,0,[l0,l0,l0,nF 23,nF 24,nF 25,nF 27,.lit (.int .i64 1),nI 6],true⟩] [(108,.ptr 3 8),(110,nI 6),(112,.ptr 5 7),(17,.ptr 5 0),(5,.ptr 2 0),(15,nI 9),(16,.ptr 4 0),(10,.ptr 0 0),(11,.ptr 1 0),(18,nB 11),(107,nI 28)] q356 (sc B8 (.cons b339 .nil)) ?_
       refine zA kr fun vs ls H357 E357 st hE=>?_
       have r358:H357.get p117=some (.row [.flt .f32 x,S226] true):=rW st 4
       obtain⟨w359,hw359⟩:∃ z,z=(if v181_8 < t then t else v181_8):=⟨_,rfl⟩
       have r360:H357.get p121=some (.row [.int .i32 0,.int .i32 0,.int .i32 0,.flt .f32 w247,.flt .f32 w248,.flt .f32 w249,.flt .f32 nw2270,.int .i64 w338,.int .i64 (if v181_8 < t then t else v181_8)] true):=rW st 5
       rw [<- hw359] at r360
       have b361:=eo st hE 5 (.ptr p11 0)
       have b362:=eo st hE 17 (.ptr p121 0)
       have b363:=eo st hE 15 (.int .i64 m2)
       have b364:=eo st hE 16 (.ptr p117 0)
       have b365:=eo st hE 10 (.ptr p3 0)
       have b366:=eo st hE 11 (.ptr p7 0)
       have b367:=eo st hE 18 (.bool w136)
       have g369:Grew H H357:=qK g348 st.inn.kept ⟨op117,⟨op121,trivial⟩⟩
       have r370:=zH st.inn.kept r349 ⟨aS,⟨aS,trivial⟩⟩
       have r371:=zH st.inn.kept r350 ⟨aS,⟨aS,trivial⟩⟩
       have r372:=zH st.inn.kept r351 ⟨aS,⟨aS,trivial⟩⟩
       have s374:=s355.keep st.inn.kept ⟨by assumption,⟨by assumption,trivial⟩⟩
       have hM9:qCh x ms a b c wt t g=[.flt .f32 w247,.flt .f32 w248,.flt .f32 w249,.flt .f32 nw2270,.int .i64 w338,.int .i64 w359]:=by
        have hk9:=ho.mks _ (List.getElem_mem hlt181)
        rw [hm181] at hk9
        obtain⟨k1,k2,k3,k4⟩:=tG hk9
        have hwr9:IntKind.wrap .i64 (v181_7+1)=v181_7+1:=wrap_i64 om om
        unfold qCh;rw [hI9]
        show (if (((k180:Nat):Int)) < 0 then _ else qOD (ms.getD (Int.toNat ((k180:Nat):Int)) []) a b c wt t)=_
        rw [if_neg om,Int.toNat_natCast,he181]
        have hw9:qDu v181_6 wt=nw2270:=hfw270.symm
        have hs9:min (v181_7+1) 1000000=w338:=by have:=hw338;omega
        have hl9:max v181_8 t=w359:=by have:=hw359;omega
        show [AV.flt .f32 (qGY v181_6 v181_3 wt a),.flt .f32 (qGY v181_6 v181_4 wt b),.flt .f32 (qGY v181_6 v181_5 wt c),.flt .f32 (qDu v181_6 wt),.int .i64 (min (v181_7+1) 1000000),.int .i64 (max v181_8 t)]=_
        rw [hw9,hs9,hl9,hw247,hw248,hw249]
        first | rfl | (rw [hw250];rfl)
       exact vS kr ⟨w247,w248,w249,nw2270,w338,w359,S226,b367,b361,b364,b362,b363,b365,b366,g369,r370,r371,r372,r358,r360,(by rw [show (bE x ms a b c g)=ms.eraseIdx k180 by unfold bE;rw [hI9];show (if (((k180:Nat):Int)) < 0 then _ else ms.eraseIdx (Int.toNat ((k180:Nat):Int)))=_;rw [if_neg om,Int.toNat_natCast]];exact s374),fr235,am,am,am,am,am,hM9,hw247 ▸ zS,hw248 ▸ zS,hw249 ▸ zS,hfo270⟩
      ·have q375:=q312.app (kL:KdsL [KI] [.int .i64 w338])
       refine rC 4 4 [wf p3 [lF,lN],wf p7 [l0,l0,l0],wf p11 [nF 0,n1 1],wf p190 [n2 12,n2 13,n2 14,nF 15,nF 16,nF 17,nF 18,nI 19,nI 20],⟨p117,0,[nF 0,n1 22],true⟩,⟨p121,0,[l0,l0,l0,nF 23,nF 24,nF 25,nF 27,.lit (.int .i64 1),nI 6],true⟩] [(108,.ptr 3 8),(110,nI 6),(112,.ptr 5 7),(17,.ptr 5 0),(5,.ptr 2 0),(15,nI 9),(16,.ptr 4 0),(10,.ptr 0 0),(11,.ptr 1 0),(18,nB 11),(107,nI 28)] q375 (sc B8 (.cons b339 .nil)) ?_
       refine zA kr fun vs ls H376 E376 st hE=>?_
       have r377:H376.get p117=some (.row [.flt .f32 x,S226] true):=rW st 4
       obtain⟨w378,hw378⟩:∃ z,z=(if v181_8 < t then t else v181_8):=⟨_,rfl⟩
       have r379:H376.get p121=some (.row [.int .i32 0,.int .i32 0,.int .i32 0,.flt .f32 w247,.flt .f32 w248,.flt .f32 w249,.flt .f32 nw2270,.int .i64 w338,.int .i64 (if v181_8 < t then t else v181_8)] true):=rW st 5
       rw [<- hw378] at r379
       have b380:=eo st hE 5 (.ptr p11 0)
       have b381:=eo st hE 17 (.ptr p121 0)
       have b382:=eo st hE 15 (.int .i64 m2)
       have b383:=eo st hE 16 (.ptr p117 0)
       have b384:=eo st hE 10 (.ptr p3 0)
       have b385:=eo st hE 11 (.ptr p7 0)
       have b386:=eo st hE 18 (.bool w136)
       have g388:Grew H H376:=qK g348 st.inn.kept ⟨op117,⟨op121,trivial⟩⟩
       have r389:=zH st.inn.kept r349 ⟨aS,⟨aS,trivial⟩⟩
       have r390:=zH st.inn.kept r350 ⟨aS,⟨aS,trivial⟩⟩
       have r391:=zH st.inn.kept r351 ⟨aS,⟨aS,trivial⟩⟩
       have s393:=s355.keep st.inn.kept ⟨by assumption,⟨by assumption,trivial⟩⟩
       have hM9:qCh x ms a b c wt t g=[.flt .f32 w247,.flt .f32 w248,.flt .f32 w249,.flt .f32 nw2270,.int .i64 w338,.int .i64 w378]:=by
        have hk9:=ho.mks _ (List.getElem_mem hlt181)
        rw [hm181] at hk9
        obtain⟨k1,k2,k3,k4⟩:=tG hk9
        have hwr9:IntKind.wrap .i64 (v181_7+1)=v181_7+1:=wrap_i64 om om
        unfold qCh;rw [hI9]
        show (if (((k180:Nat):Int)) < 0 then _ else qOD (ms.getD (Int.toNat ((k180:Nat):Int)) []) a b c wt t)=_
        rw [if_neg om,Int.toNat_natCast,he181]
        have hw9:qDu v181_6 wt=nw2270:=hfw270.symm
        have hs9:min (v181_7+1) 1000000=w338:=by have:=hw338;omega
        have hl9:max v181_8 t=w378:=by have:=hw378;omega
        show [AV.flt .f32 (qGY v181_6 v181_3 wt a),.flt .f32 (qGY v181_6 v181_4 wt b),.flt .f32 (qGY v181_6 v181_5 wt c),.flt .f32 (qDu v181_6 wt),.int .i64 (min (v181_7+1) 1000000),.int .i64 (max v181_8 t)]=_
        rw [hw9,hs9,hl9,hw247,hw248,hw249]
        first | rfl | (rw [hw250];rfl)
       exact vS kr ⟨w247,w248,w249,nw2270,w338,w378,S226,b386,b380,b383,b381,b382,b384,b385,g388,r389,r390,r391,r377,r379,(by rw [show (bE x ms a b c g)=ms.eraseIdx k180 by unfold bE;rw [hI9];show (if (((k180:Nat):Int)) < 0 then _ else ms.eraseIdx (Int.toNat ((k180:Nat):Int)))=_;rw [if_neg om,Int.toNat_natCast]];exact s393),fr235,am,am,am,am,am,hM9,hw247 ▸ zS,hw248 ▸ zS,hw249 ▸ zS,hfo270⟩
     ·refine rC 4 4 [wf p3 [lF,lN],wf p7 [l0,l0,l0],wf p11 [nF 0,n1 1],wf p190 [n2 12,n2 13,n2 14,nF 15,nF 16,nF 17,nF 18,nI 19,nI 20],⟨p117,0,[nF 0,n1 22],true⟩,⟨p121,0,[l0,l0,l0,nF 23,nF 24,nF 25,nF 27,.lit (.int .i64 1),nI 6],true⟩] [(104,.ptr 3 7),(17,.ptr 5 0),(108,.ptr 3 8),(110,nI 6),(5,.ptr 2 0),(15,nI 9),(16,.ptr 4 0),(10,.ptr 0 0),(11,.ptr 1 0),(18,nB 11)] q312 B7 ?_
      refine zA kr fun vs ls H395 E395 st hE=>?_
      have r396:H395.get p117=some (.row [.flt .f32 x,S226] true):=rW st 4
      obtain⟨w397,hw397⟩:∃ z,z=(if 1000000 < (IntKind.wrap .i64 (v181_7+1)) then 1000000 else (IntKind.wrap .i64 (v181_7+1))):=⟨_,rfl⟩
      obtain⟨w398,hw398⟩:∃ z,z=(if v181_8 < t then t else v181_8):=⟨_,rfl⟩
      have r399:H395.get p121=some (.row [.int .i32 0,.int .i32 0,.int .i32 0,.flt .f32 w247,.flt .f32 w248,.flt .f32 w249,.flt .f32 nw2270,.int .i64 (if 1000000 < (IntKind.wrap .i64 (v181_7+1)) then 1000000 else (IntKind.wrap .i64 (v181_7+1))),.int .i64 (if v181_8 < t then t else v181_8)] true):=rW st 5
      rw [<- hw397] at r399
      rw [<- hw398] at r399
      have b400:=eo st hE 5 (.ptr p11 0)
      have b401:=eo st hE 17 (.ptr p121 0)
      have b402:=eo st hE 15 (.int .i64 m2)
      have b403:=eo st hE 16 (.ptr p117 0)
      have b404:=eo st hE 10 (.ptr p3 0)
      have b405:=eo st hE 11 (.ptr p7 0)
      have b406:=eo st hE 18 (.bool w136)
      have g408:Grew H H395:=qK g325 st.inn.kept ⟨op117,⟨op121,trivial⟩⟩
      have r409:=zH st.inn.kept r326 ⟨aS,⟨aS,trivial⟩⟩
      have r410:=zH st.inn.kept r327 ⟨aS,⟨aS,trivial⟩⟩
      have r411:=zH st.inn.kept r328 ⟨aS,⟨aS,trivial⟩⟩
      have s413:=s332.keep st.inn.kept ⟨by assumption,⟨by assumption,trivial⟩⟩
      have hM9:qCh x ms a b c wt t g=[.flt .f32 w247,.flt .f32 w248,.flt .f32 w249,.flt .f32 nw2270,.int .i64 w397,.int .i64 w398]:=by
       have hk9:=ho.mks _ (List.getElem_mem hlt181)
       rw [hm181] at hk9
       obtain⟨k1,k2,k3,k4⟩:=tG hk9
       have hwr9:IntKind.wrap .i64 (v181_7+1)=v181_7+1:=wrap_i64 om om
       unfold qCh;rw [hI9]
       show (if (((k180:Nat):Int)) < 0 then _ else qOD (ms.getD (Int.toNat ((k180:Nat):Int)) []) a b c wt t)=_
       rw [if_neg om,Int.toNat_natCast,he181]
       have hw9:qDu v181_6 wt=nw2270:=hfw270.symm
       have hs9:min (v181_7+1) 1000000=w397:=by have:=hw397;omega
       have hl9:max v181_8 t=w398:=by have:=hw398;omega
       show [AV.flt .f32 (qGY v181_6 v181_3 wt a),.flt .f32 (qGY v181_6 v181_4 wt b),.flt .f32 (qGY v181_6 v181_5 wt c),.flt .f32 (qDu v181_6 wt),.int .i64 (min (v181_7+1) 1000000),.int .i64 (max v181_8 t)]=_
       rw [hw9,hs9,hl9,hw247,hw248,hw249]
       first | rfl | (rw [hw250];rfl)
      exact vS kr ⟨w247,w248,w249,nw2270,w397,w398,S226,b406,b400,b403,b401,b402,b404,b405,g408,r409,r410,r411,r396,r399,(by rw [show (bE x ms a b c g)=ms.eraseIdx k180 by unfold bE;rw [hI9];show (if (((k180:Nat):Int)) < 0 then _ else ms.eraseIdx (Int.toNat ((k180:Nat):Int)))=_;rw [if_neg om,Int.toNat_natCast]];exact s413),fr235,am,am,am,am,am,hM9,hw247 ▸ zS,hw248 ▸ zS,hw249 ▸ zS,hfo270⟩
   ·intro vs ls H414 E414 st hE
    have f415:w136=false:=bf st 0
    have fz416:¬ m2=0:=of_decide_eq_false (hw136.symm.trans f415)
    have b417:=eo st hE 5 (.ptr p11 0)
    have b418:=eo st hE 17 (.ptr p121 0)
    have b419:=eo st hE 15 (.int .i64 m2)
    have b420:=eo st hE 16 (.ptr p117 0)
    have b421:=eo st hE 10 (.ptr p3 0)
    have b422:=eo st hE 11 (.ptr p7 0)
    have b423:=eo st hE 18 (.bool w136)
    have g424:Grew H116 H414:=(gk st)
    have g425:=Grew.trans g147 g424
    have r426:=g424.at r148
    have r427:=g424.at r149
    have r428:=g424.at r150
    have r430:=g424.at r119
    have r431:=g424.at r123
    have s432:=s152.grew g424
    have hneg9:=(hNc.2.1 om).1
    have hM9:qCh x ms a b c wt t g=[.flt .f32 a,.flt .f32 b,.flt .f32 c,.flt .f32 wt,.int .i64 1,.int .i64 t]:=by
     unfold qCh;rw [if_pos hneg9]
    exact vS kr ⟨a,b,c,wt,1,t,S104,b423,b417,b420,b418,b419,b421,b422,g425,r426,r427,r428,r430,r431,(by rw [show (bE x ms a b c g)=ms by unfold bE;rw [if_pos hneg9]];exact s432),fr109,am,am,am,am,am,hM9,ha,hb,hc,hwt⟩
  ·rintro E153 H153 ⟨np153,nq153,nr153,nw153,ns153,nl153,sa153,c153_18,c153_5,c153_16,c153_17,c153_15,c153_10,c153_11,gt153,r153_0,r153_1,r153_2,r153_4,r153_5,s153,f153,ap153_0,ap153_1,ap153_2,ap153_4,ap153_5,hM153,hp153,hq153,hr153,hw153⟩
   obtain⟨c0153,c1153,c2153,dd153,hce153⟩:=bB x np153 nq153 nr153
   have q433:=q115.app (kL:KdsL [.bool,.one,KF,KF,KF,KF,KI,KI,K2,K2,K2,KI,K2,K2,K2,KI] [.bool w136,sa153,.flt .f32 np153,.flt .f32 nq153,.flt .f32 nr153,.flt .f32 nw153,.int .i64 ns153,.int .i64 nl153,.int .i32 c0153,.int .i32 c1153,.int .i32 c2153,.int .i64 dd153,.int .i32 c0153,.int .i32 c1153,.int .i32 c2153,.int .i64 dd153])
   refine rD 4 4 [(.call 73 [nF 0,.agg [nF 13,nF 14,nF 15]],.tup [.agg [n2 23,n2 24,n2 25],nI 26])] [wf p3 [lF,lN],wf p7 [l0,l0,l0],wf p11 [nF 0,n1 1],wf p117 [nF 0,n1 12],⟨p121,0,[l0,l0,l0,nF 13,nF 14,nF 15,nF 16,nI 17,nI 18],true⟩] [(18,nB 11),(5,.ptr 2 0),(16,.ptr 3 0),(17,.ptr 4 0),(15,nI 9),(10,.ptr 0 0),(11,.ptr 1 0)] q433 (.cons (qH (args:=[.flt .f32 x,.agg [.flt .f32 np153,.flt .f32 nq153,.flt .f32 nr153]]) (r:=.tuple [.agg [.int .i32 c0153,.int .i32 c1153,.int .i32 c2153],.int .i64 dd153]) (dL q433) (dE q433) (fun H9 hk=>(by have h9:=qEI x np153 nq153 nr153 hx hp153 hq153 hr153 H9;rw [hce153] at h9;exact h9))) .nil) (.cons c153_18 (.cons c153_5 (.cons c153_16 (.cons c153_17 (.cons c153_15 (.cons c153_10 (.cons c153_11 .nil))))))) ?_
   refine dB kr ?_ ?_
   ·intro vs ls H434 E434 st hE
    have f435:¬ (dd153=0):=df st 0
    have r436:H434.get p121=some (.row [.int .i32 c0153,.int .i32 c1153,.int .i32 c2153,.flt .f32 np153,.flt .f32 nq153,.flt .f32 nr153,.flt .f32 nw153,.int .i64 ns153,.int .i64 nl153] true):=rW st 4
    obtain⟨w439,hw439⟩:∃ z,z=(!(decide (dd153=0))):=⟨_,rfl⟩
    have b440:E434 125=.bool w439:=by rw [hw439];exact eo st hE 125 _
    have B9:=es st hE [(16,.ptr p117 0),(126,.undef),(10,.ptr p3 0),(11,.ptr p7 0),(17,.ptr p121 0),(18,.bool w136)]
    have g446:Grew H H434:=qK gt153 st.inn.kept ⟨op121,trivial⟩
    have r447:=zH st.inn.kept r153_0 ⟨aS,trivial⟩
    have r448:=zH st.inn.kept r153_1 ⟨aS,trivial⟩
    have r450:=zH st.inn.kept r153_4 ⟨aS,trivial⟩
    have gd452:E434 125=.bool true:=by rw [b440,hw439];simp [f435]
    refine qIX (d:=some 127) (f:=37) (args:=[.tmp 16,.tmp 126]) (t:=125) (want:=false) kr gd452 ?_
    have q453:=q433.app (kL:KdsL [.bool] [.bool w439])
    refine rC 1 4 [wf p117 [nF 0,n1 12],⟨p121,0,[n2 23,n2 24,n2 25,nF 13,nF 14,nF 15,nF 16,nI 17,nI 18],true⟩,⟨p3,0,[lF,lN],true⟩,⟨p7,0,[l0,l0,l0],true⟩] [(16,.ptr 0 0),(126,.lit .undef),(10,.ptr 2 0),(11,.ptr 3 0),(17,.ptr 1 0),(18,nB 11),(125,.lit (.bool true)),(127,.lit .undef)] q453 (sc (sp B9) (.cons (qD rfl gd452) (.cons qB .nil))) ?_
    refine zA kr fun vs ls H454 E454 st hE=>?_
    have gz:Grew H H454:=(qK g446 (st.inn.kept) ⟨op121,⟨op3,⟨op7,trivial⟩⟩⟩)
    have hC:vM x ms a b c wt t g=3:=by
     unfold vM;rw [if_pos ⟨hsd30,by omega,by omega⟩]
     rw [if_pos (hn230),hM153]
     show (if (zQ x np153 nq153 nr153).2=0 then (if jU _ ((zQ x np153 nq153 nr153).1 ++ _)=true then (0:Int) else 3) else 3)=_
     rw [hce153]
     show (if dd153=0 then (if jU _ ([.int .i32 c0153,.int .i32 c1153,.int .i32 c2153] ++ _)=true then (0:Int) else 3) else 3)=_
     rw [if_neg f435]
    obtain⟨_,eX,eP2,eK2,eL2⟩:=vT hC (by decide)
    exact re st hE (.tuple [.agg [.flt .f32 (some 0),.nilslice],.agg [.int .i32 0,.int .i32 0,.int .i32 0],.bool false,.int .i64 3]) gz.next (by rw [hC,eX,eP2,eK2,eL2];exact⟨gz,_,rfl,(.nil rfl),FreshS.nil⟩)
   ·intro vs ls H455 E455 st hE
    have f456:dd153=0:=dt st 0
    have r457:H455.get p121=some (.row [.int .i32 c0153,.int .i32 c1153,.int .i32 c2153,.flt .f32 np153,.flt .f32 nq153,.flt .f32 nr153,.flt .f32 nw153,.int .i64 ns153,.int .i64 nl153] true):=rW st 4
    have b458:=eo st hE 16 (.ptr p117 0)
    have b459:=eo st hE 126 (.agg [.int .i32 c0153,.int .i32 c1153,.int .i32 c2153,.flt .f32 np153,.flt .f32 nq153,.flt .f32 nr153,.flt .f32 nw153,.int .i64 ns153,.int .i64 nl153])
    obtain⟨w460,hw460⟩:∃ z,z=(!(decide (dd153=0))):=⟨_,rfl⟩
    have b461:E455 125=.bool w460:=by rw [hw460];exact eo st hE 125 _
    have B10:=es st hE [(126,.agg [.int .i32 c0153,.int .i32 c1153,.int .i32 c2153,.flt .f32 np153,.flt .f32 nq153,.flt .f32 nr153,.flt .f32 nw153,.int .i64 ns153,.int .i64 nl153]),(10,.ptr p3 0),(11,.ptr p7 0),(17,.ptr p121 0),(18,.bool w136)]
    have B11:=es st hE [(16,.ptr p117 0),(126,.agg [.int .i32 c0153,.int .i32 c1153,.int .i32 c2153,.flt .f32 np153,.flt .f32 nq153,.flt .f32 nr153,.flt .f32 nw153,.int .i64 ns153,.int .i64 nl153]),(10,.ptr p3 0),(11,.ptr p7 0),(17,.ptr p121 0),(18,.bool w136)]
    have g467:Grew H H455:=qK gt153 st.inn.kept ⟨op121,trivial⟩
    have r468:=zH st.inn.kept r153_0 ⟨aS,trivial⟩
    have r469:=zH st.inn.kept r153_1 ⟨aS,trivial⟩
    have r471:=zH st.inn.kept r153_4 ⟨aS,trivial⟩
    have s472:=s153.keep st.inn.kept ⟨by assumption,trivial⟩
    have gd473:E455 125=.bool false:=by rw [b461,hw460];simp [f456]
    refine qIY (t:=125) (want:=false) (d:=some 127) (f:=37) (args:=[.tmp 16,.tmp 126]) kr gd473 (R:=fun z H'=>Only2 (PT p117) (sa153) H455 H'/\z=.bool (jU (bE x ms a b c g) [.int .i32 c0153,.int .i32 c1153,.int .i32 c2153,.flt .f32 np153,.flt .f32 nq153,.flt .f32 nr153,.flt .f32 nw153,.int .i64 ns153,.int .i64 nl153])/\(jU (bE x ms a b c g) [.int .i32 c0153,.int .i32 c1153,.int .i32 c2153,.flt .f32 np153,.flt .f32 nq153,.flt .f32 nr153,.flt .f32 nw153,.int .i64 ns153,.int .i64 nl153]=true -> ∃ S',H'.get p117=some (.row [.flt .f32 x,S'] true)/\SlF H' 9 (pG (bE x ms a b c g) [.int .i32 c0153,.int .i32 c1153,.int .i32 c2153,.flt .f32 np153,.flt .f32 nq153,.flt .f32 nr153,.flt .f32 nw153,.int .i64 ns153,.int .i64 nl153]) S'/\FromS H455.next (sa153) S')) ?_ ?_
    ·show qJ _ _ [E455 16,E455 126] _ _
     rw [b458,b459]
     exact qPj H455 x hx (bE x ms a b c g) (xR x ho a b c g).rcs (sa153) s472 (xR x ho a b c g).sort (Nat.le_trans (xR x ho a b c g).len (by decide)) p117 r471 am c0153 c1153 c2153 np153 nq153 nr153 nw153 ns153 nl153 hp153 hq153 hr153 hw153
    rintro z474 H474 ⟨o474,hz474,k474⟩
    have g475:Grew H H474:=Only2.own g467 (FreshS.of_le op117) f153 o474
    have r476:=o474.at r468 (ApartL.of aS) am
    have r477:=o474.at r469 (ApartL.of aS) am
    have r478:=o474.at r457 (ApartL.of aS) am
    cases hb474:jU (bE x ms a b c g) [.int .i32 c0153,.int .i32 c1153,.int .i32 c2153,.flt .f32 np153,.flt .f32 nq153,.flt .f32 nr153,.flt .f32 nw153,.int .i64 ns153,.int .i64 nl153] with
    | false =>
     rw [hb474] at hz474;subst hz474
     have q479:=q433.app (kL:KdsL [.bool] [.bool w460])
     refine rC 0 4 [⟨p121,0,[n2 23,n2 24,n2 25,nF 13,nF 14,nF 15,nF 16,nI 17,nI 18],true⟩,⟨p3,0,[lF,lN],true⟩,⟨p7,0,[l0,l0,l0],true⟩] [(126,.agg [n2 23,n2 24,n2 25,nF 13,nF 14,nF 15,nF 16,nI 17,nI 18]),(10,.ptr 1 0),(11,.ptr 2 0),(17,.ptr 0 0),(18,nB 11),(125,.lit (.bool false)),(127,.lit (.bool false))] q479 (sc (sp B10) (.cons (qD rfl gd473) (.cons qB .nil))) ?_
     refine zA kr fun vs ls H480 E480 st hE=>?_
     have gz:Grew H H480:=(qK g475 (st.inn.kept) ⟨op121,⟨op3,⟨op7,trivial⟩⟩⟩)
     have hC:vM x ms a b c wt t g=3:=by
      unfold vM;rw [if_pos ⟨hsd30,by omega,by omega⟩]
      rw [if_pos (hn230),hM153]
      show (if (zQ x np153 nq153 nr153).2=0 then (if jU _ ((zQ x np153 nq153 nr153).1 ++ _)=true then (0:Int) else 3) else 3)=_
      rw [hce153]
      show (if dd153=0 then (if jU _ ([.int .i32 c0153,.int .i32 c1153,.int .i32 c2153] ++ _)=true then (0:Int) else 3) else 3)=_
      rw [if_pos f456]
      show (if jU (bE x ms a b c g) [.int .i32 c0153,.int .i32 c1153,.int .i32 c2153,.flt .f32 np153,.flt .f32 nq153,.flt .f32 nr153,.flt .f32 nw153,.int .i64 ns153,.int .i64 nl153]=true then (0:Int) else 3)=_
      rw [hb474];rfl
     obtain⟨_,eX,eP2,eK2,eL2⟩:=vT hC (by decide)
     exact re st hE (.tuple [.agg [.flt .f32 (some 0),.nilslice],.agg [.int .i32 0,.int .i32 0,.int .i32 0],.bool false,.int .i64 3]) gz.next (by rw [hC,eX,eP2,eK2,eL2];exact⟨gz,_,rfl,(.nil rfl),FreshS.nil⟩)
    | true =>
     rw [hb474] at hz474;subst hz474
     obtain⟨S481,rS481,sS481,fS481⟩:=k474 hb474
     have fr482:FreshS H.next S481:=fS481.fresh f153 g467.next
     have ne483:=aL fS481 r468 am
     have ne484:=aL fS481 r469 am
     have ne485:=aL fS481 r457 am
     have ne486:=aL fS481 r471 am
     have q487:=q433.app (kL:KdsL [.bool,.one] [.bool w460,S481])
     refine rC 3 4 [wf p3 [lF,lN],wf p7 [l0,l0,l0],wf p117 [nF 0,n1 28],⟨p121,0,[n2 23,n2 24,n2 25,nF 13,nF 14,nF 15,nF 16,nI 17,nI 18],true⟩] [(16,.ptr 2 0),(126,.agg [n2 23,n2 24,n2 25,nF 13,nF 14,nF 15,nF 16,nI 17,nI 18]),(10,.ptr 0 0),(11,.ptr 1 0),(17,.ptr 3 0),(18,nB 11),(125,.lit (.bool false)),(127,.lit (.bool true))] q487 (sc (sp B11) (.cons (qD rfl gd473) (.cons qB .nil))) ?_
     refine zA kr fun vs ls H488 E488 st hE=>?_
     have B12:=es st hE [(16,.ptr p117 0),(133,.ptr p121 0),(10,.ptr p3 0),(11,.ptr p7 0),(135,.bool w136)]
     have g494:Grew H474 H488:=(gk st)
     have g495:=Grew.trans g475 g494
     have r496:=g494.at r476
     have r497:=g494.at r477
     have r498:=g494.at rS481
     have r499:=g494.at r478
     have s500:=sS481.grew g494
     refine wH kr ?_ ?_
     ·refine rC 3 4 [wf p3 [lF,lN],wf p7 [l0,l0,l0],wf p117 [nF 0,n1 28],⟨p121,0,[n2 23,n2 24,n2 25,nF 13,nF 14,nF 15,nF 16,nI 17,nI 18],true⟩] [(16,.ptr 2 0),(133,.ptr 3 0),(10,.ptr 0 0),(11,.ptr 1 0),(135,nB 11)] q487 B12 ?_
      refine zA kr fun vs ls H502 E502 st hE=>?_
      have B13:=es st hE [(133,.ptr p121 0),(10,.ptr p3 0),(132,.agg [.flt .f32 x,S481]),(11,.ptr p7 0),(135,.bool w136)]
      have g508:Grew H488 H502:=(gk st)
      have g509:=Grew.trans g495 g508
      have r510:=g508.at r496
      have r511:=g508.at r497
      have r513:=g508.at r499
      have s514:=s500.grew g508
      refine wH kr ?_ ?_
      ·refine rC 0 4 [⟨p121,0,[n2 23,n2 24,n2 25,nF 13,nF 14,nF 15,nF 16,nI 17,nI 18],true⟩,⟨p3,0,[lF,lN],true⟩,⟨p7,0,[l0,l0,l0],true⟩] [(133,.ptr 0 0),(10,.ptr 1 0),(132,.agg [nF 0,n1 28]),(11,.ptr 2 0),(135,nB 11)] q487 B13 ?_
       refine zA kr fun vs ls H516 E516 st hE=>?_
       have gz:Grew H H516:=(qK g509 (st.inn.kept) ⟨op121,⟨op3,⟨op7,trivial⟩⟩⟩)
       have hC:vM x ms a b c wt t g=0:=by
        unfold vM;rw [if_pos ⟨hsd30,by omega,by omega⟩]
        rw [if_pos (hn230),hM153]
        show (if (zQ x np153 nq153 nr153).2=0 then (if jU _ ((zQ x np153 nq153 nr153).1 ++ _)=true then (0:Int) else 3) else 3)=_
        rw [hce153]
        show (if dd153=0 then (if jU _ ([.int .i32 c0153,.int .i32 c1153,.int .i32 c2153] ++ _)=true then (0:Int) else 3) else 3)=_
        rw [if_pos f456]
        show (if jU (bE x ms a b c g) [.int .i32 c0153,.int .i32 c1153,.int .i32 c2153,.flt .f32 np153,.flt .f32 nq153,.flt .f32 nr153,.flt .f32 nw153,.int .i64 ns153,.int .i64 nl153]=true then (0:Int) else 3)=_
        rw [hb474];rfl
       obtain⟨_,eX,eP,eK,eL⟩:=yI hC
       have eP2:qHZ x ms a b c wt t g=[.int .i32 c0153,.int .i32 c1153,.int .i32 c2153]:=by rw [eP,hM153];show (zQ x np153 nq153 nr153).1=_;rw [hce153]
       have eL2:qDM x ms a b c wt t g=(pG (bE x ms a b c g) [.int .i32 c0153,.int .i32 c1153,.int .i32 c2153,.flt .f32 np153,.flt .f32 nq153,.flt .f32 nr153,.flt .f32 nw153,.int .i64 ns153,.int .i64 nl153]):=by rw [eL,hM153];show pG _ ((zQ x np153 nq153 nr153).1 ++ _)=_;rw [hce153];rfl
       have eK2:qEj x ms a b c wt t g=w136:=by rw [eK];exact hkn30.trans hw136.symm
       exact re st hE (.tuple [.agg [.flt .f32 x,S481],.agg [.int .i32 c0153,.int .i32 c1153,.int .i32 c2153],.bool w136,.int .i64 0]) gz.next (by rw [hC,eX,eP2,eK2,eL2];exact⟨gz,_,rfl,(s514.keep st.inn.kept ⟨by assumption,⟨by assumption,⟨by assumption,trivial⟩⟩⟩),fr482⟩)
      ·refine rC 0 4 [⟨p121,0,[n2 23,n2 24,n2 25,nF 13,nF 14,nF 15,nF 16,nI 17,nI 18],true⟩,⟨p3,0,[lF,lN],true⟩,⟨p7,0,[l0,l0,l0],true⟩] [(133,.ptr 0 0),(10,.ptr 1 0),(132,.agg [nF 0,n1 28]),(11,.ptr 2 0),(135,nB 11)] q487 B13 ?_
       refine zA kr fun vs ls H518 E518 st hE=>?_
       have gz:Grew H H518:=(qK g509 (st.inn.kept) ⟨op121,⟨op3,⟨op7,trivial⟩⟩⟩)
       have hC:vM x ms a b c wt t g=0:=by
        unfold vM;rw [if_pos ⟨hsd30,by omega,by omega⟩]
        rw [if_pos (hn230),hM153]
        show (if (zQ x np153 nq153 nr153).2=0 then (if jU _ ((zQ x np153 nq153 nr153).1 ++ _)=true then (0:Int) else 3) else 3)=_
        rw [hce153]
        show (if dd153=0 then (if jU _ ([.int .i32 c0153,.int .i32 c1153,.int .i32 c2153] ++ _)=true then (0:Int) else 3) else 3)=_
        rw [if_pos f456]
        show (if jU (bE x ms a b c g) [.int .i32 c0153,.int .i32 c1153,.int .i32 c2153,.flt .f32 np153,.flt .f32 nq153,.flt .f32 nr153,.flt .f32 nw153,.int .i64 ns153,.int .i64 nl153]=true then (0:Int) else 3)=_
        rw [hb474];rfl
       obtain⟨_,eX,eP,eK,eL⟩:=yI hC
       have eP2:qHZ x ms a b c wt t g=[.int .i32 c0153,.int .i32 c1153,.int .i32 c2153]:=by rw [eP,hM153];show (zQ x np153 nq153 nr153).1=_;rw [hce153]
       have eL2:qDM x ms a b c wt t g=(pG (bE x ms a b c g) [.int .i32 c0153,.int .i32 c1153,.int .i32 c2153,.flt .f32 np153,.flt .f32 nq153,.flt .f32 nr153,.flt .f32 nw153,.int .i64 ns153,.int .i64 nl153]):=by rw [eL,hM153];show pG _ ((zQ x np153 nq153 nr153).1 ++ _)=_;rw [hce153];rfl
       have eK2:qEj x ms a b c wt t g=w136:=by rw [eK];exact hkn30.trans hw136.symm
       exact re st hE (.tuple [.agg [.flt .f32 x,S481],.agg [.int .i32 c0153,.int .i32 c1153,.int .i32 c2153],.bool w136,.int .i64 0]) gz.next (by rw [hC,eX,eP2,eK2,eL2];exact⟨gz,_,rfl,(s514.keep st.inn.kept ⟨by assumption,⟨by assumption,⟨by assumption,trivial⟩⟩⟩),fr482⟩)
     ·refine rC 1 4 [wf p117 [nF 0,n1 28],⟨p121,0,[n2 23,n2 24,n2 25,nF 13,nF 14,nF 15,nF 16,nI 17,nI 18],true⟩,⟨p3,0,[lF,lN],true⟩,⟨p7,0,[l0,l0,l0],true⟩] [(16,.ptr 0 0),(133,.ptr 1 0),(10,.ptr 2 0),(11,.ptr 3 0),(135,nB 11)] q487 B12 ?_
      refine zA kr fun vs ls H520 E520 st hE=>?_
      have gz:Grew H H520:=(qK g495 (st.inn.kept) ⟨op121,⟨op3,⟨op7,trivial⟩⟩⟩)
      have hC:vM x ms a b c wt t g=0:=by
       unfold vM;rw [if_pos ⟨hsd30,by omega,by omega⟩]
       rw [if_pos (hn230),hM153]
       show (if (zQ x np153 nq153 nr153).2=0 then (if jU _ ((zQ x np153 nq153 nr153).1 ++ _)=true then (0:Int) else 3) else 3)=_
       rw [hce153]
       show (if dd153=0 then (if jU _ ([.int .i32 c0153,.int .i32 c1153,.int .i32 c2153] ++ _)=true then (0:Int) else 3) else 3)=_
       rw [if_pos f456]
       show (if jU (bE x ms a b c g) [.int .i32 c0153,.int .i32 c1153,.int .i32 c2153,.flt .f32 np153,.flt .f32 nq153,.flt .f32 nr153,.flt .f32 nw153,.int .i64 ns153,.int .i64 nl153]=true then (0:Int) else 3)=_
       rw [hb474];rfl
      obtain⟨_,eX,eP,eK,eL⟩:=yI hC
      have eP2:qHZ x ms a b c wt t g=[.int .i32 c0153,.int .i32 c1153,.int .i32 c2153]:=by rw [eP,hM153];show (zQ x np153 nq153 nr153).1=_;rw [hce153]
      have eL2:qDM x ms a b c wt t g=(pG (bE x ms a b c g) [.int .i32 c0153,.int .i32 c1153,.int .i32 c2153,.flt .f32 np153,.flt .f32 nq153,.flt .f32 nr153,.flt .f32 nw153,.int .i64 ns153,.int .i64 nl153]):=by rw [eL,hM153];show pG _ ((zQ x np153 nq153 nr153).1 ++ _)=_;rw [hce153];rfl
      have eK2:qEj x ms a b c wt t g=w136:=by rw [eK];exact hkn30.trans hw136.symm
      exact re st hE (.tuple [.agg [.flt .f32 x,S481],.agg [.int .i32 c0153,.int .i32 c1153,.int .i32 c2153],.bool w136,.int .i64 0]) gz.next (by rw [hC,eX,eP2,eK2,eL2];exact⟨gz,_,rfl,(s500.keep st.inn.kept ⟨by assumption,⟨by assumption,⟨by assumption,trivial⟩⟩⟩),fr482⟩)
end Go.Proofs.Ytacligocjfhckaa
