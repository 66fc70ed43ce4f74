/- Contracts: a landmark seen, by the reference. -/
import Derived.Test.YtacligocjfhckaaTObsB
import Derived.Test.YtacligocjfhckaaSxE
set_option linter.unusedVariables false
set_option linter.unusedSimpArgs false
namespace Go.Proofs.Ytacligocjfhckaa
open Go.Ab
set_option maxRecDepth 100000
set_option maxHeartbeats 1000000
attribute [local irreducible] Res
theorem qKv (ms:LL) (k:Nat):((ms.take k).drop 0 ++ (ms.take ms.length).drop (k+1))=ms.eraseIdx k:=by
 rw [List.eraseIdx_eq_take_drop_succ];simp
theorem qLN (u v:Int) (H:AHeap):qR Try.prog 67 [.int .i64 u,.int .i64 v] H (.int .i64 (min u v)):=by
 refine qF qAB (by simp) ?_
 have q1:KdsL [KI,KI] [.int .i64 u,.int .i64 v]:=kL
 refine rC 0 0 [] [(0,nI 0),(1,nI 1)] q1 (.cons (t:=0) rfl (.cons (t:=1) rfl .nil)) ?_
 refine dB kr ?_ ?_
 ·intro vs ls H2 E2 st hE
  have f3:u < v:=dt st 0
  refine rf st hE (.int .i64 u) (Grew.trans (Grew.refl _) (gk st)) ?_
  exact congrArg _ om
 ·intro vs ls H4 E4 st hE
  have f5:¬ (u < v):=df st 0
  refine rf st hE (.int .i64 v) (Grew.trans (Grew.refl _) (gk st)) ?_
  exact congrArg _ om
theorem qLM (u v:Int) (H:AHeap):qR Try.prog 68 [.int .i64 u,.int .i64 v] H (.int .i64 (max u v)):=by
 refine qF qAA (by simp) ?_
 have q1:KdsL [KI,KI] [.int .i64 u,.int .i64 v]:=kL
 refine rC 0 0 [] [(0,nI 0),(1,nI 1)] q1 (.cons (t:=0) rfl (.cons (t:=1) rfl .nil)) ?_
 refine dB kr ?_ ?_
 ·intro vs ls H2 E2 st hE
  have f3:v < u:=dt st 0
  refine rf st hE (.int .i64 u) (Grew.trans (Grew.refl _) (gk st)) ?_
  exact congrArg _ om
 ·intro vs ls H4 E4 st hE
  have f5:¬ (v < u):=df st 0
  refine rf st hE (.int .i64 v) (Grew.trans (Grew.refl _) (gk st)) ?_
  exact congrArg _ om
def tbM:List (Nat × AFun):=tb.filter fun p=>!(p.1 == 67 || p.1 == 68)
theorem vK:qDw Try.prog tbM:=fun f a h=>qU f a (List.mem_filter.1 h).1
def pmM (fl:Nat) (ru:List (RK × SV)) (un:Nat):Pm:=⟨fl,ru,tbM,ap,un⟩
theorem qLP (H:AHeap) (x:ON) (hx:fOk .f32 x) (ms:LL) (hr:xJ KM ms) (S:AV) (hS:SlL H 9 ms S) (mxms:ms.length<=1048576) (ho:OkMs ms) (a b c:ON) (ha:fOk .f32 a) (hb:fOk .f32 b) (hc:fOk .f32 c) (wt:ON) (hwt:fOk .f32 wt) (t:Int) (g:ON) (hg:fOk .f32 g) (lp:Nat) (hlp:H.get lp=some (.row [.flt .f32 x,S] true)):qJ Try.prog 44 [.ptr lp 0,.agg [.flt .f32 a,.flt .f32 b,.flt .f32 c],.flt .f32 wt,.int .i64 t,.flt .f32 g] H fun r H'=>Grew H H' /\ ∃ S' cl kn,r=.tuple [.agg [.flt .f32 (qMm x ms a b c wt t g),S'],.agg cl,.bool kn,.int .i64 (vM x ms a b c wt t g)]/\SlF H' 9 (qDM x ms a b c wt t g) S'/\FreshS H.next S'/\KdsL K3 cl/\(vM x ms a b c wt t g=0->cl=qHZ x ms a b c wt t g/\kn=qEj x ms a b c wt t g):=by
 obtain⟨i1,i2,hN⟩:∃ i1 i2,jH x ms a b c g=(i1,i2):=⟨_,_,rfl⟩
 have hrng:-1<=i1/\i1 < ms.length:=by have h9:=qAN x ms a b c g;rw [hN] at h9;exact h9
 refine qF qAE (by simp) ?_
 have q1:KdsL [KF,.one,KF,KF,KF,KF,KI,KF,KI,KI] [.flt .f32 x,S,.flt .f32 a,.flt .f32 b,.flt .f32 c,.flt .f32 wt,.int .i64 t,.flt .f32 g,.int .i64 i1,.int .i64 i2]:=kL
 refine qL (φ:=φ0) (pm:=pmM 1 [] 4) 20 (ws:=[wf lp [nF 0,n1 1]]) (env:=[(0,.ptr 0 0),(1,.agg [nF 2,nF 3,nF 4]),(2,nF 5),(3,nI 6),(4,nF 7)]) q1 (.cons (wR hlp q1) .nil) (qI rfl) .nil (eC q1 (.cons (t:=0) rfl (.cons (t:=1) rfl (.cons (t:=2) rfl (.cons (t:=3) rfl (.cons (t:=4) rfl .nil)))))) vK qM ?_
 refine qNY kr ?_ ?_ ?_ ?_ ?_
 ·intro vs ls H2 E2 st hE
  have f3:(qO .f32 (fop .sub .f32 wt wt) (some 0) == some .eq)=false:=bf st 0
  have gz:Grew H H2:=(Grew.trans (Grew.refl _) (gk st))
  have hC:vM x ms a b c wt t g=2:=by
   unfold vM;rw [if_neg (fun q9=>absurd q9.1 (by rw [(show zI wt=false from by unfold zI;rw [<- xH,f3];rfl)];decide))]
  obtain⟨_,eX,eP2,eK2,eL2⟩:=vT hC (by decide)
  exact re st hE (.tuple [.agg [.flt .f32 (some 0),.nilslice],.agg [.int .i32 0,.int .i32 0,.int .i32 0],.bool false,.int .i64 2]) gz.next (by rw [hC,eX,eL2];exact⟨gz,_,_,_,rfl,(.nil rfl),FreshS.nil,(.cons kA (.cons kA (.cons kA .nil))),fun h9=>absurd h9 (by decide)⟩)
 ·intro vs ls H4 E4 st hE
  have f5:(qO .f32 (some 0) wt == some .lt)=false:=bf st 0
  have f6:(qO .f32 (fop .sub .f32 wt wt) (some 0) == some .eq)=true:=bf st 1
  have gz:Grew H H4:=(Grew.trans (Grew.refl _) (gk st))
  have hC:vM x ms a b c wt t g=2:=by
   unfold vM;rw [if_neg (fun q9=>absurd q9.1 (by rw [(show zI wt=false from by unfold zI;rw [f5,Bool.and_false])];decide))]
  obtain⟨_,eX,eP2,eK2,eL2⟩:=vT hC (by decide)
  exact re st hE (.tuple [.agg [.flt .f32 (some 0),.nilslice],.agg [.int .i32 0,.int .i32 0,.int .i32 0],.bool false,.int .i64 2]) gz.next (by rw [hC,eX,eL2];exact⟨gz,_,_,_,rfl,(.nil rfl),FreshS.nil,(.cons kA (.cons kA (.cons kA .nil))),fun h9=>absurd h9 (by decide)⟩)
 ·intro vs ls H7 E7 st hE
  have f8:1000000000 < t:=dt st 0
  have f9:¬ (t < 0):=df st 1
  have f10:(qO .f32 (some 0) wt == some .lt)=true:=bf st 2
  have f11:(qO .f32 (fop .sub .f32 wt wt) (some 0) == some .eq)=true:=bf st 3
  have gz:Grew H H7:=(Grew.trans (Grew.refl _) (gk st))
  have hC:vM x ms a b c wt t g=2:=by
   unfold vM;rw [if_neg (fun q9=>by have:=q9.2;omega)]
  obtain⟨_,eX,eP2,eK2,eL2⟩:=vT hC (by decide)
  exact re st hE (.tuple [.agg [.flt .f32 (some 0),.nilslice],.agg [.int .i32 0,.int .i32 0,.int .i32 0],.bool false,.int .i64 2]) gz.next (by rw [hC,eX,eL2];exact⟨gz,_,_,_,rfl,(.nil rfl),FreshS.nil,(.cons kA (.cons kA (.cons kA .nil))),fun h9=>absurd h9 (by decide)⟩)
 ·intro vs ls H12 E12 st hE
  have f13:¬ (1000000000 < t):=df st 0
  have f14:¬ (t < 0):=df st 1
  have f15:(qO .f32 (some 0) wt == some .lt)=true:=bf st 2
  have f16:(qO .f32 (fop .sub .f32 wt wt) (some 0) == some .eq)=true:=bf st 3
  obtain⟨p17,e18,r19,n20⟩:=pO st hE 10 2 [.flt .f32 (some 0),.nilslice]
  have op17:H.next<=p17:=Nat.le_trans (Nat.le_refl _) (oM n20)
  obtain⟨p21,e22,r23,n24⟩:=pO st hE 11 3 [.int .i32 0,.int .i32 0,.int .i32 0]
  have op21:H.next<=p21:=Nat.le_trans (Nat.le_refl _) (oM n24)
  obtain⟨p25,e26,r27,n28⟩:=pO st hE 6 1 [.flt .f32 a,.flt .f32 b,.flt .f32 c]
  have op25:H.next<=p25:=Nat.le_trans (Nat.le_refl _) (oM n28)
  have ne29:=pn st hE 10 2 11 3 [lF,lN] e18 e22
  have ne30:=pn st hE 10 2 6 1 [lF,lN] e18 e26
  have ne31:=pn st hE 11 3 6 1 [l0,l0,l0] e22 e26
  have ne32:=apn hlp (oM n20)
  have ne33:=apn hlp (oM n24)
  have ne34:=apn hlp (oM n28)
  have b35:=eo st hE 41 (.ptr lp 0)
  have b36:=eo st hE 42 (.agg [.flt .f32 a,.flt .f32 b,.flt .f32 c])
  have b37:=eo st hE 43 (.flt .f32 g)
  have B1:=es st hE [(41,.ptr lp 0),(42,.agg [.flt .f32 a,.flt .f32 b,.flt .f32 c]),(43,.flt .f32 g),(2,.flt .f32 wt),(3,.int .i64 t),(0,.ptr lp 0)]
  have g41:Grew H H12:=(gk st)
  have g42:Grew H H12:=Grew.trans (Grew.refl _) g41
  have r43:=g41.at hlp
  refine zB (d:=(some 44)) (f:=66) (args:=[.tmp 41,.tmp 42,.tmp 43]) kr (R:=fun z H'=>z=.tuple [.int .i64 i1,.int .i64 i2]/\H'=H12) ?_ ?_
  ·show qJ _ _ [E12 41,E12 42,E12 43] _ _
   rw [b35,b36,b37]
   exact(by have h9:=qFU H12 x hx ms hr S (hS.grew g42) mxms a b c ha hb hc g hg lp r43;rw [hN] at h9;exact h9)
  rintro z H12 ⟨rfl,rfl⟩
  refine qL (φ:=φ0) (pm:=pmM 2 [] 4) 20 (ws:=[wf lp [nF 0,n1 1],wf p25 [nF 2,nF 3,nF 4],⟨p17,0,[lF,lN],true⟩,⟨p21,0,[l0,l0,l0],true⟩]) (env:=[(41,.ptr 0 0),(42,.agg [nF 2,nF 3,nF 4]),(43,nF 7),(2,nF 5),(3,nI 6),(0,.ptr 0 0),(10,.ptr 2 0),(11,.ptr 3 0),(6,.ptr 1 0),(44,.tup [nI 8,nI 9])]) q1 wA sd .nil (eC q1 (sc (sp B1) (.cons (qD rfl e18) (.cons (qD rfl e22) (.cons (qD rfl e26) (.cons qB .nil)))))) vK qM ?_
  refine dB kr ?_ ?_
  ·intro vs ls H45 E45 st hE
   have f46:¬ (i2=0):=df st 0
   have gz:Grew H H45:=(qK g42 (st.inn.kept) ⟨op17,⟨op21,trivial⟩⟩)
   have hC:vM x ms a b c wt t g=i2:=by
    unfold vM;rw [if_pos ⟨(show zI wt=true from by unfold zI;rw [<- xH,f16,f15];rfl),by omega,by omega⟩]
    rw [hN]
    exact if_neg f46
   obtain⟨_,eX,eP2,eK2,eL2⟩:=vT hC f46
   exact re st hE (.tuple [.agg [.flt .f32 (some 0),.nilslice],.agg [.int .i32 0,.int .i32 0,.int .i32 0],.bool false,.int .i64 i2]) gz.next (by rw [hC,eX,eL2];exact⟨gz,_,_,_,rfl,(.nil rfl),FreshS.nil,(.cons kA (.cons kA (.cons kA .nil))),fun h9=>absurd h9 f46⟩)
  ·intro vs ls H47 E47 st hE
   have f48:i2=0:=dt st 0
   obtain⟨p49,e50,r51,n52⟩:=qEZ st.inn hE 56 5 0 0 9 kr (ds:=[]) kr
   have op49:H.next<=p49:=Nat.le_trans g42.next (oM n52)
   obtain⟨p53,e54,r55,n56⟩:=pO st hE 16 4 [.int .i32 0,.int .i32 0,.int .i32 0,.flt .f32 a,.flt .f32 b,.flt .f32 c,.flt .f32 wt,.int .i64 1,.int .i64 t]
   have op53:H.next<=p53:=Nat.le_trans g42.next (oM n56)
   have ne57:Apart p49 p53:=⟨qKI st.inn hE 56 16 5 4 (v:=.sl 5 0 0 0 9) (v':=.ptr 4 0) kr kr rfl rfl (cs:=[]) kr (by decide) e50 e54 rfl rfl⟩
   have ne58:=apn r43 (oM n52)
   have ne59:=apn r27 (oM n52)
   have ne60:=apn r19 (oM n52)
   have ne61:=apn r23 (oM n52)
   have ne62:=apn r43 (oM n56)
   have ne63:=apn r27 (oM n56)
   have ne64:=apn r19 (oM n56)
   have ne65:=apn r23 (oM n56)
   have b66:=eo st hE 60 S
   have B2:=es st hE [(60,S),(14,.int .i64 i1),(0,.ptr lp 0),(2,.flt .f32 wt),(6,.ptr p25 0),(3,.int .i64 t),(10,.ptr p17 0),(11,.ptr p21 0)]
   have g74:Grew H12 H47:=(gk st)
   have g75:=Grew.trans g42 g74
   have r76:=g74.at r43
   have r77:=g74.at r27
   have r78:=g74.at r19
   have r79:=g74.at r23
   have sx82:SlF H47 9 [] (.slice p49 0 0 0 9):=.sl (by simpa using r51) rfl (Nat.le_refl _)
   refine mI (d:=(some 61)) (sz:=9) (bytes:=48) (x:=.tmp 56) (y:=.tmp 60) kr (S:=.slice p49 0 0 0 9) (ys:=ms) (by show E47 56=_;exact e50) sx82 (.inr ⟨_,rfl⟩) (by show qQ _ _ (E47 60)=_;rw [b66];exact qFb hr.len (hS.grew g75)) (vC hr rfl) (by first | omega | (simp only [List.length_append,List.length_cons,List.length_nil,List.length_drop,List.length_take];omega)) ?_
   intro S80 H81 sS80 fS80 oS80
   have ne83:=aL fS80 r76 (ApartL.of aS)
   have ne84:=aL fS80 r77 (ApartL.of aS)
   have ne85:=aL fS80 r55 (ApartL.of aS)
   have ne86:=aL fS80 r78 (ApartL.of aS)
   have ne87:=aL fS80 r79 (ApartL.of aS)
   have fr88:FreshS H.next (S80):=fS80.fresh (FreshS.of_le op49) g75.next
   have g89:=Grew.trans g75 oS80
   have r90:=oS80.at r76
   have r91:=oS80.at r77
   have r93:=oS80.at r55
   have r94:=oS80.at r78
   have r95:=oS80.at r79
   refine gY 0 kr ?_
   have q96:=q1.app (kL:KdsL [.one] [S80])
   refine qL (φ:=φ0) (pm:=pmM 3 [] 4) 20 (ws:=[wf lp [nF 0,n1 1],wf p25 [nF 2,nF 3,nF 4],wf p53 [l0,l0,l0,nF 2,nF 3,nF 4,nF 5,.lit (.int .i64 1),nI 6],⟨p17,0,[lF,lN],true⟩,⟨p21,0,[l0,l0,l0],true⟩]) (env:=[(60,n1 1),(14,nI 8),(0,.ptr 0 0),(2,nF 5),(6,.ptr 1 0),(3,nI 6),(10,.ptr 3 0),(11,.ptr 4 0),(16,.ptr 2 0),(61,n1 10)]) q96 wA sd .nil (eC q96 (sc (sp B2) (.cons (qD rfl e54) (.cons qB .nil)))) vK qM ?_
   refine zA kr fun vs ls H97 E97 st hE=>?_
   have B3:=es st hE [(14,.int .i64 i1),(0,.ptr lp 0),(2,.flt .f32 wt),(6,.ptr p25 0),(16,.ptr p53 0),(3,.int .i64 t),(10,.ptr p17 0),(11,.ptr p21 0),(17,S80)]
   have g107:Grew H81 H97:=(gk st)
   have g108:=Grew.trans g89 g107
   have r109:=g107.at r90
   have r110:=g107.at r91
   have r111:=g107.at r93
   have r112:=g107.at r94
   have r113:=g107.at r95
   have s114:=sS80.grew g107
   refine qGm kr ?_
   refine qAW 2 (fun E H'=>∃ (np115:ON) (nq115:ON) (nr115:ON) (nw115:ON) (ns115:Int) (nl115:Int) (sa115:AV),E 14=.int .i64 i1/\E 0=.ptr lp 0/\E 16=.ptr p53 0/\E 10=.ptr p17 0/\E 11=.ptr p21 0/\E 17=sa115/\Grew H H'/\H'.get lp=some (.row [.flt .f32 x,S] true)/\H'.get p53=some (.row [.int .i32 0,.int .i32 0,.int .i32 0,.flt .f32 np115,.flt .f32 nq115,.flt .f32 nr115,.flt .f32 nw115,.int .i64 ns115,.int .i64 nl115] true)/\H'.get p17=some (.row [.flt .f32 (some 0),.nilslice] true)/\H'.get p21=some (.row [.int .i32 0,.int .i32 0,.int .i32 0] true)/\SlF H' 9 (bE x ms a b c g) sa115/\FreshS H.next sa115/\ApartL sa115 lp/\ApartL sa115 p53/\ApartL sa115 p17/\ApartL sa115 p21/\qCh x ms a b c wt t g=[.flt .f32 np115,.flt .f32 nq115,.flt .f32 nr115,.flt .f32 nw115,.int .i64 ns115,.int .i64 nl115]/\fOk .f32 np115/\fOk .f32 nq115/\fOk .f32 nr115/\fOk .f32 nw115) kr ?_ ?_
   ·refine qL (φ:=φ0) (pm:=pmM 3 [] 4) 20 (ws:=[wf lp [nF 0,n1 1],wf p25 [nF 2,nF 3,nF 4],wf p53 [l0,l0,l0,nF 2,nF 3,nF 4,nF 5,.lit (.int .i64 1),nI 6],⟨p17,0,[lF,lN],true⟩,⟨p21,0,[l0,l0,l0],true⟩]) (env:=[(14,nI 8),(0,.ptr 0 0),(2,nF 5),(6,.ptr 1 0),(16,.ptr 2 0),(3,nI 6),(10,.ptr 3 0),(11,.ptr 4 0),(17,n1 10)]) q96 wA sd .nil (eC q96 B3) vK qM ?_
    refine dB kr ?_ ?_
    ·intro vs ls H117 E117 st hE
     have f118:¬ (i1 < 0):=df st 0
     have B4:=es st hE [(67,S),(68,.int .i64 i1),(0,.ptr lp 0),(14,.int .i64 i1),(2,.flt .f32 wt),(6,.ptr p25 0),(16,.ptr p53 0),(3,.int .i64 t),(10,.ptr p17 0),(11,.ptr p21 0),(17,S80)]
     have g130:Grew H97 H117:=(gk st)
     have g131:=Grew.trans g108 g130
     have r132:=g130.at r109
     have r133:=g130.at r110
     have r134:=g130.at r111
     have r135:=g130.at r112
     have r136:=g130.at r113
     have s137:=s114.grew g130
     obtain⟨k138,rfl⟩:∃ k:Nat,i1=(k:Int):=⟨Int.toNat i1,by omega⟩
     have hlt139:k138 < ms.length:=by omega
     obtain⟨lS139,cap139,rest139,wr139,eS139,gB139⟩:=hS.isSl hlt139
     have gS139:=g131.at gB139
     have ne140:=apn gB139 op25
     have ne141:=apn gB139 op53
     have ne142:=apn gB139 op17
     have ne143:=apn gB139 op21
     obtain⟨v139_0,v139_1,v139_2,v139_3,v139_4,v139_5,v139_6,v139_7,v139_8,hm139,ho139_3,ho139_4,ho139_5,ho139_6⟩:=zZ (hr.get hlt139)
     have he139:ms.getD k138 []=[.int .i32 v139_0,.int .i32 v139_1,.int .i32 v139_2,.flt .f32 v139_3,.flt .f32 v139_4,.flt .f32 v139_5,.flt .f32 v139_6,.int .i64 v139_7,.int .i64 v139_8]:=by rw [<- hm139,List.getD_eq_getElem?_getD,List.getElem?_eq_getElem hlt139];rfl
     have q144:KdsL [KF,.one,KF,KF,KF,KF,KI,KF,KI,KI,.one,K2,K2,K2,KF,KF,KF,KF,KI,KI] [.flt .f32 x,S,.flt .f32 a,.flt .f32 b,.flt .f32 c,.flt .f32 wt,.int .i64 t,.flt .f32 g,.int .i64 (k138:Int),.int .i64 i2,S80,.int .i32 v139_0,.int .i32 v139_1,.int .i32 v139_2,.flt .f32 v139_3,.flt .f32 v139_4,.flt .f32 v139_5,.flt .f32 v139_6,.int .i64 v139_7,.int .i64 v139_8]:=kL
     refine qL (φ:=φ0) (pm:=pmM 4 [(.ia 9 (n1 1) (nI 8),.ptr 3 0)] 4) 20 (ws:=[wf lp [nF 0,n1 1],wf p25 [nF 2,nF 3,nF 4],wf p53 [l0,l0,l0,nF 2,nF 3,nF 4,nF 5,.lit (.int .i64 1),nI 6],⟨lS139,(k138 * 9),[n2 11,n2 12,n2 13,nF 14,nF 15,nF 16,nF 17,nI 18,nI 19],false⟩,⟨p17,0,[lF,lN],true⟩,⟨p21,0,[l0,l0,l0],true⟩]) (env:=[(67,n1 1),(68,nI 8),(0,.ptr 0 0),(14,nI 8),(2,nF 5),(6,.ptr 1 0),(16,.ptr 2 0),(3,nI 6),(10,.ptr 4 0),(11,.ptr 5 0),(17,n1 10)]) q144 (.cons (wR r132 q144) (.cons (wR r133 q144) (.cons (wR r134 q144) (.cons (zV hr gS139 hlt139 rfl (by rw [hm139];exact(dL q144))) wA)))) sd (.cons (bA (k:=k138) (dE q144) eS139 (dE q144) hlt139 rfl) .nil) (eC q144 B4) vK qM ?_
     refine zA kr fun vs ls H145 E145 st hE=>?_
     obtain⟨p146,e147,r148,n149⟩:=pO st hE 18 6 [.int .i32 v139_0,.int .i32 v139_1,.int .i32 v139_2,.flt .f32 v139_3,.flt .f32 v139_4,.flt .f32 v139_5,.flt .f32 v139_6,.int .i64 v139_7,.int .i64 v139_8]
     have op146:H.next<=p146:=Nat.le_trans g131.next (oM n149)
     have ne150:=apn r132 (oM n149)
     have ne151:=apn r133 (oM n149)
     have ne152:=apn r134 (oM n149)
     have ne153:=apn gS139 (oM n149)
     have ne154:=apn r135 (oM n149)
     have ne155:=apn r136 (oM n149)
     have ne156:ApartL (S80) p146:=s137.apart_new (oM n149)
     have b157:=eo st hE 75 S
     have b158:=eo st hE 76 (.int .i64 (k138:Int))
     have B5:=es st hE [(75,S),(76,.int .i64 (k138:Int)),(0,.ptr lp 0),(14,.int .i64 (k138:Int)),(2,.flt .f32 wt),(6,.ptr p25 0),(16,.ptr p53 0),(3,.int .i64 t),(10,.ptr p17 0),(11,.ptr p21 0),(17,S80)]
     have g168:Grew H117 H145:=(gk st)
     have g169:=Grew.trans g131 g168
     have r170:=g168.at r132
     have r171:=g168.at r133
     have r172:=g168.at r134
     have r174:=g168.at r135
     have r175:=g168.at r136
     have s176:=s137.grew g168
     obtain⟨V177,hV177,sV177⟩:=uH hr.len hS 0 k138 om om
     have lV177:((ms.take k138).drop 0).length<=ms.length:=by rw [List.length_drop,List.length_take];omega
     refine qBX (d:=some 77) (op:=.slSl 9 (.tmp 75) none (some (.tmp 76)) none) (r:=V177) kr rfl (sV177 _ _ 75 none (some (.tmp 76)) b157 (.inl ⟨rfl,rfl⟩) (.inr (congrArg some b158))) ?_
     have q178:=q144.app (.cons hV177.one .nil:KdsL [.one] [V177])
     refine qL (φ:=φ0) (pm:=pmM 4 [] 4) 20 (ws:=[wf lp [nF 0,n1 1],wf p25 [nF 2,nF 3,nF 4],wf p53 [l0,l0,l0,nF 2,nF 3,nF 4,nF 5,.lit (.int .i64 1),nI 6],wf p146 [n2 11,n2 12,n2 13,nF 14,nF 15,nF 16,nF 17,nI 18,nI 19],⟨p17,0,[lF,lN],true⟩,⟨p21,0,[l0,l0,l0],true⟩]) (env:=[(75,n1 1),(76,nI 8),(0,.ptr 0 0),(14,nI 8),(2,nF 5),(6,.ptr 1 0),(16,.ptr 2 0),(3,nI 6),(10,.ptr 4 0),(11,.ptr 5 0),(17,n1 10),(18,.ptr 3 0),(77,n1 20)]) q178 wA sd .nil (eC q178 (sc (sp B5) (.cons (qD rfl e147) (.cons qB .nil)))) vK qM ?_
     refine zA kr fun vs ls H179 E179 st hE=>?_
     have b180:=eo st hE 82 S
     obtain⟨w181,hw181⟩:∃ z,z=(IntKind.wrap .i64 ((k138:Int)+1)):=⟨_,rfl⟩
     have b182:E179 84=.int .i64 w181:=by rw [hw181];exact eo st hE 84 _
     have B6:=es st hE [(82,S),(77,V177),(18,.ptr p146 0),(2,.flt .f32 wt),(6,.ptr p25 0),(16,.ptr p53 0),(3,.int .i64 t),(0,.ptr lp 0),(10,.ptr p17 0),(11,.ptr p21 0),(17,S80),(14,.int .i64 (k138:Int))]
     have g194:Grew H145 H179:=(gk st)
     have g195:=Grew.trans g169 g194
     have r196:=g194.at r170
     have r197:=g194.at r171
     have r198:=g194.at r172
     have r199:=g194.at r148
     have r200:=g194.at r174
     have r201:=g194.at r175
     have s202:=s176.grew g194
     have e203:E179 84=.int .i64 (((k138+1):Nat):Int):=by rw [b182,hw181];exact congrArg _ (wrap64 om)
     obtain⟨V204,hV204,sV204⟩:=uH hr.len hS (k138+1) ms.length om om
     have lV204:((ms.take ms.length).drop (k138+1)).length<=ms.length:=by rw [List.length_drop,List.length_take];omega
     refine qBX (d:=some 85) (op:=.slSl 9 (.tmp 82) (some (.tmp 84)) none none) (r:=V204) kr rfl (sV204 _ _ 82 (some (.tmp 84)) none b180 (.inr (congrArg some e203)) (.inl ⟨rfl,rfl⟩)) ?_
     have q205:=q178.app (.cons kA (.cons hV204.one .nil):KdsL [KI,.one] [.int .i64 w181,V204])
     refine qL (φ:=φ0) (pm:=pmM 4 [] 4) 20 (ws:=[wf lp [nF 0,n1 1],wf p25 [nF 2,nF 3,nF 4],wf p53 [l0,l0,l0,nF 2,nF 3,nF 4,nF 5,.lit (.int .i64 1),nI 6],wf p146 [n2 11,n2 12,n2 13,nF 14,nF 15,nF 16,nF 17,nI 18,nI 19],⟨p17,0,[lF,lN],true⟩,⟨p21,0,[l0,l0,l0],true⟩]) (env:=[(82,n1 1),(77,n1 20),(18,.ptr 3 0),(2,nF 5),(6,.ptr 1 0),(16,.ptr 2 0),(3,nI 6),(0,.ptr 0 0),(10,.ptr 4 0),(11,.ptr 5 0),(17,n1 10),(14,nI 8),(84,nI 21),(85,n1 22)]) q205 wA sd .nil (eC q205 (sc (sp B6) (.cons (qD rfl b182) (.cons qB .nil)))) vK qM ?_
     refine zA kr fun vs ls H206 E206 st hE=>?_
     obtain⟨p207,e208,r209,n210⟩:=qEZ st.inn hE 71 6 0 0 9 kr (ds:=[]) kr
     have op207:H.next<=p207:=Nat.le_trans g195.next (oM n210)
     have ne211:=apn r196 (oM n210)
     have ne212:=apn r197 (oM n210)
     have ne213:=apn r198 (oM n210)
     have ne214:=apn r199 (oM n210)
     have ne215:=apn r200 (oM n210)
     have ne216:=apn r201 (oM n210)
     have ne217:ApartL (S80) p207:=s202.apart_new (oM n210)
     have b218:=eo st hE 77 V177
     have B7:=es st hE [(77,V177),(85,V204),(18,.ptr p146 0),(2,.flt .f32 wt),(6,.ptr p25 0),(16,.ptr p53 0),(3,.int .i64 t),(0,.ptr lp 0),(10,.ptr p17 0),(11,.ptr p21 0),(17,S80),(14,.int .i64 (k138:Int))]
     have g230:Grew H179 H206:=(gk st)
     have g231:=Grew.trans g195 g230
     have r232:=g230.at r196
     have r233:=g230.at r197
     have r234:=g230.at r198
     have r235:=g230.at r199
     have r236:=g230.at r200
     have r237:=g230.at r201
     have s238:=s202.grew g230
     have sx241:SlF H206 9 [] (.slice p207 0 0 0 9):=.sl (by simpa using r209) rfl (Nat.le_refl _)
     refine qBW (free:=false) (d:=(some 78)) (sz:=9) (bytes:=48) (x:=.tmp 71) (y:=.tmp 77) kr (S:=.slice p207 0 0 0 9) (ys:=((ms.take k138).drop 0)) (by show E206 71=_;exact e208) sx241 (.inr ⟨_,rfl⟩) (by show qQ _ _ (E206 77)=_;rw [b218];exact hV177.src _ g231) (vC (vA hr) rfl) (by first | omega | (simp only [List.length_append,List.length_cons,List.length_nil,List.length_drop,List.length_take];omega)) ?_
     intro S239 H240 sS239 fS239 oS239
     have ne242:=aL fS239 r232 (ApartL.of aS)
     have ne243:=aL fS239 r233 (ApartL.of aS)
     have ne244:=aL fS239 r234 (ApartL.of aS)
     have ne245:=aL fS239 r235 (ApartL.of aS)
     have ne246:=aL fS239 r236 (ApartL.of aS)
     have ne247:=aL fS239 r237 (ApartL.of aS)
     have ne248:ApartS (S239) (S80):=fS239.apartS s238.lt (ApartS.of (l:=p207) am)
     have fr249:FreshS H.next (S239):=fS239.fresh (FreshS.of_le op207) g231.next
     have g250:=Grew.trans g231 oS239
     have r251:=oS239.at r232
     have r252:=oS239.at r233
     have r253:=oS239.at r234
     have r254:=oS239.at r235
     have r256:=oS239.at r236
     have r257:=oS239.at r237
     have s258:=s238.grew oS239
     have q259:=q205.app (kL:KdsL [.one] [S239])
     refine qL (φ:=φ0) (pm:=pmM 4 [] 4) 20 (ws:=[wf lp [nF 0,n1 1],wf p25 [nF 2,nF 3,nF 4],wf p53 [l0,l0,l0,nF 2,nF 3,nF 4,nF 5,.lit (.int .i64 1),nI 6],wf p146 [n2 11,n2 12,n2 13,nF 14,nF 15,nF 16,nF 17,nI 18,nI 19],⟨p17,0,[lF,lN],true⟩,⟨p21,0,[l0,l0,l0],true⟩]) (env:=[(77,n1 20),(85,n1 22),(18,.ptr 3 0),(2,nF 5),(6,.ptr 1 0),(16,.ptr 2 0),(3,nI 6),(0,.ptr 0 0),(10,.ptr 4 0),(11,.ptr 5 0),(17,n1 10),(14,nI 8),(78,n1 23)]) q259 wA sd .nil (eC q259 (sc (sp B7) (.cons qB .nil))) vK qM ?_
     refine zA kr fun vs ls H260 E260 st hE=>?_
     have b261:=eo st hE 78 S239
     have b262:=eo st hE 85 V204
     have B8:=es st hE [(78,S239),(85,V204),(18,.ptr p146 0),(2,.flt .f32 wt),(6,.ptr p25 0),(16,.ptr p53 0),(3,.int .i64 t),(0,.ptr lp 0),(10,.ptr p17 0),(11,.ptr p21 0),(17,S80),(14,.int .i64 (k138:Int))]
     have g273:Grew H240 H260:=(gk st)
     have g274:=Grew.trans g250 g273
     have r275:=g273.at r251
     have r276:=g273.at r252
     have r277:=g273.at r253
     have r278:=g273.at r254
     have r279:=g273.at r256
     have r280:=g273.at r257
     have s281:=s258.grew g273
     have s282:=sS239.grew g273
     refine qHi (free:=true) (d:=(some 86)) (sz:=9) (bytes:=48) (x:=.tmp 78) (y:=.tmp 85) kr (S:=S239) (ms:=((ms.take k138).drop 0)) (ys:=((ms.take ms.length).drop (k138+1))) (by show E260 78=_;exact b261) s282 (vA hr).len (by show qQ _ _ (E260 85)=_;rw [b262];exact hV204.src _ g274) (vC (vA hr) rfl) (by first | omega | (simp only [List.length_append,List.length_cons,List.length_nil,List.length_drop,List.length_take];omega)) ?_
     intro S283 H284 sS283 fS283 oS283
     have ne285:=aL fS283 r275 am
     have ne286:=aL fS283 r276 am
     have ne287:=aL fS283 r277 am
     have ne288:=aL fS283 r278 am
     have ne289:=aL fS283 r279 am
     have ne290:=aL fS283 r280 am
     have ne291:ApartS (S283) (S80):=fS283.apartS s281.lt (by first | assumption | exact ApartS.symm am)
     have fr292:FreshS H.next (S283):=fS283.fresh fr249 g274.next
     have g293:Grew H H284:=OnlyS.own g274 fr249 oS283
     have r294:=oS283.at r275 am
     have r295:=oS283.at r276 am
     have r296:=oS283.at r277 am
     have r297:=oS283.at r278 am
     have r298:=oS283.at r279 am
     have r299:=oS283.at r280 am
     have s300:=s281.only oS283 (ApartS.symm (by first | assumption | exact ApartS.symm am))
     refine⟨.inl rfl,?_⟩
     refine gY 3 kr ?_
     have q301:=q259.app (kL:KdsL [.one] [S283])
     refine qL (φ:=φ0) (pm:=pmM 3 [] 4) 20 (ws:=[wf lp [nF 0,n1 1],wf p25 [nF 2,nF 3,nF 4],wf p146 [n2 11,n2 12,n2 13,nF 14,nF 15,nF 16,nF 17,nI 18,nI 19],⟨p17,0,[lF,lN],true⟩,⟨p21,0,[l0,l0,l0],true⟩,⟨p53,0,[l0,l0,l0,nF 2,nF 3,nF 4,nF 5,.lit (.int .i64 1),nI 6],true⟩]) (env:=[(78,n1 23),(85,n1 22),(18,.ptr 2 0),(2,nF 5),(6,.ptr 1 0),(16,.ptr 5 0),(3,nI 6),(0,.ptr 0 0),(10,.ptr 3 0),(11,.ptr 4 0),(17,n1 10),(14,nI 8),(86,n1 24)]) q301 wA sd .nil (eC q301 (sc (sp B8) (.cons qB .nil))) vK qM ?_
     refine zA kr fun vs ls H302 E302 st hE=>?_
     have r303:H302.get p17=some (.row [.flt .f32 (some 0),.nilslice] true):=rW st 3
     have r304:H302.get p21=some (.row [.int .i32 0,.int .i32 0,.int .i32 0] true):=rW st 4
     obtain⟨w305,hw305⟩:∃ z,z=(fop .quo .f32 (fop .add .f32 (fop .mul .f32 v139_6 v139_3) (fop .mul .f32 wt a)) (fop .add .f32 v139_6 wt)):=⟨_,rfl⟩
     obtain⟨w306,hw306⟩:∃ z,z=(fop .quo .f32 (fop .add .f32 (fop .mul .f32 v139_6 v139_4) (fop .mul .f32 wt b)) (fop .add .f32 v139_6 wt)):=⟨_,rfl⟩
     obtain⟨w307,hw307⟩:∃ z,z=(fop .quo .f32 (fop .add .f32 (fop .mul .f32 v139_6 v139_5) (fop .mul .f32 wt c)) (fop .add .f32 v139_6 wt)):=⟨_,rfl⟩
     obtain⟨w308,hw308⟩:∃ z,z=(fop .add .f32 v139_6 wt):=⟨_,rfl⟩
     have r309:H302.get p53=some (.row [.int .i32 0,.int .i32 0,.int .i32 0,.flt .f32 (fop .quo .f32 (fop .add .f32 (fop .mul .f32 v139_6 v139_3) (fop .mul .f32 wt a)) (fop .add .f32 v139_6 wt)),.flt .f32 (fop .quo .f32 (fop .add .f32 (fop .mul .f32 v139_6 v139_4) (fop .mul .f32 wt b)) (fop .add .f32 v139_6 wt)),.flt .f32 (fop .quo .f32 (fop .add .f32 (fop .mul .f32 v139_6 v139_5) (fop .mul .f32 wt c)) (fop .add .f32 v139_6 wt)),.flt .f32 (fop .add .f32 v139_6 wt),.int .i64 1,.int .i64 t] true):=rW st 5
     rw [<- hw305] at r309
     rw [<- hw306] at r309
     rw [<- hw307] at r309
     rw [<- hw308] at r309
     have b310:E302 19=.flt .f32 w308:=by rw [hw308];exact eo st hE 19 _
     have B9:=es st hE [(18,.ptr p146 0),(16,.ptr p53 0),(3,.int .i64 t),(0,.ptr lp 0),(10,.ptr p17 0),(11,.ptr p21 0),(17,S283),(14,.int .i64 (k138:Int))]
     have g320:Grew H H302:=qK g293 st.inn.kept ⟨op17,⟨op21,⟨op53,trivial⟩⟩⟩
     have r321:=zH st.inn.kept r294 ⟨aS,⟨aS,⟨aS,trivial⟩⟩⟩
     have r323:=zH st.inn.kept r297 ⟨aS,⟨aS,⟨aS,trivial⟩⟩⟩
     have s324:=s300.keep st.inn.kept ⟨by assumption,⟨by assumption,⟨by assumption,trivial⟩⟩⟩
     have s325:=sS283.keep st.inn.kept ⟨by assumption,⟨by assumption,⟨by assumption,trivial⟩⟩⟩
     refine qGm kr ?_
     refine qAW 2 (fun E H'=>∃ (nw2326:ON),E 18=.ptr p146 0/\E 16=.ptr p53 0/\E 3=.int .i64 t/\E 0=.ptr lp 0/\E 10=.ptr p17 0/\E 11=.ptr p21 0/\E 17=S283/\E 14=.int .i64 (k138:Int)/\Grew H H'/\H'.get lp=some (.row [.flt .f32 x,S] true)/\H'.get p146=some (.row [.int .i32 v139_0,.int .i32 v139_1,.int .i32 v139_2,.flt .f32 v139_3,.flt .f32 v139_4,.flt .f32 v139_5,.flt .f32 v139_6,.int .i64 v139_7,.int .i64 v139_8] true)/\H'.get p17=some (.row [.flt .f32 (some 0),.nilslice] true)/\H'.get p21=some (.row [.int .i32 0,.int .i32 0,.int .i32 0] true)/\H'.get p53=some (.row [.int .i32 0,.int .i32 0,.int .i32 0,.flt .f32 w305,.flt .f32 w306,.flt .f32 w307,.flt .f32 nw2326,.int .i64 1,.int .i64 t] true)/\SlF H' 9 ms S80/\SlF H' 9 (((ms.take k138).drop 0) ++ ((ms.take ms.length).drop (k138+1))) S283/\nw2326=qDu v139_6 wt/\fOk .f32 nw2326) kr ?_ ?_
     ·have q327:=q301.app (.cons ⟨_,rfl,hw305 ▸ zS⟩ (.cons ⟨_,rfl,hw306 ▸ zS⟩ (.cons ⟨_,rfl,hw307 ▸ zS⟩ (.cons ⟨_,rfl,hw308 ▸ zS⟩ .nil))):KdsL [KF,KF,KF,KF] [.flt .f32 w305,.flt .f32 w306,.flt .f32 w307,.flt .f32 w308])
      refine qL (φ:=φ0) (pm:=pmM 2 [] 4) 20 (ws:=[wf lp [nF 0,n1 1],wf p146 [n2 11,n2 12,n2 13,nF 14,nF 15,nF 16,nF 17,nI 18,nI 19],⟨p17,0,[lF,lN],true⟩,⟨p21,0,[l0,l0,l0],true⟩,⟨p53,0,[l0,l0,l0,nF 25,nF 26,nF 27,nF 28,.lit (.int .i64 1),nI 6],true⟩]) (env:=[(18,.ptr 1 0),(16,.ptr 4 0),(3,nI 6),(0,.ptr 0 0),(10,.ptr 2 0),(11,.ptr 3 0),(17,n1 24),(14,nI 8),(19,nF 28)]) q327 wA sd .nil (eC q327 (sc B9 (.cons b310 .nil))) vK qM ?_
      refine dB kr ?_ ?_
      ·intro vs ls H328 E328 st hE
       have f329:(qO .f32 (fop .sub .f32 w308 w308) (some 0) == some .eq)=false:=bf st 0
       have r330:H328.get p17=some (.row [.flt .f32 (some 0),.nilslice] true):=rW st 2
       have r331:H328.get p21=some (.row [.int .i32 0,.int .i32 0,.int .i32 0] true):=rW st 3
       have r332:H328.get p53=some (.row [.int .i32 0,.int .i32 0,.int .i32 0,.flt .f32 w305,.flt .f32 w306,.flt .f32 w307,.flt .f32 v139_6,.int .i64 1,.int .i64 t] true):=rW st 4
       have b333:=eo st hE 18 (.ptr p146 0)
       have b334:=eo st hE 16 (.ptr p53 0)
       have b335:=eo st hE 3 (.int .i64 t)
       have b336:=eo st hE 0 (.ptr lp 0)
       have b337:=eo st hE 10 (.ptr p17 0)
       have b338:=eo st hE 11 (.ptr p21 0)
       have b339:=eo st hE 17 S283
       have b340:=eo st hE 14 (.int .i64 (k138:Int))
       have g342:Grew H H328:=qK g320 st.inn.kept ⟨op17,⟨op21,⟨op53,trivial⟩⟩⟩
       have r343:=zH st.inn.kept r321 ⟨aS,⟨aS,⟨aS,trivial⟩⟩⟩
       have r344:=zH st.inn.kept r323 ⟨aS,⟨aS,⟨aS,trivial⟩⟩⟩
       have s345:=s324.keep st.inn.kept ⟨by assumption,⟨by assumption,⟨by assumption,trivial⟩⟩⟩
       have s346:=s325.keep st.inn.kept ⟨by assumption,⟨by assumption,⟨by assumption,trivial⟩⟩⟩
       have hf9:bQ (fop .add .f32 v139_6 wt)=false:=by rw [<- xH];first | exact f329 | (rw [hw308] at f329;exact f329)
       have hw9:qDu v139_6 wt=v139_6:=by unfold qDu;rw [hf9];first | rfl | exact(‹v139_6=_›).symm
       exact vS kr ⟨v139_6,b333,b334,b335,b336,b337,b338,b339,b340,g342,r343,r344,r330,r331,r332,s345,s346,hw9.symm,ho139_6⟩
      ·intro vs ls H347 E347 st hE
       have f348:(qO .f32 (fop .sub .f32 w308 w308) (some 0) == some .eq)=true:=bf st 0
       have b349:=eo st hE 18 (.ptr p146 0)
       have b350:=eo st hE 16 (.ptr p53 0)
       have b351:=eo st hE 3 (.int .i64 t)
       have b352:=eo st hE 0 (.ptr lp 0)
       have b353:=eo st hE 10 (.ptr p17 0)
       have b354:=eo st hE 11 (.ptr p21 0)
       have b355:=eo st hE 17 S283
       have b356:=eo st hE 14 (.int .i64 (k138:Int))
       have g357:Grew H302 H347:=(gk st)
       have g358:=Grew.trans g320 g357
       have r359:=g357.at r321
       have r360:=g357.at r323
       have r361:=g357.at r303
       have r362:=g357.at r304
       have r363:=g357.at r309
       have s364:=s324.grew g357
       have s365:=s325.grew g357
       have hf9:bQ (fop .add .f32 v139_6 wt)=true:=by rw [<- xH];first | exact f348 | (rw [hw308] at f348;exact f348)
       have hw9:qDu v139_6 wt=w308:=by unfold qDu;rw [hf9];first | rfl | exact(‹w308=_›).symm
       exact vS kr ⟨w308,b349,b350,b351,b352,b353,b354,b355,b356,g358,r359,r360,r361,r362,r363,s364,s365,hw9.symm,hw308 ▸ zS⟩
     ·rintro E326 H326 ⟨nw2326,c326_18,c326_16,c326_3,c326_0,c326_10,c326_11,c326_17,c326_14,gt326,r326_0,r326_1,r326_2,r326_3,r326_4,so326_0,so326_1,hfw326,hfo326⟩
      have q366:=q301.app (.cons ⟨_,rfl,hw305 ▸ zS⟩ (.cons ⟨_,rfl,hw306 ▸ zS⟩ (.cons ⟨_,rfl,hw307 ▸ zS⟩ (.cons ⟨_,rfl,hw308 ▸ zS⟩ (.cons (kF hfo326) .nil)))):KdsL [KF,KF,KF,KF,KF] [.flt .f32 w305,.flt .f32 w306,.flt .f32 w307,.flt .f32 w308,.flt .f32 nw2326])
      refine qL (φ:=φ0) (pm:=pmM 2 [] 4) 20 (ws:=[wf lp [nF 0,n1 1],wf p146 [n2 11,n2 12,n2 13,nF 14,nF 15,nF 16,nF 17,nI 18,nI 19],⟨p17,0,[lF,lN],true⟩,⟨p21,0,[l0,l0,l0],true⟩,⟨p53,0,[l0,l0,l0,nF 25,nF 26,nF 27,nF 29,.lit (.int .i64 1),nI 6],true⟩]) (env:=[(18,.ptr 1 0),(16,.ptr 4 0),(3,nI 6),(0,.ptr 0 0),(10,.ptr 2 0),(11,.ptr 3 0),(17,n1 24),(14,nI 8)]) q366 wA sd .nil (eC q366 (.cons c326_18 (.cons c326_16 (.cons c326_3 (.cons c326_0 (.cons c326_10 (.cons c326_11 (.cons c326_17 (.cons c326_14 .nil))))))))) vK qM ?_
      refine zA kr fun vs ls H367 E367 st hE=>?_
      obtain⟨w368,hw368⟩:∃ z,z=(IntKind.wrap .i64 (v139_7+1)):=⟨_,rfl⟩
      have b369:E367 123=.int .i64 w368:=by rw [hw368];exact eo st hE 123 _
      have B10:=es st hE [(16,.ptr p53 0),(18,.ptr p146 0),(3,.int .i64 t),(0,.ptr lp 0),(10,.ptr p17 0),(11,.ptr p21 0),(17,S283),(14,.int .i64 (k138:Int))]
      have g378:Grew H326 H367:=(gk st)
      have g379:=Grew.trans gt326 g378
      have r380:=g378.at r326_0
      have r381:=g378.at r326_1
      have r382:=g378.at r326_2
      have r383:=g378.at r326_3
      have r384:=g378.at r326_4
      have s386:=so326_1.grew g378
      have q387:=q366.app (kL:KdsL [KI,KI,KI] [.int .i64 w368,.int .i64 (min w368 1000000),.int .i64 (max v139_8 t)])
      refine qL (φ:=φ0) (pm:=pmM 2 [(.call 67 [nI 30,.lit (.int .i64 1000000)],nI 31),(.call 68 [nI 19,nI 6],nI 32)] 4) 20 (ws:=[wf lp [nF 0,n1 1],wf p146 [n2 11,n2 12,n2 13,nF 14,nF 15,nF 16,nF 17,nI 18,nI 19],⟨p17,0,[lF,lN],true⟩,⟨p21,0,[l0,l0,l0],true⟩,⟨p53,0,[l0,l0,l0,nF 25,nF 26,nF 27,nF 29,.lit (.int .i64 1),nI 6],true⟩]) (env:=[(16,.ptr 4 0),(18,.ptr 1 0),(3,nI 6),(0,.ptr 0 0),(10,.ptr 2 0),(11,.ptr 3 0),(17,n1 24),(14,nI 8),(123,nI 30)]) q387 wA sd (.cons (qH (args:=[.int .i64 w368,.int .i64 1000000]) (dL q387) (dE q387) (fun H9 hk=>qLN w368 1000000 H9)) (.cons (qH (args:=[.int .i64 v139_8,.int .i64 t]) (dL q387) (dE q387) (fun H9 hk=>qLM v139_8 t H9)) .nil)) (eC q387 (sc B10 (.cons b369 .nil))) vK qM ?_
      refine zA kr fun vs ls H388 E388 st hE=>?_
      have r389:H388.get p17=some (.row [.flt .f32 (some 0),.nilslice] true):=rW st 2
      have r390:H388.get p21=some (.row [.int .i32 0,.int .i32 0,.int .i32 0] true):=rW st 3
      have r391:H388.get p53=some (.row [.int .i32 0,.int .i32 0,.int .i32 0,.flt .f32 w305,.flt .f32 w306,.flt .f32 w307,.flt .f32 nw2326,.int .i64 (min w368 1000000),.int .i64 (max v139_8 t)] true):=rW st 4
      have b392:=eo st hE 0 (.ptr lp 0)
      have b393:=eo st hE 16 (.ptr p53 0)
      have b394:=eo st hE 10 (.ptr p17 0)
      have b395:=eo st hE 11 (.ptr p21 0)
      have b396:=eo st hE 17 S283
      have b397:=eo st hE 14 (.int .i64 (k138:Int))
      have g399:Grew H H388:=qK g379 st.inn.kept ⟨op17,⟨op21,⟨op53,trivial⟩⟩⟩
      have r400:=zH st.inn.kept r380 ⟨aS,⟨aS,⟨aS,trivial⟩⟩⟩
      have s403:=s386.keep st.inn.kept ⟨by assumption,⟨by assumption,⟨by assumption,trivial⟩⟩⟩
      have hM9:qCh x ms a b c wt t g=[.flt .f32 w305,.flt .f32 w306,.flt .f32 w307,.flt .f32 nw2326,.int .i64 (min w368 1000000),.int .i64 (max v139_8 t)]:=by
       have hk9:=ho.mks _ (List.getElem_mem hlt139)
       rw [hm139] at hk9
       obtain⟨k1,k2,k3,k4⟩:=tG hk9
       have hwr9:IntKind.wrap .i64 (v139_7+1)=v139_7+1:=wrap_i64 om om
       unfold qCh;rw [hN]
       show (if (((k138:Nat):Int)) < 0 then _ else qOD (ms.getD (Int.toNat ((k138:Nat):Int)) []) a b c wt t)=_
       rw [if_neg om,Int.toNat_natCast,he139]
       have hw9:qDu v139_6 wt=nw2326:=hfw326.symm
       have hs9:min (v139_7+1) 1000000=(min w368 1000000):=by omega
       have hl9:max v139_8 t=(max v139_8 t):=by omega
       show [AV.flt .f32 (qGY v139_6 v139_3 wt a),.flt .f32 (qGY v139_6 v139_4 wt b),.flt .f32 (qGY v139_6 v139_5 wt c),.flt .f32 (qDu v139_6 wt),.int .i64 (min (v139_7+1) 1000000),.int .i64 (max v139_8 t)]=_
       rw [hw9,hs9,hl9,hw305,hw306,hw307]
       first | rfl | (rw [hw308];rfl)
      exact vS kr ⟨w305,w306,w307,nw2326,(min w368 1000000),(max v139_8 t),S283,b397,b392,b393,b394,b395,b396,g399,r400,r391,r389,r390,(by rw [show (bE x ms a b c g)=ms.eraseIdx k138 by unfold bE;rw [hN];show (if (((k138:Nat):Int)) < 0 then _ else ms.eraseIdx (Int.toNat ((k138:Nat):Int)))=_;rw [if_neg om,Int.toNat_natCast],<- qKv];exact s403),fr292,am,am,am,am,hM9,hw305 ▸ zS,hw306 ▸ zS,hw307 ▸ zS,hfo326⟩
    ·intro vs ls H404 E404 st hE
     have f405:i1 < 0:=dt st 0
     have b406:=eo st hE 0 (.ptr lp 0)
     have b407:=eo st hE 16 (.ptr p53 0)
     have b408:=eo st hE 10 (.ptr p17 0)
     have b409:=eo st hE 11 (.ptr p21 0)
     have b410:=eo st hE 17 S80
     have b411:=eo st hE 14 (.int .i64 i1)
     have g412:Grew H97 H404:=(gk st)
     have g413:=Grew.trans g108 g412
     have r414:=g412.at r109
     have r416:=g412.at r111
     have r417:=g412.at r112
     have r418:=g412.at r113
     have s419:=s114.grew g412
     have hneg9:(jH x ms a b c g).1 < 0:=by rw [hN];exact f405
     have hM9:qCh x ms a b c wt t g=[.flt .f32 a,.flt .f32 b,.flt .f32 c,.flt .f32 wt,.int .i64 1,.int .i64 t]:=by
      unfold qCh;rw [if_pos hneg9]
     exact vS kr ⟨a,b,c,wt,1,t,S80,b411,b406,b407,b408,b409,b410,g413,r414,r416,r417,r418,(by rw [show (bE x ms a b c g)=ms by unfold bE;rw [if_pos hneg9]];exact s419),fr88,am,am,am,am,hM9,ha,hb,hc,hwt⟩
   ·rintro E115 H115 ⟨np115,nq115,nr115,nw115,ns115,nl115,sa115,c115_14,c115_0,c115_16,c115_10,c115_11,ca115,gt115,r115_0,r115_2,r115_3,r115_4,s115,f115,ap115_0,ap115_2,ap115_3,ap115_4,hM115,hp115,hq115,hr115,hw115⟩
    obtain⟨c0115,c1115,c2115,dd115,hce115⟩:=bB x np115 nq115 nr115
    have hvM115:zI nw115=true/\(1<=ns115/\ns115<=1000000)/\0<=nl115/\nl115<=1000000000:=by
     obtain⟨p9,q9,r9,w9,s9,l9,hM9,_,_,_,_,hv9⟩:=qGf (x:=x) (t:=t) (g:=g) ho ha hb hc hwt
     rw [hM115] at hM9
     simp only [List.cons.injEq,AV.flt.injEq,AV.int.injEq,true_and,and_true] at hM9
     obtain⟨rfl,rfl,rfl,rfl,rfl,rfl⟩:=hM9
     exact hv9 (show zI wt=true from by unfold zI;rw [<- xH,f16,f15];rfl) om om
    have q420:=q96.app (kL:KdsL [.one,KF,KF,KF,KF,KI,KI,K2,K2,K2,KI,K2,K2,K2,KI] [sa115,.flt .f32 np115,.flt .f32 nq115,.flt .f32 nr115,.flt .f32 nw115,.int .i64 ns115,.int .i64 nl115,.int .i32 c0115,.int .i32 c1115,.int .i32 c2115,.int .i64 dd115,.int .i32 c0115,.int .i32 c1115,.int .i32 c2115,.int .i64 dd115])
    refine qL (φ:=φ0) (pm:=pmM 1 [(.call 69 [nF 0,.agg [nF 12,nF 13,nF 14]],.tup [.agg [n2 22,n2 23,n2 24],nI 25])] 4) 20 (ws:=[wf lp [nF 0,n1 1],⟨p17,0,[lF,lN],true⟩,⟨p21,0,[l0,l0,l0],true⟩,⟨p53,0,[l0,l0,l0,nF 12,nF 13,nF 14,nF 15,nI 16,nI 17],true⟩]) (env:=[(14,nI 8),(0,.ptr 0 0),(16,.ptr 3 0),(10,.ptr 1 0),(11,.ptr 2 0),(17,n1 11)]) q420 wA sd (.cons (qH (args:=[.flt .f32 x,.agg [.flt .f32 np115,.flt .f32 nq115,.flt .f32 nr115]]) (r:=.tuple [.agg [.int .i32 c0115,.int .i32 c1115,.int .i32 c2115],.int .i64 dd115]) (dL q420) (dE q420) (fun H9 hk=>(by have h9:=qCW x np115 nq115 nr115 hx hp115 hq115 hr115 H9;rw [hce115] at h9;exact h9))) .nil) (eC q420 (.cons c115_14 (.cons c115_0 (.cons c115_16 (.cons c115_10 (.cons c115_11 (.cons ca115 .nil))))))) vK qM ?_
    refine dB kr ?_ ?_
    ·intro vs ls H421 E421 st hE
     have f422:¬ (dd115=0):=df st 0
     have gz:Grew H H421:=(qK gt115 (st.inn.kept) ⟨op17,⟨op21,⟨op53,trivial⟩⟩⟩)
     have hC:vM x ms a b c wt t g=3:=by
      unfold vM;rw [if_pos ⟨(show zI wt=true from by unfold zI;rw [<- xH,f16,f15];rfl),by omega,by omega⟩]
      rw [if_pos (show (jH x ms a b c g).2=0 by rw [hN];exact f48),hM115]
      show (if (zQ x np115 nq115 nr115).2=0 then (if jU _ ((zQ x np115 nq115 nr115).1 ++ _)=true then (0:Int) else 3) else 3)=_
      rw [hce115]
      show (if dd115=0 then (if jU _ ([.int .i32 c0115,.int .i32 c1115,.int .i32 c2115] ++ _)=true then (0:Int) else 3) else 3)=_
      rw [if_neg f422]
     obtain⟨_,eX,eP2,eK2,eL2⟩:=vT hC (by decide)
     exact re st hE (.tuple [.agg [.flt .f32 (some 0),.nilslice],.agg [.int .i32 0,.int .i32 0,.int .i32 0],.bool false,.int .i64 3]) gz.next (by rw [hC,eX,eL2];exact⟨gz,_,_,_,rfl,(.nil rfl),FreshS.nil,(.cons kA (.cons kA (.cons kA .nil))),fun h9=>absurd h9 (by decide)⟩)
    ·intro vs ls H423 E423 st hE
     have f424:dd115=0:=dt st 0
     obtain⟨p425,e426,r427,n428⟩:=pO st hE 23 5 [.flt .f32 (some 0),.nilslice]
     have op425:H.next<=p425:=Nat.le_trans gt115.next (oM n428)
     obtain⟨p429,e430,r431,n432⟩:=pO st hE 21 4 [.int .i32 c0115,.int .i32 c1115,.int .i32 c2115]
     have op429:H.next<=p429:=Nat.le_trans gt115.next (oM n432)
     have ne433:=pn st hE 23 5 21 4 [lF,lN] e426 e430
     have ne434:=apn r115_0 (oM n428)
     have ne435:=apn r115_3 (oM n428)
     have ne436:=apn r115_4 (oM n428)
     have ne437:=apn r115_2 (oM n428)
     have ne438:ApartL (sa115) p425:=s115.apart_new (oM n428)
     have ne439:=apn r115_0 (oM n432)
     have ne440:=apn r115_3 (oM n432)
     have ne441:=apn r115_4 (oM n432)
     have ne442:=apn r115_2 (oM n432)
     have ne443:ApartL (sa115) p429:=s115.apart_new (oM n432)
     have r444:H423.get p17=some (.row [.flt .f32 (some 0),.nilslice] true):=rW st 1
     have r445:H423.get p21=some (.row [.int .i32 0,.int .i32 0,.int .i32 0] true):=rW st 2
     have b447:=eo st hE 152 sa115
     have b448:=eo st hE 153 (.agg [.int .i32 c0115,.int .i32 c1115,.int .i32 c2115,.flt .f32 np115,.flt .f32 nq115,.flt .f32 nr115,.flt .f32 nw115,.int .i64 ns115,.int .i64 nl115])
     have B11:=es st hE [(152,sa115),(153,.agg [.int .i32 c0115,.int .i32 c1115,.int .i32 c2115,.flt .f32 np115,.flt .f32 nq115,.flt .f32 nr115,.flt .f32 nw115,.int .i64 ns115,.int .i64 nl115]),(151,.flt .f32 x),(14,.int .i64 i1),(10,.ptr p17 0),(11,.ptr p21 0)]
     have g454:Grew H H423:=qK gt115 st.inn.kept ⟨op17,⟨op21,⟨op53,trivial⟩⟩⟩
     have s456:=s115.keep st.inn.kept ⟨by assumption,⟨by assumption,⟨by assumption,trivial⟩⟩⟩
     refine qHk (free:=false) (d:=(some 154)) (f:=31) (args:=[.tmp 152,.tmp 153]) kr (R:=fun z H'=>Grew H423 H'/\SlF H' 9 (pG (bE x ms a b c g) [.int .i32 c0115,.int .i32 c1115,.int .i32 c2115,.flt .f32 np115,.flt .f32 nq115,.flt .f32 nr115,.flt .f32 nw115,.int .i64 ns115,.int .i64 nl115]) z/\FreshS H423.next z) ?_ ?_
     ·show qJ _ _ [E423 152,E423 153] _ _
      rw [b447,b448]
      exact qLO H423 (bE x ms a b c g) (xR x ho a b c g).rcs (sa115) s456.toL (Nat.le_trans (xR x ho a b c g).len (by decide)) (xR x ho a b c g).mks c0115 c1115 c2115 np115 nq115 nr115 nw115 ns115 nl115 hp115 hq115 hr115 hw115 (qIa (by rw [hce115,f424]) hvM115)
     rintro S457 H458 ⟨gS457,sS457,fS457⟩
     refine⟨gS457,?_⟩
     have ne459:ApartL (S457) p425:=fS457.apartL (H423.lt_of_get r427)
     have ne460:ApartL (S457) p429:=fS457.apartL (H423.lt_of_get r431)
     have ne461:ApartL (S457) p17:=fS457.apartL (H423.lt_of_get r444)
     have ne462:ApartL (S457) p21:=fS457.apartL (H423.lt_of_get r445)
     have ne463:ApartS (S457) (sa115):=fS457.apartS s456.lt
     have fr464:FreshS H.next (S457):=fS457.mono g454.next
     have g465:=Grew.trans g454 gS457
     have r466:=gS457.at r427
     have r467:=gS457.at r431
     have r468:=gS457.at r444
     have r469:=gS457.at r445
     have q471:=q420.app (kL:KdsL [.one,KI,KI] [S457,.int .i64 ((pG (bE x ms a b c g) [.int .i32 c0115,.int .i32 c1115,.int .i32 c2115,.flt .f32 np115,.flt .f32 nq115,.flt .f32 nr115,.flt .f32 nw115,.int .i64 ns115,.int .i64 nl115]).length:Int),.int .i64 ((pG (bE x ms a b c g) [.int .i32 c0115,.int .i32 c1115,.int .i32 c2115,.flt .f32 np115,.flt .f32 nq115,.flt .f32 nr115,.flt .f32 nw115,.int .i64 ns115,.int .i64 nl115]).length:Int)])
     refine qL (φ:=φ0) (pm:=pmM 1 [(.len (n1 26),nI 28)] 4) 20 (ws:=[wf p429 [n2 22,n2 23,n2 24],⟨p17,0,[lF,lN],true⟩,⟨p21,0,[l0,l0,l0],true⟩,⟨p425,0,[lF,lN],true⟩]) (env:=[(152,n1 11),(153,.agg [n2 22,n2 23,n2 24,nF 12,nF 13,nF 14,nF 15,nI 16,nI 17]),(151,nF 0),(14,nI 8),(10,.ptr 1 0),(11,.ptr 2 0),(23,.ptr 3 0),(21,.ptr 0 0),(154,n1 26)]) q471 wA sd (.cons (⟨_,_,(dE q471),(dE q471),yS (sS457.toL)⟩) .nil) (eC q471 (sc (sp B11) (.cons (qD rfl e426) (.cons (qD rfl e430) (.cons qB .nil))))) vK qM ?_
     refine dB kr ?_ ?_
     ·intro vs ls H472 E472 st hE
      have f473:200 < ((pG (bE x ms a b c g) [.int .i32 c0115,.int .i32 c1115,.int .i32 c2115,.flt .f32 np115,.flt .f32 nq115,.flt .f32 nr115,.flt .f32 nw115,.int .i64 ns115,.int .i64 nl115]).length:Int):=dt st 0
      have r474:H472.get p17=some (.row [.flt .f32 (some 0),.nilslice] true):=rW st 1
      have r475:H472.get p21=some (.row [.int .i32 0,.int .i32 0,.int .i32 0] true):=rW st 2
      have r476:H472.get p425=some (.row [.flt .f32 (some 0),.nilslice] true):=rW st 3
      obtain⟨w481,hw481⟩:∃ z,z=(!(decide (i1 < 0))):=⟨_,rfl⟩
      have b482:E472 161=.bool w481:=by rw [hw481];exact eo st hE 161 _
      have B12:=es st hE [(23,.ptr p425 0),(21,.ptr p429 0),(10,.ptr p17 0),(11,.ptr p21 0),(162,.int .i64 3)]
      have g485:Grew H H472:=qK g465 st.inn.kept ⟨op17,⟨op21,⟨op425,trivial⟩⟩⟩
      have r486:=zH st.inn.kept r467 ⟨aS,⟨aS,⟨aS,trivial⟩⟩⟩
      refine wH kr ?_ ?_
      ·have q489:=q471.app (kL:KdsL [.bool] [.bool w481])
       refine qL (φ:=φ0) (pm:=pmM 1 [] 4) 20 (ws:=[wf p429 [n2 22,n2 23,n2 24],⟨p17,0,[lF,lN],true⟩,⟨p21,0,[l0,l0,l0],true⟩,⟨p425,0,[lF,lN],true⟩]) (env:=[(23,.ptr 3 0),(21,.ptr 0 0),(10,.ptr 1 0),(11,.ptr 2 0),(162,.lit (.int .i64 3)),(161,nB 29)]) q489 wA sd .nil (eC q489 (sc B12 (.cons b482 .nil))) vK qM ?_
       refine zA kr fun vs ls H490 E490 st hE=>?_
       have B13:=es st hE [(21,.ptr p429 0),(10,.ptr p17 0),(158,.agg [.flt .f32 (some 0),.nilslice]),(11,.ptr p21 0),(161,.bool w481),(162,.int .i64 3)]
       have g497:Grew H472 H490:=(gk st)
       have g498:=Grew.trans g485 g497
       have r499:=g497.at r486
       have r500:=g497.at r474
       have r501:=g497.at r475
       refine wH kr ?_ ?_
       ·refine qL (φ:=φ0) (pm:=pmM 1 [] 4) 20 (ws:=[wf p429 [n2 22,n2 23,n2 24],⟨p17,0,[lF,lN],true⟩,⟨p21,0,[l0,l0,l0],true⟩]) (env:=[(21,.ptr 0 0),(10,.ptr 1 0),(158,.agg [lF,lN]),(11,.ptr 2 0),(161,nB 29),(162,.lit (.int .i64 3))]) q489 wA sd .nil (eC q489 B13) vK qM ?_
        refine zA kr fun vs ls H506 E506 st hE=>?_
        have gz:Grew H H506:=(qK g498 (st.inn.kept) ⟨op17,⟨op21,trivial⟩⟩)
        have hC:vM x ms a b c wt t g=3:=by
         unfold vM;rw [if_pos ⟨(show zI wt=true from by unfold zI;rw [<- xH,f16,f15];rfl),by omega,by omega⟩]
         rw [if_pos (show (jH x ms a b c g).2=0 by rw [hN];exact f48),hM115]
         show (if (zQ x np115 nq115 nr115).2=0 then (if jU _ ((zQ x np115 nq115 nr115).1 ++ _)=true then (0:Int) else 3) else 3)=_
         rw [hce115]
         show (if dd115=0 then (if jU _ ([.int .i32 c0115,.int .i32 c1115,.int .i32 c2115] ++ _)=true then (0:Int) else 3) else 3)=_
         have hq9:=bX (m:=[.int .i32 c0115,.int .i32 c1115,.int .i32 c2115,.flt .f32 np115,.flt .f32 nq115,.flt .f32 nr115,.flt .f32 nw115,.int .i64 ns115,.int .i64 nl115]) (xR x ho a b c g).len
         rw [decide_eq_false om] at hq9
         rw [if_pos f424]
         show (if jU (bE x ms a b c g) [.int .i32 c0115,.int .i32 c1115,.int .i32 c2115,.flt .f32 np115,.flt .f32 nq115,.flt .f32 nr115,.flt .f32 nw115,.int .i64 ns115,.int .i64 nl115]=true then (0:Int) else 3)=_
         rw [hq9];rfl
        obtain⟨_,eX,eP2,eK2,eL2⟩:=vT hC (by decide)
        exact re st hE (.tuple [.agg [.flt .f32 (some 0),.nilslice],.agg [.int .i32 c0115,.int .i32 c1115,.int .i32 c2115],.bool w481,.int .i64 3]) gz.next (by rw [hC,eX,eL2];exact⟨gz,_,_,_,rfl,(.nil rfl),FreshS.nil,(.cons kA (.cons kA (.cons kA .nil))),fun h9=>absurd h9 (by decide)⟩)
       ·refine qL (φ:=φ0) (pm:=pmM 1 [] 4) 20 (ws:=[wf p429 [n2 22,n2 23,n2 24],⟨p17,0,[lF,lN],true⟩,⟨p21,0,[l0,l0,l0],true⟩]) (env:=[(21,.ptr 0 0),(10,.ptr 1 0),(158,.agg [lF,lN]),(11,.ptr 2 0),(161,nB 29),(162,.lit (.int .i64 3))]) q489 wA sd .nil (eC q489 B13) vK qM ?_
        refine zA kr fun vs ls H508 E508 st hE=>?_
        have gz:Grew H H508:=(qK g498 (st.inn.kept) ⟨op17,⟨op21,trivial⟩⟩)
        have hC:vM x ms a b c wt t g=3:=by
         unfold vM;rw [if_pos ⟨(show zI wt=true from by unfold zI;rw [<- xH,f16,f15];rfl),by omega,by omega⟩]
         rw [if_pos (show (jH x ms a b c g).2=0 by rw [hN];exact f48),hM115]
         show (if (zQ x np115 nq115 nr115).2=0 then (if jU _ ((zQ x np115 nq115 nr115).1 ++ _)=true then (0:Int) else 3) else 3)=_
         rw [hce115]
         show (if dd115=0 then (if jU _ ([.int .i32 c0115,.int .i32 c1115,.int .i32 c2115] ++ _)=true then (0:Int) else 3) else 3)=_
         have hq9:=bX (m:=[.int .i32 c0115,.int .i32 c1115,.int .i32 c2115,.flt .f32 np115,.flt .f32 nq115,.flt .f32 nr115,.flt .f32 nw115,.int .i64 ns115,.int .i64 nl115]) (xR x ho a b c g).len
         rw [decide_eq_false om] at hq9
         rw [if_pos f424]
         show (if jU (bE x ms a b c g) [.int .i32 c0115,.int .i32 c1115,.int .i32 c2115,.flt .f32 np115,.flt .f32 nq115,.flt .f32 nr115,.flt .f32 nw115,.int .i64 ns115,.int .i64 nl115]=true then (0:Int) else 3)=_
         rw [hq9];rfl
        obtain⟨_,eX,eP2,eK2,eL2⟩:=vT hC (by decide)
        exact re st hE (.tuple [.agg [.flt .f32 (some 0),.nilslice],.agg [.int .i32 c0115,.int .i32 c1115,.int .i32 c2115],.bool w481,.int .i64 3]) gz.next (by rw [hC,eX,eL2];exact⟨gz,_,_,_,rfl,(.nil rfl),FreshS.nil,(.cons kA (.cons kA (.cons kA .nil))),fun h9=>absurd h9 (by decide)⟩)
      ·have q509:=q471.app (kL:KdsL [.bool] [.bool w481])
       refine qL (φ:=φ0) (pm:=pmM 1 [] 4) 20 (ws:=[wf p429 [n2 22,n2 23,n2 24],⟨p17,0,[lF,lN],true⟩,⟨p21,0,[l0,l0,l0],true⟩,⟨p425,0,[lF,lN],true⟩]) (env:=[(23,.ptr 3 0),(21,.ptr 0 0),(10,.ptr 1 0),(11,.ptr 2 0),(162,.lit (.int .i64 3)),(161,nB 29)]) q509 wA sd .nil (eC q509 (sc B12 (.cons b482 .nil))) vK qM ?_
       refine zA kr fun vs ls H510 E510 st hE=>?_
       have gz:Grew H H510:=(qK g485 (st.inn.kept) ⟨op17,⟨op21,⟨op425,trivial⟩⟩⟩)
       have hC:vM x ms a b c wt t g=3:=by
        unfold vM;rw [if_pos ⟨(show zI wt=true from by unfold zI;rw [<- xH,f16,f15];rfl),by omega,by omega⟩]
        rw [if_pos (show (jH x ms a b c g).2=0 by rw [hN];exact f48),hM115]
        show (if (zQ x np115 nq115 nr115).2=0 then (if jU _ ((zQ x np115 nq115 nr115).1 ++ _)=true then (0:Int) else 3) else 3)=_
        rw [hce115]
        show (if dd115=0 then (if jU _ ([.int .i32 c0115,.int .i32 c1115,.int .i32 c2115] ++ _)=true then (0:Int) else 3) else 3)=_
        have hq9:=bX (m:=[.int .i32 c0115,.int .i32 c1115,.int .i32 c2115,.flt .f32 np115,.flt .f32 nq115,.flt .f32 nr115,.flt .f32 nw115,.int .i64 ns115,.int .i64 nl115]) (xR x ho a b c g).len
        rw [decide_eq_false om] at hq9
        rw [if_pos f424]
        show (if jU (bE x ms a b c g) [.int .i32 c0115,.int .i32 c1115,.int .i32 c2115,.flt .f32 np115,.flt .f32 nq115,.flt .f32 nr115,.flt .f32 nw115,.int .i64 ns115,.int .i64 nl115]=true then (0:Int) else 3)=_
        rw [hq9];rfl
       obtain⟨_,eX,eP2,eK2,eL2⟩:=vT hC (by decide)
       exact re st hE (.tuple [.agg [.flt .f32 (some 0),.nilslice],.agg [.int .i32 c0115,.int .i32 c1115,.int .i32 c2115],.bool w481,.int .i64 3]) gz.next (by rw [hC,eX,eL2];exact⟨gz,_,_,_,rfl,(.nil rfl),FreshS.nil,(.cons kA (.cons kA (.cons kA .nil))),fun h9=>absurd h9 (by decide)⟩)
     ·intro vs ls H511 E511 st hE
      have f512:¬ (200 < ((pG (bE x ms a b c g) [.int .i32 c0115,.int .i32 c1115,.int .i32 c2115,.flt .f32 np115,.flt .f32 nq115,.flt .f32 nr115,.flt .f32 nw115,.int .i64 ns115,.int .i64 nl115]).length:Int)):=df st 0
      have r513:H511.get p17=some (.row [.flt .f32 (some 0),.nilslice] true):=rW st 1
      have r514:H511.get p21=some (.row [.int .i32 0,.int .i32 0,.int .i32 0] true):=rW st 2
      have r515:H511.get p425=some (.row [.flt .f32 x,S457] true):=rW st 3
      obtain⟨w520,hw520⟩:∃ z,z=(!(decide (i1 < 0))):=⟨_,rfl⟩
      have b521:E511 161=.bool w520:=by rw [hw520];exact eo st hE 161 _
      have B14:=es st hE [(23,.ptr p425 0),(21,.ptr p429 0),(10,.ptr p17 0),(11,.ptr p21 0),(162,.int .i64 0)]
      have g524:Grew H H511:=qK g465 st.inn.kept ⟨op17,⟨op21,⟨op425,trivial⟩⟩⟩
      have r525:=zH st.inn.kept r467 ⟨aS,⟨aS,⟨aS,trivial⟩⟩⟩
      have s527:=sS457.keep st.inn.kept ⟨by assumption,⟨by assumption,⟨by assumption,trivial⟩⟩⟩
      refine wH kr ?_ ?_
      ·have q528:=q471.app (kL:KdsL [.bool] [.bool w520])
       refine qL (φ:=φ0) (pm:=pmM 1 [] 4) 20 (ws:=[wf p429 [n2 22,n2 23,n2 24],⟨p17,0,[lF,lN],true⟩,⟨p21,0,[l0,l0,l0],true⟩,⟨p425,0,[nF 0,n1 26],true⟩]) (env:=[(23,.ptr 3 0),(21,.ptr 0 0),(10,.ptr 1 0),(11,.ptr 2 0),(162,.lit (.int .i64 0)),(161,nB 29)]) q528 wA sd .nil (eC q528 (sc B14 (.cons b521 .nil))) vK qM ?_
       refine zA kr fun vs ls H529 E529 st hE=>?_
       have B15:=es st hE [(21,.ptr p429 0),(10,.ptr p17 0),(158,.agg [.flt .f32 x,S457]),(11,.ptr p21 0),(161,.bool w520),(162,.int .i64 0)]
       have g536:Grew H511 H529:=(gk st)
       have g537:=Grew.trans g524 g536
       have r538:=g536.at r525
       have r539:=g536.at r513
       have r540:=g536.at r514
       have s543:=s527.grew g536
       refine wH kr ?_ ?_
       ·refine qL (φ:=φ0) (pm:=pmM 1 [] 4) 20 (ws:=[wf p429 [n2 22,n2 23,n2 24],⟨p17,0,[lF,lN],true⟩,⟨p21,0,[l0,l0,l0],true⟩]) (env:=[(21,.ptr 0 0),(10,.ptr 1 0),(158,.agg [nF 0,n1 26]),(11,.ptr 2 0),(161,nB 29),(162,.lit (.int .i64 0))]) q528 wA sd .nil (eC q528 B15) vK qM ?_
        refine zA kr fun vs ls H545 E545 st hE=>?_
        have gz:Grew H H545:=(qK g537 (st.inn.kept) ⟨op17,⟨op21,trivial⟩⟩)
        have hC:vM x ms a b c wt t g=0:=by
         unfold vM;rw [if_pos ⟨(show zI wt=true from by unfold zI;rw [<- xH,f16,f15];rfl),by omega,by omega⟩]
         rw [if_pos (show (jH x ms a b c g).2=0 by rw [hN];exact f48),hM115]
         show (if (zQ x np115 nq115 nr115).2=0 then (if jU _ ((zQ x np115 nq115 nr115).1 ++ _)=true then (0:Int) else 3) else 3)=_
         rw [hce115]
         show (if dd115=0 then (if jU _ ([.int .i32 c0115,.int .i32 c1115,.int .i32 c2115] ++ _)=true then (0:Int) else 3) else 3)=_
         have hq9:=bX (m:=[.int .i32 c0115,.int .i32 c1115,.int .i32 c2115,.flt .f32 np115,.flt .f32 nq115,.flt .f32 nr115,.flt .f32 nw115,.int .i64 ns115,.int .i64 nl115]) (xR x ho a b c g).len
         rw [decide_eq_true om] at hq9
         rw [if_pos f424]
         show (if jU (bE x ms a b c g) [.int .i32 c0115,.int .i32 c1115,.int .i32 c2115,.flt .f32 np115,.flt .f32 nq115,.flt .f32 nr115,.flt .f32 nw115,.int .i64 ns115,.int .i64 nl115]=true then (0:Int) else 3)=_
         rw [hq9];rfl
        obtain⟨_,eX,eP,eK,eL⟩:=yI hC
        have eP2:qHZ x ms a b c wt t g=[.int .i32 c0115,.int .i32 c1115,.int .i32 c2115]:=by rw [eP,hM115];show (zQ x np115 nq115 nr115).1=_;rw [hce115]
        have eL2:qDM x ms a b c wt t g=(pG (bE x ms a b c g) [.int .i32 c0115,.int .i32 c1115,.int .i32 c2115,.flt .f32 np115,.flt .f32 nq115,.flt .f32 nr115,.flt .f32 nw115,.int .i64 ns115,.int .i64 nl115]):=by rw [eL,hM115];show pG _ ((zQ x np115 nq115 nr115).1 ++ _)=_;rw [hce115];rfl
        have eK2:qEj x ms a b c wt t g=w520:=by rw [eK];rw [hN];exact hw520.symm
        exact re st hE (.tuple [.agg [.flt .f32 x,S457],.agg [.int .i32 c0115,.int .i32 c1115,.int .i32 c2115],.bool w520,.int .i64 0]) gz.next (by rw [hC,eX,eL2,eP2,eK2];exact⟨gz,_,_,_,rfl,(s543.keep st.inn.kept ⟨by assumption,⟨by assumption,trivial⟩⟩),fr464,(.cons kA (.cons kA (.cons kA .nil))),fun _=>⟨rfl,rfl⟩⟩)
       ·refine qL (φ:=φ0) (pm:=pmM 1 [] 4) 20 (ws:=[wf p429 [n2 22,n2 23,n2 24],⟨p17,0,[lF,lN],true⟩,⟨p21,0,[l0,l0,l0],true⟩]) (env:=[(21,.ptr 0 0),(10,.ptr 1 0),(158,.agg [nF 0,n1 26]),(11,.ptr 2 0),(161,nB 29),(162,.lit (.int .i64 0))]) q528 wA sd .nil (eC q528 B15) vK qM ?_
        refine zA kr fun vs ls H547 E547 st hE=>?_
        have gz:Grew H H547:=(qK g537 (st.inn.kept) ⟨op17,⟨op21,trivial⟩⟩)
        have hC:vM x ms a b c wt t g=0:=by
         unfold vM;rw [if_pos ⟨(show zI wt=true from by unfold zI;rw [<- xH,f16,f15];rfl),by omega,by omega⟩]
         rw [if_pos (show (jH x ms a b c g).2=0 by rw [hN];exact f48),hM115]
         show (if (zQ x np115 nq115 nr115).2=0 then (if jU _ ((zQ x np115 nq115 nr115).1 ++ _)=true then (0:Int) else 3) else 3)=_
         rw [hce115]
         show (if dd115=0 then (if jU _ ([.int .i32 c0115,.int .i32 c1115,.int .i32 c2115] ++ _)=true then (0:Int) else 3) else 3)=_
         have hq9:=bX (m:=[.int .i32 c0115,.int .i32 c1115,.int .i32 c2115,.flt .f32 np115,.flt .f32 nq115,.flt .f32 nr115,.flt .f32 nw115,.int .i64 ns115,.int .i64 nl115]) (xR x ho a b c g).len
         rw [decide_eq_true om] at hq9
         rw [if_pos f424]
         show (if jU (bE x ms a b c g) [.int .i32 c0115,.int .i32 c1115,.int .i32 c2115,.flt .f32 np115,.flt .f32 nq115,.flt .f32 nr115,.flt .f32 nw115,.int .i64 ns115,.int .i64 nl115]=true then (0:Int) else 3)=_
         rw [hq9];rfl
        obtain⟨_,eX,eP,eK,eL⟩:=yI hC
        have eP2:qHZ x ms a b c wt t g=[.int .i32 c0115,.int .i32 c1115,.int .i32 c2115]:=by rw [eP,hM115];show (zQ x np115 nq115 nr115).1=_;rw [hce115]
        have eL2:qDM x ms a b c wt t g=(pG (bE x ms a b c g) [.int .i32 c0115,.int .i32 c1115,.int .i32 c2115,.flt .f32 np115,.flt .f32 nq115,.flt .f32 nr115,.flt .f32 nw115,.int .i64 ns115,.int .i64 nl115]):=by rw [eL,hM115];show pG _ ((zQ x np115 nq115 nr115).1 ++ _)=_;rw [hce115];rfl
        have eK2:qEj x ms a b c wt t g=w520:=by rw [eK];rw [hN];exact hw520.symm
        exact re st hE (.tuple [.agg [.flt .f32 x,S457],.agg [.int .i32 c0115,.int .i32 c1115,.int .i32 c2115],.bool w520,.int .i64 0]) gz.next (by rw [hC,eX,eL2,eP2,eK2];exact⟨gz,_,_,_,rfl,(s543.keep st.inn.kept ⟨by assumption,⟨by assumption,trivial⟩⟩),fr464,(.cons kA (.cons kA (.cons kA .nil))),fun _=>⟨rfl,rfl⟩⟩)
      ·have q548:=q471.app (kL:KdsL [.bool] [.bool w520])
       refine qL (φ:=φ0) (pm:=pmM 1 [] 4) 20 (ws:=[wf p429 [n2 22,n2 23,n2 24],⟨p17,0,[lF,lN],true⟩,⟨p21,0,[l0,l0,l0],true⟩,⟨p425,0,[nF 0,n1 26],true⟩]) (env:=[(23,.ptr 3 0),(21,.ptr 0 0),(10,.ptr 1 0),(11,.ptr 2 0),(162,.lit (.int .i64 0)),(161,nB 29)]) q548 wA sd .nil (eC q548 (sc B14 (.cons b521 .nil))) vK qM ?_
       refine zA kr fun vs ls H549 E549 st hE=>?_
       have gz:Grew H H549:=(qK g524 (st.inn.kept) ⟨op17,⟨op21,⟨op425,trivial⟩⟩⟩)
       have hC:vM x ms a b c wt t g=0:=by
        unfold vM;rw [if_pos ⟨(show zI wt=true from by unfold zI;rw [<- xH,f16,f15];rfl),by omega,by omega⟩]
        rw [if_pos (show (jH x ms a b c g).2=0 by rw [hN];exact f48),hM115]
        show (if (zQ x np115 nq115 nr115).2=0 then (if jU _ ((zQ x np115 nq115 nr115).1 ++ _)=true then (0:Int) else 3) else 3)=_
        rw [hce115]
        show (if dd115=0 then (if jU _ ([.int .i32 c0115,.int .i32 c1115,.int .i32 c2115] ++ _)=true then (0:Int) else 3) else 3)=_
        have hq9:=bX (m:=[.int .i32 c0115,.int .i32 c1115,.int .i32 c2115,.flt .f32 np115,.flt .f32 nq115,.flt .f32 nr115,.flt .f32 nw115,.int .i64 ns115,.int .i64 nl115]) (xR x ho a b c g).len
        rw [decide_eq_true om] at hq9
        rw [if_pos f424]
        show (if jU (bE x ms a b c g) [.int .i32 c0115,.int .i32 c1115,.int .i32 c2115,.flt .f32 np115,.flt .f32 nq115,.flt .f32 nr115,.flt .f32 nw115,.int .i64 ns115,.int .i64 nl115]=true then (0:Int) else 3)=_
        rw [hq9];rfl
       obtain⟨_,eX,eP,eK,eL⟩:=yI hC
       have eP2:qHZ x ms a b c wt t g=[.int .i32 c0115,.int .i32 c1115,.int .i32 c2115]:=by rw [eP,hM115];show (zQ x np115 nq115 nr115).1=_;rw [hce115]
       have eL2:qDM x ms a b c wt t g=(pG (bE x ms a b c g) [.int .i32 c0115,.int .i32 c1115,.int .i32 c2115,.flt .f32 np115,.flt .f32 nq115,.flt .f32 nr115,.flt .f32 nw115,.int .i64 ns115,.int .i64 nl115]):=by rw [eL,hM115];show pG _ ((zQ x np115 nq115 nr115).1 ++ _)=_;rw [hce115];rfl
       have eK2:qEj x ms a b c wt t g=w520:=by rw [eK];rw [hN];exact hw520.symm
       exact re st hE (.tuple [.agg [.flt .f32 x,S457],.agg [.int .i32 c0115,.int .i32 c1115,.int .i32 c2115],.bool w520,.int .i64 0]) gz.next (by rw [hC,eX,eL2,eP2,eK2];exact⟨gz,_,_,_,rfl,(s527.keep st.inn.kept ⟨by assumption,⟨by assumption,⟨by assumption,trivial⟩⟩⟩),fr464,(.cons kA (.cons kA (.cons kA .nil))),fun _=>⟨rfl,rfl⟩⟩)
 ·intro vs ls H550 E550 st hE
  have f551:t < 0:=dt st 0
  have f552:(qO .f32 (some 0) wt == some .lt)=true:=bf st 1
  have f553:(qO .f32 (fop .sub .f32 wt wt) (some 0) == some .eq)=true:=bf st 2
  have gz:Grew H H550:=(Grew.trans (Grew.refl _) (gk st))
  have hC:vM x ms a b c wt t g=2:=by
   unfold vM;rw [if_neg (fun q9=>by have:=q9.2;omega)]
  obtain⟨_,eX,eP2,eK2,eL2⟩:=vT hC (by decide)
  exact re st hE (.tuple [.agg [.flt .f32 (some 0),.nilslice],.agg [.int .i32 0,.int .i32 0,.int .i32 0],.bool false,.int .i64 2]) gz.next (by rw [hC,eX,eL2];exact⟨gz,_,_,_,rfl,(.nil rfl),FreshS.nil,(.cons kA (.cons kA (.cons kA .nil))),fun h9=>absurd h9 (by decide)⟩)
theorem qKN (x:ON) (ms:LL) (a b c wt:ON) (t:Int) (g:ON):∃ e0 e1 e2:Int,qHZ x ms a b c wt t g=[.int .i32 e0,.int .i32 e1,.int .i32 e2]:=by
 unfold qHZ
 split
 ·rename_i h
  unfold qME
  split
  ·rename_i k1 p k2 q k3 r tl hq
   obtain⟨p0,p1,p2,d,h9⟩:=bB x p q r
   exact⟨p0,p1,p2,by rw [h9]⟩
  ·exact⟨0,0,0,rfl⟩
 ·exact⟨_,_,_,rfl⟩
theorem qKO {x:ON} {ms:LL} {a b c wt:ON} {t:Int} {g:ON} (hx:fOk .f32 x):fOk .f32 (qMm x ms a b c wt t g):=by
 unfold qMm
 split
 ·exact hx
 ·exact qPt
theorem qJY (H:AHeap) (x:ON) (hx:fOk .f32 x) (ms:LL) (hr:xJ KM ms) (S:AV) (hS:SlL H 9 ms S) (mxms:ms.length<=1048576) (ho:OkMs ms) (a b c:ON) (ha:fOk .f32 a) (hb:fOk .f32 b) (hc:fOk .f32 c) (wt:ON) (hwt:fOk .f32 wt) (t:Int) (g:ON) (hg:fOk .f32 g) (lp:Nat) (hlp:H.get lp=some (.row [.flt .f32 x,S] true)):qJ Try.prog 44 [.ptr lp 0,.agg [.flt .f32 a,.flt .f32 b,.flt .f32 c],.flt .f32 wt,.int .i64 t,.flt .f32 g] H fun r H'=>Grew H H' /\ ∃ S' g0 g1 g2 kn,r=.tuple [.agg [.flt .f32 (qMm x ms a b c wt t g),S'],.agg [.int .i32 g0,.int .i32 g1,.int .i32 g2],.bool kn,.int .i64 (vM x ms a b c wt t g)]/\SlF H' 9 (qDM x ms a b c wt t g) S'/\FreshS H.next S'/\(vM x ms a b c wt t g=0->qHZ x ms a b c wt t g=[.int .i32 g0,.int .i32 g1,.int .i32 g2]/\kn=qEj x ms a b c wt t g):=by
 refine(qLP H x hx ms hr S hS mxms ho a b c ha hb hc wt hwt t g hg lp hlp).mono ?_
 rintro r H' ⟨g1,S',cl,kn,rfl,h1,h2,h3,h4⟩
 cases h3 with | cons k0 h3=>cases h3 with | cons k1 h3=>cases h3 with | cons k2 h3 =>
 cases h3
 obtain⟨p0,rfl⟩:=k0
 obtain⟨p1,rfl⟩:=k1
 obtain⟨p2,rfl⟩:=k2
 exact⟨g1,S',p0,p1,p2,kn,rfl,h1,h2,fun e=>⟨(h4 e).1.symm,(h4 e).2⟩⟩
noncomputable def xY (x:ON) (ms vs:LL) (wt:ON) (t:Int) (g:ON):Nat->LL × Int
 | 0=>(ms,0)
 | k+1=>match vs.getD k [] with
  | [.flt _ a,.flt _ b,.flt _ c]=>(qDM x (xY x ms vs wt t g k).1 a b c wt t g,(xY x ms vs wt t g k).2+(if qEj x (xY x ms vs wt t g k).1 a b c wt t g=true then 1 else 0))
  | _=>xY x ms vs wt t g k
noncomputable def cM (x:ON) (ms vs:LL) (wt:ON) (t:Int) (g:ON):Nat->Int
 | 0=>0
 | k+1=>if cM x ms vs wt t g k=0 then (match vs.getD k [] with
  | [.flt _ a,.flt _ b,.flt _ c]=>vM x (xY x ms vs wt t g k).1 a b c wt t g
  | _=>0) else cM x ms vs wt t g k
open Classical in
noncomputable def qCz (x:ON) (ms vs:LL) (wt:ON) (t:Int) (g:ON):ON × LL × Int × Int:=
 if wM x ms=true then (if cM x ms vs wt t g vs.length=0 then (x,(xY x ms vs wt t g vs.length).1,(xY x ms vs wt t g vs.length).2,0) else (some 0,[],0,cM x ms vs wt t g vs.length)) else (some 0,[],0,1)
variable {x:ON} {ms vs:LL} {wt:ON} {t:Int} {g:ON}
theorem pM {k:Nat} {a b c:ON} (h:vs.getD k []=[.flt .f32 a,.flt .f32 b,.flt .f32 c]):xY x ms vs wt t g (k+1)=(qDM x (xY x ms vs wt t g k).1 a b c wt t g,(xY x ms vs wt t g k).2+(if qEj x (xY x ms vs wt t g k).1 a b c wt t g=true then 1 else 0)):=by
 show (match vs.getD k [] with
  | [.flt _ a,.flt _ b,.flt _ c]=>(qDM x (xY x ms vs wt t g k).1 a b c wt t g,(xY x ms vs wt t g k).2+(if qEj x (xY x ms vs wt t g k).1 a b c wt t g=true then 1 else 0))
  | _=>xY x ms vs wt t g k)=_
 rw [h]
theorem bI {k:Nat} {a b c:ON} (h:vs.getD k []=[.flt .f32 a,.flt .f32 b,.flt .f32 c]) (h0:cM x ms vs wt t g k=0):cM x ms vs wt t g (k+1)=vM x (xY x ms vs wt t g k).1 a b c wt t g:=by
 show (if cM x ms vs wt t g k=0 then (match vs.getD k [] with
  | [.flt _ a,.flt _ b,.flt _ c]=>vM x (xY x ms vs wt t g k).1 a b c wt t g
  | _=>0) else cM x ms vs wt t g k)=_
 rw [if_pos h0,h]
theorem qCy {k:Nat} (h:cM x ms vs wt t g k ≠ 0):∀ d,cM x ms vs wt t g (k+d)=cM x ms vs wt t g k
 | 0=>rfl
 | d+1=>by
  have ih:=qCy h d
  show (if cM x ms vs wt t g (k+d)=0 then _ else cM x ms vs wt t g (k+d))=_
  rw [if_neg (by rw [ih];exact h),ih]
theorem qHt {k:Nat} (hk:k<=vs.length) (h:cM x ms vs wt t g k ≠ 0):cM x ms vs wt t g vs.length=cM x ms vs wt t g k:=by
 have:=qCy h (vs.length - k)
 rwa [show k+(vs.length - k)=vs.length by omega] at this
theorem qEp:∀ k,0<=(xY x ms vs wt t g k).2/\(xY x ms vs wt t g k).2<=k
 | 0=>⟨Int.le_refl _,Int.le_refl _⟩
 | k+1=>by
  have ih:=qEp k
  unfold xY
  split
  ·refine⟨?_,?_⟩ <;> (show _<=_;simp only [];split <;> push_cast <;> omega)
  ·exact⟨ih.1,by have:=ih.2;push_cast;omega⟩
theorem tZ {m:List AV} (h:KdsL KV m):∃ v0 v1 v2:ON,m=[.flt .f32 v0,.flt .f32 v1,.flt .f32 v2]/\fOk .f32 v0/\fOk .f32 v1/\fOk .f32 v2:=by
 cases h with | cons g0 h=>cases h with | cons g1 h=>cases h with | cons g2 h =>
 cases h
 obtain⟨v0,rfl,o0⟩:=g0
 obtain⟨v1,rfl,o1⟩:=g1
 obtain⟨v2,rfl,o2⟩:=g2
 exact⟨v0,v1,v2,rfl,o0,o1,o2⟩
theorem gW (H:AHeap) (x:ON) (hx:fOk .f32 x) (ms:LL) (hr:xJ KM ms) (S:AV) (hS:SlL H 9 ms S) (mxms:ms.length<=1048576) (pv:LL) (hrv:xJ KV pv) (Sv:AV) (hSv:SlL H 3 pv Sv) (mxvs:pv.length<=1048576) (wt:ON) (hwt:fOk .f32 wt) (t:Int) (g:ON) (hg:fOk .f32 g):qJ Try.prog 24 [.agg [.flt .f32 x,S],Sv,.flt .f32 wt,.int .i64 t,.flt .f32 g] H fun r H'=>Grew H H' /\ ∃ S',r=.tuple [.agg [.flt .f32 (qCz x ms pv wt t g).1,S'],.int .i64 (qCz x ms pv wt t g).2.2.1,.int .i64 (qCz x ms pv wt t g).2.2.2]/\SlW H' 9 (qCz x ms pv wt t g).2.1 S'/\FreshS H.next S':=by
 refine qF gQ (by simp) ?_
 have q1:KdsL [KF,.one,.one,KF,KI,KF,.bool] [.flt .f32 x,S,Sv,.flt .f32 wt,.int .i64 t,.flt .f32 g,.bool (wM x ms)]:=kL
 refine rD 0 0 [(.call 34 [.agg [nF 0,n1 1]],nB 6)] [] [(0,.agg [nF 0,n1 1]),(1,n1 2),(2,nF 3),(3,nI 4),(4,nF 5)] q1 (.cons (qH (args:=[.agg [.flt .f32 x,S]]) (dL q1) (dE q1) (fun H9 hk=>qCU H9 x hx S ms hr (hS.grew (Grew.trans (Grew.refl _) (hk.grew (Nat.le_refl _)))) (qLY mxms))) .nil) (.cons (t:=0) rfl (.cons (t:=1) rfl (.cons (t:=2) rfl (.cons (t:=3) rfl (.cons (t:=4) rfl .nil))))) ?_
 refine dB kr ?_ ?_
 ·intro vs ls H2 E2 st hE
  have f3:(wM x ms)=false:=bf st 0
  have gz:Grew H H2:=(Grew.trans (Grew.refl _) (gk st))
  have hc:qCz x ms pv wt t g=((some 0),[],0,1):=by
   unfold qCz;rw [if_neg (by rw [f3];decide)]
  exact re st hE (.tuple [.agg [.flt .f32 (some 0),.nilslice],.int .i64 0,.int .i64 1]) gz.next (by rw [hc];exact⟨gz,_,rfl,(.nil rfl),FreshS.nil⟩)
 ·intro vs ls H4 E4 st hE
  have f5:(wM x ms)=true:=bf st 0
  obtain⟨p6,e7,r8,n9⟩:=pO st hE 10 1 [.flt .f32 (some 0),.nilslice]
  have op6:H.next<=p6:=Nat.le_trans (Nat.le_refl _) (oM n9)
  have b10:=eo st hE 25 (.agg [.flt .f32 x,S])
  have B1:=es st hE [(25,.agg [.flt .f32 x,S]),(1,Sv),(2,.flt .f32 wt),(3,.int .i64 t),(4,.flt .f32 g)]
  have g15:Grew H H4:=(gk st)
  have g16:Grew H H4:=Grew.trans (Grew.refl _) g15
  refine zB (d:=(some 26)) (f:=36) (args:=[.tmp 25]) kr (R:=fun z H'=>Grew H4 H' /\ ∃ S',z=.agg [.flt .f32 x,S']/\SlF H' 9 ms S'/\FreshS H4.next S') ?_ ?_
  ·show qJ _ _ [E4 25] _ _
   rw [b10]
   exact qHK H4 x hx ms hr S (hS.grew g16) mxms
  rintro z H18 ⟨gS17,S17,rfl,sS17,fS17⟩
  have ne19:ApartL (S17) p6:=fS17.apartL (H4.lt_of_get r8)
  have fr20:FreshS H.next (S17):=fS17.mono g16.next
  have g21:=Grew.trans g16 gS17
  have r22:=gS17.at r8
  have q23:=q1.app (kL:KdsL [.one,KI] [S17,.int .i64 (pv.length:Int)])
  refine qL (φ:=φ0) (pm:=pmR 1 [(.len (n1 2),nI 8)] 0) 20 (ws:=[wf p6 [lF,lN]]) (env:=[(25,.agg [nF 0,n1 1]),(1,n1 2),(2,nF 3),(3,nI 4),(4,nF 5),(10,.ptr 0 0),(26,.agg [nF 0,n1 7])]) q23 (.cons (wR r22 q23) .nil) (qI rfl) (.cons (⟨_,_,(dE q23),(dE q23),yS hSv⟩) .nil) (eC q23 (sc (sp B1) (.cons (qD rfl e7) (.cons qB .nil)))) qU qM ?_
  refine zA kr fun vs ls H24 E24 st hE=>?_
  obtain⟨p25,e26,r27,n28⟩:=pO st hE 13 1 [.flt .f32 x,S17]
  have op25:H.next<=p25:=Nat.le_trans g21.next (oM n28)
  have ne29:=apn r22 (oM n28)
  have ne30:ApartL (S17) p25:=sS17.apart_new (oM n28)
  have b31:=eo st hE 29 (.int .i64 0)
  have b32:=eo st hE 28 (.int .i64 (pv.length:Int))
  have b33:=eo st hE 27 Sv
  have b34:=eo st hE 2 (.flt .f32 wt)
  have b35:=eo st hE 3 (.int .i64 t)
  have b36:=eo st hE 4 (.flt .f32 g)
  have b37:=eo st hE 10 (.ptr p6 0)
  have b38:=eo st hE 14 (.int .i64 0)
  have g39:Grew H18 H24:=(gk st)
  have g40:=Grew.trans g21 g39
  have r41:=g39.at r22
  have s42:=sS17.grew g39
  refine yH kr (fun z E H'=>∃ (i:Nat) (acc43_0:AV),z+i=pv.length/\E 28=.int .i64 (pv.length:Int)/\E 27=Sv/\E 13=.ptr p25 0/\E 2=.flt .f32 wt/\E 3=.int .i64 t/\E 4=.flt .f32 g/\E 10=.ptr p6 0/\E 29=.int .i64 (i:Int)/\E 14=.int .i64 (xY x ms pv wt t g i).2/\Grew H H'/\H'.get p6=some (.row [.flt .f32 (some 0),.nilslice] true)/\H'.get p25=some (.row [.flt .f32 x,acc43_0] true)/\SlF H' 9 (xY x ms pv wt t g i).1 acc43_0/\FreshS H.next acc43_0/\ApartL acc43_0 p6/\ApartL acc43_0 p25/\(OkMs (xY x ms pv wt t g i).1/\(cM x ms pv wt t g i)=0)) (pv.length) ⟨0,S17,by omega,b32,b33,e26,b34,b35,b36,b37,b31,b38,g40,r41,r27,(show SlF _ 9 ms _ from s42),fr20,am,am,⟨qBs hr f5,rfl⟩⟩ ?_
  rintro z43 Ei43 Hi43 ⟨i43,acc43_0,hz43,c43_28,c43_27,c43_13,c43_2,c43_3,c43_4,c43_10,ci43,cx43_14,gt43,r43_0,r43_1,s43_0,f43_0,ap43_0_0,ap43_0_1,iv43⟩
  have hok943:=iv43
  have hcn9:=qEp (x:=x) (ms:=ms) (vs:=pv) (wt:=wt) (t:=t) (g:=g) i43
  have q44:=q23.app (kL:KdsL [KI,.one,KI] [.int .i64 (i43:Int),acc43_0,.int .i64 (xY x ms pv wt t g i43).2])
  refine rC 2 0 [wf p6 [lF,lN],wf p25 [nF 0,n1 10]] [(28,nI 8),(27,n1 2),(13,.ptr 1 0),(2,nF 3),(3,nI 4),(4,nF 5),(10,.ptr 0 0),(29,nI 9),(14,nI 11)] q44 (.cons c43_28 (.cons c43_27 (.cons c43_13 (.cons c43_2 (.cons c43_3 (.cons c43_4 (.cons c43_10 (.cons ci43 (.cons cx43_14 .nil))))))))) ?_
  refine dB kr ?_ ?_
  ·intro vs ls H45 E45 st hE
   have f46:(i43:Int) < (pv.length:Int):=dt st 0
   have B2:=es st hE [(27,Sv),(29,.int .i64 (i43:Int)),(13,.ptr p25 0),(2,.flt .f32 wt),(3,.int .i64 t),(4,.flt .f32 g),(10,.ptr p6 0),(14,.int .i64 (xY x ms pv wt t g i43).2),(28,.int .i64 (pv.length:Int))]
   have g56:Grew Hi43 H45:=(gk st)
   have g57:=Grew.trans gt43 g56
   have r58:=g56.at r43_0
   have r59:=g56.at r43_1
   have s60:=s43_0.grew g56
   have hlt61:i43 < pv.length:=by omega
   obtain⟨lS61,cap61,rest61,wr61,eS61,gB61⟩:=hSv.isSl hlt61
   have gS61:=g57.at gB61
   have ne62:=apn gB61 op6
   have ne63:=apn gB61 op25
   have ne64:ApartL (acc43_0) lS61:=f43_0.apartL (H.lt_of_get gB61)
   obtain⟨v61_0,v61_1,v61_2,hm61,ho61_0,ho61_1,ho61_2⟩:=tZ (hrv.get hlt61)
   have he61:pv.getD i43 []=[.flt .f32 v61_0,.flt .f32 v61_1,.flt .f32 v61_2]:=by rw [<- hm61,List.getD_eq_getElem?_getD,List.getElem?_eq_getElem hlt61];rfl
   have q65:=q44.app (kL:KdsL [KF,KF,KF] [.flt .f32 v61_0,.flt .f32 v61_1,.flt .f32 v61_2])
   refine qL (φ:=φ0) (pm:=pmR 3 [(.ia 3 (n1 2) (nI 9),.ptr 2 0)] 0) 20 (ws:=[wf p6 [lF,lN],wf p25 [nF 0,n1 10],⟨lS61,(i43 * 3),[nF 12,nF 13,nF 14],false⟩]) (env:=[(27,n1 2),(29,nI 9),(13,.ptr 1 0),(2,nF 3),(3,nI 4),(4,nF 5),(10,.ptr 0 0),(14,nI 11),(28,nI 8)]) q65 (.cons (wR r58 q65) (.cons (wR r59 q65) (.cons (zV hrv gS61 hlt61 rfl (by rw [hm61];exact(dL q65))) .nil))) (qI rfl) (.cons (bA (k:=i43) (dE q65) eS61 (dE q65) hlt61 rfl) .nil) (eC q65 B2) qU qM ?_
   refine zA kr fun vs ls H66 E66 st hE=>?_
   have b67:=eo st hE 34 (.agg [.flt .f32 x,acc43_0])
   have b68:=eo st hE 35 (.agg [.flt .f32 v61_0,.flt .f32 v61_1,.flt .f32 v61_2])
   have b69:=eo st hE 36 (.flt .f32 wt)
   have b70:=eo st hE 37 (.int .i64 t)
   have b71:=eo st hE 38 (.flt .f32 g)
   have B3:=es st hE [(34,.agg [.flt .f32 x,acc43_0]),(35,.agg [.flt .f32 v61_0,.flt .f32 v61_1,.flt .f32 v61_2]),(36,.flt .f32 wt),(37,.int .i64 t),(38,.flt .f32 g),(10,.ptr p6 0),(13,.ptr p25 0),(14,.int .i64 (xY x ms pv wt t g i43).2),(29,.int .i64 (i43:Int)),(28,.int .i64 (pv.length:Int)),(27,Sv),(2,.flt .f32 wt),(3,.int .i64 t),(4,.flt .f32 g)]
   have g81:Grew H45 H66:=(gk st)
   have g82:=Grew.trans g57 g81
   have r83:=g81.at r58
   have r84:=g81.at r59
   have s86:=s60.grew g81
   obtain⟨y87z,hX87z⟩:∃ z,qMm x (xY x ms pv wt t g i43).1 v61_0 v61_1 v61_2 wt t g=z:=⟨_,rfl⟩
   obtain⟨k87z,hK87z⟩:∃ z,qEj x (xY x ms pv wt t g i43).1 v61_0 v61_1 v61_2 wt t g=z:=⟨_,rfl⟩
   obtain⟨e87z0,e87z1,e87z2,hP87z⟩:=qKN x (xY x ms pv wt t g i43).1 v61_0 v61_1 v61_2 wt t g
   obtain⟨d87z,hC87z⟩:∃ z,vM x (xY x ms pv wt t g i43).1 v61_0 v61_1 v61_2 wt t g=z:=⟨_,rfl⟩
   have hy87z:fOk .f32 y87z:=by rw [<- hX87z];exact qKO hx
   refine zB (d:=(some 39)) (f:=45) (args:=[.tmp 34,.tmp 35,.tmp 36,.tmp 37,.tmp 38]) kr (R:=fun z H'=>Grew H66 H' /\ ∃ S',z=.tuple [.agg [.flt .f32 y87z,S'],.agg [.int .i32 e87z0,.int .i32 e87z1,.int .i32 e87z2],.bool k87z,.int .i64 d87z]/\SlF H' 9 (qDM x (xY x ms pv wt t g i43).1 v61_0 v61_1 v61_2 wt t g) S'/\FreshS H66.next S') ?_ ?_
   ·show qJ _ _ [E66 34,E66 35,E66 36,E66 37,E66 38] _ _
    rw [b67,b68,b69,b70,b71]
    exact(by have h9:=qKa H66 x hx (xY x ms pv wt t g i43).1 hok943.1.rcs (acc43_0) s86.toL (Nat.le_trans hok943.1.len (by decide)) hok943.1 v61_0 v61_1 v61_2 ho61_0 ho61_1 ho61_2 wt hwt t g hg;rw [hX87z,hC87z,hP87z,hK87z] at h9;exact h9)
   rintro z H88 ⟨gH88,S89,rfl,sS89,fS89⟩
   have ne90:ApartL (S89) p6:=fS89.apartL (H66.lt_of_get r83)
   have ne91:ApartL (S89) p25:=fS89.apartL (H66.lt_of_get r84)
   have ne92:ApartS (S89) (acc43_0):=fS89.apartS s86.lt
   have fr93:FreshS H.next (S89):=fS89.mono g82.next
   have g94:=Grew.trans g82 gH88
   have r95:=gH88.at r83
   have r96:=gH88.at r84
   have q98:=q65.app (kL:KdsL [.one,KF,K2,K2,K2,.bool,KI] [S89,.flt .f32 y87z,.int .i32 e87z0,.int .i32 e87z1,.int .i32 e87z2,.bool k87z,.int .i64 d87z])
   refine rC 0 0 [⟨p6,0,[lF,lN],true⟩,⟨p25,0,[nF 0,n1 10],true⟩] [(34,.agg [nF 0,n1 10]),(35,.agg [nF 12,nF 13,nF 14]),(36,nF 3),(37,nI 4),(38,nF 5),(10,.ptr 0 0),(13,.ptr 1 0),(14,nI 11),(29,nI 9),(28,nI 8),(27,n1 2),(2,nF 3),(3,nI 4),(4,nF 5),(39,.tup [.agg [nF 16,n1 15],.agg [n2 17,n2 18,n2 19],nB 20,nI 21])] q98 (sc (sp B3) (.cons qB .nil)) ?_
   refine qFf kr ?_ ?_ ?_
   ·intro vs ls H99 E99 st hE
    have f100:¬ (d87z=0):=df st 0
    have gz:Grew H H99:=(qK g94 (st.inn.kept) ⟨op6,⟨op25,trivial⟩⟩)
    have hc:qCz x ms pv wt t g=((some 0),[],0,d87z):=by
     have hA9:cM x ms pv wt t g (i43+1)=d87z:=(bI he61 hok943.2).trans hC87z
     have hB9:cM x ms pv wt t g pv.length=d87z:=(qHt (k:=i43+1) om (by rw [hA9];exact f100)).trans hA9
     unfold qCz;rw [if_pos f5,hB9,if_neg f100]
    exact tL kr (zJ st.inn hE (.inr rfl) (a:=.tuple [.agg [.flt .f32 (some 0),.nilslice],.int .i64 0,.int .i64 d87z]) kr gz.next (by rw [hc];exact⟨gz,_,rfl,(.nil rfl),FreshS.nil⟩))
   ·intro vs ls H101 E101 st hE
    have f102:k87z=true:=bf st 0
    have f103:d87z=0:=dt st 1
    have hy9:x=y87z:=(yI (hC87z.trans f103)).2.1.symm.trans hX87z
    subst hy9
    have r104:H101.get p6=some (.row [.flt .f32 (some 0),.nilslice] true):=rW st 0
    have r105:H101.get p25=some (.row [.flt .f32 x,S89] true):=rW st 1
    obtain⟨w106,hw106⟩:∃ z,z=(IntKind.wrap .i64 ((i43:Int)+1)):=⟨_,rfl⟩
    have b107:E101 29=.int .i64 w106:=by rw [hw106];exact eo st hE 29 _
    have b108:=eo st hE 28 (.int .i64 (pv.length:Int))
    have b109:=eo st hE 27 Sv
    have b110:=eo st hE 13 (.ptr p25 0)
    have b111:=eo st hE 2 (.flt .f32 wt)
    have b112:=eo st hE 3 (.int .i64 t)
    have b113:=eo st hE 4 (.flt .f32 g)
    have b114:=eo st hE 10 (.ptr p6 0)
    obtain⟨w115,hw115⟩:∃ z,z=(IntKind.wrap .i64 ((xY x ms pv wt t g i43).2+1)):=⟨_,rfl⟩
    have b116:E101 14=.int .i64 w115:=by rw [hw115];exact eo st hE 14 _
    have g118:Grew H H101:=qK g94 st.inn.kept ⟨op6,⟨op25,trivial⟩⟩
    have s120:=sS89.keep st.inn.kept ⟨by assumption,⟨by assumption,trivial⟩⟩
    have hz9:z43 - 1 < z43:=by omega
    have hy9:z43 - 1+(i43+1)=pv.length:=by omega
    have hi9:E101 29=.int .i64 ((i43+1:Nat):Int):=by rw [b107,hw106,wrap64 om]
    have hC9:vM x (xY x ms pv wt t g i43).1 v61_0 v61_1 v61_2 wt t g=0:=hC87z.trans f103
    have hK9:qEj x (xY x ms pv wt t g i43).1 v61_0 v61_1 v61_2 wt t g=k87z:=hK87z
    have hS9:xY x ms pv wt t g (i43+1)=(qDM x (xY x ms pv wt t g i43).1 v61_0 v61_1 v61_2 wt t g,(xY x ms pv wt t g i43).2+(if k87z=true then 1 else 0)):=by rw [pM he61,hK9]
    have hA9:cM x ms pv wt t g (i43+1)=0:=(bI he61 hok943.2).trans hC9
    exact jV kr ⟨z43 - 1,hz9,i43+1,S89,hy9,b108,b109,b110,b111,b112,b113,b114,hi9,(by rw [hS9,f102];rw [b116];show AV.int _ w115=_;rw [hw115,wrap_i64 om om];rfl),g118,r104,r105,(by rw [hS9];exact s120),fr93,am,am,⟨by rw [hS9];exact tM hok943.1 ho61_0 ho61_1 ho61_2 hwt hC9,hA9⟩⟩
   ·intro vs ls H121 E121 st hE
    have f122:k87z=false:=bf st 0
    have f123:d87z=0:=dt st 1
    have hy9:x=y87z:=(yI (hC87z.trans f123)).2.1.symm.trans hX87z
    subst hy9
    have r124:H121.get p6=some (.row [.flt .f32 (some 0),.nilslice] true):=rW st 0
    have r125:H121.get p25=some (.row [.flt .f32 x,S89] true):=rW st 1
    obtain⟨w126,hw126⟩:∃ z,z=(IntKind.wrap .i64 ((i43:Int)+1)):=⟨_,rfl⟩
    have b127:E121 29=.int .i64 w126:=by rw [hw126];exact eo st hE 29 _
    have b128:=eo st hE 28 (.int .i64 (pv.length:Int))
    have b129:=eo st hE 27 Sv
    have b130:=eo st hE 13 (.ptr p25 0)
    have b131:=eo st hE 2 (.flt .f32 wt)
    have b132:=eo st hE 3 (.int .i64 t)
    have b133:=eo st hE 4 (.flt .f32 g)
    have b134:=eo st hE 10 (.ptr p6 0)
    have b135:=eo st hE 14 (.int .i64 (xY x ms pv wt t g i43).2)
    have g137:Grew H H121:=qK g94 st.inn.kept ⟨op6,⟨op25,trivial⟩⟩
    have s139:=sS89.keep st.inn.kept ⟨by assumption,⟨by assumption,trivial⟩⟩
    have hz9:z43 - 1 < z43:=by omega
    have hy9:z43 - 1+(i43+1)=pv.length:=by omega
    have hi9:E121 29=.int .i64 ((i43+1:Nat):Int):=by rw [b127,hw126,wrap64 om]
    have hC9:vM x (xY x ms pv wt t g i43).1 v61_0 v61_1 v61_2 wt t g=0:=hC87z.trans f123
    have hK9:qEj x (xY x ms pv wt t g i43).1 v61_0 v61_1 v61_2 wt t g=k87z:=hK87z
    have hS9:xY x ms pv wt t g (i43+1)=(qDM x (xY x ms pv wt t g i43).1 v61_0 v61_1 v61_2 wt t g,(xY x ms pv wt t g i43).2+(if k87z=true then 1 else 0)):=by rw [pM he61,hK9]
    have hA9:cM x ms pv wt t g (i43+1)=0:=(bI he61 hok943.2).trans hC9
    exact jV kr ⟨z43 - 1,hz9,i43+1,S89,hy9,b128,b129,b130,b131,b132,b133,b134,hi9,(by rw [hS9,f122];rw [b135];simp),g137,r124,r125,(by rw [hS9];exact s139),fr93,am,am,⟨by rw [hS9];exact tM hok943.1 ho61_0 ho61_1 ho61_2 hwt hC9,hA9⟩⟩
  ·intro vs ls H140 E140 st hE
   have f141:¬ ((i43:Int) < (pv.length:Int)):=df st 0
   obtain⟨w144,hw144⟩:∃ z,z=(decide ((i43:Int) < (pv.length:Int))):=⟨_,rfl⟩
   have b145:E140 30=.bool w144:=by rw [hw144];exact eo st hE 30 _
   have B4:=es st hE [(29,.int .i64 (i43:Int)),(28,.int .i64 (pv.length:Int)),(27,Sv),(13,.ptr p25 0),(2,.flt .f32 wt),(3,.int .i64 t),(4,.flt .f32 g),(10,.ptr p6 0),(14,.int .i64 (xY x ms pv wt t g i43).2)]
   have g153:Grew Hi43 H140:=(gk st)
   have g154:=Grew.trans gt43 g153
   have r155:=g153.at r43_0
   have r156:=g153.at r43_1
   have s157:=s43_0.grew g153
   refine xL (id:=0) kr ?_
   have q158:=q44.app (kL:KdsL [.bool] [.bool w144])
   refine rC 1 0 [wf p25 [nF 0,n1 10],⟨p6,0,[lF,lN],true⟩] [(29,nI 9),(28,nI 8),(27,n1 2),(13,.ptr 0 0),(2,nF 3),(3,nI 4),(4,nF 5),(10,.ptr 1 0),(14,nI 11),(30,nB 12)] q158 (sc B4 (.cons b145 .nil)) ?_
   refine zA kr fun vs ls H159 E159 st hE=>?_
   have gz:Grew H H159:=(qK g154 (st.inn.kept) ⟨op6,trivial⟩)
   have hc:qCz x ms pv wt t g=(x,(xY x ms pv wt t g i43).1,(xY x ms pv wt t g i43).2,0):=by
    have hi9:pv.length=i43:=by omega
    unfold qCz;rw [if_pos f5,hi9,if_pos hok943.2]
   exact re st hE (.tuple [.agg [.flt .f32 x,acc43_0],.int .i64 (xY x ms pv wt t g i43).2,.int .i64 0]) gz.next (by rw [hc];exact⟨gz,_,rfl,((s157.keep st.inn.kept ⟨by assumption,trivial⟩)).toW,f43_0⟩)
theorem qBo (H:AHeap) (x:ON) (hx:fOk .f32 x) (ms:LL) (hr:xJ KM ms) (S:AV) (hS:SlL H 9 ms S) (mxms:ms.length<=1048576) (pv:LL) (hrv:xJ KV pv) (Sv:AV) (hSv:SlL H 3 pv Sv) (mxvs:pv.length<=1048576) (wt:ON) (hwt:fOk .f32 wt) (t:Int) (g:ON) (hg:fOk .f32 g):qJ Try.prog 22 [.agg [.flt .f32 x,S],Sv,.flt .f32 wt,.int .i64 t,.flt .f32 g] H fun r H'=>Grew H H' /\ ∃ S',r=.tuple [.agg [.flt .f32 (qCz x ms pv wt t g).1,S'],.int .i64 (qCz x ms pv wt t g).2.2.1,.int .i64 (qCz x ms pv wt t g).2.2.2]/\SlW H' 9 (qCz x ms pv wt t g).2.1 S'/\FreshS H.next S':=by
 refine qF gT (by simp) ?_
 have q1:KdsL [KF,.one,.one,KF,KI,KF] [.flt .f32 x,S,Sv,.flt .f32 wt,.int .i64 t,.flt .f32 g]:=kL
 refine rC 0 0 [] [(0,.agg [nF 0,n1 1]),(1,n1 2),(2,nF 3),(3,nI 4),(4,nF 5)] q1 (.cons (t:=0) rfl (.cons (t:=1) rfl (.cons (t:=2) rfl (.cons (t:=3) rfl (.cons (t:=4) rfl .nil))))) ?_
 refine zA kr fun vs ls H2 E2 st hE=>?_
 obtain⟨p3,e4,r5,n6⟩:=pO st hE 5 0 [.flt .f32 x,S]
 have op3:H.next<=p3:=Nat.le_trans (Nat.le_refl _) (oM n6)
 obtain⟨p7,e8,r9,n10⟩:=pO st hE 10 1 [.flt .f32 (some 0),.nilslice]
 have op7:H.next<=p7:=Nat.le_trans (Nat.le_refl _) (oM n10)
 have ne11:=pn st hE 5 0 10 1 [.nd 0 (.flt .f32),.nd 1 .one] e4 e8
 have B1:=es st hE [(1,Sv),(2,.flt .f32 wt),(3,.int .i64 t),(4,.flt .f32 g)]
 have g16:Grew H H2:=(gk st)
 have g17:Grew H H2:=Grew.trans (Grew.refl _) g16
 refine zB (d:=(some 20)) (f:=28) (args:=[.tmp 5]) kr (R:=fun z H'=>z=.bool (wM x ms)/\H'=H2) ?_ ?_
 ·show qJ _ _ [E2 5] _ _
  rw [e4]
  exact qNl H2 p3 x hx S true ms hr r5 (hS.grew g17) (qLY mxms)
 rintro z H2 ⟨rfl,rfl⟩
 have q18:=q1.app (kL:KdsL [.bool] [.bool (wM x ms)])
 refine rC 1 0 [wf p3 [nF 0,n1 1],⟨p7,0,[lF,lN],true⟩] [(1,n1 2),(2,nF 3),(3,nI 4),(4,nF 5),(5,.ptr 0 0),(10,.ptr 1 0),(20,nB 6)] q18 (sc (sp B1) (.cons (qD rfl e4) (.cons (qD rfl e8) (.cons qB .nil)))) ?_
 refine dB kr ?_ ?_
 ·intro vs ls H19 E19 st hE
  have f20:(wM x ms)=false:=bf st 0
  have gz:Grew H H19:=(qK g17 (st.inn.kept) ⟨op7,trivial⟩)
  have hc:qCz x ms pv wt t g=((some 0),[],0,1):=by
   unfold qCz;rw [if_neg (by rw [f20];decide)]
  exact re st hE (.tuple [.agg [.flt .f32 (some 0),.nilslice],.int .i64 0,.int .i64 1]) gz.next (by rw [hc];exact⟨gz,_,rfl,(.nil rfl),FreshS.nil⟩)
 ·intro vs ls H21 E21 st hE
  have f22:(wM x ms)=true:=bf st 0
  obtain⟨p23,e24,r25,n26⟩:=qEZ st.inn hE 25 3 0 0 9 kr (ds:=[]) kr
  have op23:H.next<=p23:=Nat.le_trans g17.next (oM n26)
  obtain⟨p27,e28,r29,n30⟩:=pO st hE 13 2 [.flt .f32 (some 0),.nilslice]
  have op27:H.next<=p27:=Nat.le_trans g17.next (oM n30)
  have ne31:Apart p23 p27:=⟨qKI st.inn hE 25 13 3 2 (v:=.sl 3 0 0 0 9) (v':=.ptr 2 0) kr kr rfl rfl (cs:=[]) kr (by decide) e24 e28 rfl rfl⟩
  have ne32:=apn r5 (oM n26)
  have ne33:=apn r9 (oM n26)
  have ne34:=apn r5 (oM n30)
  have ne35:=apn r9 (oM n30)
  have b36:=eo st hE 27 S
  have B2:=es st hE [(27,S),(24,.flt .f32 x),(1,Sv),(2,.flt .f32 wt),(3,.int .i64 t),(4,.flt .f32 g),(10,.ptr p7 0)]
  have g43:Grew H2 H21:=(gk st)
  have g44:=Grew.trans g17 g43
  have r46:=g43.at r9
  have sx49:SlF H21 9 [] (.slice p23 0 0 0 9):=.sl (by simpa using r25) rfl (Nat.le_refl _)
  refine qBW (free:=false) (d:=(some 28)) (sz:=9) (bytes:=48) (x:=.tmp 25) (y:=.tmp 27) kr (S:=.slice p23 0 0 0 9) (ys:=ms) (by show E21 25=_;exact e24) sx49 (.inr ⟨_,rfl⟩) (by show qQ _ _ (E21 27)=_;rw [b36];exact qFb hr.len (hS.grew g44)) (vC hr rfl) (by first | omega | (simp only [List.length_append,List.length_cons,List.length_nil,List.length_drop,List.length_take];omega)) ?_
  intro S47 H48 sS47 fS47 oS47
  have ne50:=aL fS47 r29 (ApartL.of aS)
  have ne51:=aL fS47 r46 (ApartL.of aS)
  have fr52:FreshS H.next (S47):=fS47.fresh (FreshS.of_le op23) g44.next
  have g53:=Grew.trans g44 oS47
  have r55:=oS47.at r29
  have r56:=oS47.at r46
  have q57:=q18.app (kL:KdsL [.one] [S47])
  refine rC 0 0 [⟨p7,0,[lF,lN],true⟩,⟨p27,0,[lF,lN],true⟩] [(27,n1 1),(24,nF 0),(1,n1 2),(2,nF 3),(3,nI 4),(4,nF 5),(10,.ptr 0 0),(13,.ptr 1 0),(28,n1 7)] q57 (sc (sp B2) (.cons (qD rfl e28) (.cons qB .nil))) ?_
  refine zA kr fun vs ls H58 E58 st hE=>?_
  have r59:H58.get p7=some (.row [.flt .f32 (some 0),.nilslice] true):=rW st 0
  have r60:H58.get p27=some (.row [.flt .f32 x,S47] true):=rW st 1
  have b61:=eo st hE 15 (.int .i64 0)
  have b62:=eo st hE 1 Sv
  have b63:=eo st hE 2 (.flt .f32 wt)
  have b64:=eo st hE 3 (.int .i64 t)
  have b65:=eo st hE 4 (.flt .f32 g)
  have b66:=eo st hE 13 (.ptr p27 0)
  have b67:=eo st hE 10 (.ptr p7 0)
  have b68:=eo st hE 14 (.int .i64 0)
  have g70:Grew H H58:=qK g53 st.inn.kept ⟨op7,⟨op27,trivial⟩⟩
  have s71:=sS47.keep st.inn.kept ⟨by assumption,⟨by assumption,trivial⟩⟩
  refine yH kr (fun z E H'=>∃ (i:Nat) (acc72_0:AV),z+i=pv.length/\E 1=Sv/\E 2=.flt .f32 wt/\E 3=.int .i64 t/\E 4=.flt .f32 g/\E 13=.ptr p27 0/\E 10=.ptr p7 0/\E 15=.int .i64 (i:Int)/\E 14=.int .i64 (xY x ms pv wt t g i).2/\Grew H H'/\H'.get p7=some (.row [.flt .f32 (some 0),.nilslice] true)/\H'.get p27=some (.row [.flt .f32 x,acc72_0] true)/\SlF H' 9 (xY x ms pv wt t g i).1 acc72_0/\FreshS H.next acc72_0/\ApartL acc72_0 p7/\ApartL acc72_0 p27/\(OkMs (xY x ms pv wt t g i).1/\(cM x ms pv wt t g i)=0)) (pv.length) ⟨0,S47,by omega,b62,b63,b64,b65,b66,b67,b61,b68,g70,r59,r60,(show SlF _ 9 ms _ from s71),fr52,am,am,⟨qBs hr f22,rfl⟩⟩ ?_
  rintro z72 Ei72 Hi72 ⟨i72,acc72_0,hz72,c72_1,c72_2,c72_3,c72_4,c72_13,c72_10,ci72,cx72_14,gt72,r72_0,r72_1,s72_0,f72_0,ap72_0_0,ap72_0_1,iv72⟩
  have hok972:=iv72
  have hcn9:=qEp (x:=x) (ms:=ms) (vs:=pv) (wt:=wt) (t:=t) (g:=g) i72
  have q73:=q57.app (kL:KdsL [KI,.one,KI,KI] [.int .i64 (i72:Int),acc72_0,.int .i64 (xY x ms pv wt t g i72).2,.int .i64 (pv.length:Int)])
  refine rD 0 0 [(.len (n1 2),nI 11)] [⟨p7,0,[lF,lN],true⟩,⟨p27,0,[nF 0,n1 9],true⟩] [(1,n1 2),(2,nF 3),(3,nI 4),(4,nF 5),(13,.ptr 1 0),(10,.ptr 0 0),(15,nI 8),(14,nI 10)] q73 (.cons (⟨_,_,(dE q73),(dE q73),yS hSv⟩) .nil) (.cons c72_1 (.cons c72_2 (.cons c72_3 (.cons c72_4 (.cons c72_13 (.cons c72_10 (.cons ci72 (.cons cx72_14 .nil)))))))) ?_
  refine dB kr ?_ ?_
  ·intro vs ls H74 E74 st hE
   have f75:(i72:Int) < (pv.length:Int):=dt st 0
   have B3:=es st hE [(37,Sv),(38,.int .i64 (i72:Int)),(2,.flt .f32 wt),(3,.int .i64 t),(4,.flt .f32 g),(13,.ptr p27 0),(10,.ptr p7 0),(14,.int .i64 (xY x ms pv wt t g i72).2),(15,.int .i64 (i72:Int)),(1,Sv)]
   have g86:Grew Hi72 H74:=(gk st)
   have g87:=Grew.trans gt72 g86
   have r88:=g86.at r72_0
   have r89:=g86.at r72_1
   have s90:=s72_0.grew g86
   have hlt91:i72 < pv.length:=by omega
   obtain⟨lS91,cap91,rest91,wr91,eS91,gB91⟩:=hSv.isSl hlt91
   have gS91:=g87.at gB91
   have ne92:=apn gB91 op7
   have ne93:=apn gB91 op27
   have ne94:ApartL (acc72_0) lS91:=f72_0.apartL (H.lt_of_get gB91)
   obtain⟨v91_0,v91_1,v91_2,hm91,ho91_0,ho91_1,ho91_2⟩:=tZ (hrv.get hlt91)
   have he91:pv.getD i72 []=[.flt .f32 v91_0,.flt .f32 v91_1,.flt .f32 v91_2]:=by rw [<- hm91,List.getD_eq_getElem?_getD,List.getElem?_eq_getElem hlt91];rfl
   have q95:=q73.app (kL:KdsL [KF,KF,KF] [.flt .f32 v91_0,.flt .f32 v91_1,.flt .f32 v91_2])
   refine qL (φ:=φ0) (pm:=pmR 1 [(.ia 3 (n1 2) (nI 8),.ptr 0 0)] 0) 20 (ws:=[⟨lS91,(i72 * 3),[nF 12,nF 13,nF 14],false⟩,⟨p7,0,[lF,lN],true⟩,⟨p27,0,[nF 0,n1 9],true⟩]) (env:=[(37,n1 2),(38,nI 8),(2,nF 3),(3,nI 4),(4,nF 5),(13,.ptr 2 0),(10,.ptr 1 0),(14,nI 10),(15,nI 8),(1,n1 2)]) q95 (.cons (zV hrv gS91 hlt91 rfl (by rw [hm91];exact(dL q95))) wA) sd (.cons (bA (k:=i72) (dE q95) eS91 (dE q95) hlt91 rfl) .nil) (eC q95 B3) qU qM ?_
   refine zA kr fun vs ls H96 E96 st hE=>?_
   have b97:=eo st hE 13 (.ptr p27 0)
   have b98:=eo st hE 40 (.agg [.flt .f32 v91_0,.flt .f32 v91_1,.flt .f32 v91_2])
   have b99:=eo st hE 41 (.flt .f32 wt)
   have b100:=eo st hE 42 (.int .i64 t)
   have b101:=eo st hE 43 (.flt .f32 g)
   have B4:=es st hE [(13,.ptr p27 0),(40,.agg [.flt .f32 v91_0,.flt .f32 v91_1,.flt .f32 v91_2]),(41,.flt .f32 wt),(42,.int .i64 t),(43,.flt .f32 g),(10,.ptr p7 0),(14,.int .i64 (xY x ms pv wt t g i72).2),(15,.int .i64 (i72:Int)),(1,Sv),(2,.flt .f32 wt),(3,.int .i64 t),(4,.flt .f32 g)]
   have g109:Grew H74 H96:=(gk st)
   have g110:=Grew.trans g87 g109
   have r112:=g109.at r88
   have r113:=g109.at r89
   have s114:=s90.grew g109
   obtain⟨y115z,hX115z⟩:∃ z,qMm x (xY x ms pv wt t g i72).1 v91_0 v91_1 v91_2 wt t g=z:=⟨_,rfl⟩
   obtain⟨d115z,hC115z⟩:∃ z,vM x (xY x ms pv wt t g i72).1 v91_0 v91_1 v91_2 wt t g=z:=⟨_,rfl⟩
   have hy115z:fOk .f32 y115z:=by rw [<- hX115z];exact qKO hx
   refine zB (d:=(some 44)) (f:=44) (args:=[.tmp 13,.tmp 40,.tmp 41,.tmp 42,.tmp 43]) kr (R:=fun z H'=>Grew H96 H' /\ ∃ S' g0 g1 g2 kn,z=.tuple [.agg [.flt .f32 y115z,S'],.agg [.int .i32 g0,.int .i32 g1,.int .i32 g2],.bool kn,.int .i64 d115z]/\SlF H' 9 (qDM x (xY x ms pv wt t g i72).1 v91_0 v91_1 v91_2 wt t g) S'/\FreshS H96.next S'/\(d115z=0->qHZ x (xY x ms pv wt t g i72).1 v91_0 v91_1 v91_2 wt t g=[.int .i32 g0,.int .i32 g1,.int .i32 g2]/\kn=qEj x (xY x ms pv wt t g i72).1 v91_0 v91_1 v91_2 wt t g)) ?_ ?_
   ·show qJ _ _ [E96 13,E96 40,E96 41,E96 42,E96 43] _ _
    rw [b97,b98,b99,b100,b101]
    exact(by have h9:=qJY H96 x hx (xY x ms pv wt t g i72).1 hok972.1.rcs (acc72_0) s114.toL (Nat.le_trans hok972.1.len (by decide)) hok972.1 v91_0 v91_1 v91_2 ho91_0 ho91_1 ho91_2 wt hwt t g hg p27 r113;rw [hX115z,hC115z] at h9;exact h9)
   rintro z H116 ⟨gH116,S117,e115z0,e115z1,e115z2,k115z,rfl,sS117,fS117,hz9S117⟩
   have ne118:ApartL (S117) p7:=fS117.apartL (H96.lt_of_get r112)
   have ne119:ApartL (S117) p27:=fS117.apartL (H96.lt_of_get r113)
   have ne120:ApartS (S117) (acc72_0):=fS117.apartS s114.lt
   have fr121:FreshS H.next (S117):=fS117.mono g110.next
   have g122:=Grew.trans g110 gH116
   have r123:=gH116.at r112
   have r124:=gH116.at r113
   have q126:=q95.app (kL:KdsL [.one,KF,K2,K2,K2,.bool,KI] [S117,.flt .f32 y115z,.int .i32 e115z0,.int .i32 e115z1,.int .i32 e115z2,.bool k115z,.int .i64 d115z])
   refine rC 0 0 [⟨p7,0,[lF,lN],true⟩,⟨p27,0,[nF 0,n1 9],true⟩] [(13,.ptr 1 0),(40,.agg [nF 12,nF 13,nF 14]),(41,nF 3),(42,nI 4),(43,nF 5),(10,.ptr 0 0),(14,nI 10),(15,nI 8),(1,n1 2),(2,nF 3),(3,nI 4),(4,nF 5),(44,.tup [.agg [nF 16,n1 15],.agg [n2 17,n2 18,n2 19],nB 20,nI 21])] q126 (sc (sp B4) (.cons qB .nil)) ?_
   refine qFf kr ?_ ?_ ?_
   ·intro vs ls H127 E127 st hE
    have f128:¬ (d115z=0):=df st 0
    have gz:Grew H H127:=(qK g122 (st.inn.kept) ⟨op7,⟨op27,trivial⟩⟩)
    have hc:qCz x ms pv wt t g=((some 0),[],0,d115z):=by
     have hA9:cM x ms pv wt t g (i72+1)=d115z:=(bI he91 hok972.2).trans hC115z
     have hB9:cM x ms pv wt t g pv.length=d115z:=(qHt (k:=i72+1) om (by rw [hA9];exact f128)).trans hA9
     unfold qCz;rw [if_pos f22,hB9,if_neg f128]
    exact tL kr (zJ st.inn hE (.inr rfl) (a:=.tuple [.agg [.flt .f32 (some 0),.nilslice],.int .i64 0,.int .i64 d115z]) kr gz.next (by rw [hc];exact⟨gz,_,rfl,(.nil rfl),FreshS.nil⟩))
   ·intro vs ls H129 E129 st hE
    have f130:k115z=true:=bf st 0
    have f131:d115z=0:=dt st 1
    have hy9:x=y115z:=(yI (hC115z.trans f131)).2.1.symm.trans hX115z
    subst hy9
    have r132:H129.get p7=some (.row [.flt .f32 (some 0),.nilslice] true):=rW st 0
    have r133:H129.get p27=some (.row [.flt .f32 x,S117] true):=rW st 1
    obtain⟨w134,hw134⟩:∃ z,z=(IntKind.wrap .i64 ((i72:Int)+1)):=⟨_,rfl⟩
    have b135:E129 15=.int .i64 w134:=by rw [hw134];exact eo st hE 15 _
    have b136:=eo st hE 1 Sv
    have b137:=eo st hE 2 (.flt .f32 wt)
    have b138:=eo st hE 3 (.int .i64 t)
    have b139:=eo st hE 4 (.flt .f32 g)
    have b140:=eo st hE 13 (.ptr p27 0)
    have b141:=eo st hE 10 (.ptr p7 0)
    obtain⟨w142,hw142⟩:∃ z,z=(IntKind.wrap .i64 ((xY x ms pv wt t g i72).2+1)):=⟨_,rfl⟩
    have b143:E129 14=.int .i64 w142:=by rw [hw142];exact eo st hE 14 _
    have g145:Grew H H129:=qK g122 st.inn.kept ⟨op7,⟨op27,trivial⟩⟩
    have s147:=sS117.keep st.inn.kept ⟨by assumption,⟨by assumption,trivial⟩⟩
    have hz9:z72 - 1 < z72:=by omega
    have hy9:z72 - 1+(i72+1)=pv.length:=by omega
    have hi9:E129 15=.int .i64 ((i72+1:Nat):Int):=by rw [b135,hw134,wrap64 om]
    have hC9:vM x (xY x ms pv wt t g i72).1 v91_0 v91_1 v91_2 wt t g=0:=hC115z.trans f131
    have hK9:qEj x (xY x ms pv wt t g i72).1 v91_0 v91_1 v91_2 wt t g=k115z:=(hz9S117 f131).2.symm
    have hS9:xY x ms pv wt t g (i72+1)=(qDM x (xY x ms pv wt t g i72).1 v91_0 v91_1 v91_2 wt t g,(xY x ms pv wt t g i72).2+(if k115z=true then 1 else 0)):=by rw [pM he91,hK9]
    have hA9:cM x ms pv wt t g (i72+1)=0:=(bI he91 hok972.2).trans hC9
    exact jV kr ⟨z72 - 1,hz9,i72+1,S117,hy9,b136,b137,b138,b139,b140,b141,hi9,(by rw [hS9,f130];rw [b143];show AV.int _ w142=_;rw [hw142,wrap_i64 om om];rfl),g145,r132,r133,(by rw [hS9];exact s147),fr121,am,am,⟨by rw [hS9];exact tM hok972.1 ho91_0 ho91_1 ho91_2 hwt hC9,hA9⟩⟩
   ·intro vs ls H148 E148 st hE
    have f149:k115z=false:=bf st 0
    have f150:d115z=0:=dt st 1
    have hy9:x=y115z:=(yI (hC115z.trans f150)).2.1.symm.trans hX115z
    subst hy9
    have r151:H148.get p7=some (.row [.flt .f32 (some 0),.nilslice] true):=rW st 0
    have r152:H148.get p27=some (.row [.flt .f32 x,S117] true):=rW st 1
    obtain⟨w153,hw153⟩:∃ z,z=(IntKind.wrap .i64 ((i72:Int)+1)):=⟨_,rfl⟩
    have b154:E148 15=.int .i64 w153:=by rw [hw153];exact eo st hE 15 _
    have b155:=eo st hE 1 Sv
    have b156:=eo st hE 2 (.flt .f32 wt)
    have b157:=eo st hE 3 (.int .i64 t)
    have b158:=eo st hE 4 (.flt .f32 g)
    have b159:=eo st hE 13 (.ptr p27 0)
    have b160:=eo st hE 10 (.ptr p7 0)
    have b161:=eo st hE 14 (.int .i64 (xY x ms pv wt t g i72).2)
    have g163:Grew H H148:=qK g122 st.inn.kept ⟨op7,⟨op27,trivial⟩⟩
    have s165:=sS117.keep st.inn.kept ⟨by assumption,⟨by assumption,trivial⟩⟩
    have hz9:z72 - 1 < z72:=by omega
    have hy9:z72 - 1+(i72+1)=pv.length:=by omega
    have hi9:E148 15=.int .i64 ((i72+1:Nat):Int):=by rw [b154,hw153,wrap64 om]
    have hC9:vM x (xY x ms pv wt t g i72).1 v91_0 v91_1 v91_2 wt t g=0:=hC115z.trans f150
    have hK9:qEj x (xY x ms pv wt t g i72).1 v91_0 v91_1 v91_2 wt t g=k115z:=(hz9S117 f150).2.symm
    have hS9:xY x ms pv wt t g (i72+1)=(qDM x (xY x ms pv wt t g i72).1 v91_0 v91_1 v91_2 wt t g,(xY x ms pv wt t g i72).2+(if k115z=true then 1 else 0)):=by rw [pM he91,hK9]
    have hA9:cM x ms pv wt t g (i72+1)=0:=(bI he91 hok972.2).trans hC9
    exact jV kr ⟨z72 - 1,hz9,i72+1,S117,hy9,b155,b156,b157,b158,b159,b160,hi9,(by rw [hS9,f149];rw [b161];simp),g163,r151,r152,(by rw [hS9];exact s165),fr121,am,am,⟨by rw [hS9];exact tM hok972.1 ho91_0 ho91_1 ho91_2 hwt hC9,hA9⟩⟩
  ·intro vs ls H166 E166 st hE
   have f167:¬ ((i72:Int) < (pv.length:Int)):=df st 0
   obtain⟨w173,hw173⟩:∃ z,z=(decide ((i72:Int) < (pv.length:Int))):=⟨_,rfl⟩
   have b174:E166 33=.bool w173:=by rw [hw173];exact eo st hE 33 _
   have B5:=es st hE [(15,.int .i64 (i72:Int)),(1,Sv),(31,Sv),(30,.int .i64 (i72:Int)),(32,.int .i64 (pv.length:Int)),(2,.flt .f32 wt),(3,.int .i64 t),(4,.flt .f32 g),(13,.ptr p27 0),(10,.ptr p7 0),(14,.int .i64 (xY x ms pv wt t g i72).2)]
   have g181:Grew Hi72 H166:=(gk st)
   have g182:=Grew.trans gt72 g181
   have r183:=g181.at r72_0
   have r184:=g181.at r72_1
   have s185:=s72_0.grew g181
   refine xL (id:=0) kr ?_
   have q186:=q73.app (kL:KdsL [.bool] [.bool w173])
   refine rC 0 0 [⟨p7,0,[lF,lN],true⟩,⟨p27,0,[nF 0,n1 9],true⟩] [(15,nI 8),(1,n1 2),(31,n1 2),(30,nI 8),(32,nI 11),(2,nF 3),(3,nI 4),(4,nF 5),(13,.ptr 1 0),(10,.ptr 0 0),(14,nI 10),(33,nB 12)] q186 (sc B5 (.cons b174 .nil)) ?_
   refine zA kr fun vs ls H187 E187 st hE=>?_
   have gz:Grew H H187:=(qK g182 (st.inn.kept) ⟨op7,⟨op27,trivial⟩⟩)
   have hc:qCz x ms pv wt t g=(x,(xY x ms pv wt t g i72).1,(xY x ms pv wt t g i72).2,0):=by
    have hi9:pv.length=i72:=by omega
    unfold qCz;rw [if_pos f22,hi9,if_pos hok972.2]
   exact re st hE (.tuple [.agg [.flt .f32 x,acc72_0],.int .i64 (xY x ms pv wt t g i72).2,.int .i64 0]) gz.next (by rw [hc];exact⟨gz,_,rfl,((s185.keep st.inn.kept ⟨by assumption,⟨by assumption,trivial⟩⟩)).toW,f72_0⟩)
theorem qLQ (H:AHeap) (ms:LL) (S:AV) (hS:SlL H 3 ms S) (left:Int) (h0:-1<=left) (h1:left<=4611686018427387904) (hm:ms.length<=9223372036854775807):qR Try.prog 21 [S,.int .i64 left] H (.int .i64 (if left - ms.length < 0 then -1 else left - ms.length)):=by
 have hw:IntKind.i64.wrap (left - (ms.length:Int))=left - ms.length:=wrap_i64 om om
 refine qF qAy (by simp) ?_
 refine zL (φ:=φ0) (pm:=pmR 0 [(.len (.nd 0 .one),.nd 1 (.int .i64))] 0) 20 (nk:=[(.atom 0,.one),(.atom 1,.int .i64),(.atom 2,.int .i64)]) (fs:=[]) (xs:=[S,.int .i64 (ms.length:Int),.int .i64 left]) (ws:=[]) (env:=[(0,.nd 0 .one),(1,.nd 2 (.int .i64))]) ?_ ?_ qU qM ?_
 ·refine qV ?_ .nil _ .nil trivial ?_
  ·exact .cons rfl (zT hS) (.cons rfl ⟨_,rfl⟩ (.cons rfl ⟨_,rfl⟩ .nil))
  ·exact .cons ⟨_,_,dNd rfl (zT hS),dNd rfl ⟨_,rfl⟩,yS hS⟩ .nil
 ·exact zC rfl rfl (zT hS) (zC rfl rfl ⟨_,rfl⟩ zK)
 refine dB kr ?_ ?_
 ·intro vs ls H' E' st hE
  have f0:decide (IntKind.i64.wrap (left - (ms.length:Int)) < 0)=true:=bf st 0
  refine rf st hE (.int .i64 (-1)) (gk st) ?_
  rw [hw] at f0;rw [if_pos (of_decide_eq_true f0)]
 ·intro vs ls H' E' st hE
  have f0:decide (IntKind.i64.wrap (left - (ms.length:Int)) < 0)=false:=bf st 0
  refine rf st hE (.int .i64 (IntKind.i64.wrap (left - (ms.length:Int)))) (gk st) ?_
  rw [hw] at f0 ⊢;rw [if_neg (of_decide_eq_false f0)]
theorem qLR (H:AHeap) (ms:LL) (hr:xJ KV ms) (S:AV) (hS:SlL H 3 ms S) (hmax:ms.length<=1048576):qJ Try.prog 23 [S] H fun r H'=>Grew H H' /\ ∃ l,H.next<=l/\r=.slice l 0 ms.length ms.length 3/\H'.get l=some (.row ms.flatten true):=by
 refine qF qAz (by simp) ?_
 refine zL (φ:=φ0) (pm:=pmR 0 [(.len (.nd 0 .one),.nd 1 (.int .i64))] 0) 20 (nk:=[(.atom 0,.one),(.atom 1,.int .i64)]) (fs:=[]) (xs:=[S,.int .i64 (ms.length:Int)]) (ws:=[]) (env:=[(0,.nd 0 .one)]) ?_ ?_ qU qM ?_
 ·refine qV ?_ .nil _ .nil trivial ?_
  ·exact .cons rfl (zT hS) (.cons rfl ⟨_,rfl⟩ .nil)
  ·exact .cons ⟨_,_,dNd rfl (zT hS),dNd rfl ⟨_,rfl⟩,yS hS⟩ .nil
 ·exact zC rfl rfl (zT hS) zK
 refine zA kr fun vs ls H1 E1 st hE=>?_
 have a0:E1 0=S:=qP st.inn hE 0 kr
 have a6:E1 6=.int .i64 (ms.length:Int):=qP st.inn hE 6 kr
 have g1:Grew H H1:=(gk st)
 refine qMI (d:=some 7) (sz:=3) (bytes:=12) (zs:=[.flt .f32 (some 0),.flt .f32 (some 0),.flt .f32 (some 0)]) (x:=.tmp 6) (y:=.tmp 6) kr (n:=ms.length) a6 a6 om om ?_
 have hlo:H.next<=H1.next:=g1.next
 have g2:Grew H (H1.new (.row (List.replicate ms.length ([.flt .f32 (some 0),.flt .f32 (some 0),.flt .f32 (some 0)]:List AV)).flatten true)):=g1.new _
 have hrow:(H1.new (.row (List.replicate ms.length ([.flt .f32 (some 0),.flt .f32 (some 0),.flt .f32 (some 0)]:List AV)).flatten true)).get H1.next=some (.row (List.replicate ms.length ([.flt .f32 (some 0),.flt .f32 (some 0),.flt .f32 (some 0)]:List AV)).flatten true):=qBk rfl
 refine zL (φ:=φ0) (pm:=pmR 0 [] 0) 20 (nk:=[(.atom 0,.one),(.atom 1,.one)]) (fs:=[]) (xs:=[S,.slice H1.next 0 ms.length ms.length 3]) (ws:=[]) (env:=[(0,.nd 0 .one),(7,.nd 1 .one)]) ?_ ?_ qU qM ?_
 ·exact qV (by exact .cons rfl (zT hS) (.cons rfl rfl .nil)) .nil _ .nil trivial .nil
 ·exact zC (by rw [Env.put_some];simpa using a0) rfl (zT hS) (zC (by rw [Env.put_some];simp) rfl rfl zK)
 generalize H1.new (.row (List.replicate ms.length ([.flt .f32 (some 0),.flt .f32 (some 0),.flt .f32 (some 0)]:List AV)).flatten true)=HA at g2 hrow ⊢
 generalize H1.next=lo at hlo hrow ⊢
 clear g1 a0 a6
 refine zA kr fun vs ls H2 E2 st hE=>?_
 have b0:=eo st hE 0 S
 have b3:=eo st hE 3 (.slice lo 0 ms.length ms.length 3)
 have b4:=eo st hE 4 (.int .i64 ((0:Nat):Int))
 have g3:Grew HA H2:=(gk st)
 refine yH kr (fun k E H'=>∃ i,k+i=ms.length/\E 0=S/\E 3=.slice lo 0 ms.length ms.length 3/\E 4=.int .i64 (i:Int)/\Grew H H'/\H'.get lo=some (.row ((ms.take i).flatten ++ (List.replicate (ms.length - i) ([.flt .f32 (some 0),.flt .f32 (some 0),.flt .f32 (some 0)]:List AV)).flatten) true)) ms.length
  ⟨0,by omega,b0,b3,b4,g2.trans g3,by rw [g3.at hrow];simp⟩ ?_
 clear b0 b3 b4 g3 g2 hrow
 rintro k E3 H3 ⟨i,hk,c0,c3,c4,g4,hrow⟩
 have hso:=zT hS
 rcases Nat.lt_or_ge i ms.length with hlt | hge
 ·cases hS with
  | nil h=>rw [h] at hlt;simp at hlt
  | @sl ls0 n cap rest wr2 hgS hn hc =>
   have hgS2:=g4.at hgS
   subst hn
   obtain⟨v0,v1,v2,hm,o0,o1,o2⟩:=tZ (hr.get hlt)
   refine zL (φ:=φ0) (pm:=pmR 1 [(.len (.nd 0 .one),.nd 1 (.int .i64)),(.ia 3 (.nd 0 .one) (.nd 2 (.int .i64)),.ptr 0 0),(.ia 3 (.nd 3 .one) (.nd 2 (.int .i64)),.nd 4 .one)] 0) 20
    (nk:=[(.atom 0,.one),(.atom 1,.int .i64),(.atom 2,.int .i64),(.atom 3,.one),(.atom 4,.one)] ++ ([(.atom 5,.flt .f32),(.atom 6,.flt .f32),(.atom 7,.flt .f32)] ++ [(.bin .lss (.nd 2 (.int .i64)) (.nd 1 (.int .i64)),.bool)])) (fs:=[(8,true)])
    (xs:=[.slice ls0 0 ms.length cap 3,.int .i64 (ms.length:Int),.int .i64 (i:Int),.slice lo 0 ms.length ms.length 3,.ptr lo (i * 3),.flt .f32 v0,.flt .f32 v1,.flt .f32 v2,.bool true]) (ws:=[⟨ls0,i * 3,nds 5 KV,false⟩]) (env:=[(0,.nd 0 .one),(3,.nd 3 .one),(4,.nd 2 (.int .i64))]) ?_ ?_ qU qM ?_
   ·refine qV ?_ ?_ _ ?_ ?_ ?_
    ·refine .cons rfl rfl (.cons rfl ⟨_,rfl⟩ (.cons rfl ⟨_,rfl⟩ (.cons rfl rfl (.cons rfl rfl ?_))))
     (repeat (first | exact .nil | refine .cons rfl ⟨_,rfl⟩ ?_ | refine .cons rfl ⟨_,rfl,by assumption⟩ ?_ | refine .cons rfl am ?_))
     refine .cons ⟨_,_,dNd rfl ⟨_,rfl⟩,dNd rfl ⟨_,rfl⟩,?_⟩ ⟨_,rfl⟩ .nil
     show some (AV.bool (decide ((i:Int) < (ms.length:Int))))=_
     rw [decide_eq_true om]
    ·exact .cons rfl .nil
    ·exact .cons (zV hr hgS2 hlt rfl (by rw [hm];exact(by repeat (first | exact qY | refine qA (dNd rfl ⟨_,rfl⟩) ?_ | refine qA (dNd rfl ⟨_,rfl,by assumption⟩) ?_ | refine qA (dNd rfl am) ?_)))) .nil
    ·exact⟨fun v hv=>(by cases hv),trivial⟩
    ·exact .cons (qZ (o:=0) (dNd rfl rfl) (dNd rfl ⟨_,rfl⟩)) (.cons (zX (k:=i) (dNd rfl rfl) (dNd rfl ⟨_,rfl⟩) om rfl) (.cons (qHX (k:=i) (dNd rfl rfl) (dNd rfl ⟨_,rfl⟩) om (dNd rfl rfl)) .nil))
   ·exact zC c0 rfl rfl (zC c3 rfl rfl (zC c4 rfl ⟨_,rfl⟩ zK))
   ·refine zA kr fun vs ls H4 E4 st hE=>?_
    have d0:E4 0=.slice ls0 0 ms.length cap 3:=qP st.inn hE 0 kr
    have d3:E4 3=.slice lo 0 ms.length ms.length 3:=qP st.inn hE 3 kr
    have d4:E4 4=.int .i64 (i:Int):=qP st.inn hE 4 kr
    have d20:E4 20=.agg [.flt .f32 v0,.flt .f32 v1,.flt .f32 v2]:=qP st.inn hE 20 kr
    have d21:E4 21=.ptr lo (i * 3):=qP st.inn hE 21 kr
    have g5:Grew H3 H4:=(gk st)
    have hpl:(ms.take i).flatten.length=i * 3:=vH hr.len (Nat.le_of_lt hlt)
    have hk' : ms.length - i=(ms.length - (i+1))+1:=by omega
    rw [hk'] at hrow
    have hl0:i * 3+3<=((ms.take i).flatten ++ (List.replicate (ms.length - (i+1)+1) ([.flt .f32 (some 0),.flt .f32 (some 0),.flt .f32 (some 0)]:List AV)).flatten).length:=by
     rw [List.length_append,hpl,List.replicate_succ,List.flatten_cons,List.length_append];simp only [List.length_cons,List.length_nil];omega
    refine qDl (d:=none) (n:=3) (x:=.tmp 21) (y:=.tmp 20) kr (vs:=ms[i]) d21 (g5.at hrow) (by show AV.cells (E4 20)=_;rw [d20,hm];rfl) (by rw [hm];rfl) hl0 (by rw [hm];rfl) ?_
    rw [qFX hpl (by rw [hm];rfl) rfl,<- kR hlt]
    have g6:Grew H (H4.put lo (.row ((ms.take (i+1)).flatten ++ (List.replicate (ms.length - (i+1)) ([.flt .f32 (some 0),.flt .f32 (some 0),.flt .f32 (some 0)]:List AV)).flatten) true)):=(g4.trans g5).put hlo _
    have hrow2:=xM (H:=H4) (b:=.row ((ms.take (i+1)).flatten ++ (List.replicate (ms.length - (i+1)) ([.flt .f32 (some 0),.flt .f32 (some 0),.flt .f32 (some 0)]:List AV)).flatten) true) (l':=lo) rfl (H4.lt_of_get (g5.at hrow))
    generalize H4.put lo (.row ((ms.take (i+1)).flatten ++ (List.replicate (ms.length - (i+1)) ([.flt .f32 (some 0),.flt .f32 (some 0),.flt .f32 (some 0)]:List AV)).flatten) true)=HB at g6 hrow2 ⊢
    refine zL (φ:=φ0) (pm:=pmR 0 [] 0) 20 (nk:=[(.atom 0,.one),(.atom 1,.one),(.atom 2,.int .i64)]) (fs:=[]) (xs:=[.slice ls0 0 ms.length cap 3,.slice lo 0 ms.length ms.length 3,.int .i64 (i:Int)]) (ws:=[]) (env:=[(0,.nd 0 .one),(3,.nd 1 .one),(4,.nd 2 (.int .i64))]) ?_ ?_ qU qM ?_
    ·exact qV (by exact .cons rfl rfl (.cons rfl rfl (.cons rfl ⟨_,rfl⟩ .nil))) .nil _ .nil trivial .nil
    ·exact zC d0 rfl rfl (zC d3 rfl rfl (zC d4 rfl ⟨_,rfl⟩ zK))
    ·refine zA kr fun vs ls H5 E5 st hE=>?_
     have g7:Grew HB H5:=(gk st)
     refine jV kr ⟨k - 1,by omega,i+1,by omega,qP st.inn hE 0 kr,qP st.inn hE 3 kr,?_,g6.trans g7,g7.at hrow2⟩
     have:=qP st.inn hE 4 (a:=.int .i64 (IntKind.i64.wrap ((i:Int)+1))) kr
     rw [this,wrap64 om]
 ·obtain rfl:i=ms.length:=by omega
  refine zL (φ:=φ0) (pm:=pmR 0 [(.len (.nd 0 .one),.nd 1 (.int .i64))] 0) 20 (nk:=[(.atom 0,.one),(.atom 1,.int .i64),(.atom 2,.int .i64),(.atom 3,.one),(.bin .lss (.nd 2 (.int .i64)) (.nd 1 (.int .i64)),.bool)]) (fs:=[(4,false)])
   (xs:=[S,.int .i64 (ms.length:Int),.int .i64 (ms.length:Int),.slice lo 0 ms.length ms.length 3,.bool false]) (ws:=[]) (env:=[(0,.nd 0 .one),(3,.nd 3 .one),(4,.nd 2 (.int .i64))]) ?_ ?_ qU qM ?_
  ·refine qV ?_ ?_ _ .nil trivial ?_
   ·refine .cons rfl hso (.cons rfl ⟨_,rfl⟩ (.cons rfl ⟨_,rfl⟩ (.cons rfl rfl (.cons ⟨_,_,dNd rfl ⟨_,rfl⟩,dNd rfl ⟨_,rfl⟩,?_⟩ ⟨_,rfl⟩ .nil))))
    show some (AV.bool (decide ((ms.length:Int) < (ms.length:Int))))=_
    rw [decide_eq_false om]
   ·exact .cons rfl .nil
   ·exact .cons ⟨_,_,dNd rfl hso,dNd rfl ⟨_,rfl⟩,yS hS⟩ .nil
  ·exact zC c0 rfl hso (zC c3 rfl rfl (zC c4 rfl ⟨_,rfl⟩ zK))
  ·refine zA kr fun vs ls H4 E4 st hE=>?_
   have d3:E4 3=.slice lo 0 ms.length ms.length 3:=qP st.inn hE 3 kr
   have g5:Grew H3 H4:=(gk st)
   refine xL (id:=0) kr ?_
   refine zL (φ:=φ0) (pm:=pmR 0 [] 0) 20 (nk:=[(.atom 0,.one)]) (fs:=[]) (xs:=[.slice lo 0 ms.length ms.length 3]) (ws:=[]) (env:=[(3,.nd 0 .one)]) (qV (by exact .cons rfl rfl .nil) .nil _ .nil trivial .nil) (zC d3 rfl rfl zK) qU qM ?_
   refine zA kr fun vs ls H5 E5 st hE=>?_
   have g6:Grew H4 H5:=(gk st)
   refine jA kr (zJ st.inn hE (.inr rfl) (a:=.slice lo 0 ms.length ms.length 3) kr ((g4.trans g5).trans g6).next ⟨(g4.trans g5).trans g6,lo,hlo,rfl,?_⟩)
   rw [(g5.trans g6).at hrow,List.take_length,Nat.sub_self];simp
theorem qNj (m:List AV) (hm:KdsL KV m) (H:AHeap):qR Try.prog 46 [.agg m,.agg m] H (.bool true):=by
 have hd:=qDd hm [] [] 0 rfl
 simp only [List.nil_append,List.append_nil] at hd
 exact qHP (φ:=φ0) (pm:=pm) 20 rfl rfl qU qM hm (qA (hY hd) (qA (hY hd) qY)) kr H
theorem qLK (H:AHeap) (ms:LL) (hr:xJ KV ms) (S S' : AV) (hS:SlL H 3 ms S) (hS' : SlL H 3 ms S') (hmax:ms.length < 2^40):qR Try.prog 25 [S,S'] H (.bool true):=by
 refine qF qAx (by simp) ?_
 refine zL (φ:=φ0) (pm:=pmR 0 [(.len (.nd 0 .one),.nd 2 (.int .i64)),(.len (.nd 1 .one),.nd 2 (.int .i64))] 0) 20 (nk:=[(.atom 0,.one),(.atom 1,.one),(.atom 2,.int .i64)]) (fs:=[]) (xs:=[S,S',.int .i64 (ms.length:Int)]) (ws:=[]) (env:=[(0,.nd 0 .one),(1,.nd 1 .one)]) ?_ ?_ qU qM ?_
 ·refine qV ?_ .nil _ .nil trivial ?_
  ·exact .cons rfl (zT hS) (.cons rfl (zT hS') (.cons rfl ⟨_,rfl⟩ .nil))
  ·exact .cons ⟨_,_,dNd rfl (zT hS),dNd rfl ⟨_,rfl⟩,yS hS⟩ (.cons ⟨_,_,dNd rfl (zT hS'),dNd rfl ⟨_,rfl⟩,yS hS'⟩ .nil)
 ·exact zC rfl rfl (zT hS) (zC rfl rfl (zT hS') zK)
 refine zA kr fun vs ls H1 E1 st hE=>?_
 have a0:E1 0=S:=qP st.inn hE 0 kr
 have a1:E1 1=S':=qP st.inn hE 1 kr
 have a5:E1 5=.int .i64 ((0:Nat):Int):=qP st.inn hE 5 kr
 have g1:Grew H H1:=(gk st)
 refine qAX kr [(0,S),(1,S')] 5 ms.length (fun _=>True) (.cons a0 (.cons a1 .nil)) a5 g1 trivial ?_
 intro i hi _ E2 H2 hs h5 hg2
 have b0:=hs.head
 have b1:=hs.tail.head
 have hso:=zT hS
 have hso':=zT hS'
 rcases Nat.lt_or_ge i ms.length with hlt | hge
 ·cases hS with
  | nil h=>rw [h] at hlt;simp at hlt
  | @sl ls0 n cap rest wr2 hgS hn hc =>
   cases hS' with
   | nil h=>rw [h] at hlt;simp at hlt
   | @sl ls1 n' cap' rest' wr2' hgS' hn' hc' =>
    have hgS2:=hg2.at hgS
    have hgS2':=hg2.at hgS'
    subst hn
    subst hn'
    obtain⟨v0,v1,v2,hm,o0,o1,o2⟩:=tZ (hr.get hlt)
    have heq:=qNj ms[i] (hr.get hlt)
    refine zL (φ:=φ0) (pm:=pmR 2 [(.len (.nd 0 .one),.nd 1 (.int .i64)),(.ia 3 (.nd 0 .one) (.nd 2 (.int .i64)),.ptr 0 0),(.ia 3 (.nd 3 .one) (.nd 2 (.int .i64)),.ptr 1 0),(.call 46 [.agg (nds 4 KV),.agg (nds 4 KV)],.lit (.bool true))] 0) 20
     (nk:=[(.atom 0,.one),(.atom 1,.int .i64),(.atom 2,.int .i64),(.atom 3,.one)] ++ ([(.atom 4,.flt .f32),(.atom 5,.flt .f32),(.atom 6,.flt .f32)] ++ [(.bin .lss (.nd 2 (.int .i64)) (.nd 1 (.int .i64)),.bool)])) (fs:=[(7,true)])
     (xs:=[.slice ls0 0 ms.length cap 3,.int .i64 (ms.length:Int),.int .i64 (i:Int),.slice ls1 0 ms.length cap' 3,.flt .f32 v0,.flt .f32 v1,.flt .f32 v2,.bool true]) (ws:=[⟨ls0,i * 3,nds 4 KV,false⟩,⟨ls1,i * 3,nds 4 KV,false⟩]) (env:=[(0,.nd 0 .one),(1,.nd 3 .one),(5,.nd 2 (.int .i64))]) ?_ ?_ qU qM ?_
    ·refine qV ?_ ?_ _ ?_ ?_ ?_
     ·refine .cons rfl rfl (.cons rfl ⟨_,rfl⟩ (.cons rfl ⟨_,rfl⟩ (.cons rfl rfl ?_)))
      (repeat (first | exact .nil | refine .cons rfl ⟨_,rfl⟩ ?_ | refine .cons rfl ⟨_,rfl,by assumption⟩ ?_ | refine .cons rfl am ?_))
      refine .cons ⟨_,_,dNd rfl ⟨_,rfl⟩,dNd rfl ⟨_,rfl⟩,?_⟩ ⟨_,rfl⟩ .nil
      show some (AV.bool (decide ((i:Int) < (ms.length:Int))))=_
      rw [decide_eq_true om]
     ·exact .cons rfl .nil
     ·exact .cons (zV hr hgS2 hlt rfl (by rw [hm];exact(by repeat (first | exact qY | refine qA (dNd rfl ⟨_,rfl⟩) ?_ | refine qA (dNd rfl ⟨_,rfl,by assumption⟩) ?_ | refine qA (dNd rfl am) ?_)))) (.cons (zV hr hgS2' hlt rfl (by rw [hm];exact(by repeat (first | exact qY | refine qA (dNd rfl ⟨_,rfl⟩) ?_ | refine qA (dNd rfl ⟨_,rfl,by assumption⟩) ?_ | refine qA (dNd rfl am) ?_)))) .nil)
     ·exact⟨fun v hv h=>(by simp at hv;subst hv;simp at h),⟨fun v hv=>(by cases hv),trivial⟩⟩
     ·exact .cons (qZ (o:=0) (dNd rfl rfl) (dNd rfl ⟨_,rfl⟩)) (.cons (zX (k:=i) (dNd rfl rfl) (dNd rfl ⟨_,rfl⟩) om rfl) (.cons (zX (k:=i) (dNd rfl rfl) (dNd rfl ⟨_,rfl⟩) om rfl)
       (.cons (qH (args:=[.agg ms[i],.agg ms[i]]) (qA (hY (by rw [hm];exact(by repeat (first | exact qY | refine qA (dNd rfl ⟨_,rfl⟩) ?_ | refine qA (dNd rfl ⟨_,rfl,by assumption⟩) ?_ | refine qA (dNd rfl am) ?_)))) (qA (hY (by rw [hm];exact(by repeat (first | exact qY | refine qA (dNd rfl ⟨_,rfl⟩) ?_ | refine qA (dNd rfl ⟨_,rfl,by assumption⟩) ?_ | refine qA (dNd rfl am) ?_)))) qY)) (qFx rfl) (fun H3 _=>heq H3)) .nil)))
    ·exact zC b0 rfl rfl (zC b1 rfl rfl (zC h5 rfl ⟨_,rfl⟩ zK))
    ·refine zA kr fun vs ls H4 E4 st hE=>?_
     exact mJ (sl:=[(0,.slice ls0 0 ms.length cap 3),(1,.slice ls1 0 ms.length cap' 3)]) (ti:=5) (i:=i) (Inv:=fun _=>True) kr st.inn hE hlt kr (w:=IntKind.i64.wrap ((i:Int)+1)) kr (wrap64 om) (hg2.trans (gk st)) trivial
 ·obtain rfl:i=ms.length:=by omega
  refine zL (φ:=φ0) (pm:=pmR 0 [(.len (.nd 0 .one),.nd 1 (.int .i64))] 0) 20 (nk:=[(.atom 0,.one),(.atom 1,.int .i64),(.atom 2,.int .i64),(.bin .lss (.nd 2 (.int .i64)) (.nd 1 (.int .i64)),.bool)]) (fs:=[(3,false)])
   (xs:=[S,.int .i64 (ms.length:Int),.int .i64 (ms.length:Int),.bool false]) (ws:=[]) (env:=[(0,.nd 0 .one),(5,.nd 2 (.int .i64))]) ?_ ?_ qU qM ?_
  ·refine qV ?_ ?_ _ .nil trivial ?_
   ·refine .cons rfl hso (.cons rfl ⟨_,rfl⟩ (.cons rfl ⟨_,rfl⟩ (.cons ⟨_,_,dNd rfl ⟨_,rfl⟩,dNd rfl ⟨_,rfl⟩,?_⟩ ⟨_,rfl⟩ .nil)))
    show some (AV.bool (decide ((ms.length:Int) < (ms.length:Int))))=_
    rw [decide_eq_false om]
   ·exact .cons rfl .nil
   ·exact .cons ⟨_,_,dNd rfl hso,dNd rfl ⟨_,rfl⟩,yS hS⟩ .nil
  ·exact zC b0 rfl hso (zC h5 rfl ⟨_,rfl⟩ zK)
  ·refine zA kr fun vs ls H4 E4 st hE=>?_
   have g5:Grew H2 H4:=(gk st)
   refine xL (id:=0) kr ?_
   refine zL (φ:=φ0) (pm:=pmR 0 [] 0) 20 (nk:=[]) (fs:=[]) (xs:=[]) (ws:=[]) (env:=[]) (qV .nil .nil _ .nil trivial .nil) zK qU qM ?_
   refine zA kr fun vs ls H5 E5 st hE=>?_
   exact jA kr (xK st.inn hE (.inr rfl) (a:=.bool true) kr ((hg2.trans g5).trans (gk st)) rfl ⟨rfl,rfl⟩)
theorem qCx (H:AHeap) (ms:LL) (hr:xJ KV ms) (S:AV) (hS:SlL H 3 ms S) (hmax:ms.length<=1048576):qJ Try.prog 23 [S] H fun r H'=>Grew H H'/\SlW H' 3 ms r/\FreshS H.next r:=by
 refine(qLR H ms hr S hS hmax).mono ?_
 rintro r H' ⟨g,l,hl,rfl,row⟩
 exact⟨g,.sl (rest:=[]) (by simpa using row) rfl (Nat.le_refl _),.of_le hl⟩
def qLX (q:Int):List AV:=[.flt .f32 (some (floatOfInt .f32 q)),.flt .f32 (some (floatOfInt .f32 (q+1))),.flt .f32 (some (floatOfInt .f32 ((q+1)+1)))]
def bU (q:Int) (n:Nat):LL:=(List.range n).map fun (i:Nat)=>qLX (q+3 * (i:Int))
theorem qBq (q:Int) (n:Nat):(bU q n).length=n:=by simp [bU]
theorem qHb (q:Int) (n:Nat):xJ KV (bU q n):=by
 intro m hm
 simp only [bU,List.mem_map] at hm
 obtain⟨i,_,rfl⟩:=hm
 exact .cons ⟨_,rfl,vG _ _⟩ (.cons ⟨_,rfl,vG _ _⟩ (.cons ⟨_,rfl,vG _ _⟩ .nil))
theorem qHa (q:Int) (n:Nat):(bU q n).flatten.length=n * 3:=by
 have:=vH (qHb q n).len (i:=n) (by rw [qBq];exact Nat.le_refl _)
 rwa [List.take_of_length_le (by rw [qBq];exact Nat.le_refl _)] at this
theorem qHc (q:Int) (n:Nat):(bU q (n+1)).flatten=(bU q n).flatten ++ qLX (q+3 * (n:Int)):=by
 simp [bU,List.range_succ]
theorem qIE (H:AHeap) (ms:LL) (hr:xJ KV ms) (l cap:Nat) (rest:List AV) (hg:H.get l=some (.row (ms.flatten ++ rest) true)) (k:Int) (h0:0<=k) (h1:k<=1152921504606846976) (hmax:ms.length<=1048576):qJ Try.prog 26 [.slice l 0 ms.length cap 3,.int .i64 k] H fun r H'=>r=.int .i64 (k+3 * (ms.length:Int))/\Only l H H'/\H'.get l=some (.row ((bU k ms.length).flatten ++ rest) true):=by
 refine qF bS (by simp) ?_
 have row0:=hg
 have q1:KdsL [.one,KI] [.slice l 0 ms.length cap 3,.int .i64 k]:=.cons rfl (.cons kA .nil)
 refine rC 0 0 [] [(0,n1 0),(1,nI 1)] q1 (.cons (t:=0) rfl (.cons (t:=1) rfl .nil)) ?_
 refine zA kr fun vs ls H2 E2 st hE=>?_
 have b3:=eo st hE 5 (.int .i64 0)
 have b4:=eo st hE 0 (.slice l 0 ms.length cap 3)
 have b5:=eo st hE 1 (.int .i64 k)
 have g6:Grew H H2:=(gk st)
 have g7:Only l H H2:=(Only.refl _ _).grew g6
 have r8:=g6.at hg
 refine yH kr (fun z E H'=>∃ i,z+i=ms.length/\E 0=.slice l 0 ms.length cap 3/\E 1=.int .i64 (k+3 * (i:Int))/\E 5=.int .i64 (i:Int)/\Only l H H'/\H'.get l=some (.row ((bU k i).flatten ++ ((ms.drop i).flatten ++ rest)) true)) ms.length
  ⟨0,by omega,b4,by simpa using b5,b3,g7,by simpa [bU] using r8⟩ ?_
 clear b4 b5 b3 r8
 rintro z E0 H0 ⟨i,hz,c0,c1,ci,gO,row⟩
 obtain⟨q,hq⟩:∃ q,q=k+3 * (i:Int):=⟨_,rfl⟩
 rw [<- hq] at c1
 rcases Nat.lt_or_ge i ms.length with hlt | hge
 ·obtain⟨v0,v1,v2,hm,o0,o1,o2⟩:=tZ (hr.get hlt)
  have hqb:-4611686018427387904<=q/\q+3<=4611686018427387904:=by omega
  have e0:IntKind.i64.wrap (q+1)=(q+1):=wrap_i64 om om
  have e1:IntKind.i64.wrap ((q+1)+1)=((q+1)+1):=wrap_i64 om om
  have e2:IntKind.i64.wrap (((q+1)+1)+1)=(((q+1)+1)+1):=wrap_i64 om om
  have hP:(bU k i).flatten.length=i * 3:=qHa k i
  have hd:(ms.drop i).flatten=ms[i] ++ (ms.drop (i+1)).flatten:=by rw [List.drop_eq_getElem_cons hlt,List.flatten_cons]
  rw [hd,hm,List.append_assoc] at row
  obtain⟨Q,hQ⟩:∃ Q,Q=(ms.drop (i+1)).flatten ++ rest:=⟨_,rfl⟩
  obtain⟨P,hPe⟩:∃ P,P=(bU k i).flatten:=⟨_,rfl⟩
  rw [<- hQ,<- hPe] at row
  rw [<- hPe] at hP
  have hn:i < ms.length:=hlt
  have hza:z - 1 < z:=by omega
  have hzb:z - 1+(i+1)=ms.length:=by omega
  have hni:(i:Int) < (ms.length:Int):=by omega
  have hiw:IntKind.i64.wrap ((i:Int)+1)=((i+1:Nat):Int):=wrap64 om
  have hqn:(((q+1)+1)+1)=k+3 * ((i+1:Nat):Int):=by push_cast;omega
  have q9:KdsL [.one,KI,KI,KI,KF,KF,KF] [.slice l 0 ms.length cap 3,.int .i64 q,.int .i64 (i:Int),.int .i64 (ms.length:Int),.flt .f32 v0,.flt .f32 v1,.flt .f32 v2]:=.cons rfl (.cons kA (.cons kA (.cons kA (.cons (kF o0) (.cons (kF o1) (.cons (kF o2) .nil))))))
  refine qL (φ:=φ0) (pm:=pmR 1 [(.len (n1 0),nI 3),(.ia 3 (n1 0) (nI 2),.ptr 0 0)] 10) 20 (ws:=[⟨l,(i * 3),[nF 4,nF 5,nF 6],false⟩]) (env:=[(0,n1 0),(1,nI 1),(5,nI 2)]) q9 (.cons (jE row hP (dL q9)) .nil) (qI rfl) (.cons (qZ (dNd rfl rfl) (dNd rfl ⟨_,rfl⟩)) (.cons (zX (k:=i) (dNd rfl rfl) (dNd rfl ⟨_,rfl⟩) hn rfl) .nil)) (eC q9 (.cons c0 (.cons c1 (.cons ci .nil)))) qU qM ?_
  refine dB kr ?_ ?_
  ·intro vs ls H10 E10 st hE
   have f11:(i:Int) < (ms.length:Int):=dt st 0
   have b12:=eo st hE 23 (.ptr l ((i * 3)+0))
   obtain⟨w13,hw13⟩:∃ z,z=(some (floatOfInt .f32 q)):=⟨_,rfl⟩
   have b14:E10 21=.flt .f32 w13:=by rw [hw13];exact eo st hE 21 _
   have B1:=es st hE [(1,.int .i64 q),(6,.int .i64 0),(13,.int .i64 0),(14,.bool true),(0,.slice l 0 ms.length cap 3),(5,.int .i64 (i:Int)),(20,.int .i64 q),(17,.slice l 0 ms.length cap 3),(18,.int .i64 (i:Int)),(19,.int .i64 0)]
   have g26:Grew H0 H10:=(gk st)
   have g27:Only l H H10:=gO.grew g26
   have row29:=g26.at row
   refine jC (d:=none) (n:=1) (x:=.tmp 23) (y:=.tmp 21) kr (off:=0) (C':=[.flt .f32 w13,.flt .f32 v1,.flt .f32 v2]) (vs:=[.flt .f32 w13]) b12 row29 hP (by show AV.cells (E10 21)=_;rw [b14];rfl) rfl (by simp) rfl rfl ?_
   intro H30 row31 oH30
   have g32:=g27.trans oH30
   have q33:=q9.app (.cons ⟨_,rfl,hw13 ▸ vG _ _⟩ .nil:KdsL [KF] [.flt .f32 w13])
   refine qL (φ:=φ0) (pm:=pmR 1 [(.len (n1 0),nI 3),(.ia 3 (n1 0) (nI 2),.ptr 0 0)] 10) 20 (ws:=[⟨l,(i * 3),[nF 7,nF 5,nF 6],false⟩]) (env:=[(1,nI 1),(6,.lit (.int .i64 0)),(13,.lit (.int .i64 0)),(14,.lit (.bool true)),(0,n1 0),(5,nI 2),(20,nI 1),(17,n1 0),(18,nI 2),(19,.lit (.int .i64 0)),(21,nF 7)]) q33 (.cons (jE row31 hP (dL q33)) .nil) (qI rfl) (.cons (qZ (dNd rfl rfl) (dNd rfl ⟨_,rfl⟩)) (.cons (zX (k:=i) (dNd rfl rfl) (dNd rfl ⟨_,rfl⟩) hn rfl) .nil)) (eC q33 (sc (sn B1) (.cons (jK b14) .nil))) qU qM ?_
   refine zA kr fun vs ls H34 E34 st hE=>?_
   have b35:=eo st hE 23 (.ptr l ((i * 3)+1))
   obtain⟨w36,hw36⟩:∃ z,z=(some (floatOfInt .f32 (IntKind.wrap .i64 (q+1)))):=⟨_,rfl⟩
   have b37:E34 21=.flt .f32 w36:=by rw [hw36];exact eo st hE 21 _
   obtain⟨w38,hw38⟩:∃ z,z=(IntKind.wrap .i64 (q+1)):=⟨_,rfl⟩
   have nw38:w38=(q+1):=by rw [hw38];exact e0
   have b39:E34 1=.int .i64 w38:=by rw [hw38];exact eo st hE 1 _
   have b41:E34 25=.int .i64 w38:=by rw [hw38];exact eo st hE 25 _
   have b49:E34 20=.int .i64 w38:=by rw [hw38];exact eo st hE 20 _
   have B2:=es st hE [(24,.int .i64 q),(6,.int .i64 1),(15,.int .i64 0),(16,.int .i64 1),(13,.int .i64 1),(14,.bool true),(0,.slice l 0 ms.length cap 3),(5,.int .i64 (i:Int)),(17,.slice l 0 ms.length cap 3),(18,.int .i64 (i:Int)),(19,.int .i64 1)]
   have g54:Grew H30 H34:=(gk st)
   have g55:Only l H H34:=g32.grew g54
   have row57:=g54.at row31
   refine jC (d:=none) (n:=1) (x:=.tmp 23) (y:=.tmp 21) kr (off:=1) (C':=[.flt .f32 w13,.flt .f32 w36,.flt .f32 v2]) (vs:=[.flt .f32 w36]) b35 row57 hP (by show AV.cells (E34 21)=_;rw [b37];rfl) rfl (by simp) rfl rfl ?_
   intro H58 row59 oH58
   have g60:=g55.trans oH58
   have q61:=q33.app (.cons ⟨_,rfl,hw36 ▸ vG _ _⟩ (.cons kA .nil):KdsL [KF,KI] [.flt .f32 w36,.int .i64 w38])
   refine qL (φ:=φ0) (pm:=pmR 1 [(.len (n1 0),nI 3),(.ia 3 (n1 0) (nI 2),.ptr 0 0)] 10) 20 (ws:=[⟨l,(i * 3),[nF 7,nF 8,nF 6],false⟩]) (env:=[(24,nI 1),(6,.lit (.int .i64 1)),(15,.lit (.int .i64 0)),(16,.lit (.int .i64 1)),(13,.lit (.int .i64 1)),(14,.lit (.bool true)),(0,n1 0),(5,nI 2),(17,n1 0),(18,nI 2),(19,.lit (.int .i64 1)),(21,nF 8),(1,nI 9),(25,nI 9),(20,nI 9)]) q61 (.cons (jE row59 hP (dL q61)) .nil) (qI rfl) (.cons (qZ (dNd rfl rfl) (dNd rfl ⟨_,rfl⟩)) (.cons (zX (k:=i) (dNd rfl rfl) (dNd rfl ⟨_,rfl⟩) hn rfl) .nil)) (eC q61 (sc (sn B2) (.cons (jK b37) (.cons (jK b39) (.cons (jK b41) (.cons (jK b49) .nil)))))) qU qM ?_
   refine zA kr fun vs ls H62 E62 st hE=>?_
   have b63:=eo st hE 23 (.ptr l ((i * 3)+2))
   obtain⟨w64,hw64⟩:∃ z,z=(some (floatOfInt .f32 (IntKind.wrap .i64 (w38+1)))):=⟨_,rfl⟩
   have b65:E62 21=.flt .f32 w64:=by rw [hw64];exact eo st hE 21 _
   obtain⟨w66,hw66⟩:∃ z,z=(IntKind.wrap .i64 (w38+1)):=⟨_,rfl⟩
   have nw66:w66=((q+1)+1):=by rw [hw66,nw38];exact e1
   have b67:E62 1=.int .i64 w66:=by rw [hw66];exact eo st hE 1 _
   have b69:E62 25=.int .i64 w66:=by rw [hw66];exact eo st hE 25 _
   have b77:E62 20=.int .i64 w66:=by rw [hw66];exact eo st hE 20 _
   have B3:=es st hE [(24,.int .i64 w38),(6,.int .i64 2),(15,.int .i64 1),(16,.int .i64 2),(13,.int .i64 2),(14,.bool true),(0,.slice l 0 ms.length cap 3),(5,.int .i64 (i:Int)),(17,.slice l 0 ms.length cap 3),(18,.int .i64 (i:Int)),(19,.int .i64 2)]
   have g82:Grew H58 H62:=(gk st)
   have g83:Only l H H62:=g60.grew g82
   have row85:=g82.at row59
   refine jC (d:=none) (n:=1) (x:=.tmp 23) (y:=.tmp 21) kr (off:=2) (C':=[.flt .f32 w13,.flt .f32 w36,.flt .f32 w64]) (vs:=[.flt .f32 w64]) b63 row85 hP (by show AV.cells (E62 21)=_;rw [b65];rfl) rfl (by simp) rfl rfl ?_
   intro H86 row87 oH86
   have g88:=g83.trans oH86
   have q89:=q61.app (.cons ⟨_,rfl,hw64 ▸ vG _ _⟩ (.cons kA .nil):KdsL [KF,KI] [.flt .f32 w64,.int .i64 w66])
   refine qL (φ:=φ0) (pm:=pmR 1 [(.len (n1 0),nI 3),(.ia 3 (n1 0) (nI 2),.ptr 0 0)] 10) 20 (ws:=[⟨l,(i * 3),[nF 7,nF 8,nF 10],false⟩]) (env:=[(24,nI 9),(6,.lit (.int .i64 2)),(15,.lit (.int .i64 1)),(16,.lit (.int .i64 2)),(13,.lit (.int .i64 2)),(14,.lit (.bool true)),(0,n1 0),(5,nI 2),(17,n1 0),(18,nI 2),(19,.lit (.int .i64 2)),(21,nF 10),(1,nI 11),(25,nI 11),(20,nI 11)]) q89 (.cons (jE row87 hP (dL q89)) .nil) (qI rfl) (.cons (qZ (dNd rfl rfl) (dNd rfl ⟨_,rfl⟩)) (.cons (zX (k:=i) (dNd rfl rfl) (dNd rfl ⟨_,rfl⟩) hn rfl) .nil)) (eC q89 (sc (sn B3) (.cons (jK b65) (.cons (jK b67) (.cons (jK b69) (.cons (jK b77) .nil)))))) qU qM ?_
   refine zA kr fun vs ls H9 E9 st hE=>?_
   have g9:Grew H86 H9:=(gk st)
   have r9:=g9.at row87
   have c9:E9 1=.int .i64 (IntKind.wrap .i64 (w66+1)):=qP st.inn hE 1 kr
   have d9:E9 5=.int .i64 (IntKind.wrap .i64 ((i:Int)+1)):=qP st.inn hE 5 kr
   have z9:E9 0=.slice l 0 ms.length cap 3:=qP st.inn hE 0 kr
   refine jV kr ⟨z - 1,hza,i+1,hzb,z9,?_,?_,g88.grew g9,?_⟩
   ·rw [c9,nw66,e2,hqn]
   ·rw [d9,hiw]
   ·rw [r9,qHc,<- hPe,<- hQ,<- hq,show [.flt .f32 w13,.flt .f32 w36,.flt .f32 w64]=qLX q from ?_,List.append_assoc]
    simp only [qLX,nw38,nw66,hw13,hw36,hw64,e0,e1,e2]
  ·intro vs ls H9 E9 st hE
   exact absurd hni (of_decide_eq_false (qCC (x:=decide ((i:Int) < (ms.length:Int))) st.inn 0 kr))
 ·obtain rfl:i=ms.length:=by omega
  have q90:KdsL [.one,KI,KI] [.slice l 0 ms.length cap 3,.int .i64 q,.int .i64 (ms.length:Int)]:=.cons rfl (.cons kA (.cons kA .nil))
  refine rD 0 10 [(.len (n1 0),nI 2)] [] [(0,n1 0),(1,nI 1),(5,nI 2)] q90 (.cons (qZ (dNd rfl rfl) (dNd rfl ⟨_,rfl⟩)) .nil) (.cons c0 (.cons c1 (.cons ci .nil))) ?_
  refine zA kr fun vs ls H91 E91 st hE=>?_
  have b92:=eo st hE 1 (.int .i64 q)
  have g93:Grew H0 H91:=(gk st)
  have g94:Only l H H91:=gO.grew g93
  have re:=g93.at row
  refine xL (id:=0) kr ?_
  refine rC 0 10 [] [(1,nI 1)] q90 (.cons b92 .nil) ?_
  refine zA kr fun vs ls H9 E9 st hE=>?_
  have g9:Grew H91 H9:=(gk st)
  refine jA kr (zJ st.inn hE (.inr rfl) (a:=.int .i64 q) kr (g94.grew g9).next ⟨by rw [hq],g94.grew g9,?_⟩)
  rw [g9.at re];simp
theorem qJe (H:AHeap) (ms:LL) (hr:xJ KV ms) (S:AV) (hS:SlW H 3 ms S) (k:Int) (h0:0<=k) (h1:k<=1152921504606846976) (hmax:ms.length<=1048576):qJ Try.prog 26 [S,.int .i64 k] H fun r H'=>r=.int .i64 (k+3 * (ms.length:Int))/\OnlyS S H H'/\SlW H' 3 (bU k ms.length) S:=by
 cases hS with
 | @sl l n cap rest hg hn hc =>
  subst hn
  refine(qIE H ms hr l cap rest hg k h0 h1 hmax).mono ?_
  rintro r H' ⟨rfl,ho,row⟩
  exact⟨rfl,.of_only ho,.sl row (qBq _ _) hc⟩
 | nil h =>
  subst h
  refine qF bS (by simp) ?_
  have q1:KdsL [KI] [.int .i64 k]:=kL
  refine rC 0 2 [] [(0,lN),(1,nI 0)] q1 (.cons (t:=0) rfl (.cons (t:=1) rfl .nil)) ?_
  refine zA kr fun vs ls H9 E9 st hE=>?_
  have g9:Grew H H9:=(gk st)
  exact jA kr (zJ st.inn hE (.inr rfl) (a:=.int .i64 k) kr g9.next ⟨by simp,.of_grew g9,.nil rfl⟩)
theorem qMQ {x y:ON} {ms pv L:LL} {wt g:ON} {t n d:Int} (h:qCz x ms pv wt t g=(y,L,n,d)) (hx:fOk .f32 x) (hr:xJ KM ms) (hrv:xJ KV pv) (hw:fOk .f32 wt):fOk .f32 y/\xJ KM L/\L.length<=1048576:=by
 have h0:fOk .f32 (some 0)/\xJ KM []/\([]:LL).length<=1048576:=⟨qPt,.nil,by decide⟩
 unfold qCz at h
 split at h
 ·rename_i ho
  split at h
  ·rename_i hc
   have key:∀ k,k<=pv.length->cM x ms pv wt t g k=0->OkMs (xY x ms pv wt t g k).1:=by
    intro k
    induction k with
    | zero=>exact fun _ _=>qBs hr ho
    | succ k ih =>
     intro hk hz
     have hz0:cM x ms pv wt t g k=0:=by
      by_cases c:cM x ms pv wt t g k=0
      ·exact c
      ·have:=qCy c 1
       rw [hz] at this
       exact absurd this.symm c
     obtain⟨v0,v1,v2,e,o0,o1,o2⟩:=tZ (hrv.get (show k < pv.length by omega))
     have he:pv.getD k []=[.flt .f32 v0,.flt .f32 v1,.flt .f32 v2]:=by rw [<- e,List.getD_eq_getElem?_getD,List.getElem?_eq_getElem (show k < pv.length by omega)];rfl
     rw [pM he]
     exact tM (ih om hz0) o0 o1 o2 hw ((bI he hz0).symm.trans hz)
   have hg:=key pv.length (Nat.le_refl _) hc
   cases h
   exact⟨hx,hg.rcs,Nat.le_trans hg.len (by decide)⟩
  ·cases h;exact h0
 ·cases h;exact h0
theorem qNM {H:AHeap} {a:AV} (h:qBB H (false,[.sl [.flt .f32,.flt .f32,.flt .f32]]) a):∃ pv,xJ KV pv/\SlL H 3 pv a/\pv.length<=9223372036854775807:=by
 obtain⟨_,e9,h9⟩:=h
 injection e9 with e9 _
 subst e9
 exact qOM (ks:=KV) (sz:=3) h9 rfl rfl
theorem qAI (H:AHeap) (vs:List AV) (h:qEn H [(true,[.flt .f32,.sl [.int .i32,.int .i32,.int .i32,.flt .f32,.flt .f32,.flt .f32,.flt .f32,.int .i64,.int .i64]]),(false,[.sl [.flt .f32,.flt .f32,.flt .f32]]),(false,[.flt .f32]),(false,[.int .i64]),(false,[.flt .f32])] vs):qJ Try.prog 6 vs H fun r _=>r=.bool true:=by
 match vs,h with
 | [q0,Sv,q2,q3,q4],h =>
 obtain⟨x,ms,S,rfl,hx,hr,hS,hmx⟩:=qOv h.1
 obtain⟨pv,hrv,hSv,hmxv⟩:=qNM h.2.1
 obtain⟨s2,z2,f2⟩:=h.2.2.1
 cases z2
 cases f2
 rename_i wt hwt
 obtain⟨s3,z3,f3⟩:=h.2.2.2.1
 cases z3
 cases f3
 rename_i t _
 obtain⟨s4,z4,f4⟩:=h.2.2.2.2.1
 cases z4
 cases f4
 rename_i g hg
 clear h
 obtain⟨y,L,n,d,hV⟩:∃ y L n d,qCz x ms pv wt t g=(y,L,n,d):=⟨_,_,_,_,rfl⟩
 obtain⟨hy,hL,mxL⟩:=qMQ hV hx hr hrv hwt
 refine qF xN (by simp) ?_
 obtain⟨q1,kq1,hq1⟩:∃ r:Int,(∀ H9,Grew H H9->qR Try.prog 7 [.agg [.flt .f32 x,S],.int .i64 1048576] H9 (.int .i64 r))/\(r = -1 \/ (0<=r/\r=1048576 - ms.length)):=⟨_,fun H9 hk=>qGW H9 x hx ms S (hS.grew (Grew.trans (Grew.refl _) hk)) 1048576 om om hmx,by split <;> omega⟩
 obtain⟨q2,kq2,hq2⟩:∃ r:Int,(∀ H9,Grew H H9->qR Try.prog 21 [Sv,.int .i64 q1] H9 (.int .i64 r))/\(((q1:Int) - (pv.length:Int) < 0/\r = -1) \/ (0<=(q1:Int) - (pv.length:Int)/\r=(q1:Int) - (pv.length:Int))):=⟨_,fun H9 hk=>qLQ H9 pv Sv (hSv.grew (Grew.trans (Grew.refl _) hk)) q1 om om hmxv,by split <;> omega⟩
 have q3:KdsL [KF,.one,.one,KF,KI,KF,KF,KI,KI,KI,KI] [.flt .f32 x,S,Sv,.flt .f32 wt,.int .i64 t,.flt .f32 g,.flt .f32 y,.int .i64 n,.int .i64 d,.int .i64 q1,.int .i64 q2]:=kL
 refine rD 0 4 [(.call 7 [.agg [nF 0,n1 1],.lit (.int .i64 1048576)],nI 9),(.call 21 [n1 2,nI 9],nI 10)] [] [(0,.agg [nF 0,n1 1]),(1,n1 2),(2,nF 3),(3,nI 4),(4,nF 5)] q3 (.cons (qH (args:=[.agg [.flt .f32 x,S],.int .i64 1048576]) (dL q3) (dE q3) (fun H9 hk=>kq1 H9 (hk.grew (Nat.le_refl _)))) (.cons (qH (args:=[Sv,.int .i64 q1]) (dL q3) (dE q3) (fun H9 hk=>kq2 H9 (hk.grew (Nat.le_refl _)))) .nil)) (.cons (t:=0) rfl (.cons (t:=1) rfl (.cons (t:=2) rfl (.cons (t:=3) rfl (.cons (t:=4) rfl .nil))))) ?_
 refine qFf kr ?_ ?_ ?_
 ·intro vs ls H4 E4 st hE
  have f5:q1 < 0:=dt st 0
  exact jA kr (zJ st.inn hE (.inr rfl) (a:=.bool true) kr (Nat.le_trans (Nat.le_refl _) st.kept.1) rfl)
 ·intro vs ls H6 E6 st hE
  have f7:q2 < 0:=dt st 0
  have f8:¬ (q1 < 0):=df st 1
  have mxms:ms.length<=1048576:=by omega
  exact jA kr (zJ st.inn hE (.inr rfl) (a:=.bool true) kr (Nat.le_trans (Nat.le_refl _) st.kept.1) rfl)
 ·intro vs ls H9 E9 st hE
  have f10:¬ (q2 < 0):=df st 0
  have f11:¬ (q1 < 0):=df st 1
  have mxms:ms.length<=1048576:=by omega
  obtain⟨p12,e13,r14,n15⟩:=pO st hE 5 0 [.flt .f32 x,S]
  have op12:H.next<=p12:=Nat.le_trans (Nat.le_refl _) (oM n15)
  have b16:=eo st hE 37 (.agg [.flt .f32 x,S])
  have B1:=es st hE [(37,.agg [.flt .f32 x,S]),(1,Sv),(2,.flt .f32 wt),(3,.int .i64 t),(4,.flt .f32 g)]
  have g21:Grew H H9:=(gk st)
  have g22:Grew H H9:=Grew.trans (Grew.refl _) g21
  have mxpv:pv.length<=1048576:=by omega
  have mxms:ms.length<=1048576:=by omega
  refine zB (d:=(some 38)) (f:=9) (args:=[.tmp 37]) kr (R:=fun z H'=>Grew H9 H' /\ ∃ S',z=.agg [.flt .f32 x,S']/\SlW H' 9 ms S'/\FreshS H9.next S') ?_ ?_
  ·show qJ _ _ [E9 37] _ _
   rw [b16]
   exact mM H9 x hx ms hr S (hS.grew g22) mxms
  rintro z H24 ⟨gS23,S23,rfl,sS23,fS23⟩
  have ne25:ApartL (S23) p12:=fS23.apartL (H9.lt_of_get r14)
  have fr26:FreshS H.next (S23):=fS23.mono g22.next
  have g27:=Grew.trans g22 gS23
  have r28:=gS23.at r14
  have q29:=q3.app (kL:KdsL [.one] [S23])
  refine qL (φ:=φ0) (pm:=pmR 1 [] 4) 20 (ws:=[wf p12 [nF 0,n1 1]]) (env:=[(37,.agg [nF 0,n1 1]),(1,n1 2),(2,nF 3),(3,nI 4),(4,nF 5),(5,.ptr 0 0),(38,.agg [nF 0,n1 11])]) q29 (.cons (wR r28 q29) .nil) (qI rfl) .nil (eC q29 (sc (sp B1) (.cons (qD rfl e13) (.cons qB .nil)))) qU qM ?_
  refine zA kr fun vs ls H30 E30 st hE=>?_
  have b31:=eo st hE 39 Sv
  have B2:=es st hE [(39,Sv),(2,.flt .f32 wt),(3,.int .i64 t),(4,.flt .f32 g),(38,.agg [.flt .f32 x,S23]),(5,.ptr p12 0),(1,Sv)]
  have g38:Grew H24 H30:=(gk st)
  have g39:=Grew.trans g27 g38
  have r40:=g38.at r28
  have s41:=sS23.grew g38
  refine zB (d:=(some 40)) (f:=23) (args:=[.tmp 39]) kr (R:=fun z H'=>Grew H30 H'/\SlW H' 3 pv z/\FreshS H30.next z) ?_ ?_
  ·show qJ _ _ [E30 39] _ _
   rw [b31]
   exact qCx H30 pv hrv Sv (hSv.grew g39) mxpv
  rintro S42 H43 ⟨gS42,sS42,fS42⟩
  have ne44:ApartL (S42) p12:=fS42.apartL (H30.lt_of_get r40)
  have ne45:ApartS (S42) (S23):=fS42.apartS s41.lt
  have fr46:FreshS H.next (S42):=fS42.mono g39.next
  have g47:=Grew.trans g39 gS42
  have r48:=gS42.at r40
  have s49:=s41.grew gS42
  have q50:=q29.app (kL:KdsL [.one] [S42])
  refine qL (φ:=φ0) (pm:=pmR 1 [] 4) 20 (ws:=[wf p12 [nF 0,n1 1]]) (env:=[(39,n1 2),(2,nF 3),(3,nI 4),(4,nF 5),(38,.agg [nF 0,n1 11]),(5,.ptr 0 0),(1,n1 2),(40,n1 12)]) q50 (.cons (wR r48 q50) .nil) (qI rfl) .nil (eC q50 (sc (sp B2) (.cons qB .nil))) qU qM ?_
  refine zA kr fun vs ls H51 E51 st hE=>?_
  have b52:=eo st hE 38 (.agg [.flt .f32 x,S23])
  have b53:=eo st hE 40 S42
  have b54:=eo st hE 41 (.flt .f32 wt)
  have b55:=eo st hE 42 (.int .i64 t)
  have b56:=eo st hE 43 (.flt .f32 g)
  have B3:=es st hE [(38,.agg [.flt .f32 x,S23]),(40,S42),(41,.flt .f32 wt),(42,.int .i64 t),(43,.flt .f32 g),(5,.ptr p12 0),(1,Sv),(2,.flt .f32 wt),(3,.int .i64 t),(4,.flt .f32 g)]
  have g62:Grew H43 H51:=(gk st)
  have g63:=Grew.trans g47 g62
  have r64:=g62.at r48
  have s65:=s49.grew g62
  have s66:=sS42.grew g62
  refine zB (d:=(some 44)) (f:=22) (args:=[.tmp 38,.tmp 40,.tmp 41,.tmp 42,.tmp 43]) kr (R:=fun z H'=>Grew H51 H' /\ ∃ S',z=.tuple [.agg [.flt .f32 y,S'],.int .i64 n,.int .i64 d]/\SlW H' 9 L S'/\FreshS H51.next S') ?_ ?_
  ·show qJ _ _ [E51 38,E51 40,E51 41,E51 42,E51 43] _ _
   rw [b52,b53,b54,b55,b56]
   exact(by have h9:=qBo H51 x hx ms hr (S23) s65.toL mxms pv hrv (S42) s66.toL mxpv wt hwt t g hg;rw [hV] at h9;exact h9)
  rintro z H67 ⟨gH67,S68,rfl,sS68,fS68⟩
  have ne69:ApartL (S68) p12:=fS68.apartL (H51.lt_of_get r64)
  have ne70:ApartS (S68) (S23):=fS68.apartS s65.lt
  have ne71:ApartS (S68) (S42):=fS68.apartS s66.lt
  have fr72:FreshS H.next (S68):=fS68.mono g63.next
  have g73:=Grew.trans g63 gH67
  have r74:=gH67.at r64
  have s75:=s65.grew gH67
  have s76:=s66.grew gH67
  have q77:=q50.app (kL:KdsL [.one] [S68])
  refine qL (φ:=φ0) (pm:=pmR 1 [] 4) 20 (ws:=[wf p12 [nF 0,n1 1]]) (env:=[(38,.agg [nF 0,n1 11]),(40,n1 12),(41,nF 3),(42,nI 4),(43,nF 5),(5,.ptr 0 0),(1,n1 2),(2,nF 3),(3,nI 4),(4,nF 5),(44,.tup [.agg [nF 6,n1 13],nI 7,nI 8])]) q77 (.cons (wR r74 q77) .nil) (qI rfl) .nil (eC q77 (sc (sp B3) (.cons qB .nil))) qU qM ?_
  refine zA kr fun vs ls H78 E78 st hE=>?_
  obtain⟨p79,e80,r81,n82⟩:=pO st hE 12 1 [.flt .f32 y,S68]
  have op79:H.next<=p79:=Nat.le_trans g73.next (oM n82)
  have ne83:=apn r74 (oM n82)
  have ne84:ApartL (S23) p79:=s75.apart_new (oM n82)
  have ne85:ApartL (S42) p79:=s76.apart_new (oM n82)
  have ne86:ApartL (S68) p79:=sS68.apart_new (oM n82)
  have b87:=eo st hE 48 (.agg [.flt .f32 x,S])
  have B4:=es st hE [(48,.agg [.flt .f32 x,S]),(1,Sv),(2,.flt .f32 wt),(3,.int .i64 t),(4,.flt .f32 g),(13,.int .i64 n),(14,.int .i64 d),(5,.ptr p12 0)]
  have g95:Grew H67 H78:=(gk st)
  have g96:=Grew.trans g73 g95
  have r97:=g95.at r74
  have s98:=s75.grew g95
  have s99:=s76.grew g95
  have s100:=sS68.grew g95
  refine zB (d:=(some 49)) (f:=9) (args:=[.tmp 48]) kr (R:=fun z H'=>Grew H78 H' /\ ∃ S',z=.agg [.flt .f32 x,S']/\SlW H' 9 ms S'/\FreshS H78.next S') ?_ ?_
  ·show qJ _ _ [E78 48] _ _
   rw [b87]
   exact mM H78 x hx ms hr S (hS.grew g96) mxms
  rintro z H102 ⟨gS101,S101,rfl,sS101,fS101⟩
  have ne103:ApartL (S101) p12:=fS101.apartL (H78.lt_of_get r97)
  have ne104:ApartL (S101) p79:=fS101.apartL (H78.lt_of_get r81)
  have ne105:ApartS (S101) (S23):=fS101.apartS s98.lt
  have ne106:ApartS (S101) (S42):=fS101.apartS s99.lt
  have ne107:ApartS (S101) (S68):=fS101.apartS s100.lt
  have fr108:FreshS H.next (S101):=fS101.mono g96.next
  have g109:=Grew.trans g96 gS101
  have r110:=gS101.at r97
  have r111:=gS101.at r81
  have s112:=s98.grew gS101
  have s113:=s99.grew gS101
  have s114:=s100.grew gS101
  have q115:=q77.app (kL:KdsL [.one] [S101])
  refine rC 2 4 [wf p12 [nF 0,n1 1],wf p79 [nF 6,n1 13]] [(48,.agg [nF 0,n1 1]),(1,n1 2),(2,nF 3),(3,nI 4),(4,nF 5),(13,nI 7),(14,nI 8),(5,.ptr 0 0),(12,.ptr 1 0),(49,.agg [nF 0,n1 14])] q115 (sc (sp B4) (.cons (qD rfl e80) (.cons qB .nil))) ?_
  refine zA kr fun vs ls H116 E116 st hE=>?_
  obtain⟨p117,e118,r119,n120⟩:=pO st hE 15 2 [.flt .f32 x,S101]
  have op117:H.next<=p117:=Nat.le_trans g109.next (oM n120)
  have ne121:=apn r110 (oM n120)
  have ne122:=apn r111 (oM n120)
  have ne123:ApartL (S23) p117:=s112.apart_new (oM n120)
  have ne124:ApartL (S42) p117:=s113.apart_new (oM n120)
  have ne125:ApartL (S68) p117:=s114.apart_new (oM n120)
  have ne126:ApartL (S101) p117:=sS101.apart_new (oM n120)
  have b127:=eo st hE 50 Sv
  have B5:=es st hE [(50,Sv),(2,.flt .f32 wt),(3,.int .i64 t),(4,.flt .f32 g),(12,.ptr p79 0),(13,.int .i64 n),(14,.int .i64 d),(5,.ptr p12 0),(1,Sv)]
  have g136:Grew H102 H116:=(gk st)
  have g137:=Grew.trans g109 g136
  have r138:=g136.at r110
  have r139:=g136.at r111
  have s140:=s112.grew g136
  have s141:=s113.grew g136
  have s142:=s114.grew g136
  have s143:=sS101.grew g136
  refine zB (d:=(some 51)) (f:=23) (args:=[.tmp 50]) kr (R:=fun z H'=>Grew H116 H'/\SlW H' 3 pv z/\FreshS H116.next z) ?_ ?_
  ·show qJ _ _ [E116 50] _ _
   rw [b127]
   exact qCx H116 pv hrv Sv (hSv.grew g137) mxpv
  rintro S144 H145 ⟨gS144,sS144,fS144⟩
  have ne146:ApartL (S144) p12:=fS144.apartL (H116.lt_of_get r138)
  have ne147:ApartL (S144) p79:=fS144.apartL (H116.lt_of_get r139)
  have ne148:ApartL (S144) p117:=fS144.apartL (H116.lt_of_get r119)
  have ne149:ApartS (S144) (S23):=fS144.apartS s140.lt
  have ne150:ApartS (S144) (S42):=fS144.apartS s141.lt
  have ne151:ApartS (S144) (S68):=fS144.apartS s142.lt
  have ne152:ApartS (S144) (S101):=fS144.apartS s143.lt
  have fr153:FreshS H.next (S144):=fS144.mono g137.next
  have g154:=Grew.trans g137 gS144
  have r155:=gS144.at r138
  have r156:=gS144.at r139
  have r157:=gS144.at r119
  have s158:=s140.grew gS144
  have s159:=s141.grew gS144
  have s160:=s142.grew gS144
  have s161:=s143.grew gS144
  have q162:=q115.app (kL:KdsL [.one] [S144])
  refine rC 3 4 [wf p12 [nF 0,n1 1],wf p79 [nF 6,n1 13],wf p117 [nF 0,n1 14]] [(50,n1 2),(2,nF 3),(3,nI 4),(4,nF 5),(12,.ptr 1 0),(13,nI 7),(14,nI 8),(5,.ptr 0 0),(1,n1 2),(15,.ptr 2 0),(51,n1 15)] q162 (sc (sp B5) (.cons (qD rfl e118) (.cons qB .nil))) ?_
  refine zA kr fun vs ls H163 E163 st hE=>?_
  have b164:=eo st hE 53 (.agg [.flt .f32 x,S101])
  have b165:=eo st hE 54 S144
  have b166:=eo st hE 55 (.flt .f32 wt)
  have b167:=eo st hE 56 (.int .i64 t)
  have b168:=eo st hE 57 (.flt .f32 g)
  have B6:=es st hE [(53,.agg [.flt .f32 x,S101]),(54,S144),(55,.flt .f32 wt),(56,.int .i64 t),(57,.flt .f32 g),(12,.ptr p79 0),(13,.int .i64 n),(14,.int .i64 d),(15,.ptr p117 0),(5,.ptr p12 0),(16,S144),(1,Sv),(2,.flt .f32 wt),(3,.int .i64 t),(4,.flt .f32 g)]
  have g179:Grew H145 H163:=(gk st)
  have g180:=Grew.trans g154 g179
  have r181:=g179.at r155
  have r182:=g179.at r156
  have r183:=g179.at r157
  have s184:=s158.grew g179
  have s185:=s159.grew g179
  have s186:=s160.grew g179
  have s187:=s161.grew g179
  have s188:=sS144.grew g179
  refine zB (d:=(some 58)) (f:=24) (args:=[.tmp 53,.tmp 54,.tmp 55,.tmp 56,.tmp 57]) kr (R:=fun z H'=>Grew H163 H' /\ ∃ S',z=.tuple [.agg [.flt .f32 y,S'],.int .i64 n,.int .i64 d]/\SlW H' 9 L S'/\FreshS H163.next S') ?_ ?_
  ·show qJ _ _ [E163 53,E163 54,E163 55,E163 56,E163 57] _ _
   rw [b164,b165,b166,b167,b168]
   exact(by have h9:=gW H163 x hx ms hr (S101) s187.toL mxms pv hrv (S144) s188.toL mxpv wt hwt t g hg;rw [hV] at h9;exact h9)
  rintro z H189 ⟨gH189,S190,rfl,sS190,fS190⟩
  have ne191:ApartL (S190) p12:=fS190.apartL (H163.lt_of_get r181)
  have ne192:ApartL (S190) p79:=fS190.apartL (H163.lt_of_get r182)
  have ne193:ApartL (S190) p117:=fS190.apartL (H163.lt_of_get r183)
  have ne194:ApartS (S190) (S23):=fS190.apartS s184.lt
  have ne195:ApartS (S190) (S42):=fS190.apartS s185.lt
  have ne196:ApartS (S190) (S68):=fS190.apartS s186.lt
  have ne197:ApartS (S190) (S101):=fS190.apartS s187.lt
  have ne198:ApartS (S190) (S144):=fS190.apartS s188.lt
  have fr199:FreshS H.next (S190):=fS190.mono g180.next
  have g200:=Grew.trans g180 gH189
  have r201:=gH189.at r181
  have r202:=gH189.at r182
  have r203:=gH189.at r183
  have s204:=s184.grew gH189
  have s205:=s185.grew gH189
  have s206:=s186.grew gH189
  have s207:=s187.grew gH189
  have s208:=s188.grew gH189
  have q209:=q162.app (kL:KdsL [.one] [S190])
  refine rD 3 4 [(.call 12 [.agg [nF 6,n1 16],.agg [nF 6,n1 13]],.lit (.bool true))] [wf p12 [nF 0,n1 1],wf p79 [nF 6,n1 13],wf p117 [nF 0,n1 14]] [(53,.agg [nF 0,n1 14]),(54,n1 15),(55,nF 3),(56,nI 4),(57,nF 5),(12,.ptr 1 0),(13,nI 7),(14,nI 8),(15,.ptr 2 0),(5,.ptr 0 0),(16,n1 15),(1,n1 2),(2,nF 3),(3,nI 4),(4,nF 5),(58,.tup [.agg [nF 6,n1 16],nI 7,nI 8])] q209 (.cons (qH (args:=[.agg [.flt .f32 y,S190],.agg [.flt .f32 y,S68]]) (dL q209) (dE q209) (fun H9 hk=>mC H9 y hy L hL _ _ ((sS190.grew (hk.grew (Nat.le_refl _)))).toL ((s206.grew (hk.grew (Nat.le_refl _)))).toL (qLY mxL))) .nil) (sc (sp B6) (.cons qB .nil)) ?_
  refine zA kr fun vs ls H210 E210 st hE=>?_
  obtain⟨p211,e212,r213,n214⟩:=pO st hE 17 3 [.flt .f32 y,S190]
  have op211:H.next<=p211:=Nat.le_trans g200.next (oM n214)
  have ne215:=apn r201 (oM n214)
  have ne216:=apn r202 (oM n214)
  have ne217:=apn r203 (oM n214)
  have ne218:ApartL (S23) p211:=s204.apart_new (oM n214)
  have ne219:ApartL (S42) p211:=s205.apart_new (oM n214)
  have ne220:ApartL (S68) p211:=s206.apart_new (oM n214)
  have ne221:ApartL (S101) p211:=s207.apart_new (oM n214)
  have ne222:ApartL (S144) p211:=s208.apart_new (oM n214)
  have ne223:ApartL (S190) p211:=sS190.apart_new (oM n214)
  have b224:=eo st hE 77 (.agg [.flt .f32 x,S])
  have B7:=es st hE [(77,.agg [.flt .f32 x,S]),(76,.agg [.flt .f32 x,S101]),(16,S144),(1,Sv),(15,.ptr p117 0),(12,.ptr p79 0),(18,.int .i64 n),(13,.int .i64 n),(19,.int .i64 d),(14,.int .i64 d),(5,.ptr p12 0),(2,.flt .f32 wt),(3,.int .i64 t),(4,.flt .f32 g)]
  have g238:Grew H189 H210:=(gk st)
  have g239:=Grew.trans g200 g238
  have r240:=g238.at r201
  have r241:=g238.at r202
  have r242:=g238.at r203
  have s243:=s204.grew g238
  have s244:=s205.grew g238
  have s245:=s206.grew g238
  have s246:=s207.grew g238
  have s247:=s208.grew g238
  have s248:=sS190.grew g238
  refine qHk (free:=false) (d:=(some 78)) (f:=9) (args:=[.tmp 77]) kr (R:=fun z H'=>Grew H210 H' /\ ∃ S',z=.agg [.flt .f32 x,S']/\SlW H' 9 ms S'/\FreshS H210.next S') ?_ ?_
  ·show qJ _ _ [E210 77] _ _
   rw [b224]
   exact mM H210 x hx ms hr S (hS.grew g239) mxms
  rintro z H250 ⟨gS249,S249,rfl,sS249,fS249⟩
  refine⟨gS249,?_⟩
  have ne251:ApartL (S249) p12:=fS249.apartL (H210.lt_of_get r240)
  have ne252:ApartL (S249) p79:=fS249.apartL (H210.lt_of_get r241)
  have ne253:ApartL (S249) p117:=fS249.apartL (H210.lt_of_get r242)
  have ne254:ApartL (S249) p211:=fS249.apartL (H210.lt_of_get r213)
  have ne255:ApartS (S249) (S23):=fS249.apartS s243.lt
  have ne256:ApartS (S249) (S42):=fS249.apartS s244.lt
  have ne257:ApartS (S249) (S68):=fS249.apartS s245.lt
  have ne258:ApartS (S249) (S101):=fS249.apartS s246.lt
  have ne259:ApartS (S249) (S144):=fS249.apartS s247.lt
  have ne260:ApartS (S249) (S190):=fS249.apartS s248.lt
  have fr261:FreshS H.next (S249):=fS249.mono g239.next
  have g262:=Grew.trans g239 gS249
  have r263:=gS249.at r240
  have r264:=gS249.at r241
  have r265:=gS249.at r242
  have r266:=gS249.at r213
  have s267:=s243.grew gS249
  have s268:=s244.grew gS249
  have s269:=s245.grew gS249
  have s270:=s246.grew gS249
  have s271:=s247.grew gS249
  have s272:=s248.grew gS249
  have q273:=q209.app (kL:KdsL [.one] [S249])
  refine rD 4 4 [(.call 12 [.agg [nF 0,n1 14],.agg [nF 0,n1 17]],.lit (.bool true))] [wf p12 [nF 0,n1 1],wf p79 [nF 6,n1 13],wf p117 [nF 0,n1 14],wf p211 [nF 6,n1 16]] [(77,.agg [nF 0,n1 1]),(76,.agg [nF 0,n1 14]),(16,n1 15),(1,n1 2),(15,.ptr 2 0),(12,.ptr 1 0),(18,nI 7),(13,nI 7),(19,nI 8),(14,nI 8),(5,.ptr 0 0),(2,nF 3),(3,nI 4),(4,nF 5),(17,.ptr 3 0),(78,.agg [nF 0,n1 17])] q273 (.cons (qH (args:=[.agg [.flt .f32 x,S101],.agg [.flt .f32 x,S249]]) (dL q273) (dE q273) (fun H9 hk=>mC H9 x hx ms hr _ _ ((s270.grew (hk.grew (Nat.le_refl _)))).toL ((sS249.grew (hk.grew (Nat.le_refl _)))).toL (qLY mxms))) .nil) (sc (sp B7) (.cons (qD rfl e212) (.cons qB .nil))) ?_
  refine zA kr fun vs ls H274 E274 st hE=>?_
  have b275:=eo st hE 82 Sv
  have B8:=es st hE [(82,Sv),(81,S144),(15,.ptr p117 0),(16,S144),(17,.ptr p211 0),(12,.ptr p79 0),(18,.int .i64 n),(13,.int .i64 n),(19,.int .i64 d),(14,.int .i64 d),(5,.ptr p12 0),(1,Sv),(2,.flt .f32 wt),(3,.int .i64 t),(4,.flt .f32 g)]
  have g290:Grew H250 H274:=(gk st)
  have g291:=Grew.trans g262 g290
  have r292:=g290.at r263
  have r293:=g290.at r264
  have r294:=g290.at r265
  have r295:=g290.at r266
  have s296:=s267.grew g290
  have s297:=s268.grew g290
  have s298:=s269.grew g290
  have s299:=s270.grew g290
  have s300:=s271.grew g290
  have s301:=s272.grew g290
  have s302:=sS249.grew g290
  refine zB (d:=(some 83)) (f:=23) (args:=[.tmp 82]) kr (R:=fun z H'=>Grew H274 H'/\SlW H' 3 pv z/\FreshS H274.next z) ?_ ?_
  ·show qJ _ _ [E274 82] _ _
   rw [b275]
   exact qCx H274 pv hrv Sv (hSv.grew g291) mxpv
  rintro S303 H304 ⟨gS303,sS303,fS303⟩
  have ne305:ApartL (S303) p12:=fS303.apartL (H274.lt_of_get r292)
  have ne306:ApartL (S303) p79:=fS303.apartL (H274.lt_of_get r293)
  have ne307:ApartL (S303) p117:=fS303.apartL (H274.lt_of_get r294)
  have ne308:ApartL (S303) p211:=fS303.apartL (H274.lt_of_get r295)
  have ne309:ApartS (S303) (S23):=fS303.apartS s296.lt
  have ne310:ApartS (S303) (S42):=fS303.apartS s297.lt
  have ne311:ApartS (S303) (S68):=fS303.apartS s298.lt
  have ne312:ApartS (S303) (S101):=fS303.apartS s299.lt
  have ne313:ApartS (S303) (S144):=fS303.apartS s300.lt
  have ne314:ApartS (S303) (S190):=fS303.apartS s301.lt
  have ne315:ApartS (S303) (S249):=fS303.apartS s302.lt
  have fr316:FreshS H.next (S303):=fS303.mono g291.next
  have g317:=Grew.trans g291 gS303
  have r318:=gS303.at r292
  have r319:=gS303.at r293
  have r320:=gS303.at r294
  have r321:=gS303.at r295
  have s322:=s296.grew gS303
  have s323:=s297.grew gS303
  have s324:=s298.grew gS303
  have s325:=s299.grew gS303
  have s326:=s300.grew gS303
  have s327:=s301.grew gS303
  have s328:=s302.grew gS303
  have q329:=q273.app (kL:KdsL [.one] [S303])
  refine rD 4 4 [(.call 25 [n1 15,n1 18],.lit (.bool true))] [wf p12 [nF 0,n1 1],wf p79 [nF 6,n1 13],wf p117 [nF 0,n1 14],wf p211 [nF 6,n1 16]] [(82,n1 2),(81,n1 15),(15,.ptr 2 0),(16,n1 15),(17,.ptr 3 0),(12,.ptr 1 0),(18,nI 7),(13,nI 7),(19,nI 8),(14,nI 8),(5,.ptr 0 0),(1,n1 2),(2,nF 3),(3,nI 4),(4,nF 5),(83,n1 18)] q329 (.cons (qH (args:=[S144,S303]) (dL q329) (dE q329) (fun H9 hk=>qLK H9 pv hrv _ _ ((s326.grew (hk.grew (Nat.le_refl _)))).toL ((sS303.grew (hk.grew (Nat.le_refl _)))).toL (qLY mxpv))) .nil) (sc (sp B8) (.cons qB .nil)) ?_
  refine zA kr fun vs ls H330 E330 st hE=>?_
  have b331:=eo st hE 86 (.agg [.flt .f32 x,S101])
  have b332:=eo st hE 87 (.int .i64 1)
  have B9:=es st hE [(86,.agg [.flt .f32 x,S101]),(87,.int .i64 1),(16,S144),(20,.int .i64 1),(17,.ptr p211 0),(12,.ptr p79 0),(18,.int .i64 n),(13,.int .i64 n),(19,.int .i64 d),(14,.int .i64 d),(5,.ptr p12 0),(1,Sv),(2,.flt .f32 wt),(3,.int .i64 t),(4,.flt .f32 g)]
  have g346:Grew H304 H330:=(gk st)
  have g347:=Grew.trans g317 g346
  have r348:=g346.at r318
  have r349:=g346.at r319
  have r351:=g346.at r321
  have s352:=s322.grew g346
  have s353:=s323.grew g346
  have s354:=s324.grew g346
  have s355:=s325.grew g346
  have s356:=s326.grew g346
  have s357:=s327.grew g346
  have s358:=s328.grew g346
  have s359:=sS303.grew g346
  refine zB (d:=(some 88)) (f:=13) (args:=[.tmp 86,.tmp 87]) kr (R:=fun z H'=>z=.int .i64 (1+9 * (ms.length:Int))/\OnlyS S101 H330 H'/\SlW H' 9 (jS 1 ms.length) S101) ?_ ?_
  ·show qJ _ _ [E330 86,E330 87] _ _
   rw [b331,b332]
   exact qBb H330 x hx ms hr S101 s355 1 (by decide) (by decide) mxms
  rintro z H360 ⟨rfl,oH360,nH360⟩
  have g361:Grew H H360:=OnlyS.own g347 fr108 oH360
  have r362:=oH360.at r348 am
  have r363:=oH360.at r349 am
  have r364:=oH360.at r351 am
  have s365:=s352.only oH360 (by first | assumption | exact ApartS.symm am)
  have s366:=s353.only oH360 (by first | assumption | exact ApartS.symm am)
  have s367:=s354.only oH360 (by first | assumption | exact ApartS.symm am)
  have s368:=s356.only oH360 (by first | assumption | exact ApartS.symm am)
  have s369:=s357.only oH360 (by first | assumption | exact ApartS.symm am)
  have s370:=s358.only oH360 (by first | assumption | exact ApartS.symm am)
  have s371:=s359.only oH360 (by first | assumption | exact ApartS.symm am)
  have q372:=q329.app (kL:KdsL [KI] [.int .i64 (1+9 * (ms.length:Int))])
  refine rC 3 4 [wf p12 [nF 0,n1 1],wf p79 [nF 6,n1 13],wf p211 [nF 6,n1 16]] [(86,.agg [nF 0,n1 14]),(87,.lit (.int .i64 1)),(16,n1 15),(20,.lit (.int .i64 1)),(17,.ptr 2 0),(12,.ptr 1 0),(18,nI 7),(13,nI 7),(19,nI 8),(14,nI 8),(5,.ptr 0 0),(1,n1 2),(2,nF 3),(3,nI 4),(4,nF 5),(88,nI 19)] q372 (sc (sp B9) (.cons qB .nil)) ?_
  refine zA kr fun vs ls H373 E373 st hE=>?_
  have b374:=eo st hE 89 S144
  have b375:=eo st hE 90 (.int .i64 (1+9 * (ms.length:Int)))
  have B10:=es st hE [(89,S144),(90,.int .i64 (1+9 * (ms.length:Int))),(20,.int .i64 (1+9 * (ms.length:Int))),(17,.ptr p211 0),(12,.ptr p79 0),(18,.int .i64 n),(13,.int .i64 n),(19,.int .i64 d),(14,.int .i64 d),(5,.ptr p12 0),(1,Sv),(2,.flt .f32 wt),(3,.int .i64 t),(4,.flt .f32 g)]
  have g388:Grew H360 H373:=(gk st)
  have g389:=Grew.trans g361 g388
  have r390:=g388.at r362
  have r391:=g388.at r363
  have r392:=g388.at r364
  have s393:=s365.grew g388
  have s394:=s366.grew g388
  have s395:=s367.grew g388
  have s396:=nH360.grew g388
  have s397:=s368.grew g388
  have s398:=s369.grew g388
  have s399:=s370.grew g388
  have s400:=s371.grew g388
  refine zB (d:=(some 91)) (f:=26) (args:=[.tmp 89,.tmp 90]) kr (R:=fun z H'=>z=.int .i64 ((1+9 * (ms.length:Int))+3 * (pv.length:Int))/\OnlyS S144 H373 H'/\SlW H' 3 (bU (1+9 * (ms.length:Int)) pv.length) S144) ?_ ?_
  ·show qJ _ _ [E373 89,E373 90] _ _
   rw [b374,b375]
   exact qJe H373 pv hrv S144 s397 (1+9 * (ms.length:Int)) om om mxpv
  rintro z H401 ⟨rfl,oH401,nH401⟩
  have g402:Grew H H401:=OnlyS.own g389 fr153 oH401
  have r403:=oH401.at r390 am
  have r404:=oH401.at r391 am
  have r405:=oH401.at r392 am
  have s406:=s393.only oH401 (by first | assumption | exact ApartS.symm am)
  have s407:=s394.only oH401 (by first | assumption | exact ApartS.symm am)
  have s408:=s395.only oH401 (by first | assumption | exact ApartS.symm am)
  have s409:=s396.only oH401 (by first | assumption | exact ApartS.symm am)
  have s410:=s398.only oH401 (by first | assumption | exact ApartS.symm am)
  have s411:=s399.only oH401 (by first | assumption | exact ApartS.symm am)
  have s412:=s400.only oH401 (by first | assumption | exact ApartS.symm am)
  have q413:=q372.app (kL:KdsL [KI] [.int .i64 ((1+9 * (ms.length:Int))+3 * (pv.length:Int))])
  refine rD 3 4 [(.call 12 [.agg [nF 6,n1 16],.agg [nF 6,n1 13]],.lit (.bool true))] [wf p12 [nF 0,n1 1],wf p79 [nF 6,n1 13],wf p211 [nF 6,n1 16]] [(89,n1 15),(90,nI 19),(20,nI 19),(17,.ptr 2 0),(12,.ptr 1 0),(18,nI 7),(13,nI 7),(19,nI 8),(14,nI 8),(5,.ptr 0 0),(1,n1 2),(2,nF 3),(3,nI 4),(4,nF 5),(91,nI 20)] q413 (.cons (qH (args:=[.agg [.flt .f32 y,S190],.agg [.flt .f32 y,S68]]) (dL q413) (dE q413) (fun H9 hk=>mC H9 y hy L hL _ _ ((s410.grew (hk.grew (Nat.le_refl _)))).toL ((s408.grew (hk.grew (Nat.le_refl _)))).toL (qLY mxL))) .nil) (sc (sp B10) (.cons qB .nil)) ?_
  refine dB kr ?_ ?_
  ·intro vs ls H414 E414 st hE
   have f415:((1+9 * (ms.length:Int))+3 * (pv.length:Int)) < 0:=dt st 0
   exact absurd f415 om
  ·intro vs ls H416 E416 st hE
   have f417:¬ (((1+9 * (ms.length:Int))+3 * (pv.length:Int)) < 0):=df st 0
   have b418:=eo st hE 110 (.agg [.flt .f32 y,S190])
   have b419:=eo st hE 111 (.int .i64 1)
   have B11:=es st hE [(110,.agg [.flt .f32 y,S190]),(111,.int .i64 1),(17,.ptr p211 0),(21,.int .i64 1),(5,.ptr p12 0),(1,Sv),(2,.flt .f32 wt),(3,.int .i64 t),(4,.flt .f32 g),(12,.ptr p79 0),(13,.int .i64 n),(14,.int .i64 d)]
   have g430:Grew H401 H416:=(gk st)
   have g431:=Grew.trans g402 g430
   have r432:=g430.at r403
   have r433:=g430.at r404
   have r434:=g430.at r405
   have s435:=s406.grew g430
   have s436:=s407.grew g430
   have s437:=s408.grew g430
   have s438:=s409.grew g430
   have s439:=nH401.grew g430
   have s440:=s410.grew g430
   have s441:=s411.grew g430
   have s442:=s412.grew g430
   refine zB (d:=(some 112)) (f:=13) (args:=[.tmp 110,.tmp 111]) kr (R:=fun z H'=>z=.int .i64 (1+9 * (L.length:Int))/\OnlyS S190 H416 H'/\SlW H' 9 (jS 1 L.length) S190) ?_ ?_
   ·show qJ _ _ [E416 110,E416 111] _ _
    rw [b418,b419]
    exact qBb H416 y hy L hL S190 s440 1 (by decide) (by decide) mxL
   rintro z H443 ⟨rfl,oH443,nH443⟩
   have g444:Grew H H443:=OnlyS.own g431 fr199 oH443
   have r445:=oH443.at r432 am
   have r446:=oH443.at r433 am
   have r447:=oH443.at r434 am
   have s448:=s435.only oH443 (by first | assumption | exact ApartS.symm am)
   have s449:=s436.only oH443 (by first | assumption | exact ApartS.symm am)
   have s450:=s437.only oH443 (by first | assumption | exact ApartS.symm am)
   have s451:=s438.only oH443 (by first | assumption | exact ApartS.symm am)
   have s452:=s439.only oH443 (by first | assumption | exact ApartS.symm am)
   have s453:=s441.only oH443 (by first | assumption | exact ApartS.symm am)
   have s454:=s442.only oH443 (by first | assumption | exact ApartS.symm am)
   have q455:=q413.app (kL:KdsL [KI] [.int .i64 (1+9 * (L.length:Int))])
   refine rD 3 4 [(.call 14 [.agg [nF 6,n1 16],.lit (.int .i64 1)],nI 21)] [wf p12 [nF 0,n1 1],wf p79 [nF 6,n1 13],wf p211 [nF 6,n1 16]] [(110,.agg [nF 6,n1 16]),(111,.lit (.int .i64 1)),(17,.ptr 2 0),(21,.lit (.int .i64 1)),(5,.ptr 0 0),(1,n1 2),(2,nF 3),(3,nI 4),(4,nF 5),(12,.ptr 1 0),(13,nI 7),(14,nI 8),(112,nI 21)] q455 (.cons (qH (args:=[.agg [.flt .f32 y,S190],.int .i64 1]) (r:=.int .i64 (1+9 * (L.length:Int))) (dL q455) (dE q455) (fun H9 hk=>qBa H9 y hy 1 L.length S190 ((nH443.grew (hk.grew (Nat.le_refl _)))).toL (by decide) (by decide) mxL)) .nil) (sc (sp B11) (.cons qB .nil)) ?_
   refine dB kr ?_ ?_
   ·intro vs ls H456 E456 st hE
    have f457:(1+9 * (L.length:Int)) < 0:=dt st 0
    exact absurd f457 om
   ·intro vs ls H458 E458 st hE
    have f459:¬ ((1+9 * (L.length:Int)) < 0):=df st 0
    have b460:=eo st hE 122 (.agg [.flt .f32 x,S])
    have B12:=es st hE [(122,.agg [.flt .f32 x,S]),(1,Sv),(2,.flt .f32 wt),(3,.int .i64 t),(4,.flt .f32 g),(12,.ptr p79 0),(13,.int .i64 n),(14,.int .i64 d),(17,.ptr p211 0),(22,.int .i64 (1+9 * (L.length:Int))),(21,.int .i64 (1+9 * (L.length:Int)))]
    have g471:Grew H443 H458:=(gk st)
    have g472:=Grew.trans g444 g471
    have r474:=g471.at r446
    have r475:=g471.at r447
    have s476:=s448.grew g471
    have s477:=s449.grew g471
    have s478:=s450.grew g471
    have s479:=s451.grew g471
    have s480:=s452.grew g471
    have s481:=nH443.grew g471
    have s482:=s453.grew g471
    have s483:=s454.grew g471
    refine zB (d:=(some 123)) (f:=9) (args:=[.tmp 122]) kr (R:=fun z H'=>Grew H458 H' /\ ∃ S',z=.agg [.flt .f32 x,S']/\SlW H' 9 ms S'/\FreshS H458.next S') ?_ ?_
    ·show qJ _ _ [E458 122] _ _
     rw [b460]
     exact mM H458 x hx ms hr S (hS.grew g472) mxms
    rintro z H485 ⟨gS484,S484,rfl,sS484,fS484⟩
    have ne486:ApartL (S484) p79:=fS484.apartL (H458.lt_of_get r474)
    have ne487:ApartL (S484) p211:=fS484.apartL (H458.lt_of_get r475)
    have ne488:ApartS (S484) (S23):=fS484.apartS s476.lt
    have ne489:ApartS (S484) (S42):=fS484.apartS s477.lt
    have ne490:ApartS (S484) (S68):=fS484.apartS s478.lt
    have ne491:ApartS (S484) (S101):=fS484.apartS s479.lt
    have ne492:ApartS (S484) (S144):=fS484.apartS s480.lt
    have ne493:ApartS (S484) (S190):=fS484.apartS s481.lt
    have ne494:ApartS (S484) (S249):=fS484.apartS s482.lt
    have ne495:ApartS (S484) (S303):=fS484.apartS s483.lt
    have fr496:FreshS H.next (S484):=fS484.mono g472.next
    have g497:=Grew.trans g472 gS484
    have r498:=gS484.at r474
    have r499:=gS484.at r475
    have s500:=s476.grew gS484
    have s501:=s477.grew gS484
    have s502:=s478.grew gS484
    have s503:=s479.grew gS484
    have s504:=s480.grew gS484
    have s505:=s481.grew gS484
    have s506:=s482.grew gS484
    have s507:=s483.grew gS484
    have q508:=q455.app (kL:KdsL [.one] [S484])
    refine rC 2 4 [wf p79 [nF 6,n1 13],wf p211 [nF 6,n1 16]] [(122,.agg [nF 0,n1 1]),(1,n1 2),(2,nF 3),(3,nI 4),(4,nF 5),(12,.ptr 0 0),(13,nI 7),(14,nI 8),(17,.ptr 1 0),(22,nI 21),(21,nI 21),(123,.agg [nF 0,n1 22])] q508 (sc (sp B12) (.cons qB .nil)) ?_
    refine zA kr fun vs ls H509 E509 st hE=>?_
    have b510:=eo st hE 124 Sv
    have B13:=es st hE [(124,Sv),(2,.flt .f32 wt),(3,.int .i64 t),(4,.flt .f32 g),(123,.agg [.flt .f32 x,S484]),(12,.ptr p79 0),(13,.int .i64 n),(14,.int .i64 d),(17,.ptr p211 0),(22,.int .i64 (1+9 * (L.length:Int))),(21,.int .i64 (1+9 * (L.length:Int)))]
    have g521:Grew H485 H509:=(gk st)
    have g522:=Grew.trans g497 g521
    have r523:=g521.at r498
    have r524:=g521.at r499
    have s525:=s500.grew g521
    have s526:=s501.grew g521
    have s527:=s502.grew g521
    have s528:=s503.grew g521
    have s529:=s504.grew g521
    have s530:=s505.grew g521
    have s531:=s506.grew g521
    have s532:=s507.grew g521
    have s533:=sS484.grew g521
    refine zB (d:=(some 125)) (f:=23) (args:=[.tmp 124]) kr (R:=fun z H'=>Grew H509 H'/\SlW H' 3 pv z/\FreshS H509.next z) ?_ ?_
    ·show qJ _ _ [E509 124] _ _
     rw [b510]
     exact qCx H509 pv hrv Sv (hSv.grew g522) mxpv
    rintro S534 H535 ⟨gS534,sS534,fS534⟩
    have ne536:ApartL (S534) p79:=fS534.apartL (H509.lt_of_get r523)
    have ne537:ApartL (S534) p211:=fS534.apartL (H509.lt_of_get r524)
    have ne538:ApartS (S534) (S23):=fS534.apartS s525.lt
    have ne539:ApartS (S534) (S42):=fS534.apartS s526.lt
    have ne540:ApartS (S534) (S68):=fS534.apartS s527.lt
    have ne541:ApartS (S534) (S101):=fS534.apartS s528.lt
    have ne542:ApartS (S534) (S144):=fS534.apartS s529.lt
    have ne543:ApartS (S534) (S190):=fS534.apartS s530.lt
    have ne544:ApartS (S534) (S249):=fS534.apartS s531.lt
    have ne545:ApartS (S534) (S303):=fS534.apartS s532.lt
    have ne546:ApartS (S534) (S484):=fS534.apartS s533.lt
    have fr547:FreshS H.next (S534):=fS534.mono g522.next
    have g548:=Grew.trans g522 gS534
    have r549:=gS534.at r523
    have r550:=gS534.at r524
    have s551:=s525.grew gS534
    have s552:=s526.grew gS534
    have s553:=s527.grew gS534
    have s554:=s528.grew gS534
    have s555:=s529.grew gS534
    have s556:=s530.grew gS534
    have s557:=s531.grew gS534
    have s558:=s532.grew gS534
    have s559:=s533.grew gS534
    have q560:=q508.app (kL:KdsL [.one] [S534])
    refine rC 2 4 [wf p79 [nF 6,n1 13],wf p211 [nF 6,n1 16]] [(124,n1 2),(2,nF 3),(3,nI 4),(4,nF 5),(123,.agg [nF 0,n1 22]),(12,.ptr 0 0),(13,nI 7),(14,nI 8),(17,.ptr 1 0),(22,nI 21),(21,nI 21),(125,n1 23)] q560 (sc (sp B13) (.cons qB .nil)) ?_
    refine zA kr fun vs ls H561 E561 st hE=>?_
    have b562:=eo st hE 123 (.agg [.flt .f32 x,S484])
    have b563:=eo st hE 125 S534
    have b564:=eo st hE 126 (.flt .f32 wt)
    have b565:=eo st hE 127 (.int .i64 t)
    have b566:=eo st hE 128 (.flt .f32 g)
    have B14:=es st hE [(123,.agg [.flt .f32 x,S484]),(125,S534),(126,.flt .f32 wt),(127,.int .i64 t),(128,.flt .f32 g),(12,.ptr p79 0),(13,.int .i64 n),(14,.int .i64 d),(17,.ptr p211 0),(22,.int .i64 (1+9 * (L.length:Int))),(21,.int .i64 (1+9 * (L.length:Int)))]
    have g573:Grew H535 H561:=(gk st)
    have g574:=Grew.trans g548 g573
    have r575:=g573.at r549
    have r576:=g573.at r550
    have s577:=s551.grew g573
    have s578:=s552.grew g573
    have s579:=s553.grew g573
    have s580:=s554.grew g573
    have s581:=s555.grew g573
    have s582:=s556.grew g573
    have s583:=s557.grew g573
    have s584:=s558.grew g573
    have s585:=s559.grew g573
    have s586:=sS534.grew g573
    refine zB (d:=(some 129)) (f:=24) (args:=[.tmp 123,.tmp 125,.tmp 126,.tmp 127,.tmp 128]) kr (R:=fun z H'=>Grew H561 H' /\ ∃ S',z=.tuple [.agg [.flt .f32 y,S'],.int .i64 n,.int .i64 d]/\SlW H' 9 L S'/\FreshS H561.next S') ?_ ?_
    ·show qJ _ _ [E561 123,E561 125,E561 126,E561 127,E561 128] _ _
     rw [b562,b563,b564,b565,b566]
     exact(by have h9:=gW H561 x hx ms hr (S484) s585.toL mxms pv hrv (S534) s586.toL mxpv wt hwt t g hg;rw [hV] at h9;exact h9)
    rintro z H587 ⟨gH587,S588,rfl,sS588,fS588⟩
    have ne589:ApartL (S588) p79:=fS588.apartL (H561.lt_of_get r575)
    have ne590:ApartL (S588) p211:=fS588.apartL (H561.lt_of_get r576)
    have ne591:ApartS (S588) (S23):=fS588.apartS s577.lt
    have ne592:ApartS (S588) (S42):=fS588.apartS s578.lt
    have ne593:ApartS (S588) (S68):=fS588.apartS s579.lt
    have ne594:ApartS (S588) (S101):=fS588.apartS s580.lt
    have ne595:ApartS (S588) (S144):=fS588.apartS s581.lt
    have ne596:ApartS (S588) (S190):=fS588.apartS s582.lt
    have ne597:ApartS (S588) (S249):=fS588.apartS s583.lt
    have ne598:ApartS (S588) (S303):=fS588.apartS s584.lt
    have ne599:ApartS (S588) (S484):=fS588.apartS s585.lt
    have ne600:ApartS (S588) (S534):=fS588.apartS s586.lt
    have fr601:FreshS H.next (S588):=fS588.mono g574.next
    have g602:=Grew.trans g574 gH587
    have r603:=gH587.at r575
    have r604:=gH587.at r576
    have s607:=s579.grew gH587
    have s610:=s582.grew gH587
    have q615:=q560.app (kL:KdsL [.one] [S588])
    refine rD 2 4 [(.call 12 [.agg [nF 6,n1 24],.agg [nF 6,n1 13]],.lit (.bool true)),(.call 14 [.agg [nF 6,n1 16],.lit (.int .i64 1)],nI 21)] [wf p79 [nF 6,n1 13],wf p211 [nF 6,n1 16]] [(123,.agg [nF 0,n1 22]),(125,n1 23),(126,nF 3),(127,nI 4),(128,nF 5),(12,.ptr 0 0),(13,nI 7),(14,nI 8),(17,.ptr 1 0),(22,nI 21),(21,nI 21),(129,.tup [.agg [nF 6,n1 24],nI 7,nI 8])] q615 (.cons (qH (args:=[.agg [.flt .f32 y,S588],.agg [.flt .f32 y,S68]]) (dL q615) (dE q615) (fun H9 hk=>mC H9 y hy L hL _ _ ((sS588.grew (hk.grew (Nat.le_refl _)))).toL ((s607.grew (hk.grew (Nat.le_refl _)))).toL (qLY mxL))) (.cons (qH (args:=[.agg [.flt .f32 y,S190],.int .i64 1]) (r:=.int .i64 (1+9 * (L.length:Int))) (dL q615) (dE q615) (fun H9 hk=>qBa H9 y hy 1 L.length S190 ((s610.grew (hk.grew (Nat.le_refl _)))).toL (by decide) (by decide) mxL)) .nil)) (sc (sp B14) (.cons qB .nil)) ?_
    refine dB kr ?_ ?_
    ·intro vs ls H616 E616 st hE
     have f617:(1+9 * (L.length:Int)) < 0:=dt st 0
     exact absurd f617 om
    ·intro vs ls H618 E618 st hE
     have f619:¬ ((1+9 * (L.length:Int)) < 0):=df st 0
     exact jA kr (zJ st.inn hE (.inr rfl) (a:=.bool true) kr (Nat.le_trans g602.next st.kept.1) rfl)
end Go.Proofs.Ytacligocjfhckaa
