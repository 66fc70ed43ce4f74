/- Contracts: heap sort of cells, by the library. -/
import Derived.Test.YtgjggkgafdnhcaaTPdqB
import Derived.Test.YtgjggkgafdnhcaaSxE
set_option linter.unusedVariables false
set_option linter.unusedSimpArgs false
namespace Go.Proofs.Ytgjggkgafdnhcaa
open Go.Ab
set_option maxRecDepth 100000
set_option maxHeartbeats 1000000
attribute [local irreducible] Res
theorem uM.pe {κ:List AV->Int} {L0 L:LL} (h:uM κ L0) (p:PE L0 L):uM κ L:=fun a b c a' b' c' h1 h2=>h a b c a' b' c' (p.mem h1) (p.mem h2)
-- sift
theorem qAv (H:AHeap) (κ:List AV->Int) (L0:LL) (hr:qL KC L0) (hκ:uM κ L0) (S:AV) (hS:SlF H 3 L0 S) (hmx:L0.length < 2^20) (lo hi f:Nat) (hlo:lo<=hi) (hb:f+hi<=L0.length) (hp:Hp κ f (lo+1) hi L0):qK Try.prog 68 [S,.int .i64 (lo:Int),.int .i64 (hi:Int),.int .i64 (f:Int),.func 22 [] []] H fun r H'=>r=.tuple []/\OnlyS S H H' /\ ∃ M,SlF H' 3 M S/\qL KC M/\Pt2 (f+lo) (f+hi) L0 M/\Hp κ f lo hi M:=by
 refine qN xG (by simp) ?_
 have q1:KdsL [.one,KI,KI,KI] [S,.int .i64 (lo:Int),.int .i64 (hi:Int),.int .i64 (f:Int)]:=kL
 refine rC 0 0 [] [(0,n1 0),(1,nI 1),(2,nI 2),(3,nI 3),(4,.fn 22 [] [])] q1 (.cons (t:=0) rfl (.cons (t:=1) rfl (.cons (t:=2) rfl (.cons (t:=3) rfl (.cons (t:=4) rfl .nil))))) ?_
 refine qM kr fun vs ls H2 E2 st hE=>?_
 have b3:=eo st hE 10 (.int .i64 (lo:Int))
 have b4:=eo st hE 2 (.int .i64 (hi:Int))
 have b5:=eo st hE 4 (.func 22 [] [])
 have b6:=eo st hE 0 S
 have b7:=eo st hE 3 (.int .i64 (f:Int))
 have g8:Grew H H2:=(gk st)
 have g9:OnlyS S H H2:=(OnlyS.of_grew (Grew.refl H)).grewR g8
 have s10:=hS.grew g8
 refine zE kr (fun z E H'=>∃ (r11:Nat) (L11:LL),z=hi - r11/\E 2=.int .i64 (hi:Int)/\E 4=.func 22 [] []/\E 0=S/\E 3=.int .i64 (f:Int)/\E 10=.int .i64 (r11:Int)/\OnlyS S H H'/\SlF H' 3 L11 S/\qL KC L11/\r11<=hi/\Sft κ f lo hi L0 L11 r11) (hi - lo) ⟨lo,L0,rfl,b4,b5,b6,b7,b3,g9,s10,hr,⟨hlo,Sft.start hp⟩⟩ ?_
 rintro z11 E11 Hx11 ⟨r11,L11,hz11,c11_2,c11_4,c11_0,c11_3,cv11_10,gt11,so11_0,hr11_0,iv11⟩
 obtain⟨hrr11,hfr11⟩:=iv11
 have hlr11:=hfr11.st.len
 have hlrr11:=hfr11.lr
 have q12:=q1.app (kL:KdsL [KI] [.int .i64 (r11:Int)])
 refine rC 0 0 [] [(2,nI 2),(4,.fn 22 [] []),(0,n1 0),(3,nI 3),(10,nI 4)] q12 (.cons c11_2 (.cons c11_4 (.cons c11_0 (.cons c11_3 (.cons cv11_10 .nil))))) ?_
 refine cJ kr ?_ ?_ ?_
 ·intro vs ls H13 E13 st hE
  have f14:¬ ((IntKind.wrap .i64 ((IntKind.wrap .i64 (2 * (r11:Int)))+1)) < (hi:Int)):=df st 0
  rw [wI (2 * (r11:Int)) om om] at f14
  rw [wI ((2 * (r11:Int))+1) om om] at f14
  obtain⟨w17,hw17⟩:∃ z,z=(IntKind.wrap .i64 (2 * (r11:Int))):=⟨_,rfl⟩
  have b18:E13 14=.int .i64 w17:=by rw [hw17];exact eo st hE 14 _
  obtain⟨w19,hw19⟩:∃ z,z=(IntKind.wrap .i64 ((IntKind.wrap .i64 (2 * (r11:Int)))+1)):=⟨_,rfl⟩
  have b20:E13 15=.int .i64 w19:=by rw [hw19];exact eo st hE 15 _
  have b21:E13 11=.int .i64 w19:=by rw [hw19];exact eo st hE 11 _
  have b23:E13 16=.int .i64 w19:=by rw [hw19];exact eo st hE 16 _
  obtain⟨w25,hw25⟩:∃ z,z=(!(decide ((IntKind.wrap .i64 ((IntKind.wrap .i64 (2 * (r11:Int)))+1)) < (hi:Int)))):=⟨_,rfl⟩
  have b26:E13 18=.bool w25:=by rw [hw25];exact eo st hE 18 _
  have B1:=es st hE [(10,.int .i64 (r11:Int)),(13,.int .i64 (r11:Int)),(2,.int .i64 (hi:Int)),(17,.int .i64 (hi:Int)),(4,.func 22 [] []),(0,S),(3,.int .i64 (f:Int))]
  have g30:Grew Hx11 H13:=(gk st)
  have g31:OnlyS S H H13:=gt11.grewR g30
  have s32:=so11_0.grew g30
  have nw17:w17=(2 * (r11:Int)):=hw17.trans (wI _ om om)
  have nw19:w19=((2 * (r11:Int))+1):=by
   rw [hw19]
   rw [wI (2 * (r11:Int)) om om]
   rw [wI ((2 * (r11:Int))+1) om om]
  refine qQ (id:=0) kr ?_
  have q33:=q12.app (kL:KdsL [KI,KI,.bool] [.int .i64 w17,.int .i64 w19,.bool w25])
  refine rC 0 0 [] [(10,nI 4),(13,nI 4),(2,nI 2),(17,nI 2),(4,.fn 22 [] []),(0,n1 0),(3,nI 3),(14,nI 5),(15,nI 6),(11,nI 6),(16,nI 6),(18,nB 7)] q33 (sc B1 (.cons b18 (.cons b20 (.cons b21 (.cons b23 (.cons b26 .nil)))))) ?_
  refine qM kr fun vs ls H34 E34 st hE=>?_
  have gz:OnlyS S H H34:=(g31.grewR (gk st))
  exact zF kr (qS st.inn hE (.inl rfl) (a:=.tuple []) kr gz.next ⟨rfl,gz,_,(s32.grew (st.inn.kept.grew (Nat.le_refl _))),hr11_0,Sft.fin hfr11 (fun d h1 h2=>by omega)⟩)
 ·intro vs ls H35 E35 st hE
  have f36:(IntKind.wrap .i64 ((IntKind.wrap .i64 ((IntKind.wrap .i64 (2 * (r11:Int)))+1))+1)) < (hi:Int):=dt st 0
  rw [wI (2 * (r11:Int)) om om] at f36
  rw [wI ((2 * (r11:Int))+1) om om] at f36
  rw [wI (((2 * (r11:Int))+1)+1) om om] at f36
  have f37:(IntKind.wrap .i64 ((IntKind.wrap .i64 (2 * (r11:Int)))+1)) < (hi:Int):=dt st 1
  rw [wI (2 * (r11:Int)) om om] at f37
  rw [wI ((2 * (r11:Int))+1) om om] at f37
  obtain⟨w39,hw39⟩:∃ z,z=(IntKind.wrap .i64 ((f:Int)+(IntKind.wrap .i64 ((IntKind.wrap .i64 (2 * (r11:Int)))+1)))):=⟨_,rfl⟩
  have b40:E35 28=.int .i64 w39:=by rw [hw39];exact eo st hE 28 _
  obtain⟨w43,hw43⟩:∃ z,z=(IntKind.wrap .i64 ((IntKind.wrap .i64 (2 * (r11:Int)))+1)):=⟨_,rfl⟩
  have b44:E35 11=.int .i64 w43:=by rw [hw43];exact eo st hE 11 _
  obtain⟨w46,hw46⟩:∃ z,z=(decide ((IntKind.wrap .i64 ((IntKind.wrap .i64 ((IntKind.wrap .i64 (2 * (r11:Int)))+1))+1)) < (hi:Int))):=⟨_,rfl⟩
  have b47:E35 23=.bool w46:=by rw [hw46];exact eo st hE 23 _
  have B2:=es st hE [(25,S),(0,S),(3,.int .i64 (f:Int)),(24,.func 22 [] []),(4,.func 22 [] []),(10,.int .i64 (r11:Int)),(2,.int .i64 (hi:Int))]
  have g51:Grew Hx11 H35:=(gk st)
  have g52:OnlyS S H H35:=gt11.grewR g51
  have s53:=so11_0.grew g51
  have nw39:w39=((f:Int)+((2 * (r11:Int))+1)):=by
   rw [hw39]
   rw [wI (2 * (r11:Int)) om om]
   rw [wI ((2 * (r11:Int))+1) om om]
   rw [wI ((f:Int)+((2 * (r11:Int))+1)) om om]
  have nw43:w43=((2 * (r11:Int))+1):=by
   rw [hw43]
   rw [wI (2 * (r11:Int)) om om]
   rw [wI ((2 * (r11:Int))+1) om om]
  obtain⟨k54,rfl⟩:∃ k:Nat,w39=(k:Int):=⟨Int.toNat w39,by omega⟩
  have hlt55:k54 < L11.length:=by omega
  obtain⟨lS55,cap55,rest55,wr55,eS55,gS55⟩:=(s53.toL).isSl hlt55
  obtain⟨v55_0,v55_1,v55_2,hm55⟩:=qC (hr11_0.get hlt55)
  have he55:L11.getD k54 []=[.int .i32 v55_0,.int .i32 v55_1,.int .i32 v55_2]:=by rw [<- hm55,List.getD_eq_getElem?_getD,List.getElem?_eq_getElem hlt55];rfl
  have q56:=q12.app (kL:KdsL [KI,KI,.bool,K2,K2,K2] [.int .i64 (k54:Int),.int .i64 w43,.bool w46,.int .i32 v55_0,.int .i32 v55_1,.int .i32 v55_2])
  refine rF 1 0 [(.ia 3 (n1 0) (nI 5),.ptr 0 0)] [⟨lS55,(k54 * 3),[n2 8,n2 9,n2 10],false⟩] [(25,n1 0),(0,n1 0),(3,nI 3),(24,.fn 22 [] []),(4,.fn 22 [] []),(10,nI 4),(2,nI 2),(28,nI 5),(11,nI 6),(23,nB 7)] q56 (.cons (qA hr11_0 gS55 hlt55 rfl (by rw [hm55];exact(dL q56))) .nil) (.cons (qD (k:=k54) (dE q56) eS55 (dE q56) hlt55 rfl) .nil) (sc B2 (.cons b40 (.cons b44 (.cons b47 .nil)))) ?_
  refine vI kr ?_ ?_
  ·intro vs ls H57 E57 st hE
   have f58:w46=true:=bf st 0
   obtain⟨w60,hw60⟩:∃ z,z=(IntKind.wrap .i64 ((IntKind.wrap .i64 ((f:Int)+w43))+1)):=⟨_,rfl⟩
   have b61:E57 35=.int .i64 w60:=by rw [hw60];exact eo st hE 35 _
   have B3:=es st hE [(31,S),(24,.func 22 [] []),(30,.agg [.int .i32 v55_0,.int .i32 v55_1,.int .i32 v55_2]),(23,.bool w46),(11,.int .i64 w43),(4,.func 22 [] []),(0,S),(3,.int .i64 (f:Int)),(10,.int .i64 (r11:Int)),(2,.int .i64 (hi:Int))]
   have g71:Grew H35 H57:=(gk st)
   have g72:OnlyS S H H57:=g52.grewR g71
   have s74:=s53.grew g71
   have nw60:w60=(((f:Int)+w43)+1):=by
    rw [hw60]
    rw [wI ((f:Int)+w43) om om]
    rw [wI (((f:Int)+w43)+1) om om]
   obtain⟨k75,rfl⟩:∃ k:Nat,w60=(k:Int):=⟨Int.toNat w60,by omega⟩
   have hlt76:k75 < L11.length:=by omega
   obtain⟨lS76,cap76,rest76,wr76,eS76,gS76⟩:=(s74.toL).isSl hlt76
   obtain⟨v76_0,v76_1,v76_2,hm76⟩:=qC (hr11_0.get hlt76)
   have he76:L11.getD k75 []=[.int .i32 v76_0,.int .i32 v76_1,.int .i32 v76_2]:=by rw [<- hm76,List.getD_eq_getElem?_getD,List.getElem?_eq_getElem hlt76];rfl
   have q77:=q56.app (kL:KdsL [KI,K2,K2,K2,KI] [.int .i64 (k75:Int),.int .i32 v76_0,.int .i32 v76_1,.int .i32 v76_2,.int .i64 (zD v55_0 v55_1 v55_2 v76_0 v76_1 v76_2)])
   refine rF 1 0 [(.ia 3 (n1 0) (nI 11),.ptr 0 0),(.call 22 [.agg [n2 8,n2 9,n2 10],.agg [n2 12,n2 13,n2 14]],nI 15)] [⟨lS76,(k75 * 3),[n2 12,n2 13,n2 14],false⟩] [(31,n1 0),(24,.fn 22 [] []),(30,.agg [n2 8,n2 9,n2 10]),(23,nB 7),(11,nI 6),(4,.fn 22 [] []),(0,n1 0),(3,nI 3),(10,nI 4),(2,nI 2),(35,nI 11)] q77 (.cons (qA hr11_0 gS76 hlt76 rfl (by rw [hm76];exact(dL q77))) .nil) (.cons (qD (k:=k75) (dE q77) eS76 (dE q77) hlt76 rfl) (.cons (qI (args:=[.agg [.int .i32 v55_0,.int .i32 v55_1,.int .i32 v55_2],.agg [.int .i32 v76_0,.int .i32 v76_1,.int .i32 v76_2]]) (dL q77) (dE q77) (fun H9 hk=>qO H9 v55_0 v55_1 v55_2 v76_0 v76_1 v76_2)) .nil)) (sc B3 (.cons b61 .nil)) ?_
   refine cJ kr ?_ ?_ ?_
   ·intro vs ls H78 E78 st hE
    have f79:(zD v55_0 v55_1 v55_2 v76_0 v76_1 v76_2) < 0:=dt st 0
    have f80:w46=true:=bf st 1
    obtain⟨w82,hw82⟩:∃ z,z=(IntKind.wrap .i64 ((f:Int)+(r11:Int))):=⟨_,rfl⟩
    have b83:E78 47=.int .i64 w82:=by rw [hw82];exact eo st hE 47 _
    obtain⟨w86,hw86⟩:∃ z,z=(IntKind.wrap .i64 (w43+1)):=⟨_,rfl⟩
    have b87:E78 11=.int .i64 w86:=by rw [hw86];exact eo st hE 11 _
    have B4:=es st hE [(44,S),(0,S),(3,.int .i64 (f:Int)),(43,.func 22 [] []),(10,.int .i64 (r11:Int)),(2,.int .i64 (hi:Int)),(4,.func 22 [] [])]
    have g92:Grew H57 H78:=(gk st)
    have g93:OnlyS S H H78:=g72.grewR g92
    have s95:=s74.grew g92
    have nw82:w82=((f:Int)+(r11:Int)):=hw82.trans (wI _ om om)
    have nw86:w86=(w43+1):=hw86.trans (wI _ om om)
    obtain⟨k96,rfl⟩:∃ k:Nat,w82=(k:Int):=⟨Int.toNat w82,by omega⟩
    have hlt97:k96 < L11.length:=by omega
    obtain⟨lS97,cap97,rest97,wr97,eS97,gS97⟩:=(s95.toL).isSl hlt97
    obtain⟨v97_0,v97_1,v97_2,hm97⟩:=qC (hr11_0.get hlt97)
    have he97:L11.getD k96 []=[.int .i32 v97_0,.int .i32 v97_1,.int .i32 v97_2]:=by rw [<- hm97,List.getD_eq_getElem?_getD,List.getElem?_eq_getElem hlt97];rfl
    have q98:=q77.app (kL:KdsL [KI,KI,K2,K2,K2] [.int .i64 (k96:Int),.int .i64 w86,.int .i32 v97_0,.int .i32 v97_1,.int .i32 v97_2])
    refine rF 1 0 [(.ia 3 (n1 0) (nI 16),.ptr 0 0)] [⟨lS97,(k96 * 3),[n2 18,n2 19,n2 20],false⟩] [(44,n1 0),(0,n1 0),(3,nI 3),(43,.fn 22 [] []),(10,nI 4),(2,nI 2),(4,.fn 22 [] []),(47,nI 16),(11,nI 17)] q98 (.cons (qA hr11_0 gS97 hlt97 rfl (by rw [hm97];exact(dL q98))) .nil) (.cons (qD (k:=k96) (dE q98) eS97 (dE q98) hlt97 rfl) .nil) (sc B4 (.cons b83 (.cons b87 .nil))) ?_
    refine qM kr fun vs ls H99 E99 st hE=>?_
    obtain⟨w101,hw101⟩:∃ z,z=(IntKind.wrap .i64 ((f:Int)+w86)):=⟨_,rfl⟩
    have b102:E99 53=.int .i64 w101:=by rw [hw101];exact eo st hE 53 _
    have B5:=es st hE [(50,S),(43,.func 22 [] []),(49,.agg [.int .i32 v97_0,.int .i32 v97_1,.int .i32 v97_2]),(0,S),(3,.int .i64 (f:Int)),(10,.int .i64 (r11:Int)),(11,.int .i64 w86),(2,.int .i64 (hi:Int)),(4,.func 22 [] [])]
    have g111:Grew H78 H99:=(gk st)
    have g112:OnlyS S H H99:=g93.grewR g111
    have s114:=s95.grew g111
    have nw101:w101=((f:Int)+w86):=hw101.trans (wI _ om om)
    obtain⟨k115,rfl⟩:∃ k:Nat,w101=(k:Int):=⟨Int.toNat w101,by omega⟩
    have hlt116:k115 < L11.length:=by omega
    obtain⟨lS116,cap116,rest116,wr116,eS116,gS116⟩:=(s114.toL).isSl hlt116
    obtain⟨v116_0,v116_1,v116_2,hm116⟩:=qC (hr11_0.get hlt116)
    have he116:L11.getD k115 []=[.int .i32 v116_0,.int .i32 v116_1,.int .i32 v116_2]:=by rw [<- hm116,List.getD_eq_getElem?_getD,List.getElem?_eq_getElem hlt116];rfl
    have q117:=q98.app (kL:KdsL [KI,K2,K2,K2,KI] [.int .i64 (k115:Int),.int .i32 v116_0,.int .i32 v116_1,.int .i32 v116_2,.int .i64 (zD v97_0 v97_1 v97_2 v116_0 v116_1 v116_2)])
    refine rF 1 0 [(.ia 3 (n1 0) (nI 21),.ptr 0 0),(.call 22 [.agg [n2 18,n2 19,n2 20],.agg [n2 22,n2 23,n2 24]],nI 25)] [⟨lS116,(k115 * 3),[n2 22,n2 23,n2 24],false⟩] [(50,n1 0),(43,.fn 22 [] []),(49,.agg [n2 18,n2 19,n2 20]),(0,n1 0),(3,nI 3),(10,nI 4),(11,nI 17),(2,nI 2),(4,.fn 22 [] []),(53,nI 21)] q117 (.cons (qA hr11_0 gS116 hlt116 rfl (by rw [hm116];exact(dL q117))) .nil) (.cons (qD (k:=k115) (dE q117) eS116 (dE q117) hlt116 rfl) (.cons (qI (args:=[.agg [.int .i32 v97_0,.int .i32 v97_1,.int .i32 v97_2],.agg [.int .i32 v116_0,.int .i32 v116_1,.int .i32 v116_2]]) (dL q117) (dE q117) (fun H9 hk=>qO H9 v97_0 v97_1 v97_2 v116_0 v116_1 v116_2)) .nil)) (sc B5 (.cons b102 .nil)) ?_
    refine vI kr ?_ ?_
    ·intro vs ls H118 E118 st hE
     have f119:¬ ((zD v97_0 v97_1 v97_2 v116_0 v116_1 v116_2) < 0):=df st 0
     have gz:OnlyS S H H118:=(g112.grewR (gk st))
     have ct120:=xT hκ hfr11.st.pe hlt55 hlt76 he55 he76
     have ct121:=xT hκ hfr11.st.pe hlt97 hlt116 he97 he116
     exact bE kr (qS st.inn hE (.inr rfl) (a:=.tuple []) kr gz.next ⟨rfl,gz,_,(s114.grew (st.inn.kept.grew (Nat.le_refl _))),hr11_0,Sft.fin hfr11 (fun d h1 h2=>by rcases h2 with h2 | h2 <;> ((try have z0_1:=@tmw κ L11 (f+d) (f+r11) om);(try have z0_2:=@tmw κ L11 (f+d) (k54) om);(try have z0_3:=@tmw κ L11 (f+d) (k75) om);(try have z0_4:=@tmw κ L11 (f+d) (k96) om);(try have z0_5:=@tmw κ L11 (f+d) (k115) om);(try have z1_2:=@tmw κ L11 (f+r11) (k54) om);(try have z1_3:=@tmw κ L11 (f+r11) (k75) om);(try have z1_4:=@tmw κ L11 (f+r11) (k96) om);(try have z1_5:=@tmw κ L11 (f+r11) (k115) om);(try have z2_3:=@tmw κ L11 (k54) (k75) om);(try have z2_4:=@tmw κ L11 (k54) (k96) om);(try have z2_5:=@tmw κ L11 (k54) (k115) om);(try have z3_4:=@tmw κ L11 (k75) (k96) om);(try have z3_5:=@tmw κ L11 (k75) (k115) om);(try have z4_5:=@tmw κ L11 (k96) (k115) om);omega))⟩)
    ·intro vs ls H122 E122 st hE
     have f123:(zD v97_0 v97_1 v97_2 v116_0 v116_1 v116_2) < 0:=dt st 0
     obtain⟨w125,hw125⟩:∃ z,z=(IntKind.wrap .i64 ((f:Int)+w86)):=⟨_,rfl⟩
     have b126:E122 70=.int .i64 w125:=by rw [hw125];exact eo st hE 70 _
     obtain⟨w131,hw131⟩:∃ z,z=(IntKind.wrap .i64 ((f:Int)+(r11:Int))):=⟨_,rfl⟩
     have b132:E122 62=.int .i64 w131:=by rw [hw131];exact eo st hE 62 _
     have b134:E122 66=.int .i64 w125:=by rw [hw125];exact eo st hE 66 _
     have B6:=es st hE [(67,S),(0,S),(3,.int .i64 (f:Int)),(10,.int .i64 (r11:Int)),(59,S),(63,S),(11,.int .i64 w86),(2,.int .i64 (hi:Int)),(4,.func 22 [] [])]
     have g138:Grew H99 H122:=(gk st)
     have g139:OnlyS S H H122:=g112.grewR g138
     have s141:=s114.grew g138
     have nw125:w125=((f:Int)+w86):=hw125.trans (wI _ om om)
     have nw131:w131=((f:Int)+(r11:Int)):=hw131.trans (wI _ om om)
     obtain rfl:w125=(k115:Int):=by omega
     have hlt142:k115 < L11.length:=by omega
     obtain⟨lS142,cap142,rest142,wr142,eS142,gS142⟩:=(s141.toL).isSl hlt142
     obtain⟨v142_0,v142_1,v142_2,hm142⟩:=qC (hr11_0.get hlt142)
     have he142:L11.getD k115 []=[.int .i32 v142_0,.int .i32 v142_1,.int .i32 v142_2]:=by rw [<- hm142,List.getD_eq_getElem?_getD,List.getElem?_eq_getElem hlt142];rfl
     have hq142:=he116.symm.trans he142
     simp only [List.cons.injEq,AV.flt.injEq,AV.int.injEq,Int.natCast_inj,true_and,and_true] at hq142
     obtain⟨rfl,rfl,rfl⟩:=hq142
     have q143:=q117.app (kL:KdsL [KI,KI,K2,K2,K2] [.int .i64 (k115:Int),.int .i64 w131,.int .i32 v116_0,.int .i32 v116_1,.int .i32 v116_2])
     refine rF 1 0 [(.ia 3 (n1 0) (nI 26),.ptr 0 0)] [⟨lS142,(k115 * 3),[n2 28,n2 29,n2 30],false⟩] [(67,n1 0),(0,n1 0),(3,nI 3),(10,nI 4),(59,n1 0),(63,n1 0),(11,nI 17),(2,nI 2),(4,.fn 22 [] []),(70,nI 26),(62,nI 27),(66,nI 26)] q143 (.cons (qA hr11_0 gS142 hlt142 rfl (by rw [hm142];exact(dL q143))) .nil) (.cons (qD (k:=k115) (dE q143) eS142 (dE q143) hlt142 rfl) .nil) (sc B6 (.cons b126 (.cons b132 (.cons b134 .nil)))) ?_
     refine qM kr fun vs ls H144 E144 st hE=>?_
     obtain⟨w146,hw146⟩:∃ z,z=(IntKind.wrap .i64 ((f:Int)+(r11:Int))):=⟨_,rfl⟩
     have b147:E144 76=.int .i64 w146:=by rw [hw146];exact eo st hE 76 _
     have B7:=es st hE [(73,S),(59,S),(62,.int .i64 w131),(72,.agg [.int .i32 v116_0,.int .i32 v116_1,.int .i32 v116_2]),(63,S),(66,.int .i64 (k115:Int)),(11,.int .i64 w86),(10,.int .i64 (r11:Int)),(2,.int .i64 (hi:Int)),(4,.func 22 [] []),(0,S),(3,.int .i64 (f:Int))]
     have g160:Grew H122 H144:=(gk st)
     have g161:OnlyS S H H144:=g139.grewR g160
     have s163:=s141.grew g160
     have nw146:w146=((f:Int)+(r11:Int)):=hw146.trans (wI _ om om)
     obtain rfl:w146=(k96:Int):=by omega
     have hlt164:k96 < L11.length:=by omega
     obtain⟨lS164,cap164,rest164,wr164,eS164,gS164⟩:=(s163.toL).isSl hlt164
     obtain⟨v164_0,v164_1,v164_2,hm164⟩:=qC (hr11_0.get hlt164)
     have he164:L11.getD k96 []=[.int .i32 v164_0,.int .i32 v164_1,.int .i32 v164_2]:=by rw [<- hm164,List.getD_eq_getElem?_getD,List.getElem?_eq_getElem hlt164];rfl
     have hq164:=he97.symm.trans he164
     simp only [List.cons.injEq,AV.flt.injEq,AV.int.injEq,Int.natCast_inj,true_and,and_true] at hq164
     obtain⟨rfl,rfl,rfl⟩:=hq164
     have q165:=q143.app (kL:KdsL [KI,K2,K2,K2] [.int .i64 (k96:Int),.int .i32 v97_0,.int .i32 v97_1,.int .i32 v97_2])
     refine rF 1 0 [(.ia 3 (n1 0) (nI 31),.ptr 0 0)] [⟨lS164,(k96 * 3),[n2 32,n2 33,n2 34],false⟩] [(73,n1 0),(59,n1 0),(62,nI 27),(72,.agg [n2 28,n2 29,n2 30]),(63,n1 0),(66,nI 26),(11,nI 17),(10,nI 4),(2,nI 2),(4,.fn 22 [] []),(0,n1 0),(3,nI 3),(76,nI 31)] q165 (.cons (qA hr11_0 gS164 hlt164 rfl (by rw [hm164];exact(dL q165))) .nil) (.cons (qD (k:=k96) (dE q165) eS164 (dE q165) hlt164 rfl) .nil) (sc B7 (.cons b147 .nil)) ?_
     refine qM kr fun vs ls H166 E166 st hE=>?_
     have B8:=es st hE [(59,S),(62,.int .i64 w131),(72,.agg [.int .i32 v116_0,.int .i32 v116_1,.int .i32 v116_2]),(63,S),(66,.int .i64 (k115:Int)),(78,.agg [.int .i32 v97_0,.int .i32 v97_1,.int .i32 v97_2]),(11,.int .i64 w86),(10,.int .i64 (r11:Int)),(2,.int .i64 (hi:Int)),(4,.func 22 [] []),(0,S),(3,.int .i64 (f:Int))]
     have g180:Grew H144 H166:=(gk st)
     have g181:OnlyS S H H166:=g161.grewR g180
     have s183:=s163.grew g180
     obtain rfl:w131=(k96:Int):=by omega
     have hlt184:k96 < L11.length:=by omega
     obtain⟨lS184,cap184,rest184,wr184,eS184,gS184⟩:=(s183.toL).isSl hlt184
     obtain⟨v184_0,v184_1,v184_2,hm184⟩:=qC (hr11_0.get hlt184)
     have he184:L11.getD k96 []=[.int .i32 v184_0,.int .i32 v184_1,.int .i32 v184_2]:=by rw [<- hm184,List.getD_eq_getElem?_getD,List.getElem?_eq_getElem hlt184];rfl
     have hq184:=he164.symm.trans he184
     simp only [List.cons.injEq,AV.flt.injEq,AV.int.injEq,Int.natCast_inj,true_and,and_true] at hq184
     obtain⟨rfl,rfl,rfl⟩:=hq184
     have q185:KdsL [.one,KI,KI,KI,KI,KI,KI,.bool,K2,K2,K2,KI,K2,K2,K2,KI,KI,KI,K2,K2,K2,KI,K2,K2,K2,KI,KI,KI,K2,K2,K2,KI,K2,K2,K2,K2,K2,K2] [S,.int .i64 (lo:Int),.int .i64 (hi:Int),.int .i64 (f:Int),.int .i64 (r11:Int),.int .i64 (k54:Int),.int .i64 w43,.bool w46,.int .i32 v55_0,.int .i32 v55_1,.int .i32 v55_2,.int .i64 (k75:Int),.int .i32 v76_0,.int .i32 v76_1,.int .i32 v76_2,.int .i64 (zD v55_0 v55_1 v55_2 v76_0 v76_1 v76_2),.int .i64 (k96:Int),.int .i64 w86,.int .i32 v97_0,.int .i32 v97_1,.int .i32 v97_2,.int .i64 (k115:Int),.int .i32 v116_0,.int .i32 v116_1,.int .i32 v116_2,.int .i64 (zD v97_0 v97_1 v97_2 v116_0 v116_1 v116_2),.int .i64 (k115:Int),.int .i64 (k96:Int),.int .i32 v116_0,.int .i32 v116_1,.int .i32 v116_2,.int .i64 (k96:Int),.int .i32 v97_0,.int .i32 v97_1,.int .i32 v97_2,.int .i32 v97_0,.int .i32 v97_1,.int .i32 v97_2]:=kL
     refine rF 1 0 [(.ia 3 (n1 0) (nI 27),.ptr 0 0)] [⟨lS184,(k96 * 3),[n2 35,n2 36,n2 37],false⟩] [(59,n1 0),(62,nI 27),(72,.agg [n2 28,n2 29,n2 30]),(63,n1 0),(66,nI 26),(78,.agg [n2 32,n2 33,n2 34]),(11,nI 17),(10,nI 4),(2,nI 2),(4,.fn 22 [] []),(0,n1 0),(3,nI 3)] q185 (.cons (qA hr11_0 gS184 hlt184 rfl (by rw [hm184];exact(dL q185))) .nil) (.cons (qD (k:=k96) (dE q185) eS184 (dE q185) hlt184 rfl) .nil) B8 ?_
     refine qM kr fun vs ls H186 E186 st hE=>?_
     have b187:=eo st hE 79 (.ptr lS184 ((k96 * 3)+0))
     have b188:=eo st hE 72 (.agg [.int .i32 v116_0,.int .i32 v116_1,.int .i32 v116_2])
     have B9:=es st hE [(72,.agg [.int .i32 v116_0,.int .i32 v116_1,.int .i32 v116_2]),(63,S),(66,.int .i64 (k115:Int)),(78,.agg [.int .i32 v97_0,.int .i32 v97_1,.int .i32 v97_2]),(11,.int .i64 w86),(10,.int .i64 (r11:Int)),(2,.int .i64 (hi:Int)),(4,.func 22 [] []),(0,S),(3,.int .i64 (f:Int))]
     have g199:Grew H166 H186:=(gk st)
     have g200:OnlyS S H H186:=g181.grewR g199
     have s202:=s183.grew g199
     refine qH (d:=none) (n:=3) (x:=.tmp 79) (y:=.tmp 72) kr (S:=S) (ms:=L11) (k:=k96) (m':=[.int .i32 v116_0,.int .i32 v116_1,.int .i32 v116_2]) (s202) eS184 b187 hlt184 hr11_0.len (by show AV.cells (E186 72)=_;rw [b188];rfl) rfl rfl rfl ?_
     intro H203 s203 oo203
     have hln203:(L11.set k96 [.int .i32 v116_0,.int .i32 v116_1,.int .i32 v116_2]).length=L11.length:=by simp
     have g204:OnlyS S H H203:=g200.trans oo203
     refine rC 0 0 [] [(72,.agg [n2 28,n2 29,n2 30]),(63,n1 0),(66,nI 26),(78,.agg [n2 32,n2 33,n2 34]),(11,nI 17),(10,nI 4),(2,nI 2),(4,.fn 22 [] []),(0,n1 0),(3,nI 3)] q185 (sn B9) ?_
     refine qM kr fun vs ls H206 E206 st hE=>?_
     have B10:=es st hE [(63,S),(66,.int .i64 (k115:Int)),(78,.agg [.int .i32 v97_0,.int .i32 v97_1,.int .i32 v97_2]),(11,.int .i64 w86),(10,.int .i64 (r11:Int)),(2,.int .i64 (hi:Int)),(4,.func 22 [] []),(0,S),(3,.int .i64 (f:Int))]
     have g217:Grew H203 H206:=(gk st)
     have g218:OnlyS S H H206:=g204.grewR g217
     have s219:=s203.grew g217
     have hlt220:k115 < (L11.set k96 [.int .i32 v116_0,.int .i32 v116_1,.int .i32 v116_2]).length:=by omega
     obtain⟨lS220,cap220,rest220,wr220,eS220,gS220⟩:=(s219.toL).isSl hlt220
     obtain⟨v220_0,v220_1,v220_2,hm220⟩:=qC ((qL.set hr11_0 (.cons kA (.cons kA (.cons kA .nil)))).get hlt220)
     have he220:(L11.set k96 [.int .i32 v116_0,.int .i32 v116_1,.int .i32 v116_2]).getD k115 []=[.int .i32 v220_0,.int .i32 v220_1,.int .i32 v220_2]:=by rw [<- hm220,List.getD_eq_getElem?_getD,List.getElem?_eq_getElem hlt220];rfl
     have q221:=q185.app (kL:KdsL [K2,K2,K2] [.int .i32 v220_0,.int .i32 v220_1,.int .i32 v220_2])
     refine rF 1 0 [(.ia 3 (n1 0) (nI 26),.ptr 0 0)] [⟨lS220,(k115 * 3),[n2 38,n2 39,n2 40],false⟩] [(63,n1 0),(66,nI 26),(78,.agg [n2 32,n2 33,n2 34]),(11,nI 17),(10,nI 4),(2,nI 2),(4,.fn 22 [] []),(0,n1 0),(3,nI 3)] q221 (.cons (qA (qL.set hr11_0 (.cons kA (.cons kA (.cons kA .nil)))) gS220 hlt220 rfl (by rw [hm220];exact(dL q221))) .nil) (.cons (qD (k:=k115) (dE q221) eS220 (dE q221) hlt220 rfl) .nil) B10 ?_
     refine qM kr fun vs ls H222 E222 st hE=>?_
     have b223:=eo st hE 80 (.ptr lS220 ((k115 * 3)+0))
     have b224:=eo st hE 78 (.agg [.int .i32 v97_0,.int .i32 v97_1,.int .i32 v97_2])
     have B11:=es st hE [(78,.agg [.int .i32 v97_0,.int .i32 v97_1,.int .i32 v97_2]),(11,.int .i64 w86),(10,.int .i64 (r11:Int)),(2,.int .i64 (hi:Int)),(4,.func 22 [] []),(0,S),(3,.int .i64 (f:Int))]
     have g232:Grew H206 H222:=(gk st)
     have g233:OnlyS S H H222:=g218.grewR g232
     have s235:=s219.grew g232
     refine qH (d:=none) (n:=3) (x:=.tmp 80) (y:=.tmp 78) kr (S:=S) (ms:=(L11.set k96 [.int .i32 v116_0,.int .i32 v116_1,.int .i32 v116_2])) (k:=k115) (m':=[.int .i32 v97_0,.int .i32 v97_1,.int .i32 v97_2]) (s235) eS220 b223 hlt220 (qL.set hr11_0 (.cons kA (.cons kA (.cons kA .nil)))).len (by show AV.cells (E222 78)=_;rw [b224];rfl) rfl rfl rfl ?_
     intro H236 s236 oo236
     have hln236:((L11.set k96 [.int .i32 v116_0,.int .i32 v116_1,.int .i32 v116_2]).set k115 [.int .i32 v97_0,.int .i32 v97_1,.int .i32 v97_2]).length=(L11.set k96 [.int .i32 v116_0,.int .i32 v116_1,.int .i32 v116_2]).length:=by simp
     have g237:OnlyS S H H236:=g233.trans oo236
     refine rC 0 0 [] [(78,.agg [n2 32,n2 33,n2 34]),(11,nI 17),(10,nI 4),(2,nI 2),(4,.fn 22 [] []),(0,n1 0),(3,nI 3)] q221 (sn B11) ?_
     refine qM kr fun vs ls H239 E239 st hE=>?_
     have b240:=eo st hE 10 (.int .i64 w86)
     have b241:=eo st hE 2 (.int .i64 (hi:Int))
     have b242:=eo st hE 4 (.func 22 [] [])
     have b243:=eo st hE 0 S
     have b244:=eo st hE 3 (.int .i64 (f:Int))
     have g245:Grew H236 H239:=(gk st)
     have g246:OnlyS S H H239:=g237.grewR g245
     have s247:=s236.grew g245
     obtain⟨k248,hk248⟩:∃ k:Nat,w86=(k:Int):=⟨Int.toNat w86,by omega⟩
     have ct249:=xT hκ hfr11.st.pe hlt55 hlt76 he55 he76
     have ct250:=xT hκ hfr11.st.pe hlt184 hlt142 he184 he142
     have hsw9:((L11.set k96 [.int .i32 v116_0,.int .i32 v116_1,.int .i32 v116_2]).set k115 [.int .i32 v97_0,.int .i32 v97_1,.int .i32 v97_2])=swp L11 k96 k115:=by unfold swp;rw [he184,he142]
     have hk8:k96=f+r11:=by omega
     have hk9:k115=f+k248:=by omega
     have hlt9:tmK κ L11 (f+r11) < tmK κ L11 (f+k248):=by (try have z0_1:=@tmw κ L11 (f+r11) (f+k248) om);(try have z0_2:=@tmw κ L11 (f+r11) (k54) om);(try have z0_3:=@tmw κ L11 (f+r11) (k75) om);(try have z0_4:=@tmw κ L11 (f+r11) (k96) om);(try have z0_5:=@tmw κ L11 (f+r11) (k115) om);(try have z1_2:=@tmw κ L11 (f+k248) (k54) om);(try have z1_3:=@tmw κ L11 (f+k248) (k75) om);(try have z1_4:=@tmw κ L11 (f+k248) (k96) om);(try have z1_5:=@tmw κ L11 (f+k248) (k115) om);(try have z2_3:=@tmw κ L11 (k54) (k75) om);(try have z2_4:=@tmw κ L11 (k54) (k96) om);(try have z2_5:=@tmw κ L11 (k54) (k115) om);(try have z3_4:=@tmw κ L11 (k75) (k96) om);(try have z3_5:=@tmw κ L11 (k75) (k115) om);(try have z4_5:=@tmw κ L11 (k96) (k115) om);omega
     have hmx9:∀ d,d < hi->(d=2 * r11+1 \/ d=2 * r11+2)->tmK κ L11 (f+d)<=tmK κ L11 (f+k248):=fun d h1 h2=>by rcases h2 with h2 | h2 <;> ((try have z0_1:=@tmw κ L11 (f+d) (f+k248) om);(try have z0_2:=@tmw κ L11 (f+d) (k54) om);(try have z0_3:=@tmw κ L11 (f+d) (k75) om);(try have z0_4:=@tmw κ L11 (f+d) (k96) om);(try have z0_5:=@tmw κ L11 (f+d) (k115) om);(try have z1_2:=@tmw κ L11 (f+k248) (k54) om);(try have z1_3:=@tmw κ L11 (f+k248) (k75) om);(try have z1_4:=@tmw κ L11 (f+k248) (k96) om);(try have z1_5:=@tmw κ L11 (f+k248) (k115) om);(try have z2_3:=@tmw κ L11 (k54) (k75) om);(try have z2_4:=@tmw κ L11 (k54) (k96) om);(try have z2_5:=@tmw κ L11 (k54) (k115) om);(try have z3_4:=@tmw κ L11 (k75) (k96) om);(try have z3_5:=@tmw κ L11 (k75) (k115) om);(try have z4_5:=@tmw κ L11 (k96) (k115) om);omega)
     have hm9:hi - k248 < z11:=by omega
     exact qP kr ⟨hi - k248,hm9,k248,((L11.set k96 [.int .i32 v116_0,.int .i32 v116_1,.int .i32 v116_2]).set k115 [.int .i32 v97_0,.int .i32 v97_1,.int .i32 v97_2]),rfl,b241,b242,b243,b244,(b240.trans (by rw [hk248])),g246,s247,(qL.set (qL.set hr11_0 (.cons kA (.cons kA (.cons kA .nil)))) (.cons kA (.cons kA (.cons kA .nil)))),⟨by omega,by rw [hsw9,hk8,hk9];exact Sft.step hfr11 hb om om hlt9 hmx9⟩⟩
   ·intro vs ls H251 E251 st hE
    have f252:¬ ((zD v55_0 v55_1 v55_2 v76_0 v76_1 v76_2) < 0):=df st 0
    have f253:w46=true:=bf st 1
    obtain⟨w255,hw255⟩:∃ z,z=(IntKind.wrap .i64 ((f:Int)+(r11:Int))):=⟨_,rfl⟩
    have b256:E251 47=.int .i64 w255:=by rw [hw255];exact eo st hE 47 _
    have B12:=es st hE [(44,S),(0,S),(3,.int .i64 (f:Int)),(11,.int .i64 w43),(43,.func 22 [] []),(10,.int .i64 (r11:Int)),(2,.int .i64 (hi:Int)),(4,.func 22 [] [])]
    have g264:Grew H57 H251:=(gk st)
    have g265:OnlyS S H H251:=g72.grewR g264
    have s267:=s74.grew g264
    have nw255:w255=((f:Int)+(r11:Int)):=hw255.trans (wI _ om om)
    obtain⟨k268,rfl⟩:∃ k:Nat,w255=(k:Int):=⟨Int.toNat w255,by omega⟩
    have hlt269:k268 < L11.length:=by omega
    obtain⟨lS269,cap269,rest269,wr269,eS269,gS269⟩:=(s267.toL).isSl hlt269
    obtain⟨v269_0,v269_1,v269_2,hm269⟩:=qC (hr11_0.get hlt269)
    have he269:L11.getD k268 []=[.int .i32 v269_0,.int .i32 v269_1,.int .i32 v269_2]:=by rw [<- hm269,List.getD_eq_getElem?_getD,List.getElem?_eq_getElem hlt269];rfl
    have q270:=q77.app (kL:KdsL [KI,K2,K2,K2] [.int .i64 (k268:Int),.int .i32 v269_0,.int .i32 v269_1,.int .i32 v269_2])
    refine rF 1 0 [(.ia 3 (n1 0) (nI 16),.ptr 0 0)] [⟨lS269,(k268 * 3),[n2 17,n2 18,n2 19],false⟩] [(44,n1 0),(0,n1 0),(3,nI 3),(11,nI 6),(43,.fn 22 [] []),(10,nI 4),(2,nI 2),(4,.fn 22 [] []),(47,nI 16)] q270 (.cons (qA hr11_0 gS269 hlt269 rfl (by rw [hm269];exact(dL q270))) .nil) (.cons (qD (k:=k268) (dE q270) eS269 (dE q270) hlt269 rfl) .nil) (sc B12 (.cons b256 .nil)) ?_
    refine qM kr fun vs ls H271 E271 st hE=>?_
    obtain⟨w273,hw273⟩:∃ z,z=(IntKind.wrap .i64 ((f:Int)+w43)):=⟨_,rfl⟩
    have b274:E271 53=.int .i64 w273:=by rw [hw273];exact eo st hE 53 _
    have B13:=es st hE [(50,S),(43,.func 22 [] []),(49,.agg [.int .i32 v269_0,.int .i32 v269_1,.int .i32 v269_2]),(0,S),(3,.int .i64 (f:Int)),(10,.int .i64 (r11:Int)),(11,.int .i64 w43),(2,.int .i64 (hi:Int)),(4,.func 22 [] [])]
    have g283:Grew H251 H271:=(gk st)
    have g284:OnlyS S H H271:=g265.grewR g283
    have s286:=s267.grew g283
    have nw273:w273=((f:Int)+w43):=hw273.trans (wI _ om om)
    obtain⟨k287,rfl⟩:∃ k:Nat,w273=(k:Int):=⟨Int.toNat w273,by omega⟩
    have hlt288:k287 < L11.length:=by omega
    obtain⟨lS288,cap288,rest288,wr288,eS288,gS288⟩:=(s286.toL).isSl hlt288
    obtain⟨v288_0,v288_1,v288_2,hm288⟩:=qC (hr11_0.get hlt288)
    have he288:L11.getD k287 []=[.int .i32 v288_0,.int .i32 v288_1,.int .i32 v288_2]:=by rw [<- hm288,List.getD_eq_getElem?_getD,List.getElem?_eq_getElem hlt288];rfl
    have q289:=q270.app (kL:KdsL [KI,K2,K2,K2,KI] [.int .i64 (k287:Int),.int .i32 v288_0,.int .i32 v288_1,.int .i32 v288_2,.int .i64 (zD v269_0 v269_1 v269_2 v288_0 v288_1 v288_2)])
    refine rF 1 0 [(.ia 3 (n1 0) (nI 20),.ptr 0 0),(.call 22 [.agg [n2 17,n2 18,n2 19],.agg [n2 21,n2 22,n2 23]],nI 24)] [⟨lS288,(k287 * 3),[n2 21,n2 22,n2 23],false⟩] [(50,n1 0),(43,.fn 22 [] []),(49,.agg [n2 17,n2 18,n2 19]),(0,n1 0),(3,nI 3),(10,nI 4),(11,nI 6),(2,nI 2),(4,.fn 22 [] []),(53,nI 20)] q289 (.cons (qA hr11_0 gS288 hlt288 rfl (by rw [hm288];exact(dL q289))) .nil) (.cons (qD (k:=k287) (dE q289) eS288 (dE q289) hlt288 rfl) (.cons (qI (args:=[.agg [.int .i32 v269_0,.int .i32 v269_1,.int .i32 v269_2],.agg [.int .i32 v288_0,.int .i32 v288_1,.int .i32 v288_2]]) (dL q289) (dE q289) (fun H9 hk=>qO H9 v269_0 v269_1 v269_2 v288_0 v288_1 v288_2)) .nil)) (sc B13 (.cons b274 .nil)) ?_
    refine vI kr ?_ ?_
    ·intro vs ls H290 E290 st hE
     have f291:¬ ((zD v269_0 v269_1 v269_2 v288_0 v288_1 v288_2) < 0):=df st 0
     have gz:OnlyS S H H290:=(g284.grewR (gk st))
     have ct292:=xT hκ hfr11.st.pe hlt55 hlt76 he55 he76
     have ct293:=xT hκ hfr11.st.pe hlt269 hlt288 he269 he288
     exact bE kr (qS st.inn hE (.inr rfl) (a:=.tuple []) kr gz.next ⟨rfl,gz,_,(s286.grew (st.inn.kept.grew (Nat.le_refl _))),hr11_0,Sft.fin hfr11 (fun d h1 h2=>by rcases h2 with h2 | h2 <;> ((try have z0_1:=@tmw κ L11 (f+d) (f+r11) om);(try have z0_2:=@tmw κ L11 (f+d) (k54) om);(try have z0_3:=@tmw κ L11 (f+d) (k75) om);(try have z0_4:=@tmw κ L11 (f+d) (k268) om);(try have z0_5:=@tmw κ L11 (f+d) (k287) om);(try have z1_2:=@tmw κ L11 (f+r11) (k54) om);(try have z1_3:=@tmw κ L11 (f+r11) (k75) om);(try have z1_4:=@tmw κ L11 (f+r11) (k268) om);(try have z1_5:=@tmw κ L11 (f+r11) (k287) om);(try have z2_3:=@tmw κ L11 (k54) (k75) om);(try have z2_4:=@tmw κ L11 (k54) (k268) om);(try have z2_5:=@tmw κ L11 (k54) (k287) om);(try have z3_4:=@tmw κ L11 (k75) (k268) om);(try have z3_5:=@tmw κ L11 (k75) (k287) om);(try have z4_5:=@tmw κ L11 (k268) (k287) om);omega))⟩)
    ·intro vs ls H294 E294 st hE
     have f295:(zD v269_0 v269_1 v269_2 v288_0 v288_1 v288_2) < 0:=dt st 0
     obtain⟨w297,hw297⟩:∃ z,z=(IntKind.wrap .i64 ((f:Int)+w43)):=⟨_,rfl⟩
     have b298:E294 70=.int .i64 w297:=by rw [hw297];exact eo st hE 70 _
     obtain⟨w303,hw303⟩:∃ z,z=(IntKind.wrap .i64 ((f:Int)+(r11:Int))):=⟨_,rfl⟩
     have b304:E294 62=.int .i64 w303:=by rw [hw303];exact eo st hE 62 _
     have b306:E294 66=.int .i64 w297:=by rw [hw297];exact eo st hE 66 _
     have B14:=es st hE [(67,S),(0,S),(3,.int .i64 (f:Int)),(10,.int .i64 (r11:Int)),(59,S),(63,S),(11,.int .i64 w43),(2,.int .i64 (hi:Int)),(4,.func 22 [] [])]
     have g310:Grew H271 H294:=(gk st)
     have g311:OnlyS S H H294:=g284.grewR g310
     have s313:=s286.grew g310
     have nw297:w297=((f:Int)+w43):=hw297.trans (wI _ om om)
     have nw303:w303=((f:Int)+(r11:Int)):=hw303.trans (wI _ om om)
     obtain rfl:w297=(k287:Int):=by omega
     have hlt314:k287 < L11.length:=by omega
     obtain⟨lS314,cap314,rest314,wr314,eS314,gS314⟩:=(s313.toL).isSl hlt314
     obtain⟨v314_0,v314_1,v314_2,hm314⟩:=qC (hr11_0.get hlt314)
     have he314:L11.getD k287 []=[.int .i32 v314_0,.int .i32 v314_1,.int .i32 v314_2]:=by rw [<- hm314,List.getD_eq_getElem?_getD,List.getElem?_eq_getElem hlt314];rfl
     have hq314:=he288.symm.trans he314
     simp only [List.cons.injEq,AV.flt.injEq,AV.int.injEq,Int.natCast_inj,true_and,and_true] at hq314
     obtain⟨rfl,rfl,rfl⟩:=hq314
     have q315:=q289.app (kL:KdsL [KI,KI,K2,K2,K2] [.int .i64 (k287:Int),.int .i64 w303,.int .i32 v288_0,.int .i32 v288_1,.int .i32 v288_2])
     refine rF 1 0 [(.ia 3 (n1 0) (nI 25),.ptr 0 0)] [⟨lS314,(k287 * 3),[n2 27,n2 28,n2 29],false⟩] [(67,n1 0),(0,n1 0),(3,nI 3),(10,nI 4),(59,n1 0),(63,n1 0),(11,nI 6),(2,nI 2),(4,.fn 22 [] []),(70,nI 25),(62,nI 26),(66,nI 25)] q315 (.cons (qA hr11_0 gS314 hlt314 rfl (by rw [hm314];exact(dL q315))) .nil) (.cons (qD (k:=k287) (dE q315) eS314 (dE q315) hlt314 rfl) .nil) (sc B14 (.cons b298 (.cons b304 (.cons b306 .nil)))) ?_
     refine qM kr fun vs ls H316 E316 st hE=>?_
     obtain⟨w318,hw318⟩:∃ z,z=(IntKind.wrap .i64 ((f:Int)+(r11:Int))):=⟨_,rfl⟩
     have b319:E316 76=.int .i64 w318:=by rw [hw318];exact eo st hE 76 _
     have B15:=es st hE [(73,S),(59,S),(62,.int .i64 w303),(72,.agg [.int .i32 v288_0,.int .i32 v288_1,.int .i32 v288_2]),(63,S),(66,.int .i64 (k287:Int)),(11,.int .i64 w43),(10,.int .i64 (r11:Int)),(2,.int .i64 (hi:Int)),(4,.func 22 [] []),(0,S),(3,.int .i64 (f:Int))]
     have g332:Grew H294 H316:=(gk st)
     have g333:OnlyS S H H316:=g311.grewR g332
     have s335:=s313.grew g332
     have nw318:w318=((f:Int)+(r11:Int)):=hw318.trans (wI _ om om)
     obtain rfl:w318=(k268:Int):=by omega
     have hlt336:k268 < L11.length:=by omega
     obtain⟨lS336,cap336,rest336,wr336,eS336,gS336⟩:=(s335.toL).isSl hlt336
     obtain⟨v336_0,v336_1,v336_2,hm336⟩:=qC (hr11_0.get hlt336)
     have he336:L11.getD k268 []=[.int .i32 v336_0,.int .i32 v336_1,.int .i32 v336_2]:=by rw [<- hm336,List.getD_eq_getElem?_getD,List.getElem?_eq_getElem hlt336];rfl
     have hq336:=he269.symm.trans he336
     simp only [List.cons.injEq,AV.flt.injEq,AV.int.injEq,Int.natCast_inj,true_and,and_true] at hq336
     obtain⟨rfl,rfl,rfl⟩:=hq336
     have q337:=q315.app (kL:KdsL [KI,K2,K2,K2] [.int .i64 (k268:Int),.int .i32 v269_0,.int .i32 v269_1,.int .i32 v269_2])
     refine rF 1 0 [(.ia 3 (n1 0) (nI 30),.ptr 0 0)] [⟨lS336,(k268 * 3),[n2 31,n2 32,n2 33],false⟩] [(73,n1 0),(59,n1 0),(62,nI 26),(72,.agg [n2 27,n2 28,n2 29]),(63,n1 0),(66,nI 25),(11,nI 6),(10,nI 4),(2,nI 2),(4,.fn 22 [] []),(0,n1 0),(3,nI 3),(76,nI 30)] q337 (.cons (qA hr11_0 gS336 hlt336 rfl (by rw [hm336];exact(dL q337))) .nil) (.cons (qD (k:=k268) (dE q337) eS336 (dE q337) hlt336 rfl) .nil) (sc B15 (.cons b319 .nil)) ?_
     refine qM kr fun vs ls H338 E338 st hE=>?_
     have B16:=es st hE [(59,S),(62,.int .i64 w303),(72,.agg [.int .i32 v288_0,.int .i32 v288_1,.int .i32 v288_2]),(63,S),(66,.int .i64 (k287:Int)),(78,.agg [.int .i32 v269_0,.int .i32 v269_1,.int .i32 v269_2]),(11,.int .i64 w43),(10,.int .i64 (r11:Int)),(2,.int .i64 (hi:Int)),(4,.func 22 [] []),(0,S),(3,.int .i64 (f:Int))]
     have g352:Grew H316 H338:=(gk st)
     have g353:OnlyS S H H338:=g333.grewR g352
     have s355:=s335.grew g352
     obtain rfl:w303=(k268:Int):=by omega
     have hlt356:k268 < L11.length:=by omega
     obtain⟨lS356,cap356,rest356,wr356,eS356,gS356⟩:=(s355.toL).isSl hlt356
     obtain⟨v356_0,v356_1,v356_2,hm356⟩:=qC (hr11_0.get hlt356)
     have he356:L11.getD k268 []=[.int .i32 v356_0,.int .i32 v356_1,.int .i32 v356_2]:=by rw [<- hm356,List.getD_eq_getElem?_getD,List.getElem?_eq_getElem hlt356];rfl
     have hq356:=he336.symm.trans he356
     simp only [List.cons.injEq,AV.flt.injEq,AV.int.injEq,Int.natCast_inj,true_and,and_true] at hq356
     obtain⟨rfl,rfl,rfl⟩:=hq356
     have q357:KdsL [.one,KI,KI,KI,KI,KI,KI,.bool,K2,K2,K2,KI,K2,K2,K2,KI,KI,K2,K2,K2,KI,K2,K2,K2,KI,KI,KI,K2,K2,K2,KI,K2,K2,K2,K2,K2,K2] [S,.int .i64 (lo:Int),.int .i64 (hi:Int),.int .i64 (f:Int),.int .i64 (r11:Int),.int .i64 (k54:Int),.int .i64 w43,.bool w46,.int .i32 v55_0,.int .i32 v55_1,.int .i32 v55_2,.int .i64 (k75:Int),.int .i32 v76_0,.int .i32 v76_1,.int .i32 v76_2,.int .i64 (zD v55_0 v55_1 v55_2 v76_0 v76_1 v76_2),.int .i64 (k268:Int),.int .i32 v269_0,.int .i32 v269_1,.int .i32 v269_2,.int .i64 (k287:Int),.int .i32 v288_0,.int .i32 v288_1,.int .i32 v288_2,.int .i64 (zD v269_0 v269_1 v269_2 v288_0 v288_1 v288_2),.int .i64 (k287:Int),.int .i64 (k268:Int),.int .i32 v288_0,.int .i32 v288_1,.int .i32 v288_2,.int .i64 (k268:Int),.int .i32 v269_0,.int .i32 v269_1,.int .i32 v269_2,.int .i32 v269_0,.int .i32 v269_1,.int .i32 v269_2]:=kL
     refine rF 1 0 [(.ia 3 (n1 0) (nI 26),.ptr 0 0)] [⟨lS356,(k268 * 3),[n2 34,n2 35,n2 36],false⟩] [(59,n1 0),(62,nI 26),(72,.agg [n2 27,n2 28,n2 29]),(63,n1 0),(66,nI 25),(78,.agg [n2 31,n2 32,n2 33]),(11,nI 6),(10,nI 4),(2,nI 2),(4,.fn 22 [] []),(0,n1 0),(3,nI 3)] q357 (.cons (qA hr11_0 gS356 hlt356 rfl (by rw [hm356];exact(dL q357))) .nil) (.cons (qD (k:=k268) (dE q357) eS356 (dE q357) hlt356 rfl) .nil) B16 ?_
     refine qM kr fun vs ls H358 E358 st hE=>?_
     have b359:=eo st hE 79 (.ptr lS356 ((k268 * 3)+0))
     have b360:=eo st hE 72 (.agg [.int .i32 v288_0,.int .i32 v288_1,.int .i32 v288_2])
     have B17:=es st hE [(72,.agg [.int .i32 v288_0,.int .i32 v288_1,.int .i32 v288_2]),(63,S),(66,.int .i64 (k287:Int)),(78,.agg [.int .i32 v269_0,.int .i32 v269_1,.int .i32 v269_2]),(11,.int .i64 w43),(10,.int .i64 (r11:Int)),(2,.int .i64 (hi:Int)),(4,.func 22 [] []),(0,S),(3,.int .i64 (f:Int))]
     have g371:Grew H338 H358:=(gk st)
     have g372:OnlyS S H H358:=g353.grewR g371
     have s374:=s355.grew g371
     refine qH (d:=none) (n:=3) (x:=.tmp 79) (y:=.tmp 72) kr (S:=S) (ms:=L11) (k:=k268) (m':=[.int .i32 v288_0,.int .i32 v288_1,.int .i32 v288_2]) (s374) eS356 b359 hlt356 hr11_0.len (by show AV.cells (E358 72)=_;rw [b360];rfl) rfl rfl rfl ?_
     intro H375 s375 oo375
     have hln375:(L11.set k268 [.int .i32 v288_0,.int .i32 v288_1,.int .i32 v288_2]).length=L11.length:=by simp
     have g376:OnlyS S H H375:=g372.trans oo375
     refine rC 0 0 [] [(72,.agg [n2 27,n2 28,n2 29]),(63,n1 0),(66,nI 25),(78,.agg [n2 31,n2 32,n2 33]),(11,nI 6),(10,nI 4),(2,nI 2),(4,.fn 22 [] []),(0,n1 0),(3,nI 3)] q357 (sn B17) ?_
     refine qM kr fun vs ls H378 E378 st hE=>?_
     have B18:=es st hE [(63,S),(66,.int .i64 (k287:Int)),(78,.agg [.int .i32 v269_0,.int .i32 v269_1,.int .i32 v269_2]),(11,.int .i64 w43),(10,.int .i64 (r11:Int)),(2,.int .i64 (hi:Int)),(4,.func 22 [] []),(0,S),(3,.int .i64 (f:Int))]
     have g389:Grew H375 H378:=(gk st)
     have g390:OnlyS S H H378:=g376.grewR g389
     have s391:=s375.grew g389
     have hlt392:k287 < (L11.set k268 [.int .i32 v288_0,.int .i32 v288_1,.int .i32 v288_2]).length:=by omega
     obtain⟨lS392,cap392,rest392,wr392,eS392,gS392⟩:=(s391.toL).isSl hlt392
     obtain⟨v392_0,v392_1,v392_2,hm392⟩:=qC ((qL.set hr11_0 (.cons kA (.cons kA (.cons kA .nil)))).get hlt392)
     have he392:(L11.set k268 [.int .i32 v288_0,.int .i32 v288_1,.int .i32 v288_2]).getD k287 []=[.int .i32 v392_0,.int .i32 v392_1,.int .i32 v392_2]:=by rw [<- hm392,List.getD_eq_getElem?_getD,List.getElem?_eq_getElem hlt392];rfl
     have q393:=q357.app (kL:KdsL [K2,K2,K2] [.int .i32 v392_0,.int .i32 v392_1,.int .i32 v392_2])
     refine rF 1 0 [(.ia 3 (n1 0) (nI 25),.ptr 0 0)] [⟨lS392,(k287 * 3),[n2 37,n2 38,n2 39],false⟩] [(63,n1 0),(66,nI 25),(78,.agg [n2 31,n2 32,n2 33]),(11,nI 6),(10,nI 4),(2,nI 2),(4,.fn 22 [] []),(0,n1 0),(3,nI 3)] q393 (.cons (qA (qL.set hr11_0 (.cons kA (.cons kA (.cons kA .nil)))) gS392 hlt392 rfl (by rw [hm392];exact(dL q393))) .nil) (.cons (qD (k:=k287) (dE q393) eS392 (dE q393) hlt392 rfl) .nil) B18 ?_
     refine qM kr fun vs ls H394 E394 st hE=>?_
     have b395:=eo st hE 80 (.ptr lS392 ((k287 * 3)+0))
     have b396:=eo st hE 78 (.agg [.int .i32 v269_0,.int .i32 v269_1,.int .i32 v269_2])
     have B19:=es st hE [(78,.agg [.int .i32 v269_0,.int .i32 v269_1,.int .i32 v269_2]),(11,.int .i64 w43),(10,.int .i64 (r11:Int)),(2,.int .i64 (hi:Int)),(4,.func 22 [] []),(0,S),(3,.int .i64 (f:Int))]
     have g404:Grew H378 H394:=(gk st)
     have g405:OnlyS S H H394:=g390.grewR g404
     have s407:=s391.grew g404
     refine qH (d:=none) (n:=3) (x:=.tmp 80) (y:=.tmp 78) kr (S:=S) (ms:=(L11.set k268 [.int .i32 v288_0,.int .i32 v288_1,.int .i32 v288_2])) (k:=k287) (m':=[.int .i32 v269_0,.int .i32 v269_1,.int .i32 v269_2]) (s407) eS392 b395 hlt392 (qL.set hr11_0 (.cons kA (.cons kA (.cons kA .nil)))).len (by show AV.cells (E394 78)=_;rw [b396];rfl) rfl rfl rfl ?_
     intro H408 s408 oo408
     have hln408:((L11.set k268 [.int .i32 v288_0,.int .i32 v288_1,.int .i32 v288_2]).set k287 [.int .i32 v269_0,.int .i32 v269_1,.int .i32 v269_2]).length=(L11.set k268 [.int .i32 v288_0,.int .i32 v288_1,.int .i32 v288_2]).length:=by simp
     have g409:OnlyS S H H408:=g405.trans oo408
     refine rC 0 0 [] [(78,.agg [n2 31,n2 32,n2 33]),(11,nI 6),(10,nI 4),(2,nI 2),(4,.fn 22 [] []),(0,n1 0),(3,nI 3)] q393 (sn B19) ?_
     refine qM kr fun vs ls H411 E411 st hE=>?_
     have b412:=eo st hE 10 (.int .i64 w43)
     have b413:=eo st hE 2 (.int .i64 (hi:Int))
     have b414:=eo st hE 4 (.func 22 [] [])
     have b415:=eo st hE 0 S
     have b416:=eo st hE 3 (.int .i64 (f:Int))
     have g417:Grew H408 H411:=(gk st)
     have g418:OnlyS S H H411:=g409.grewR g417
     have s419:=s408.grew g417
     obtain⟨k420,hk420⟩:∃ k:Nat,w43=(k:Int):=⟨Int.toNat w43,by omega⟩
     have ct421:=xT hκ hfr11.st.pe hlt55 hlt76 he55 he76
     have ct422:=xT hκ hfr11.st.pe hlt356 hlt314 he356 he314
     have hsw9:((L11.set k268 [.int .i32 v288_0,.int .i32 v288_1,.int .i32 v288_2]).set k287 [.int .i32 v269_0,.int .i32 v269_1,.int .i32 v269_2])=swp L11 k268 k287:=by unfold swp;rw [he356,he314]
     have hk8:k268=f+r11:=by omega
     have hk9:k287=f+k420:=by omega
     have hlt9:tmK κ L11 (f+r11) < tmK κ L11 (f+k420):=by (try have z0_1:=@tmw κ L11 (f+r11) (f+k420) om);(try have z0_2:=@tmw κ L11 (f+r11) (k54) om);(try have z0_3:=@tmw κ L11 (f+r11) (k75) om);(try have z0_4:=@tmw κ L11 (f+r11) (k268) om);(try have z0_5:=@tmw κ L11 (f+r11) (k287) om);(try have z1_2:=@tmw κ L11 (f+k420) (k54) om);(try have z1_3:=@tmw κ L11 (f+k420) (k75) om);(try have z1_4:=@tmw κ L11 (f+k420) (k268) om);(try have z1_5:=@tmw κ L11 (f+k420) (k287) om);(try have z2_3:=@tmw κ L11 (k54) (k75) om);(try have z2_4:=@tmw κ L11 (k54) (k268) om);(try have z2_5:=@tmw κ L11 (k54) (k287) om);(try have z3_4:=@tmw κ L11 (k75) (k268) om);(try have z3_5:=@tmw κ L11 (k75) (k287) om);(try have z4_5:=@tmw κ L11 (k268) (k287) om);omega
     have hmx9:∀ d,d < hi->(d=2 * r11+1 \/ d=2 * r11+2)->tmK κ L11 (f+d)<=tmK κ L11 (f+k420):=fun d h1 h2=>by rcases h2 with h2 | h2 <;> ((try have z0_1:=@tmw κ L11 (f+d) (f+k420) om);(try have z0_2:=@tmw κ L11 (f+d) (k54) om);(try have z0_3:=@tmw κ L11 (f+d) (k75) om);(try have z0_4:=@tmw κ L11 (f+d) (k268) om);(try have z0_5:=@tmw κ L11 (f+d) (k287) om);(try have z1_2:=@tmw κ L11 (f+k420) (k54) om);(try have z1_3:=@tmw κ L11 (f+k420) (k75) om);(try have z1_4:=@tmw κ L11 (f+k420) (k268) om);(try have z1_5:=@tmw κ L11 (f+k420) (k287) om);(try have z2_3:=@tmw κ L11 (k54) (k75) om);(try have z2_4:=@tmw κ L11 (k54) (k268) om);(try have z2_5:=@tmw κ L11 (k54) (k287) om);(try have z3_4:=@tmw κ L11 (k75) (k268) om);(try have z3_5:=@tmw κ L11 (k75) (k287) om);(try have z4_5:=@tmw κ L11 (k268) (k287) om);omega)
     have hm9:hi - k420 < z11:=by omega
     exact qP kr ⟨hi - k420,hm9,k420,((L11.set k268 [.int .i32 v288_0,.int .i32 v288_1,.int .i32 v288_2]).set k287 [.int .i32 v269_0,.int .i32 v269_1,.int .i32 v269_2]),rfl,b413,b414,b415,b416,(b412.trans (by rw [hk420])),g418,s419,(qL.set (qL.set hr11_0 (.cons kA (.cons kA (.cons kA .nil)))) (.cons kA (.cons kA (.cons kA .nil)))),⟨by omega,by rw [hsw9,hk8,hk9];exact Sft.step hfr11 hb om om hlt9 hmx9⟩⟩
   ·intro vs ls H423 E423 st hE
    have f424:w46=false:=bf st 0
    rw [hw46] at f424
    rw [wI (2 * (r11:Int)) om om] at f424
    rw [wI ((2 * (r11:Int))+1) om om] at f424
    rw [wI (((2 * (r11:Int))+1)+1) om om] at f424
    exact absurd f36 (of_decide_eq_false f424)
  ·intro vs ls H435 E435 st hE
   have f436:w46=false:=bf st 0
   rw [hw46] at f436
   rw [wI (2 * (r11:Int)) om om] at f436
   rw [wI ((2 * (r11:Int))+1) om om] at f436
   rw [wI (((2 * (r11:Int))+1)+1) om om] at f436
   exact absurd f36 (of_decide_eq_false f436)
 ·intro vs ls H447 E447 st hE
  have f448:¬ ((IntKind.wrap .i64 ((IntKind.wrap .i64 ((IntKind.wrap .i64 (2 * (r11:Int)))+1))+1)) < (hi:Int)):=df st 0
  rw [wI (2 * (r11:Int)) om om] at f448
  rw [wI ((2 * (r11:Int))+1) om om] at f448
  rw [wI (((2 * (r11:Int))+1)+1) om om] at f448
  have f449:(IntKind.wrap .i64 ((IntKind.wrap .i64 (2 * (r11:Int)))+1)) < (hi:Int):=dt st 1
  rw [wI (2 * (r11:Int)) om om] at f449
  rw [wI ((2 * (r11:Int))+1) om om] at f449
  obtain⟨w451,hw451⟩:∃ z,z=(IntKind.wrap .i64 ((f:Int)+(r11:Int))):=⟨_,rfl⟩
  have b452:E447 47=.int .i64 w451:=by rw [hw451];exact eo st hE 47 _
  obtain⟨w455,hw455⟩:∃ z,z=(IntKind.wrap .i64 ((IntKind.wrap .i64 (2 * (r11:Int)))+1)):=⟨_,rfl⟩
  have b456:E447 11=.int .i64 w455:=by rw [hw455];exact eo st hE 11 _
  have B20:=es st hE [(44,S),(0,S),(3,.int .i64 (f:Int)),(43,.func 22 [] []),(10,.int .i64 (r11:Int)),(2,.int .i64 (hi:Int)),(4,.func 22 [] [])]
  have g461:Grew Hx11 H447:=(gk st)
  have g462:OnlyS S H H447:=gt11.grewR g461
  have s463:=so11_0.grew g461
  have nw451:w451=((f:Int)+(r11:Int)):=hw451.trans (wI _ om om)
  have nw455:w455=((2 * (r11:Int))+1):=by
   rw [hw455]
   rw [wI (2 * (r11:Int)) om om]
   rw [wI ((2 * (r11:Int))+1) om om]
  obtain⟨k464,rfl⟩:∃ k:Nat,w451=(k:Int):=⟨Int.toNat w451,by omega⟩
  have hlt465:k464 < L11.length:=by omega
  obtain⟨lS465,cap465,rest465,wr465,eS465,gS465⟩:=(s463.toL).isSl hlt465
  obtain⟨v465_0,v465_1,v465_2,hm465⟩:=qC (hr11_0.get hlt465)
  have he465:L11.getD k464 []=[.int .i32 v465_0,.int .i32 v465_1,.int .i32 v465_2]:=by rw [<- hm465,List.getD_eq_getElem?_getD,List.getElem?_eq_getElem hlt465];rfl
  have q466:=q12.app (kL:KdsL [KI,KI,K2,K2,K2] [.int .i64 (k464:Int),.int .i64 w455,.int .i32 v465_0,.int .i32 v465_1,.int .i32 v465_2])
  refine rF 1 0 [(.ia 3 (n1 0) (nI 5),.ptr 0 0)] [⟨lS465,(k464 * 3),[n2 7,n2 8,n2 9],false⟩] [(44,n1 0),(0,n1 0),(3,nI 3),(43,.fn 22 [] []),(10,nI 4),(2,nI 2),(4,.fn 22 [] []),(47,nI 5),(11,nI 6)] q466 (.cons (qA hr11_0 gS465 hlt465 rfl (by rw [hm465];exact(dL q466))) .nil) (.cons (qD (k:=k464) (dE q466) eS465 (dE q466) hlt465 rfl) .nil) (sc B20 (.cons b452 (.cons b456 .nil))) ?_
  refine qM kr fun vs ls H467 E467 st hE=>?_
  obtain⟨w469,hw469⟩:∃ z,z=(IntKind.wrap .i64 ((f:Int)+w455)):=⟨_,rfl⟩
  have b470:E467 53=.int .i64 w469:=by rw [hw469];exact eo st hE 53 _
  have B21:=es st hE [(50,S),(43,.func 22 [] []),(49,.agg [.int .i32 v465_0,.int .i32 v465_1,.int .i32 v465_2]),(0,S),(3,.int .i64 (f:Int)),(10,.int .i64 (r11:Int)),(11,.int .i64 w455),(2,.int .i64 (hi:Int)),(4,.func 22 [] [])]
  have g479:Grew H447 H467:=(gk st)
  have g480:OnlyS S H H467:=g462.grewR g479
  have s482:=s463.grew g479
  have nw469:w469=((f:Int)+w455):=hw469.trans (wI _ om om)
  obtain⟨k483,rfl⟩:∃ k:Nat,w469=(k:Int):=⟨Int.toNat w469,by omega⟩
  have hlt484:k483 < L11.length:=by omega
  obtain⟨lS484,cap484,rest484,wr484,eS484,gS484⟩:=(s482.toL).isSl hlt484
  obtain⟨v484_0,v484_1,v484_2,hm484⟩:=qC (hr11_0.get hlt484)
  have he484:L11.getD k483 []=[.int .i32 v484_0,.int .i32 v484_1,.int .i32 v484_2]:=by rw [<- hm484,List.getD_eq_getElem?_getD,List.getElem?_eq_getElem hlt484];rfl
  have q485:=q466.app (kL:KdsL [KI,K2,K2,K2,KI] [.int .i64 (k483:Int),.int .i32 v484_0,.int .i32 v484_1,.int .i32 v484_2,.int .i64 (zD v465_0 v465_1 v465_2 v484_0 v484_1 v484_2)])
  refine rF 1 0 [(.ia 3 (n1 0) (nI 10),.ptr 0 0),(.call 22 [.agg [n2 7,n2 8,n2 9],.agg [n2 11,n2 12,n2 13]],nI 14)] [⟨lS484,(k483 * 3),[n2 11,n2 12,n2 13],false⟩] [(50,n1 0),(43,.fn 22 [] []),(49,.agg [n2 7,n2 8,n2 9]),(0,n1 0),(3,nI 3),(10,nI 4),(11,nI 6),(2,nI 2),(4,.fn 22 [] []),(53,nI 10)] q485 (.cons (qA hr11_0 gS484 hlt484 rfl (by rw [hm484];exact(dL q485))) .nil) (.cons (qD (k:=k483) (dE q485) eS484 (dE q485) hlt484 rfl) (.cons (qI (args:=[.agg [.int .i32 v465_0,.int .i32 v465_1,.int .i32 v465_2],.agg [.int .i32 v484_0,.int .i32 v484_1,.int .i32 v484_2]]) (dL q485) (dE q485) (fun H9 hk=>qO H9 v465_0 v465_1 v465_2 v484_0 v484_1 v484_2)) .nil)) (sc B21 (.cons b470 .nil)) ?_
  refine vI kr ?_ ?_
  ·intro vs ls H486 E486 st hE
   have f487:¬ ((zD v465_0 v465_1 v465_2 v484_0 v484_1 v484_2) < 0):=df st 0
   have gz:OnlyS S H H486:=(g480.grewR (gk st))
   have ct488:=xT hκ hfr11.st.pe hlt465 hlt484 he465 he484
   exact bE kr (qS st.inn hE (.inr rfl) (a:=.tuple []) kr gz.next ⟨rfl,gz,_,(s482.grew (st.inn.kept.grew (Nat.le_refl _))),hr11_0,Sft.fin hfr11 (fun d h1 h2=>by rcases h2 with h2 | h2 <;> ((try have z0_1:=@tmw κ L11 (f+d) (f+r11) om);(try have z0_2:=@tmw κ L11 (f+d) (k464) om);(try have z0_3:=@tmw κ L11 (f+d) (k483) om);(try have z1_2:=@tmw κ L11 (f+r11) (k464) om);(try have z1_3:=@tmw κ L11 (f+r11) (k483) om);(try have z2_3:=@tmw κ L11 (k464) (k483) om);omega))⟩)
  ·intro vs ls H489 E489 st hE
   have f490:(zD v465_0 v465_1 v465_2 v484_0 v484_1 v484_2) < 0:=dt st 0
   obtain⟨w492,hw492⟩:∃ z,z=(IntKind.wrap .i64 ((f:Int)+w455)):=⟨_,rfl⟩
   have b493:E489 70=.int .i64 w492:=by rw [hw492];exact eo st hE 70 _
   obtain⟨w498,hw498⟩:∃ z,z=(IntKind.wrap .i64 ((f:Int)+(r11:Int))):=⟨_,rfl⟩
   have b499:E489 62=.int .i64 w498:=by rw [hw498];exact eo st hE 62 _
   have b501:E489 66=.int .i64 w492:=by rw [hw492];exact eo st hE 66 _
   have B22:=es st hE [(67,S),(0,S),(3,.int .i64 (f:Int)),(10,.int .i64 (r11:Int)),(59,S),(63,S),(11,.int .i64 w455),(2,.int .i64 (hi:Int)),(4,.func 22 [] [])]
   have g505:Grew H467 H489:=(gk st)
   have g506:OnlyS S H H489:=g480.grewR g505
   have s508:=s482.grew g505
   have nw492:w492=((f:Int)+w455):=hw492.trans (wI _ om om)
   have nw498:w498=((f:Int)+(r11:Int)):=hw498.trans (wI _ om om)
   obtain rfl:w492=(k483:Int):=by omega
   have hlt509:k483 < L11.length:=by omega
   obtain⟨lS509,cap509,rest509,wr509,eS509,gS509⟩:=(s508.toL).isSl hlt509
   obtain⟨v509_0,v509_1,v509_2,hm509⟩:=qC (hr11_0.get hlt509)
   have he509:L11.getD k483 []=[.int .i32 v509_0,.int .i32 v509_1,.int .i32 v509_2]:=by rw [<- hm509,List.getD_eq_getElem?_getD,List.getElem?_eq_getElem hlt509];rfl
   have hq509:=he484.symm.trans he509
   simp only [List.cons.injEq,AV.flt.injEq,AV.int.injEq,Int.natCast_inj,true_and,and_true] at hq509
   obtain⟨rfl,rfl,rfl⟩:=hq509
   have q510:=q485.app (kL:KdsL [KI,KI,K2,K2,K2] [.int .i64 (k483:Int),.int .i64 w498,.int .i32 v484_0,.int .i32 v484_1,.int .i32 v484_2])
   refine rF 1 0 [(.ia 3 (n1 0) (nI 15),.ptr 0 0)] [⟨lS509,(k483 * 3),[n2 17,n2 18,n2 19],false⟩] [(67,n1 0),(0,n1 0),(3,nI 3),(10,nI 4),(59,n1 0),(63,n1 0),(11,nI 6),(2,nI 2),(4,.fn 22 [] []),(70,nI 15),(62,nI 16),(66,nI 15)] q510 (.cons (qA hr11_0 gS509 hlt509 rfl (by rw [hm509];exact(dL q510))) .nil) (.cons (qD (k:=k483) (dE q510) eS509 (dE q510) hlt509 rfl) .nil) (sc B22 (.cons b493 (.cons b499 (.cons b501 .nil)))) ?_
   refine qM kr fun vs ls H511 E511 st hE=>?_
   obtain⟨w513,hw513⟩:∃ z,z=(IntKind.wrap .i64 ((f:Int)+(r11:Int))):=⟨_,rfl⟩
   have b514:E511 76=.int .i64 w513:=by rw [hw513];exact eo st hE 76 _
   have B23:=es st hE [(73,S),(59,S),(62,.int .i64 w498),(72,.agg [.int .i32 v484_0,.int .i32 v484_1,.int .i32 v484_2]),(63,S),(66,.int .i64 (k483:Int)),(11,.int .i64 w455),(10,.int .i64 (r11:Int)),(2,.int .i64 (hi:Int)),(4,.func 22 [] []),(0,S),(3,.int .i64 (f:Int))]
   have g527:Grew H489 H511:=(gk st)
   have g528:OnlyS S H H511:=g506.grewR g527
   have s530:=s508.grew g527
   have nw513:w513=((f:Int)+(r11:Int)):=hw513.trans (wI _ om om)
   obtain rfl:w513=(k464:Int):=by omega
   have hlt531:k464 < L11.length:=by omega
   obtain⟨lS531,cap531,rest531,wr531,eS531,gS531⟩:=(s530.toL).isSl hlt531
   obtain⟨v531_0,v531_1,v531_2,hm531⟩:=qC (hr11_0.get hlt531)
   have he531:L11.getD k464 []=[.int .i32 v531_0,.int .i32 v531_1,.int .i32 v531_2]:=by rw [<- hm531,List.getD_eq_getElem?_getD,List.getElem?_eq_getElem hlt531];rfl
   have hq531:=he465.symm.trans he531
   simp only [List.cons.injEq,AV.flt.injEq,AV.int.injEq,Int.natCast_inj,true_and,and_true] at hq531
   obtain⟨rfl,rfl,rfl⟩:=hq531
   have q532:=q510.app (kL:KdsL [KI,K2,K2,K2] [.int .i64 (k464:Int),.int .i32 v465_0,.int .i32 v465_1,.int .i32 v465_2])
   refine rF 1 0 [(.ia 3 (n1 0) (nI 20),.ptr 0 0)] [⟨lS531,(k464 * 3),[n2 21,n2 22,n2 23],false⟩] [(73,n1 0),(59,n1 0),(62,nI 16),(72,.agg [n2 17,n2 18,n2 19]),(63,n1 0),(66,nI 15),(11,nI 6),(10,nI 4),(2,nI 2),(4,.fn 22 [] []),(0,n1 0),(3,nI 3),(76,nI 20)] q532 (.cons (qA hr11_0 gS531 hlt531 rfl (by rw [hm531];exact(dL q532))) .nil) (.cons (qD (k:=k464) (dE q532) eS531 (dE q532) hlt531 rfl) .nil) (sc B23 (.cons b514 .nil)) ?_
   refine qM kr fun vs ls H533 E533 st hE=>?_
   have B24:=es st hE [(59,S),(62,.int .i64 w498),(72,.agg [.int .i32 v484_0,.int .i32 v484_1,.int .i32 v484_2]),(63,S),(66,.int .i64 (k483:Int)),(78,.agg [.int .i32 v465_0,.int .i32 v465_1,.int .i32 v465_2]),(11,.int .i64 w455),(10,.int .i64 (r11:Int)),(2,.int .i64 (hi:Int)),(4,.func 22 [] []),(0,S),(3,.int .i64 (f:Int))]
   have g547:Grew H511 H533:=(gk st)
   have g548:OnlyS S H H533:=g528.grewR g547
   have s550:=s530.grew g547
   obtain rfl:w498=(k464:Int):=by omega
   have hlt551:k464 < L11.length:=by omega
   obtain⟨lS551,cap551,rest551,wr551,eS551,gS551⟩:=(s550.toL).isSl hlt551
   obtain⟨v551_0,v551_1,v551_2,hm551⟩:=qC (hr11_0.get hlt551)
   have he551:L11.getD k464 []=[.int .i32 v551_0,.int .i32 v551_1,.int .i32 v551_2]:=by rw [<- hm551,List.getD_eq_getElem?_getD,List.getElem?_eq_getElem hlt551];rfl
   have hq551:=he531.symm.trans he551
   simp only [List.cons.injEq,AV.flt.injEq,AV.int.injEq,Int.natCast_inj,true_and,and_true] at hq551
   obtain⟨rfl,rfl,rfl⟩:=hq551
   have q552:KdsL [.one,KI,KI,KI,KI,KI,KI,K2,K2,K2,KI,K2,K2,K2,KI,KI,KI,K2,K2,K2,KI,K2,K2,K2,K2,K2,K2] [S,.int .i64 (lo:Int),.int .i64 (hi:Int),.int .i64 (f:Int),.int .i64 (r11:Int),.int .i64 (k464:Int),.int .i64 w455,.int .i32 v465_0,.int .i32 v465_1,.int .i32 v465_2,.int .i64 (k483:Int),.int .i32 v484_0,.int .i32 v484_1,.int .i32 v484_2,.int .i64 (zD v465_0 v465_1 v465_2 v484_0 v484_1 v484_2),.int .i64 (k483:Int),.int .i64 (k464:Int),.int .i32 v484_0,.int .i32 v484_1,.int .i32 v484_2,.int .i64 (k464:Int),.int .i32 v465_0,.int .i32 v465_1,.int .i32 v465_2,.int .i32 v465_0,.int .i32 v465_1,.int .i32 v465_2]:=kL
   refine rF 1 0 [(.ia 3 (n1 0) (nI 16),.ptr 0 0)] [⟨lS551,(k464 * 3),[n2 24,n2 25,n2 26],false⟩] [(59,n1 0),(62,nI 16),(72,.agg [n2 17,n2 18,n2 19]),(63,n1 0),(66,nI 15),(78,.agg [n2 21,n2 22,n2 23]),(11,nI 6),(10,nI 4),(2,nI 2),(4,.fn 22 [] []),(0,n1 0),(3,nI 3)] q552 (.cons (qA hr11_0 gS551 hlt551 rfl (by rw [hm551];exact(dL q552))) .nil) (.cons (qD (k:=k464) (dE q552) eS551 (dE q552) hlt551 rfl) .nil) B24 ?_
   refine qM kr fun vs ls H553 E553 st hE=>?_
   have b554:=eo st hE 79 (.ptr lS551 ((k464 * 3)+0))
   have b555:=eo st hE 72 (.agg [.int .i32 v484_0,.int .i32 v484_1,.int .i32 v484_2])
   have B25:=es st hE [(72,.agg [.int .i32 v484_0,.int .i32 v484_1,.int .i32 v484_2]),(63,S),(66,.int .i64 (k483:Int)),(78,.agg [.int .i32 v465_0,.int .i32 v465_1,.int .i32 v465_2]),(11,.int .i64 w455),(10,.int .i64 (r11:Int)),(2,.int .i64 (hi:Int)),(4,.func 22 [] []),(0,S),(3,.int .i64 (f:Int))]
   have g566:Grew H533 H553:=(gk st)
   have g567:OnlyS S H H553:=g548.grewR g566
   have s569:=s550.grew g566
   refine qH (d:=none) (n:=3) (x:=.tmp 79) (y:=.tmp 72) kr (S:=S) (ms:=L11) (k:=k464) (m':=[.int .i32 v484_0,.int .i32 v484_1,.int .i32 v484_2]) (s569) eS551 b554 hlt551 hr11_0.len (by show AV.cells (E553 72)=_;rw [b555];rfl) rfl rfl rfl ?_
   intro H570 s570 oo570
   have hln570:(L11.set k464 [.int .i32 v484_0,.int .i32 v484_1,.int .i32 v484_2]).length=L11.length:=by simp
   have g571:OnlyS S H H570:=g567.trans oo570
   refine rC 0 0 [] [(72,.agg [n2 17,n2 18,n2 19]),(63,n1 0),(66,nI 15),(78,.agg [n2 21,n2 22,n2 23]),(11,nI 6),(10,nI 4),(2,nI 2),(4,.fn 22 [] []),(0,n1 0),(3,nI 3)] q552 (sn B25) ?_
   refine qM kr fun vs ls H573 E573 st hE=>?_
   have B26:=es st hE [(63,S),(66,.int .i64 (k483:Int)),(78,.agg [.int .i32 v465_0,.int .i32 v465_1,.int .i32 v465_2]),(11,.int .i64 w455),(10,.int .i64 (r11:Int)),(2,.int .i64 (hi:Int)),(4,.func 22 [] []),(0,S),(3,.int .i64 (f:Int))]
   have g584:Grew H570 H573:=(gk st)
   have g585:OnlyS S H H573:=g571.grewR g584
   have s586:=s570.grew g584
   have hlt587:k483 < (L11.set k464 [.int .i32 v484_0,.int .i32 v484_1,.int .i32 v484_2]).length:=by omega
   obtain⟨lS587,cap587,rest587,wr587,eS587,gS587⟩:=(s586.toL).isSl hlt587
   obtain⟨v587_0,v587_1,v587_2,hm587⟩:=qC ((qL.set hr11_0 (.cons kA (.cons kA (.cons kA .nil)))).get hlt587)
   have he587:(L11.set k464 [.int .i32 v484_0,.int .i32 v484_1,.int .i32 v484_2]).getD k483 []=[.int .i32 v587_0,.int .i32 v587_1,.int .i32 v587_2]:=by rw [<- hm587,List.getD_eq_getElem?_getD,List.getElem?_eq_getElem hlt587];rfl
   have q588:=q552.app (kL:KdsL [K2,K2,K2] [.int .i32 v587_0,.int .i32 v587_1,.int .i32 v587_2])
   refine rF 1 0 [(.ia 3 (n1 0) (nI 15),.ptr 0 0)] [⟨lS587,(k483 * 3),[n2 27,n2 28,n2 29],false⟩] [(63,n1 0),(66,nI 15),(78,.agg [n2 21,n2 22,n2 23]),(11,nI 6),(10,nI 4),(2,nI 2),(4,.fn 22 [] []),(0,n1 0),(3,nI 3)] q588 (.cons (qA (qL.set hr11_0 (.cons kA (.cons kA (.cons kA .nil)))) gS587 hlt587 rfl (by rw [hm587];exact(dL q588))) .nil) (.cons (qD (k:=k483) (dE q588) eS587 (dE q588) hlt587 rfl) .nil) B26 ?_
   refine qM kr fun vs ls H589 E589 st hE=>?_
   have b590:=eo st hE 80 (.ptr lS587 ((k483 * 3)+0))
   have b591:=eo st hE 78 (.agg [.int .i32 v465_0,.int .i32 v465_1,.int .i32 v465_2])
   have B27:=es st hE [(78,.agg [.int .i32 v465_0,.int .i32 v465_1,.int .i32 v465_2]),(11,.int .i64 w455),(10,.int .i64 (r11:Int)),(2,.int .i64 (hi:Int)),(4,.func 22 [] []),(0,S),(3,.int .i64 (f:Int))]
   have g599:Grew H573 H589:=(gk st)
   have g600:OnlyS S H H589:=g585.grewR g599
   have s602:=s586.grew g599
   refine qH (d:=none) (n:=3) (x:=.tmp 80) (y:=.tmp 78) kr (S:=S) (ms:=(L11.set k464 [.int .i32 v484_0,.int .i32 v484_1,.int .i32 v484_2])) (k:=k483) (m':=[.int .i32 v465_0,.int .i32 v465_1,.int .i32 v465_2]) (s602) eS587 b590 hlt587 (qL.set hr11_0 (.cons kA (.cons kA (.cons kA .nil)))).len (by show AV.cells (E589 78)=_;rw [b591];rfl) rfl rfl rfl ?_
   intro H603 s603 oo603
   have hln603:((L11.set k464 [.int .i32 v484_0,.int .i32 v484_1,.int .i32 v484_2]).set k483 [.int .i32 v465_0,.int .i32 v465_1,.int .i32 v465_2]).length=(L11.set k464 [.int .i32 v484_0,.int .i32 v484_1,.int .i32 v484_2]).length:=by simp
   have g604:OnlyS S H H603:=g600.trans oo603
   refine rC 0 0 [] [(78,.agg [n2 21,n2 22,n2 23]),(11,nI 6),(10,nI 4),(2,nI 2),(4,.fn 22 [] []),(0,n1 0),(3,nI 3)] q588 (sn B27) ?_
   refine qM kr fun vs ls H606 E606 st hE=>?_
   have b607:=eo st hE 10 (.int .i64 w455)
   have b608:=eo st hE 2 (.int .i64 (hi:Int))
   have b609:=eo st hE 4 (.func 22 [] [])
   have b610:=eo st hE 0 S
   have b611:=eo st hE 3 (.int .i64 (f:Int))
   have g612:Grew H603 H606:=(gk st)
   have g613:OnlyS S H H606:=g604.grewR g612
   have s614:=s603.grew g612
   obtain⟨k615,hk615⟩:∃ k:Nat,w455=(k:Int):=⟨Int.toNat w455,by omega⟩
   have ct616:=xT hκ hfr11.st.pe hlt551 hlt509 he551 he509
   have hsw9:((L11.set k464 [.int .i32 v484_0,.int .i32 v484_1,.int .i32 v484_2]).set k483 [.int .i32 v465_0,.int .i32 v465_1,.int .i32 v465_2])=swp L11 k464 k483:=by unfold swp;rw [he551,he509]
   have hk8:k464=f+r11:=by omega
   have hk9:k483=f+k615:=by omega
   have hlt9:tmK κ L11 (f+r11) < tmK κ L11 (f+k615):=by (try have z0_1:=@tmw κ L11 (f+r11) (f+k615) om);(try have z0_2:=@tmw κ L11 (f+r11) (k464) om);(try have z0_3:=@tmw κ L11 (f+r11) (k483) om);(try have z1_2:=@tmw κ L11 (f+k615) (k464) om);(try have z1_3:=@tmw κ L11 (f+k615) (k483) om);(try have z2_3:=@tmw κ L11 (k464) (k483) om);omega
   have hmx9:∀ d,d < hi->(d=2 * r11+1 \/ d=2 * r11+2)->tmK κ L11 (f+d)<=tmK κ L11 (f+k615):=fun d h1 h2=>by rcases h2 with h2 | h2 <;> ((try have z0_1:=@tmw κ L11 (f+d) (f+k615) om);(try have z0_2:=@tmw κ L11 (f+d) (k464) om);(try have z0_3:=@tmw κ L11 (f+d) (k483) om);(try have z1_2:=@tmw κ L11 (f+k615) (k464) om);(try have z1_3:=@tmw κ L11 (f+k615) (k483) om);(try have z2_3:=@tmw κ L11 (k464) (k483) om);omega)
   have hm9:hi - k615 < z11:=by omega
   exact qP kr ⟨hi - k615,hm9,k615,((L11.set k464 [.int .i32 v484_0,.int .i32 v484_1,.int .i32 v484_2]).set k483 [.int .i32 v465_0,.int .i32 v465_1,.int .i32 v465_2]),rfl,b608,b609,b610,b611,(b607.trans (by rw [hk615])),g613,s614,(qL.set (qL.set hr11_0 (.cons kA (.cons kA (.cons kA .nil)))) (.cons kA (.cons kA (.cons kA .nil)))),⟨by omega,by rw [hsw9,hk8,hk9];exact Sft.step hfr11 hb om om hlt9 hmx9⟩⟩
theorem qDP (H:AHeap) (κ:List AV->Int) (L0:LL) (hr:qL KC L0) (hκ:uM κ L0) (S:AV) (hS:SlF H 3 L0 S) (hmx:L0.length < 2^20) (a b:Nat) (hab:a < b) (hb:b<=L0.length):qK Try.prog 49 [S,.int .i64 (a:Int),.int .i64 (b:Int),.func 22 [] []] H fun r H'=>r=.tuple []/\OnlyS S H H' /\ ∃ M,SlF H' 3 M S/\qL KC M/\Pt2 a b L0 M/\yM κ a b M:=by
 refine qN xF (by simp) ?_
 have q1:KdsL [.one,KI,KI] [S,.int .i64 (a:Int),.int .i64 (b:Int)]:=kL
 refine rC 0 0 [] [(0,n1 0),(1,nI 1),(2,nI 2),(3,.fn 22 [] [])] q1 (.cons (t:=0) rfl (.cons (t:=1) rfl (.cons (t:=2) rfl (.cons (t:=3) rfl .nil)))) ?_
 refine qM kr fun vs ls H2 E2 st hE=>?_
 obtain⟨w3,hw3⟩:∃ z,z=(IntKind.wrap .i64 (Int.tdiv (IntKind.wrap .i64 ((IntKind.wrap .i64 ((b:Int) - (a:Int))) - 1)) 2)):=⟨_,rfl⟩
 have b4:E2 11=.int .i64 w3:=by rw [hw3];exact eo st hE 11 _
 have b5:=eo st hE 0 S
 obtain⟨w6,hw6⟩:∃ z,z=(IntKind.wrap .i64 ((b:Int) - (a:Int))):=⟨_,rfl⟩
 have b7:E2 10=.int .i64 w6:=by rw [hw6];exact eo st hE 10 _
 have b8:=eo st hE 8 (.int .i64 (a:Int))
 have b9:=eo st hE 3 (.func 22 [] [])
 have b10:=eo st hE 9 (.int .i64 0)
 have g11:Grew H H2:=(gk st)
 have g12:OnlyS S H H2:=(OnlyS.of_grew (Grew.refl H)).grewR g11
 have s13:=hS.grew g11
 have nw3:w3=((((b:Int) - (a:Int)) - 1) / 2):=by
  rw [hw3]
  rw [wI ((b:Int) - (a:Int)) om om]
  rw [wI (((b:Int) - (a:Int)) - 1) om om]
  rw [show Int.tdiv (((b:Int) - (a:Int)) - 1) 2=(((b:Int) - (a:Int)) - 1) / 2 from Int.tdiv_eq_ediv_of_nonneg om]
  rw [wI ((((b:Int) - (a:Int)) - 1) / 2) om om]
 have nw6:w6=((b:Int) - (a:Int)):=hw6.trans (wI _ om om)
 obtain⟨k14,hk14⟩:∃ k:Nat,w3=(k:Int) - 1:=⟨Int.toNat (w3+1),by omega⟩
 refine zE kr (fun z E H'=>∃ (i15:Nat) (L15:LL),z=i15/\E 0=S/\E 10=.int .i64 w6/\E 8=.int .i64 (a:Int)/\E 3=.func 22 [] []/\E 9=.int .i64 0/\E 11=.int .i64 ((i15:Int) - 1)/\OnlyS S H H'/\SlF H' 3 L15 S/\qL KC L15/\i15<=b - a/\Pt2 a b L0 L15/\Hp κ a i15 (b - a) L15) (k14) ⟨k14,L0,rfl,b5,b7,b8,b9,b10,(b4.trans (by rw [hk14])),g12,s13,hr,⟨by omega,.refl _ _ _,Hp.init _ om⟩⟩ ?_
 rintro z15 E15 Hx15 ⟨i15,L15,hz15,c15_0,c15_10,c15_8,c15_3,c15_9,cv15_11,gt15,so15_0,hr15_0,iv15⟩
 obtain⟨hai15,hsti15,hhpi15⟩:=iv15
 have hli15:=hsti15.len
 have q16:=q1.app (kL:KdsL [KI,KI,KI] [.int .i64 w3,.int .i64 w6,.int .i64 ((i15:Int) - 1)])
 refine rC 0 0 [] [(0,n1 0),(10,nI 4),(8,nI 1),(3,.fn 22 [] []),(9,.lit (.int .i64 0)),(11,nI 5)] q16 (.cons c15_0 (.cons c15_10 (.cons c15_8 (.cons c15_3 (.cons c15_9 (.cons cv15_11 .nil)))))) ?_
 refine vI kr ?_ ?_
 ·intro vs ls H17 E17 st hE
  have f18:¬ (((i15:Int) - 1) < 0):=df st 0
  have b19:=eo st hE 24 S
  have b20:=eo st hE 25 (.int .i64 ((i15:Int) - 1))
  have b21:=eo st hE 26 (.int .i64 w6)
  have b22:=eo st hE 27 (.int .i64 (a:Int))
  have b23:=eo st hE 28 (.func 22 [] [])
  have B1:=es st hE [(24,S),(25,.int .i64 ((i15:Int) - 1)),(26,.int .i64 w6),(27,.int .i64 (a:Int)),(28,.func 22 [] []),(11,.int .i64 ((i15:Int) - 1)),(0,S),(10,.int .i64 w6),(8,.int .i64 (a:Int)),(3,.func 22 [] []),(9,.int .i64 0)]
  have g30:Grew Hx15 H17:=(gk st)
  have g31:OnlyS S H H17:=gt15.grewR g30
  have s32:=so15_0.grew g30
  obtain⟨k33,hk33⟩:∃ k:Nat,((i15:Int) - 1)=(k:Int):=⟨Int.toNat ((i15:Int) - 1),by omega⟩
  obtain⟨k34,hk34⟩:∃ k:Nat,w6=(k:Int):=⟨Int.toNat w6,by omega⟩
  refine qR (d:=(some 29)) (f:=68) (args:=[.tmp 24,.tmp 25,.tmp 26,.tmp 27,.tmp 28]) kr (R:=fun z H'=>z=.tuple []/\OnlyS S H17 H' /\ ∃ M,SlF H' 3 M S/\qL KC M/\Pt2 (a+k33) (a+k34) L15 M/\Hp κ a k33 k34 M) ?_ ?_
  ·show qK _ _ [E17 24,E17 25,E17 26,E17 27,E17 28] _ _
   rw [b19,b20,b21,b22,b23]
   exact(by rw [hk33,hk34];exact qAv H17 κ L15 hr15_0 (hκ.pe hsti15.pe) S s32 om k33 k34 a om om (by rw [show k33+1=i15 by omega,show k34=b - a by omega];exact hhpi15))
  rintro z H35 ⟨rfl,oo35,M35,s35,hr35,hp35⟩
  have g36:OnlyS S H H35:=g31.trans oo35
  have hlM35:M35.length=L15.length:=hp35.1.len
  refine rC 0 0 [] [(24,n1 0),(25,nI 5),(26,nI 4),(27,nI 1),(28,.fn 22 [] []),(11,nI 5),(0,n1 0),(10,nI 4),(8,nI 1),(3,.fn 22 [] []),(9,.lit (.int .i64 0)),(29,.tup [])] q16 (sc (sp B1) (.cons qJ .nil)) ?_
  refine qM kr fun vs ls H38 E38 st hE=>?_
  obtain⟨w39,hw39⟩:∃ z,z=(IntKind.wrap .i64 (((i15:Int) - 1) - 1)):=⟨_,rfl⟩
  have b40:E38 11=.int .i64 w39:=by rw [hw39];exact eo st hE 11 _
  have b41:=eo st hE 0 S
  have b42:=eo st hE 10 (.int .i64 w6)
  have b43:=eo st hE 8 (.int .i64 (a:Int))
  have b44:=eo st hE 3 (.func 22 [] [])
  have b45:=eo st hE 9 (.int .i64 0)
  have g46:Grew H35 H38:=(gk st)
  have g47:OnlyS S H H38:=g36.grewR g46
  have s48:=s35.grew g46
  have nw39:w39=(((i15:Int) - 1) - 1):=hw39.trans (wI _ om om)
  obtain⟨k49,hk49⟩:∃ k:Nat,w39=(k:Int) - 1:=⟨Int.toNat (w39+1),by omega⟩
  have hm9:k49 < z15:=by omega
  exact qP kr ⟨k49,hm9,k49,M35,rfl,b41,b42,b43,b44,b45,(b40.trans (by rw [hk49])),g47,s48,hr35,⟨by omega,hsti15.trans (hp35.1.wide om om),by rw [show k49=k33 by omega,show b - a=k34 by omega];exact hp35.2⟩⟩
 ·intro vs ls H50 E50 st hE
  have f51:((i15:Int) - 1) < 0:=dt st 0
  obtain⟨w54,hw54⟩:∃ z,z=(!(decide (((i15:Int) - 1) < 0))):=⟨_,rfl⟩
  have b55:E50 21=.bool w54:=by rw [hw54];exact eo st hE 21 _
  have B2:=es st hE [(11,.int .i64 ((i15:Int) - 1)),(20,.int .i64 ((i15:Int) - 1)),(0,S),(10,.int .i64 w6),(8,.int .i64 (a:Int)),(3,.func 22 [] []),(9,.int .i64 0)]
  have g61:Grew Hx15 H50:=(gk st)
  have g62:OnlyS S H H50:=gt15.grewR g61
  have s63:=so15_0.grew g61
  refine qQ (id:=0) kr ?_
  have q64:=q16.app (kL:KdsL [.bool] [.bool w54])
  refine rC 0 0 [] [(11,nI 5),(20,nI 5),(0,n1 0),(10,nI 4),(8,nI 1),(3,.fn 22 [] []),(9,.lit (.int .i64 0)),(21,nB 6)] q64 (sc B2 (.cons b55 .nil)) ?_
  refine qM kr fun vs ls H65 E65 st hE=>?_
  obtain⟨w66,hw66⟩:∃ z,z=(IntKind.wrap .i64 (w6 - 1)):=⟨_,rfl⟩
  have b67:E65 12=.int .i64 w66:=by rw [hw66];exact eo st hE 12 _
  have b68:=eo st hE 0 S
  have b69:=eo st hE 8 (.int .i64 (a:Int))
  have b70:=eo st hE 9 (.int .i64 0)
  have b71:=eo st hE 3 (.func 22 [] [])
  have g72:Grew H50 H65:=(gk st)
  have g73:OnlyS S H H65:=g62.grewR g72
  have s74:=s63.grew g72
  have nw66:w66=(w6 - 1):=hw66.trans (wI _ om om)
  obtain⟨k75,hk75⟩:∃ k:Nat,w66=(k:Int) - 1:=⟨Int.toNat (w66+1),by omega⟩
  refine zE kr (fun z E H'=>∃ (i76:Nat) (L76:LL),z=i76/\E 0=S/\E 8=.int .i64 (a:Int)/\E 9=.int .i64 0/\E 3=.func 22 [] []/\E 12=.int .i64 ((i76:Int) - 1)/\OnlyS S H H'/\SlF H' 3 L76 S/\qL KC L76/\HSt κ a b L0 L76 i76) (k75) ⟨k75,L15,rfl,b68,b69,b70,b71,(b67.trans (by rw [hk75])),g73,s74,hr15_0,HSt.start hsti15 om (by rw [show k75=b - a by omega,show 0=i15 by omega];exact hhpi15)⟩ ?_
  rintro z76 E76 Hx76 ⟨i76,L76,hz76,c76_0,c76_8,c76_9,c76_3,cv76_12,gt76,so76_0,hr76_0,iv76⟩
  have hhsi76:=iv76
  have hsti76:=iv76.st
  have hli76:=hsti76.len
  have hnbi76:=iv76.nb
  have q77:=q64.app (kL:KdsL [KI,KI] [.int .i64 w66,.int .i64 ((i76:Int) - 1)])
  refine rC 0 0 [] [(0,n1 0),(8,nI 1),(9,.lit (.int .i64 0)),(3,.fn 22 [] []),(12,nI 8)] q77 (.cons c76_0 (.cons c76_8 (.cons c76_9 (.cons c76_3 (.cons cv76_12 .nil))))) ?_
  refine vI kr ?_ ?_
  ·intro vs ls H78 E78 st hE
   have f79:¬ (((i76:Int) - 1) < 0):=df st 0
   obtain⟨w81,hw81⟩:∃ z,z=(IntKind.wrap .i64 ((a:Int)+((i76:Int) - 1))):=⟨_,rfl⟩
   have b82:E78 45=.int .i64 w81:=by rw [hw81];exact eo st hE 45 _
   have b88:E78 41=.int .i64 w81:=by rw [hw81];exact eo st hE 41 _
   have B3:=es st hE [(42,S),(0,S),(8,.int .i64 (a:Int)),(36,S),(37,.int .i64 (a:Int)),(38,S),(9,.int .i64 0),(12,.int .i64 ((i76:Int) - 1)),(3,.func 22 [] [])]
   have g92:Grew Hx76 H78:=(gk st)
   have g93:OnlyS S H H78:=gt76.grewR g92
   have s94:=so76_0.grew g92
   have nw81:w81=((a:Int)+((i76:Int) - 1)):=hw81.trans (wI _ om om)
   obtain⟨k95,rfl⟩:∃ k:Nat,w81=(k:Int):=⟨Int.toNat w81,by omega⟩
   have hlt96:k95 < L76.length:=by omega
   obtain⟨lS96,cap96,rest96,wr96,eS96,gS96⟩:=(s94.toL).isSl hlt96
   obtain⟨v96_0,v96_1,v96_2,hm96⟩:=qC (hr76_0.get hlt96)
   have he96:L76.getD k95 []=[.int .i32 v96_0,.int .i32 v96_1,.int .i32 v96_2]:=by rw [<- hm96,List.getD_eq_getElem?_getD,List.getElem?_eq_getElem hlt96];rfl
   have q97:=q77.app (kL:KdsL [KI,K2,K2,K2] [.int .i64 (k95:Int),.int .i32 v96_0,.int .i32 v96_1,.int .i32 v96_2])
   refine rF 1 0 [(.ia 3 (n1 0) (nI 9),.ptr 0 0)] [⟨lS96,(k95 * 3),[n2 10,n2 11,n2 12],false⟩] [(42,n1 0),(0,n1 0),(8,nI 1),(36,n1 0),(37,nI 1),(38,n1 0),(9,.lit (.int .i64 0)),(12,nI 8),(3,.fn 22 [] []),(45,nI 9),(41,nI 9)] q97 (.cons (qA hr76_0 gS96 hlt96 rfl (by rw [hm96];exact(dL q97))) .nil) (.cons (qD (k:=k95) (dE q97) eS96 (dE q97) hlt96 rfl) .nil) (sc B3 (.cons b82 (.cons b88 .nil))) ?_
   refine qM kr fun vs ls H98 E98 st hE=>?_
   have B4:=es st hE [(48,S),(49,.int .i64 (a:Int)),(36,S),(37,.int .i64 (a:Int)),(47,.agg [.int .i32 v96_0,.int .i32 v96_1,.int .i32 v96_2]),(38,S),(41,.int .i64 (k95:Int)),(0,S),(9,.int .i64 0),(12,.int .i64 ((i76:Int) - 1)),(8,.int .i64 (a:Int)),(3,.func 22 [] [])]
   have g111:Grew H78 H98:=(gk st)
   have g112:OnlyS S H H98:=g93.grewR g111
   have s114:=s94.grew g111
   have hlt115:a < L76.length:=by omega
   obtain⟨lS115,cap115,rest115,wr115,eS115,gS115⟩:=(s114.toL).isSl hlt115
   obtain⟨v115_0,v115_1,v115_2,hm115⟩:=qC (hr76_0.get hlt115)
   have he115:L76.getD a []=[.int .i32 v115_0,.int .i32 v115_1,.int .i32 v115_2]:=by rw [<- hm115,List.getD_eq_getElem?_getD,List.getElem?_eq_getElem hlt115];rfl
   have q116:=q97.app (kL:KdsL [K2,K2,K2] [.int .i32 v115_0,.int .i32 v115_1,.int .i32 v115_2])
   refine rF 1 0 [(.ia 3 (n1 0) (nI 1),.ptr 0 0)] [⟨lS115,(a * 3),[n2 13,n2 14,n2 15],false⟩] [(48,n1 0),(49,nI 1),(36,n1 0),(37,nI 1),(47,.agg [n2 10,n2 11,n2 12]),(38,n1 0),(41,nI 9),(0,n1 0),(9,.lit (.int .i64 0)),(12,nI 8),(8,nI 1),(3,.fn 22 [] [])] q116 (.cons (qA hr76_0 gS115 hlt115 rfl (by rw [hm115];exact(dL q116))) .nil) (.cons (qD (k:=a) (dE q116) eS115 (dE q116) hlt115 rfl) .nil) B4 ?_
   refine qM kr fun vs ls H117 E117 st hE=>?_
   have b118:=eo st hE 52 (.ptr lS115 ((a * 3)+0))
   have b119:=eo st hE 47 (.agg [.int .i32 v96_0,.int .i32 v96_1,.int .i32 v96_2])
   have B5:=es st hE [(47,.agg [.int .i32 v96_0,.int .i32 v96_1,.int .i32 v96_2]),(38,S),(41,.int .i64 (k95:Int)),(51,.agg [.int .i32 v115_0,.int .i32 v115_1,.int .i32 v115_2]),(0,S),(9,.int .i64 0),(12,.int .i64 ((i76:Int) - 1)),(8,.int .i64 (a:Int)),(3,.func 22 [] [])]
   have g128:Grew H98 H117:=(gk st)
   have g129:OnlyS S H H117:=g112.grewR g128
   have s131:=s114.grew g128
   refine qH (d:=none) (n:=3) (x:=.tmp 52) (y:=.tmp 47) kr (S:=S) (ms:=L76) (k:=a) (m':=[.int .i32 v96_0,.int .i32 v96_1,.int .i32 v96_2]) (s131) eS115 b118 hlt115 hr76_0.len (by show AV.cells (E117 47)=_;rw [b119];rfl) rfl rfl rfl ?_
   intro H132 s132 oo132
   have hln132:(L76.set a [.int .i32 v96_0,.int .i32 v96_1,.int .i32 v96_2]).length=L76.length:=by simp
   have g133:OnlyS S H H132:=g129.trans oo132
   refine rC 0 0 [] [(47,.agg [n2 10,n2 11,n2 12]),(38,n1 0),(41,nI 9),(51,.agg [n2 13,n2 14,n2 15]),(0,n1 0),(9,.lit (.int .i64 0)),(12,nI 8),(8,nI 1),(3,.fn 22 [] [])] q116 (sn B5) ?_
   refine qM kr fun vs ls H135 E135 st hE=>?_
   have B6:=es st hE [(38,S),(41,.int .i64 (k95:Int)),(51,.agg [.int .i32 v115_0,.int .i32 v115_1,.int .i32 v115_2]),(0,S),(9,.int .i64 0),(12,.int .i64 ((i76:Int) - 1)),(8,.int .i64 (a:Int)),(3,.func 22 [] [])]
   have g144:Grew H132 H135:=(gk st)
   have g145:OnlyS S H H135:=g133.grewR g144
   have s146:=s132.grew g144
   have hlt147:k95 < (L76.set a [.int .i32 v96_0,.int .i32 v96_1,.int .i32 v96_2]).length:=by omega
   obtain⟨lS147,cap147,rest147,wr147,eS147,gS147⟩:=(s146.toL).isSl hlt147
   obtain⟨v147_0,v147_1,v147_2,hm147⟩:=qC ((qL.set hr76_0 (.cons kA (.cons kA (.cons kA .nil)))).get hlt147)
   have he147:(L76.set a [.int .i32 v96_0,.int .i32 v96_1,.int .i32 v96_2]).getD k95 []=[.int .i32 v147_0,.int .i32 v147_1,.int .i32 v147_2]:=by rw [<- hm147,List.getD_eq_getElem?_getD,List.getElem?_eq_getElem hlt147];rfl
   have q148:=q116.app (kL:KdsL [K2,K2,K2] [.int .i32 v147_0,.int .i32 v147_1,.int .i32 v147_2])
   refine rF 1 0 [(.ia 3 (n1 0) (nI 9),.ptr 0 0)] [⟨lS147,(k95 * 3),[n2 16,n2 17,n2 18],false⟩] [(38,n1 0),(41,nI 9),(51,.agg [n2 13,n2 14,n2 15]),(0,n1 0),(9,.lit (.int .i64 0)),(12,nI 8),(8,nI 1),(3,.fn 22 [] [])] q148 (.cons (qA (qL.set hr76_0 (.cons kA (.cons kA (.cons kA .nil)))) gS147 hlt147 rfl (by rw [hm147];exact(dL q148))) .nil) (.cons (qD (k:=k95) (dE q148) eS147 (dE q148) hlt147 rfl) .nil) B6 ?_
   refine qM kr fun vs ls H149 E149 st hE=>?_
   have b150:=eo st hE 53 (.ptr lS147 ((k95 * 3)+0))
   have b151:=eo st hE 51 (.agg [.int .i32 v115_0,.int .i32 v115_1,.int .i32 v115_2])
   have B7:=es st hE [(51,.agg [.int .i32 v115_0,.int .i32 v115_1,.int .i32 v115_2]),(0,S),(9,.int .i64 0),(12,.int .i64 ((i76:Int) - 1)),(8,.int .i64 (a:Int)),(3,.func 22 [] [])]
   have g157:Grew H135 H149:=(gk st)
   have g158:OnlyS S H H149:=g145.grewR g157
   have s160:=s146.grew g157
   refine qH (d:=none) (n:=3) (x:=.tmp 53) (y:=.tmp 51) kr (S:=S) (ms:=(L76.set a [.int .i32 v96_0,.int .i32 v96_1,.int .i32 v96_2])) (k:=k95) (m':=[.int .i32 v115_0,.int .i32 v115_1,.int .i32 v115_2]) (s160) eS147 b150 hlt147 (qL.set hr76_0 (.cons kA (.cons kA (.cons kA .nil)))).len (by show AV.cells (E149 51)=_;rw [b151];rfl) rfl rfl rfl ?_
   intro H161 s161 oo161
   have hln161:((L76.set a [.int .i32 v96_0,.int .i32 v96_1,.int .i32 v96_2]).set k95 [.int .i32 v115_0,.int .i32 v115_1,.int .i32 v115_2]).length=(L76.set a [.int .i32 v96_0,.int .i32 v96_1,.int .i32 v96_2]).length:=by simp
   have g162:OnlyS S H H161:=g158.trans oo161
   refine rC 0 0 [] [(51,.agg [n2 13,n2 14,n2 15]),(0,n1 0),(9,.lit (.int .i64 0)),(12,nI 8),(8,nI 1),(3,.fn 22 [] [])] q148 (sn B7) ?_
   refine qM kr fun vs ls H164 E164 st hE=>?_
   have b165:=eo st hE 54 S
   have b166:=eo st hE 55 (.int .i64 0)
   have b167:=eo st hE 56 (.int .i64 ((i76:Int) - 1))
   have b168:=eo st hE 57 (.int .i64 (a:Int))
   have b169:=eo st hE 58 (.func 22 [] [])
   have B8:=es st hE [(54,S),(55,.int .i64 0),(56,.int .i64 ((i76:Int) - 1)),(57,.int .i64 (a:Int)),(58,.func 22 [] []),(12,.int .i64 ((i76:Int) - 1)),(0,S),(8,.int .i64 (a:Int)),(9,.int .i64 0),(3,.func 22 [] [])]
   have g175:Grew H161 H164:=(gk st)
   have g176:OnlyS S H H164:=g162.grewR g175
   have s177:=s161.grew g175
   obtain⟨k178,hk178⟩:∃ k:Nat,((i76:Int) - 1)=(k:Int):=⟨Int.toNat ((i76:Int) - 1),by omega⟩
   have hsw9:((L76.set a [.int .i32 v96_0,.int .i32 v96_1,.int .i32 v96_2]).set k95 [.int .i32 v115_0,.int .i32 v115_1,.int .i32 v115_2])=swp L76 a k95:=by unfold swp;rw [he115,he96]
   have hk8:a=a:=by omega
   have hk9:k95=a+(i76 - 1):=by omega
   rw [show swp L76 a k95=swp L76 a (a+(i76 - 1)) by rw [hk8,hk9]] at hsw9
   refine qR (d:=(some 59)) (f:=68) (args:=[.tmp 54,.tmp 55,.tmp 56,.tmp 57,.tmp 58]) kr (R:=fun z H'=>z=.tuple []/\OnlyS S H164 H' /\ ∃ M,SlF H' 3 M S/\qL KC M/\Pt2 (a+0) (a+k178) ((L76.set a [.int .i32 v96_0,.int .i32 v96_1,.int .i32 v96_2]).set k95 [.int .i32 v115_0,.int .i32 v115_1,.int .i32 v115_2]) M/\Hp κ a 0 k178 M) ?_ ?_
   ·show qK _ _ [E164 54,E164 55,E164 56,E164 57,E164 58] _ _
    rw [b165,b166,b167,b168,b169]
    exact(by rw [hk178];exact qAv H164 κ ((L76.set a [.int .i32 v96_0,.int .i32 v96_1,.int .i32 v96_2]).set k95 [.int .i32 v115_0,.int .i32 v115_1,.int .i32 v115_2]) (qL.set (qL.set hr76_0 (.cons kA (.cons kA (.cons kA .nil)))) (.cons kA (.cons kA (.cons kA .nil)))) (hκ.pe (by rw [hsw9];exact hsti76.pe.trans (qGx om om))) S s177 om 0 k178 a om om (by rw [hsw9,show 0+1=1 by omega,show k178=i76 - 1 by omega];exact HSt.pre (by rw [show i76 - 1+1=i76 by omega];exact hhsi76) om))
   rintro z H179 ⟨rfl,oo179,M179,s179,hr179,hp179⟩
   have g180:OnlyS S H H179:=g176.trans oo179
   have hlM179:M179.length=((L76.set a [.int .i32 v96_0,.int .i32 v96_1,.int .i32 v96_2]).set k95 [.int .i32 v115_0,.int .i32 v115_1,.int .i32 v115_2]).length:=hp179.1.len
   refine rC 0 0 [] [(54,n1 0),(55,.lit (.int .i64 0)),(56,nI 8),(57,nI 1),(58,.fn 22 [] []),(12,nI 8),(0,n1 0),(8,nI 1),(9,.lit (.int .i64 0)),(3,.fn 22 [] []),(59,.tup [])] q148 (sc (sp B8) (.cons qJ .nil)) ?_
   refine qM kr fun vs ls H182 E182 st hE=>?_
   obtain⟨w183,hw183⟩:∃ z,z=(IntKind.wrap .i64 (((i76:Int) - 1) - 1)):=⟨_,rfl⟩
   have b184:E182 12=.int .i64 w183:=by rw [hw183];exact eo st hE 12 _
   have b185:=eo st hE 0 S
   have b186:=eo st hE 8 (.int .i64 (a:Int))
   have b187:=eo st hE 9 (.int .i64 0)
   have b188:=eo st hE 3 (.func 22 [] [])
   have g189:Grew H179 H182:=(gk st)
   have g190:OnlyS S H H182:=g180.grewR g189
   have s191:=s179.grew g189
   have nw183:w183=(((i76:Int) - 1) - 1):=hw183.trans (wI _ om om)
   obtain⟨k192,hk192⟩:∃ k:Nat,w183=(k:Int) - 1:=⟨Int.toNat (w183+1),by omega⟩
   rw [hsw9] at hp179
   obtain⟨n9,hn9⟩:∃ n9,i76=n9+1:=⟨i76 - 1,by omega⟩
   have hm9:k192 < z76:=by omega
   exact qP kr ⟨k192,hm9,k192,M179,rfl,b185,b186,b187,b188,(b184.trans (by rw [hk192])),g190,s191,hr179,by rw [show k192=n9 by omega];rw [hn9] at hhsi76;rw [show i76 - 1=n9 by omega,show 0=0 by omega,show k178=n9 by omega] at hp179;exact HSt.step hhsi76 om hp179.1 hp179.2⟩
  ·intro vs ls H193 E193 st hE
   have f194:((i76:Int) - 1) < 0:=dt st 0
   obtain⟨w197,hw197⟩:∃ z,z=(!(decide (((i76:Int) - 1) < 0))):=⟨_,rfl⟩
   have b198:E193 33=.bool w197:=by rw [hw197];exact eo st hE 33 _
   have B9:=es st hE [(12,.int .i64 ((i76:Int) - 1)),(32,.int .i64 ((i76:Int) - 1)),(0,S),(8,.int .i64 (a:Int)),(9,.int .i64 0),(3,.func 22 [] [])]
   have g203:Grew Hx76 H193:=(gk st)
   have g204:OnlyS S H H193:=gt76.grewR g203
   have s205:=so76_0.grew g203
   refine qQ (id:=2) kr ?_
   have q206:=q77.app (kL:KdsL [.bool] [.bool w197])
   refine rC 0 0 [] [(12,nI 8),(32,nI 8),(0,n1 0),(8,nI 1),(9,.lit (.int .i64 0)),(3,.fn 22 [] []),(33,nB 9)] q206 (sc B9 (.cons b198 .nil)) ?_
   refine qM kr fun vs ls H207 E207 st hE=>?_
   have gz:OnlyS S H H207:=(g204.grewR (gk st))
   exact zF kr (qS st.inn hE (.inl rfl) (a:=.tuple []) kr gz.next ⟨rfl,gz,_,(s205.grew (st.inn.kept.grew (Nat.le_refl _))),hr76_0,hsti76,by have:=hhsi76.srt;rw [show a+i76=a by omega] at this;exact this⟩)
end Go.Proofs.Ytgjggkgafdnhcaa
