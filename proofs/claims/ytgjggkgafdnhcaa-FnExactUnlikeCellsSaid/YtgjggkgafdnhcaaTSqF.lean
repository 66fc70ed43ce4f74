/- Contracts: a partition of cells, by the library. -/
import Derived.Test.YtgjggkgafdnhcaaTSqE
import Derived.Test.YtgjggkgafdnhcaaSxE
set_option linter.unusedVariables false
set_option linter.unusedSimpArgs false
namespace Go.Proofs.Ytgjggkgafdnhcaa
open Go.Ab
set_option maxRecDepth 100000
set_option maxHeartbeats 1000000
attribute [local irreducible] Res
theorem qAt (H:AHeap) (κ:List AV->Int) (L0:LL) (hr:qL KC L0) (hκ:uM κ L0) (S:AV) (hS:SlF H 3 L0 S) (hmx:L0.length < 2^20) (a b p:Nat) (hap:a<=p) (hpb:p < b) (hb:b<=L0.length):qK Try.prog 55 [S,.int .i64 (a:Int),.int .i64 (b:Int),.int .i64 (p:Int),.func 22 [] []] H fun r H'=>OnlyS S H H' /\ ∃ M j x,r=.tuple [.int .i64 ((j:Nat):Int),.bool x]/\SlF H' 3 M S/\qL KC M/\Pt2 a b L0 M/\Part κ a b j M:=by
 refine qN xA (by simp) ?_
 have q1:KdsL [.one,KI,KI,KI] [S,.int .i64 (a:Int),.int .i64 (b:Int),.int .i64 (p:Int)]:=kL
 refine rC 0 0 [] [(0,n1 0),(1,nI 1),(2,nI 2),(3,nI 3),(4,.fn 22 [] [])] q1 (.cons (t:=0) rfl (.cons (t:=1) rfl (.cons (t:=2) rfl (.cons (t:=3) rfl (.cons (t:=4) rfl .nil))))) ?_
 refine qM kr fun vs ls H2 E2 st hE=>?_
 have B1:=es st hE [(18,S),(19,.int .i64 (p:Int)),(0,S),(1,.int .i64 (a:Int)),(14,S),(15,.int .i64 (a:Int)),(16,S),(17,.int .i64 (p:Int)),(2,.int .i64 (b:Int)),(4,.func 22 [] [])]
 have g13:Grew H H2:=(gk st)
 have g14:OnlyS S H H2:=(OnlyS.of_grew (Grew.refl H)).grewR g13
 have s15:=hS.grew g13
 have hlt16:p < L0.length:=by omega
 obtain⟨lS16,cap16,rest16,wr16,eS16,gS16⟩:=(s15.toL).isSl hlt16
 obtain⟨v16_0,v16_1,v16_2,hm16⟩:=qC (hr.get hlt16)
 have he16:L0.getD p []=[.int .i32 v16_0,.int .i32 v16_1,.int .i32 v16_2]:=by rw [<- hm16,List.getD_eq_getElem?_getD,List.getElem?_eq_getElem hlt16];rfl
 have q17:=q1.app (kL:KdsL [K2,K2,K2] [.int .i32 v16_0,.int .i32 v16_1,.int .i32 v16_2])
 refine rF 1 0 [(.ia 3 (n1 0) (nI 3),.ptr 0 0)] [⟨lS16,(p * 3),[n2 4,n2 5,n2 6],false⟩] [(18,n1 0),(19,nI 3),(0,n1 0),(1,nI 1),(14,n1 0),(15,nI 1),(16,n1 0),(17,nI 3),(2,nI 2),(4,.fn 22 [] [])] q17 (.cons (qA hr gS16 hlt16 rfl (by rw [hm16];exact(dL q17))) .nil) (.cons (qD (k:=p) (dE q17) eS16 (dE q17) hlt16 rfl) .nil) B1 ?_
 refine qM kr fun vs ls H18 E18 st hE=>?_
 have B2:=es st hE [(22,S),(23,.int .i64 (a:Int)),(14,S),(15,.int .i64 (a:Int)),(21,.agg [.int .i32 v16_0,.int .i32 v16_1,.int .i32 v16_2]),(16,S),(17,.int .i64 (p:Int)),(1,.int .i64 (a:Int)),(2,.int .i64 (b:Int)),(4,.func 22 [] []),(0,S)]
 have g30:Grew H2 H18:=(gk st)
 have g31:OnlyS S H H18:=g14.grewR g30
 have s33:=s15.grew g30
 have hlt34:a < L0.length:=by omega
 obtain⟨lS34,cap34,rest34,wr34,eS34,gS34⟩:=(s33.toL).isSl hlt34
 obtain⟨v34_0,v34_1,v34_2,hm34⟩:=qC (hr.get hlt34)
 have he34:L0.getD a []=[.int .i32 v34_0,.int .i32 v34_1,.int .i32 v34_2]:=by rw [<- hm34,List.getD_eq_getElem?_getD,List.getElem?_eq_getElem hlt34];rfl
 have q35:=q17.app (kL:KdsL [K2,K2,K2] [.int .i32 v34_0,.int .i32 v34_1,.int .i32 v34_2])
 refine rF 1 0 [(.ia 3 (n1 0) (nI 1),.ptr 0 0)] [⟨lS34,(a * 3),[n2 7,n2 8,n2 9],false⟩] [(22,n1 0),(23,nI 1),(14,n1 0),(15,nI 1),(21,.agg [n2 4,n2 5,n2 6]),(16,n1 0),(17,nI 3),(1,nI 1),(2,nI 2),(4,.fn 22 [] []),(0,n1 0)] q35 (.cons (qA hr gS34 hlt34 rfl (by rw [hm34];exact(dL q35))) .nil) (.cons (qD (k:=a) (dE q35) eS34 (dE q35) hlt34 rfl) .nil) B2 ?_
 refine qM kr fun vs ls H36 E36 st hE=>?_
 have b37:=eo st hE 26 (.ptr lS34 ((a * 3)+0))
 have b38:=eo st hE 21 (.agg [.int .i32 v16_0,.int .i32 v16_1,.int .i32 v16_2])
 have B3:=es st hE [(21,.agg [.int .i32 v16_0,.int .i32 v16_1,.int .i32 v16_2]),(16,S),(17,.int .i64 (p:Int)),(25,.agg [.int .i32 v34_0,.int .i32 v34_1,.int .i32 v34_2]),(1,.int .i64 (a:Int)),(2,.int .i64 (b:Int)),(4,.func 22 [] []),(0,S)]
 have g46:Grew H18 H36:=(gk st)
 have g47:OnlyS S H H36:=g31.grewR g46
 have s49:=s33.grew g46
 refine qH (d:=none) (n:=3) (x:=.tmp 26) (y:=.tmp 21) kr (S:=S) (ms:=L0) (k:=a) (m':=[.int .i32 v16_0,.int .i32 v16_1,.int .i32 v16_2]) (s49) eS34 b37 hlt34 hr.len (by show AV.cells (E36 21)=_;rw [b38];rfl) rfl rfl rfl ?_
 intro H50 s50 oo50
 have hln50:(L0.set a [.int .i32 v16_0,.int .i32 v16_1,.int .i32 v16_2]).length=L0.length:=by simp
 have g51:OnlyS S H H50:=g47.trans oo50
 refine rC 0 0 [] [(21,.agg [n2 4,n2 5,n2 6]),(16,n1 0),(17,nI 3),(25,.agg [n2 7,n2 8,n2 9]),(1,nI 1),(2,nI 2),(4,.fn 22 [] []),(0,n1 0)] q35 (sn B3) ?_
 refine qM kr fun vs ls H53 E53 st hE=>?_
 have B4:=es st hE [(16,S),(17,.int .i64 (p:Int)),(25,.agg [.int .i32 v34_0,.int .i32 v34_1,.int .i32 v34_2]),(1,.int .i64 (a:Int)),(2,.int .i64 (b:Int)),(4,.func 22 [] []),(0,S)]
 have g61:Grew H50 H53:=(gk st)
 have g62:OnlyS S H H53:=g51.grewR g61
 have s63:=s50.grew g61
 have hlt64:p < (L0.set a [.int .i32 v16_0,.int .i32 v16_1,.int .i32 v16_2]).length:=by omega
 obtain⟨lS64,cap64,rest64,wr64,eS64,gS64⟩:=(s63.toL).isSl hlt64
 obtain⟨v64_0,v64_1,v64_2,hm64⟩:=qC ((qL.set hr (.cons kA (.cons kA (.cons kA .nil)))).get hlt64)
 have he64:(L0.set a [.int .i32 v16_0,.int .i32 v16_1,.int .i32 v16_2]).getD p []=[.int .i32 v64_0,.int .i32 v64_1,.int .i32 v64_2]:=by rw [<- hm64,List.getD_eq_getElem?_getD,List.getElem?_eq_getElem hlt64];rfl
 have q65:=q35.app (kL:KdsL [K2,K2,K2] [.int .i32 v64_0,.int .i32 v64_1,.int .i32 v64_2])
 refine rF 1 0 [(.ia 3 (n1 0) (nI 3),.ptr 0 0)] [⟨lS64,(p * 3),[n2 10,n2 11,n2 12],false⟩] [(16,n1 0),(17,nI 3),(25,.agg [n2 7,n2 8,n2 9]),(1,nI 1),(2,nI 2),(4,.fn 22 [] []),(0,n1 0)] q65 (.cons (qA (qL.set hr (.cons kA (.cons kA (.cons kA .nil)))) gS64 hlt64 rfl (by rw [hm64];exact(dL q65))) .nil) (.cons (qD (k:=p) (dE q65) eS64 (dE q65) hlt64 rfl) .nil) B4 ?_
 refine qM kr fun vs ls H66 E66 st hE=>?_
 have b67:=eo st hE 27 (.ptr lS64 ((p * 3)+0))
 have b68:=eo st hE 25 (.agg [.int .i32 v34_0,.int .i32 v34_1,.int .i32 v34_2])
 have B5:=es st hE [(25,.agg [.int .i32 v34_0,.int .i32 v34_1,.int .i32 v34_2]),(1,.int .i64 (a:Int)),(2,.int .i64 (b:Int)),(4,.func 22 [] []),(0,S)]
 have g73:Grew H53 H66:=(gk st)
 have g74:OnlyS S H H66:=g62.grewR g73
 have s76:=s63.grew g73
 refine qH (d:=none) (n:=3) (x:=.tmp 27) (y:=.tmp 25) kr (S:=S) (ms:=(L0.set a [.int .i32 v16_0,.int .i32 v16_1,.int .i32 v16_2])) (k:=p) (m':=[.int .i32 v34_0,.int .i32 v34_1,.int .i32 v34_2]) (s76) eS64 b67 hlt64 (qL.set hr (.cons kA (.cons kA (.cons kA .nil)))).len (by show AV.cells (E66 25)=_;rw [b68];rfl) rfl rfl rfl ?_
 intro H77 s77 oo77
 have hln77:((L0.set a [.int .i32 v16_0,.int .i32 v16_1,.int .i32 v16_2]).set p [.int .i32 v34_0,.int .i32 v34_1,.int .i32 v34_2]).length=(L0.set a [.int .i32 v16_0,.int .i32 v16_1,.int .i32 v16_2]).length:=by simp
 have g78:OnlyS S H H77:=g74.trans oo77
 refine rC 0 0 [] [(25,.agg [n2 7,n2 8,n2 9]),(1,nI 1),(2,nI 2),(4,.fn 22 [] []),(0,n1 0)] q65 (sn B5) ?_
 refine qM kr fun vs ls H80 E80 st hE=>?_
 obtain⟨w81,hw81⟩:∃ z,z=(IntKind.wrap .i64 ((a:Int)+1)):=⟨_,rfl⟩
 have b82:E80 12=.int .i64 w81:=by rw [hw81];exact eo st hE 12 _
 obtain⟨w83,hw83⟩:∃ z,z=(IntKind.wrap .i64 ((b:Int) - 1)):=⟨_,rfl⟩
 have b84:E80 13=.int .i64 w83:=by rw [hw83];exact eo st hE 13 _
 have B6:=es st hE [(4,.func 22 [] []),(0,S),(1,.int .i64 (a:Int))]
 have g88:Grew H77 H80:=(gk st)
 have g89:OnlyS S H H80:=g78.grewR g88
 have s90:=s77.grew g88
 have nw81:w81=((a:Int)+1):=hw81.trans (wI _ om om)
 have nw83:w83=((b:Int) - 1):=hw83.trans (wI _ om om)
 refine gI 2 (fun E H'=>∃ (i91:Nat) (j91:Nat) (L91:LL),E 4=.func 22 [] []/\E 0=S/\E 1=.int .i64 (a:Int)/\E 12=.int .i64 (i91:Int)/\E 13=.int .i64 (j91:Int)/\OnlyS S H H'/\SlF H' 3 L91 S/\qL KC L91/\PInv κ a b L0 L91 i91 j91/\(j91 < i91 \/ (tmK κ L91 a<=tmK κ L91 i91/\tmK κ L91 j91 < tmK κ L91 a))/\True) kr ?_ ?_
 ·have q92:=q65.app (kL:KdsL [KI,KI] [.int .i64 w81,.int .i64 w83])
  refine rC 0 0 [] [(4,.fn 22 [] []),(0,n1 0),(1,nI 1),(12,nI 13),(13,nI 14)] q92 (sc B6 (.cons b82 (.cons b84 .nil))) ?_
  refine qM kr fun vs ls H93 E93 st hE=>?_
  have b94:=eo st hE 12 (.int .i64 w81)
  have b95:=eo st hE 13 (.int .i64 w83)
  have b96:=eo st hE 4 (.func 22 [] [])
  have b97:=eo st hE 0 S
  have b98:=eo st hE 1 (.int .i64 (a:Int))
  have g99:Grew H80 H93:=(gk st)
  have g100:OnlyS S H H93:=g89.grewR g99
  have s101:=s90.grew g99
  obtain⟨k102,hk102⟩:∃ k:Nat,w81=(k:Int):=⟨Int.toNat w81,by omega⟩
  obtain⟨k103,hk103⟩:∃ k:Nat,w83=(k:Int):=⟨Int.toNat w83,by omega⟩
  have hsw9:((L0.set a [.int .i32 v16_0,.int .i32 v16_1,.int .i32 v16_2]).set p [.int .i32 v34_0,.int .i32 v34_1,.int .i32 v34_2])=swp L0 a p:=by unfold swp;rw [he34,he16]
  have hst0:Pt2 a b L0 ((L0.set a [.int .i32 v16_0,.int .i32 v16_1,.int .i32 v16_2]).set p [.int .i32 v34_0,.int .i32 v34_1,.int .i32 v34_2]):=by rw [hsw9];exact Pt2.swap om om om om hb
  refine zE kr (fun z E H'=>∃ (i104:Nat) (j104:Nat),z=j104+1 - i104/\E 4=.func 22 [] []/\E 0=S/\E 1=.int .i64 (a:Int)/\E 12=.int .i64 (i104:Int)/\E 13=.int .i64 (j104:Int)/\OnlyS S H H'/\SlF H' 3 ((L0.set a [.int .i32 v16_0,.int .i32 v16_1,.int .i32 v16_2]).set p [.int .i32 v34_0,.int .i32 v34_1,.int .i32 v34_2]) S/\PInv κ a b L0 ((L0.set a [.int .i32 v16_0,.int .i32 v16_1,.int .i32 v16_2]).set p [.int .i32 v34_0,.int .i32 v34_1,.int .i32 v34_2]) i104 j104/\True) (k103+1 - k102) ⟨k102,k103,rfl,b96,b97,b98,(b94.trans (by rw [hk102])),(b95.trans (by rw [hk103])),g100,s101,⟨⟨hst0,by omega,by omega,by omega,fun q h1 h2=>by omega,fun q h1 h2=>by omega⟩,trivial⟩⟩ ?_
  rintro z104 E104 Hx104 ⟨i104,j104,hz104,c104_4,c104_0,c104_1,cv104_12,cv104_13,gt104,sp104_0,iv104⟩
  obtain⟨hvi104,hxi104⟩:=iv104
  have haii104:=hvi104.ai
  have hiji104:=hvi104.ij
  have hjbi104:=hvi104.jb
  have hlni104:=hvi104.st.len
  have q105:=q92.app (kL:KdsL [KI,KI] [.int .i64 (i104:Int),.int .i64 (j104:Int)])
  refine rC 0 0 [] [(4,.fn 22 [] []),(0,n1 0),(1,nI 1),(12,nI 15),(13,nI 16)] q105 (.cons c104_4 (.cons c104_0 (.cons c104_1 (.cons cv104_12 (.cons cv104_13 .nil))))) ?_
  refine vI kr ?_ ?_
  ·intro vs ls H106 E106 st hE
   have f107:¬ ((j104:Int) < (i104:Int)):=df st 0
   obtain⟨w113,hw113⟩:∃ z,z=(!(decide ((j104:Int) < (i104:Int)))):=⟨_,rfl⟩
   have b114:E106 35=.bool w113:=by rw [hw113];exact eo st hE 35 _
   have B7:=es st hE [(37,S),(38,.int .i64 (i104:Int)),(0,S),(1,.int .i64 (a:Int)),(36,.func 22 [] []),(12,.int .i64 (i104:Int)),(13,.int .i64 (j104:Int)),(4,.func 22 [] [])]
   have g118:Grew Hx104 H106:=(gk st)
   have g119:OnlyS S H H106:=gt104.grewR g118
   have s120:=sp104_0.grew g118
   have hlt121:i104 < ((L0.set a [.int .i32 v16_0,.int .i32 v16_1,.int .i32 v16_2]).set p [.int .i32 v34_0,.int .i32 v34_1,.int .i32 v34_2]).length:=by omega
   obtain⟨lS121,cap121,rest121,wr121,eS121,gS121⟩:=(s120.toL).isSl hlt121
   obtain⟨v121_0,v121_1,v121_2,hm121⟩:=qC ((qL.set (qL.set hr (.cons kA (.cons kA (.cons kA .nil)))) (.cons kA (.cons kA (.cons kA .nil)))).get hlt121)
   have he121:((L0.set a [.int .i32 v16_0,.int .i32 v16_1,.int .i32 v16_2]).set p [.int .i32 v34_0,.int .i32 v34_1,.int .i32 v34_2]).getD i104 []=[.int .i32 v121_0,.int .i32 v121_1,.int .i32 v121_2]:=by rw [<- hm121,List.getD_eq_getElem?_getD,List.getElem?_eq_getElem hlt121];rfl
   have q122:=q105.app (kL:KdsL [.bool,K2,K2,K2] [.bool w113,.int .i32 v121_0,.int .i32 v121_1,.int .i32 v121_2])
   refine rF 1 0 [(.ia 3 (n1 0) (nI 15),.ptr 0 0)] [⟨lS121,(i104 * 3),[n2 18,n2 19,n2 20],false⟩] [(37,n1 0),(38,nI 15),(0,n1 0),(1,nI 1),(36,.fn 22 [] []),(12,nI 15),(13,nI 16),(4,.fn 22 [] []),(35,nB 17)] q122 (.cons (qA (qL.set (qL.set hr (.cons kA (.cons kA (.cons kA .nil)))) (.cons kA (.cons kA (.cons kA .nil)))) gS121 hlt121 rfl (by rw [hm121];exact(dL q122))) .nil) (.cons (qD (k:=i104) (dE q122) eS121 (dE q122) hlt121 rfl) .nil) (sc B7 (.cons b114 .nil)) ?_
   refine vI kr ?_ ?_
   ·intro vs ls H123 E123 st hE
    have f124:w113=true:=bf st 0
    have B8:=es st hE [(41,S),(42,.int .i64 (a:Int)),(36,.func 22 [] []),(40,.agg [.int .i32 v121_0,.int .i32 v121_1,.int .i32 v121_2]),(35,.bool w113),(12,.int .i64 (i104:Int)),(13,.int .i64 (j104:Int)),(0,S),(1,.int .i64 (a:Int)),(4,.func 22 [] [])]
    have g135:Grew H106 H123:=(gk st)
    have g136:OnlyS S H H123:=g119.grewR g135
    have s138:=s120.grew g135
    have hlt139:a < ((L0.set a [.int .i32 v16_0,.int .i32 v16_1,.int .i32 v16_2]).set p [.int .i32 v34_0,.int .i32 v34_1,.int .i32 v34_2]).length:=by omega
    obtain⟨lS139,cap139,rest139,wr139,eS139,gS139⟩:=(s138.toL).isSl hlt139
    obtain⟨v139_0,v139_1,v139_2,hm139⟩:=qC ((qL.set (qL.set hr (.cons kA (.cons kA (.cons kA .nil)))) (.cons kA (.cons kA (.cons kA .nil)))).get hlt139)
    have he139:((L0.set a [.int .i32 v16_0,.int .i32 v16_1,.int .i32 v16_2]).set p [.int .i32 v34_0,.int .i32 v34_1,.int .i32 v34_2]).getD a []=[.int .i32 v139_0,.int .i32 v139_1,.int .i32 v139_2]:=by rw [<- hm139,List.getD_eq_getElem?_getD,List.getElem?_eq_getElem hlt139];rfl
    have q140:=q122.app (kL:KdsL [K2,K2,K2,KI] [.int .i32 v139_0,.int .i32 v139_1,.int .i32 v139_2,.int .i64 (zD v121_0 v121_1 v121_2 v139_0 v139_1 v139_2)])
    refine rF 1 0 [(.ia 3 (n1 0) (nI 1),.ptr 0 0),(.call 22 [.agg [n2 18,n2 19,n2 20],.agg [n2 21,n2 22,n2 23]],nI 24)] [⟨lS139,(a * 3),[n2 21,n2 22,n2 23],false⟩] [(41,n1 0),(42,nI 1),(36,.fn 22 [] []),(40,.agg [n2 18,n2 19,n2 20]),(35,nB 17),(12,nI 15),(13,nI 16),(0,n1 0),(1,nI 1),(4,.fn 22 [] [])] q140 (.cons (qA (qL.set (qL.set hr (.cons kA (.cons kA (.cons kA .nil)))) (.cons kA (.cons kA (.cons kA .nil)))) gS139 hlt139 rfl (by rw [hm139];exact(dL q140))) .nil) (.cons (qD (k:=a) (dE q140) eS139 (dE q140) hlt139 rfl) (.cons (qI (args:=[.agg [.int .i32 v121_0,.int .i32 v121_1,.int .i32 v121_2],.agg [.int .i32 v139_0,.int .i32 v139_1,.int .i32 v139_2]]) (dL q140) (dE q140) (fun H9 hk=>qO H9 v121_0 v121_1 v121_2 v139_0 v139_1 v139_2)) .nil)) B8 ?_
    refine cJ kr ?_ ?_ ?_
    ·intro vs ls H141 E141 st hE
     have f142:(zD v121_0 v121_1 v121_2 v139_0 v139_1 v139_2) < 0:=dt st 0
     have f143:w113=true:=bf st 1
     obtain⟨w144,hw144⟩:∃ z,z=(IntKind.wrap .i64 ((i104:Int)+1)):=⟨_,rfl⟩
     have b145:E141 12=.int .i64 w144:=by rw [hw144];exact eo st hE 12 _
     have b146:=eo st hE 13 (.int .i64 (j104:Int))
     have b147:=eo st hE 4 (.func 22 [] [])
     have b148:=eo st hE 0 S
     have b149:=eo st hE 1 (.int .i64 (a:Int))
     have g150:Grew H123 H141:=(gk st)
     have g151:OnlyS S H H141:=g136.grewR g150
     have s153:=s138.grew g150
     have nw144:w144=((i104:Int)+1):=hw144.trans (wI _ om om)
     obtain⟨k154,hk154⟩:∃ k:Nat,w144=(k:Int):=⟨Int.toNat w144,by omega⟩
     have ct155:=xT hκ hvi104.st.pe hlt121 hlt139 he121 he139
     have hm9:j104+1 - k154 < z104:=by omega
     exact qP kr ⟨j104+1 - k154,hm9,k154,j104,rfl,b147,b148,b149,(b145.trans (by rw [hk154])),b146,g151,s153,⟨by rw [show k154=i104+1 by omega,show j104=j104 by omega];exact PInv.up hvi104 om om,trivial⟩⟩
    ·intro vs ls H156 E156 st hE
     have f157:¬ ((zD v121_0 v121_1 v121_2 v139_0 v139_1 v139_2) < 0):=df st 0
     have f158:w113=true:=bf st 1
     have B9:=es st hE [(12,.int .i64 (i104:Int)),(13,.int .i64 (j104:Int)),(4,.func 22 [] []),(0,S),(1,.int .i64 (a:Int)),(41,S),(42,.int .i64 (a:Int)),(43,.ptr lS139 ((a * 3)+0)),(36,.func 22 [] []),(40,.agg [.int .i32 v121_0,.int .i32 v121_1,.int .i32 v121_2]),(44,.agg [.int .i32 v139_0,.int .i32 v139_1,.int .i32 v139_2]),(45,.int .i64 (zD v121_0 v121_1 v121_2 v139_0 v139_1 v139_2)),(35,.bool w113)]
     obtain⟨w172,hw172⟩:∃ z,z=(decide ((zD v121_0 v121_1 v121_2 v139_0 v139_1 v139_2) < 0)):=⟨_,rfl⟩
     have b173:E156 46=.bool w172:=by rw [hw172];exact eo st hE 46 _
     have b174:E156 47=.bool w172:=by rw [hw172];exact eo st hE 47 _
     have g175:Grew H123 H156:=(gk st)
     have g176:OnlyS S H H156:=g136.grewR g175
     have r177:=g175.at gS139
     have s178:=s138.grew g175
     refine qQ (id:=0) kr ?_
     have qf158:=of_decide_eq_false ((Bool.not_eq_true' _).mp (hw113.symm.trans f158))
     have ct179:=xT hκ hvi104.st.pe hlt121 hlt139 he121 he139
     have hupi104:j104 < i104 \/ tmK κ ((L0.set a [.int .i32 v16_0,.int .i32 v16_1,.int .i32 v16_2]).set p [.int .i32 v34_0,.int .i32 v34_1,.int .i32 v34_2]) a<=tmK κ ((L0.set a [.int .i32 v16_0,.int .i32 v16_1,.int .i32 v16_2]).set p [.int .i32 v34_0,.int .i32 v34_1,.int .i32 v34_2]) i104:=by omega
     have q180:=q140.app (kL:KdsL [.bool] [.bool w172])
     refine rF 1 0 [] [⟨lS139,(a * 3),[n2 21,n2 22,n2 23],false⟩] [(12,nI 15),(13,nI 16),(4,.fn 22 [] []),(0,n1 0),(1,nI 1),(41,n1 0),(42,nI 1),(43,.ptr 0 0),(36,.fn 22 [] []),(40,.agg [n2 18,n2 19,n2 20]),(44,.agg [n2 21,n2 22,n2 23]),(45,nI 24),(35,nB 17),(46,nB 25),(47,nB 25)] q180 (.cons (qA (qL.set (qL.set hr (.cons kA (.cons kA (.cons kA .nil)))) (.cons kA (.cons kA (.cons kA .nil)))) r177 hlt139 rfl (by rw [hm139];exact(dL q180))) .nil) .nil (sc B9 (.cons b173 (.cons b174 .nil))) ?_
     refine qM kr fun vs ls H181 E181 st hE=>?_
     have b182:=eo st hE 12 (.int .i64 (i104:Int))
     have b183:=eo st hE 13 (.int .i64 (j104:Int))
     have b184:=eo st hE 4 (.func 22 [] [])
     have b185:=eo st hE 0 S
     have b186:=eo st hE 1 (.int .i64 (a:Int))
     have g187:Grew H156 H181:=(gk st)
     have g188:OnlyS S H H181:=g176.grewR g187
     have s190:=s178.grew g187
     refine zE kr (fun z E H'=>∃ (i191:Nat) (j191:Nat),z=j191/\E 4=.func 22 [] []/\E 0=S/\E 1=.int .i64 (a:Int)/\E 12=.int .i64 (i191:Int)/\E 13=.int .i64 (j191:Int)/\OnlyS S H H'/\SlF H' 3 ((L0.set a [.int .i32 v16_0,.int .i32 v16_1,.int .i32 v16_2]).set p [.int .i32 v34_0,.int .i32 v34_1,.int .i32 v34_2]) S/\PInv κ a b L0 ((L0.set a [.int .i32 v16_0,.int .i32 v16_1,.int .i32 v16_2]).set p [.int .i32 v34_0,.int .i32 v34_1,.int .i32 v34_2]) i191 j191/\(j191 < i191 \/ tmK κ ((L0.set a [.int .i32 v16_0,.int .i32 v16_1,.int .i32 v16_2]).set p [.int .i32 v34_0,.int .i32 v34_1,.int .i32 v34_2]) a<=tmK κ ((L0.set a [.int .i32 v16_0,.int .i32 v16_1,.int .i32 v16_2]).set p [.int .i32 v34_0,.int .i32 v34_1,.int .i32 v34_2]) i191)/\True) (j104) ⟨i104,j104,rfl,b184,b185,b186,b182,b183,g188,s190,⟨hvi104,hupi104,trivial⟩⟩ ?_
     rintro z191 E191 Hx191 ⟨i191,j191,hz191,c191_4,c191_0,c191_1,cv191_12,cv191_13,gt191,sp191_0,iv191⟩
     obtain⟨hvi191,hxi191⟩:=iv191
     have haii191:=hvi191.ai
     have hiji191:=hvi191.ij
     have hjbi191:=hvi191.jb
     have hlni191:=hvi191.st.len
     have q192:=q180.app (kL:KdsL [KI,KI] [.int .i64 (i191:Int),.int .i64 (j191:Int)])
     refine rC 0 0 [] [(4,.fn 22 [] []),(0,n1 0),(1,nI 1),(12,nI 26),(13,nI 27)] q192 (.cons c191_4 (.cons c191_0 (.cons c191_1 (.cons cv191_12 (.cons cv191_13 .nil))))) ?_
     refine vI kr ?_ ?_
     ·intro vs ls H193 E193 st hE
      have f194:¬ ((j191:Int) < (i191:Int)):=df st 0
      obtain⟨w200,hw200⟩:∃ z,z=(!(decide ((j191:Int) < (i191:Int)))):=⟨_,rfl⟩
      have b201:E193 53=.bool w200:=by rw [hw200];exact eo st hE 53 _
      have B10:=es st hE [(55,S),(56,.int .i64 (j191:Int)),(0,S),(1,.int .i64 (a:Int)),(54,.func 22 [] []),(13,.int .i64 (j191:Int)),(12,.int .i64 (i191:Int)),(4,.func 22 [] [])]
      have g205:Grew Hx191 H193:=(gk st)
      have g206:OnlyS S H H193:=gt191.grewR g205
      have s207:=sp191_0.grew g205
      have hlt208:j191 < ((L0.set a [.int .i32 v16_0,.int .i32 v16_1,.int .i32 v16_2]).set p [.int .i32 v34_0,.int .i32 v34_1,.int .i32 v34_2]).length:=by omega
      obtain⟨lS208,cap208,rest208,wr208,eS208,gS208⟩:=(s207.toL).isSl hlt208
      obtain⟨v208_0,v208_1,v208_2,hm208⟩:=qC ((qL.set (qL.set hr (.cons kA (.cons kA (.cons kA .nil)))) (.cons kA (.cons kA (.cons kA .nil)))).get hlt208)
      have he208:((L0.set a [.int .i32 v16_0,.int .i32 v16_1,.int .i32 v16_2]).set p [.int .i32 v34_0,.int .i32 v34_1,.int .i32 v34_2]).getD j191 []=[.int .i32 v208_0,.int .i32 v208_1,.int .i32 v208_2]:=by rw [<- hm208,List.getD_eq_getElem?_getD,List.getElem?_eq_getElem hlt208];rfl
      have q209:=q192.app (kL:KdsL [.bool,K2,K2,K2] [.bool w200,.int .i32 v208_0,.int .i32 v208_1,.int .i32 v208_2])
      refine rF 1 0 [(.ia 3 (n1 0) (nI 27),.ptr 0 0)] [⟨lS208,(j191 * 3),[n2 29,n2 30,n2 31],false⟩] [(55,n1 0),(56,nI 27),(0,n1 0),(1,nI 1),(54,.fn 22 [] []),(13,nI 27),(12,nI 26),(4,.fn 22 [] []),(53,nB 28)] q209 (.cons (qA (qL.set (qL.set hr (.cons kA (.cons kA (.cons kA .nil)))) (.cons kA (.cons kA (.cons kA .nil)))) gS208 hlt208 rfl (by rw [hm208];exact(dL q209))) .nil) (.cons (qD (k:=j191) (dE q209) eS208 (dE q209) hlt208 rfl) .nil) (sc B10 (.cons b201 .nil)) ?_
      refine vI kr ?_ ?_
      ·intro vs ls H210 E210 st hE
       have f211:w200=true:=bf st 0
       have B11:=es st hE [(59,S),(60,.int .i64 (a:Int)),(54,.func 22 [] []),(58,.agg [.int .i32 v208_0,.int .i32 v208_1,.int .i32 v208_2]),(53,.bool w200),(13,.int .i64 (j191:Int)),(12,.int .i64 (i191:Int)),(0,S),(1,.int .i64 (a:Int)),(4,.func 22 [] [])]
       have g222:Grew H193 H210:=(gk st)
       have g223:OnlyS S H H210:=g206.grewR g222
       have s225:=s207.grew g222
       have hlt226:a < ((L0.set a [.int .i32 v16_0,.int .i32 v16_1,.int .i32 v16_2]).set p [.int .i32 v34_0,.int .i32 v34_1,.int .i32 v34_2]).length:=by omega
       obtain⟨lS226,cap226,rest226,wr226,eS226,gS226⟩:=(s225.toL).isSl hlt226
       obtain⟨v226_0,v226_1,v226_2,hm226⟩:=qC ((qL.set (qL.set hr (.cons kA (.cons kA (.cons kA .nil)))) (.cons kA (.cons kA (.cons kA .nil)))).get hlt226)
       have he226:((L0.set a [.int .i32 v16_0,.int .i32 v16_1,.int .i32 v16_2]).set p [.int .i32 v34_0,.int .i32 v34_1,.int .i32 v34_2]).getD a []=[.int .i32 v226_0,.int .i32 v226_1,.int .i32 v226_2]:=by rw [<- hm226,List.getD_eq_getElem?_getD,List.getElem?_eq_getElem hlt226];rfl
       have q227:=q209.app (kL:KdsL [K2,K2,K2,KI] [.int .i32 v226_0,.int .i32 v226_1,.int .i32 v226_2,.int .i64 (zD v208_0 v208_1 v208_2 v226_0 v226_1 v226_2)])
       refine rF 1 0 [(.ia 3 (n1 0) (nI 1),.ptr 0 0),(.call 22 [.agg [n2 29,n2 30,n2 31],.agg [n2 32,n2 33,n2 34]],nI 35)] [⟨lS226,(a * 3),[n2 32,n2 33,n2 34],false⟩] [(59,n1 0),(60,nI 1),(54,.fn 22 [] []),(58,.agg [n2 29,n2 30,n2 31]),(53,nB 28),(13,nI 27),(12,nI 26),(0,n1 0),(1,nI 1),(4,.fn 22 [] [])] q227 (.cons (qA (qL.set (qL.set hr (.cons kA (.cons kA (.cons kA .nil)))) (.cons kA (.cons kA (.cons kA .nil)))) gS226 hlt226 rfl (by rw [hm226];exact(dL q227))) .nil) (.cons (qD (k:=a) (dE q227) eS226 (dE q227) hlt226 rfl) (.cons (qI (args:=[.agg [.int .i32 v208_0,.int .i32 v208_1,.int .i32 v208_2],.agg [.int .i32 v226_0,.int .i32 v226_1,.int .i32 v226_2]]) (dL q227) (dE q227) (fun H9 hk=>qO H9 v208_0 v208_1 v208_2 v226_0 v226_1 v226_2)) .nil)) B11 ?_
       refine cJ kr ?_ ?_ ?_
       ·intro vs ls H228 E228 st hE
        have f229:¬ ((zD v208_0 v208_1 v208_2 v226_0 v226_1 v226_2) < 0):=df st 0
        have f230:w200=true:=bf st 1
        have b231:=eo st hE 12 (.int .i64 (i191:Int))
        obtain⟨w232,hw232⟩:∃ z,z=(IntKind.wrap .i64 ((j191:Int) - 1)):=⟨_,rfl⟩
        have b233:E228 13=.int .i64 w232:=by rw [hw232];exact eo st hE 13 _
        have b234:=eo st hE 4 (.func 22 [] [])
        have b235:=eo st hE 0 S
        have b236:=eo st hE 1 (.int .i64 (a:Int))
        have g237:Grew H210 H228:=(gk st)
        have g238:OnlyS S H H228:=g223.grewR g237
        have s240:=s225.grew g237
        have nw232:w232=((j191:Int) - 1):=hw232.trans (wI _ om om)
        obtain⟨k241,hk241⟩:∃ k:Nat,w232=(k:Int):=⟨Int.toNat w232,by omega⟩
        have ct242:=xT hκ hvi191.st.pe hlt208 hlt226 he208 he226
        have hm9:k241 < z191:=by omega
        exact qP kr ⟨k241,hm9,i191,k241,rfl,b234,b235,b236,b231,(b233.trans (by rw [hk241])),g238,s240,⟨by rw [show i191=i191 by omega,show k241=j191 - 1 by omega];exact PInv.down hvi191 om om,by rw [show i191=i191 by omega];omega,trivial⟩⟩
       ·intro vs ls H243 E243 st hE
        have f244:(zD v208_0 v208_1 v208_2 v226_0 v226_1 v226_2) < 0:=dt st 0
        have f245:w200=true:=bf st 1
        obtain⟨w258,hw258⟩:∃ z,z=(decide ((zD v208_0 v208_1 v208_2 v226_0 v226_1 v226_2) < 0)):=⟨_,rfl⟩
        have b259:E243 64=.bool w258:=by rw [hw258];exact eo st hE 64 _
        have B12:=es st hE [(12,.int .i64 (i191:Int)),(13,.int .i64 (j191:Int)),(4,.func 22 [] []),(0,S),(1,.int .i64 (a:Int)),(59,S),(60,.int .i64 (a:Int)),(61,.ptr lS226 ((a * 3)+0)),(54,.func 22 [] []),(58,.agg [.int .i32 v208_0,.int .i32 v208_1,.int .i32 v208_2]),(62,.agg [.int .i32 v226_0,.int .i32 v226_1,.int .i32 v226_2]),(63,.int .i64 (zD v208_0 v208_1 v208_2 v226_0 v226_1 v226_2)),(53,.bool w200)]
        obtain⟨w261,hw261⟩:∃ z,z=(!(decide ((zD v208_0 v208_1 v208_2 v226_0 v226_1 v226_2) < 0))):=⟨_,rfl⟩
        have b262:E243 65=.bool w261:=by rw [hw261];exact eo st hE 65 _
        have b263:E243 66=.bool w261:=by rw [hw261];exact eo st hE 66 _
        have g264:Grew H210 H243:=(gk st)
        have g265:OnlyS S H H243:=g223.grewR g264
        have r266:=g264.at gS226
        have s267:=s225.grew g264
        refine qQ (id:=2) kr ?_
        have qf245:=of_decide_eq_false ((Bool.not_eq_true' _).mp (hw200.symm.trans f245))
        have ct268:=xT hκ hvi191.st.pe hlt208 hlt226 he208 he226
        have hdni191:j191 < i191 \/ (tmK κ ((L0.set a [.int .i32 v16_0,.int .i32 v16_1,.int .i32 v16_2]).set p [.int .i32 v34_0,.int .i32 v34_1,.int .i32 v34_2]) a<=tmK κ ((L0.set a [.int .i32 v16_0,.int .i32 v16_1,.int .i32 v16_2]).set p [.int .i32 v34_0,.int .i32 v34_1,.int .i32 v34_2]) i191/\tmK κ ((L0.set a [.int .i32 v16_0,.int .i32 v16_1,.int .i32 v16_2]).set p [.int .i32 v34_0,.int .i32 v34_1,.int .i32 v34_2]) j191 < tmK κ ((L0.set a [.int .i32 v16_0,.int .i32 v16_1,.int .i32 v16_2]).set p [.int .i32 v34_0,.int .i32 v34_1,.int .i32 v34_2]) a):=by omega
        have q269:=q227.app (kL:KdsL [.bool,.bool] [.bool w258,.bool w261])
        refine rF 1 0 [] [⟨lS226,(a * 3),[n2 32,n2 33,n2 34],false⟩] [(12,nI 26),(13,nI 27),(4,.fn 22 [] []),(0,n1 0),(1,nI 1),(59,n1 0),(60,nI 1),(61,.ptr 0 0),(54,.fn 22 [] []),(58,.agg [n2 29,n2 30,n2 31]),(62,.agg [n2 32,n2 33,n2 34]),(63,nI 35),(53,nB 28),(64,nB 36),(65,nB 37),(66,nB 37)] q269 (.cons (qA (qL.set (qL.set hr (.cons kA (.cons kA (.cons kA .nil)))) (.cons kA (.cons kA (.cons kA .nil)))) r266 hlt226 rfl (by rw [hm226];exact(dL q269))) .nil) .nil (sc B12 (.cons b259 (.cons b262 (.cons b263 .nil)))) ?_
        refine qM kr fun vs ls H270 E270 st hE=>?_
        have b271:=eo st hE 12 (.int .i64 (i191:Int))
        have b272:=eo st hE 13 (.int .i64 (j191:Int))
        have b273:=eo st hE 0 S
        have b274:=eo st hE 1 (.int .i64 (a:Int))
        have b275:=eo st hE 4 (.func 22 [] [])
        have g276:Grew H243 H270:=(gk st)
        have g277:OnlyS S H H270:=g265.grewR g276
        have s279:=s267.grew g276
        exact qZ kr ⟨i191,j191,((L0.set a [.int .i32 v16_0,.int .i32 v16_1,.int .i32 v16_2]).set p [.int .i32 v34_0,.int .i32 v34_1,.int .i32 v34_2]),b275,b273,b274,b271,b272,g277,s279,(qL.set (qL.set hr (.cons kA (.cons kA (.cons kA .nil)))) (.cons kA (.cons kA (.cons kA .nil)))),⟨hvi191,hdni191,trivial⟩⟩
       ·intro vs ls H280 E280 st hE
        have f281:w200=false:=bf st 0
        exact absurd (of_decide_eq_true ((Bool.not_eq_false' _).mp (hw200.symm.trans f281))) f194
      ·intro vs ls H291 E291 st hE
       have f292:w200=false:=bf st 0
       exact absurd (of_decide_eq_true ((Bool.not_eq_false' _).mp (hw200.symm.trans f292))) f194
     ·intro vs ls H302 E302 st hE
      have f303:(j191:Int) < (i191:Int):=dt st 0
      obtain⟨w308,hw308⟩:∃ z,z=(!(decide ((j191:Int) < (i191:Int)))):=⟨_,rfl⟩
      have b309:E302 52=.bool w308:=by rw [hw308];exact eo st hE 52 _
      have b324:E302 53=.bool w308:=by rw [hw308];exact eo st hE 53 _
      have B13:=es st hE [(12,.int .i64 (i191:Int)),(13,.int .i64 (j191:Int)),(50,.int .i64 (i191:Int)),(51,.int .i64 (j191:Int)),(4,.func 22 [] []),(0,S),(55,.undef),(56,.undef),(57,.undef),(1,.int .i64 (a:Int)),(59,.undef),(60,.undef),(61,.undef),(54,.undef),(58,.undef),(62,.undef),(63,.undef),(64,.undef),(65,.undef),(66,.bool false)]
      have g327:Grew Hx191 H302:=(gk st)
      have g328:OnlyS S H H302:=gt191.grewR g327
      have s329:=sp191_0.grew g327
      refine qQ (id:=2) kr ?_
      have hdni191:j191 < i191 \/ (tmK κ ((L0.set a [.int .i32 v16_0,.int .i32 v16_1,.int .i32 v16_2]).set p [.int .i32 v34_0,.int .i32 v34_1,.int .i32 v34_2]) a<=tmK κ ((L0.set a [.int .i32 v16_0,.int .i32 v16_1,.int .i32 v16_2]).set p [.int .i32 v34_0,.int .i32 v34_1,.int .i32 v34_2]) i191/\tmK κ ((L0.set a [.int .i32 v16_0,.int .i32 v16_1,.int .i32 v16_2]).set p [.int .i32 v34_0,.int .i32 v34_1,.int .i32 v34_2]) j191 < tmK κ ((L0.set a [.int .i32 v16_0,.int .i32 v16_1,.int .i32 v16_2]).set p [.int .i32 v34_0,.int .i32 v34_1,.int .i32 v34_2]) a):=by omega
      have q330:=q192.app (kL:KdsL [.bool] [.bool w308])
      refine rC 0 0 [] [(12,nI 26),(13,nI 27),(50,nI 26),(51,nI 27),(4,.fn 22 [] []),(0,n1 0),(55,.lit .undef),(56,.lit .undef),(57,.lit .undef),(1,nI 1),(59,.lit .undef),(60,.lit .undef),(61,.lit .undef),(54,.lit .undef),(58,.lit .undef),(62,.lit .undef),(63,.lit .undef),(64,.lit .undef),(65,.lit .undef),(66,.lit (.bool false)),(52,nB 28),(53,nB 28)] q330 (sc B13 (.cons b309 (.cons b324 .nil))) ?_
      refine qM kr fun vs ls H331 E331 st hE=>?_
      have b332:=eo st hE 12 (.int .i64 (i191:Int))
      have b333:=eo st hE 13 (.int .i64 (j191:Int))
      have b334:=eo st hE 0 S
      have b335:=eo st hE 1 (.int .i64 (a:Int))
      have b336:=eo st hE 4 (.func 22 [] [])
      have g337:Grew H302 H331:=(gk st)
      have g338:OnlyS S H H331:=g328.grewR g337
      have s339:=s329.grew g337
      exact qZ kr ⟨i191,j191,((L0.set a [.int .i32 v16_0,.int .i32 v16_1,.int .i32 v16_2]).set p [.int .i32 v34_0,.int .i32 v34_1,.int .i32 v34_2]),b336,b334,b335,b332,b333,g338,s339,(qL.set (qL.set hr (.cons kA (.cons kA (.cons kA .nil)))) (.cons kA (.cons kA (.cons kA .nil)))),⟨hvi191,hdni191,trivial⟩⟩
    ·intro vs ls H340 E340 st hE
     have f341:w113=false:=bf st 0
     exact absurd (of_decide_eq_true ((Bool.not_eq_false' _).mp (hw113.symm.trans f341))) f107
   ·intro vs ls H351 E351 st hE
    have f352:w113=false:=bf st 0
    exact absurd (of_decide_eq_true ((Bool.not_eq_false' _).mp (hw113.symm.trans f352))) f107
  ·intro vs ls H362 E362 st hE
   have f363:(j104:Int) < (i104:Int):=dt st 0
   obtain⟨w368,hw368⟩:∃ z,z=(!(decide ((j104:Int) < (i104:Int)))):=⟨_,rfl⟩
   have b369:E362 34=.bool w368:=by rw [hw368];exact eo st hE 34 _
   have b383:E362 35=.bool w368:=by rw [hw368];exact eo st hE 35 _
   have B14:=es st hE [(12,.int .i64 (i104:Int)),(13,.int .i64 (j104:Int)),(32,.int .i64 (i104:Int)),(33,.int .i64 (j104:Int)),(4,.func 22 [] []),(0,S),(37,.undef),(38,.undef),(39,.undef),(1,.int .i64 (a:Int)),(41,.undef),(42,.undef),(43,.undef),(36,.undef),(40,.undef),(44,.undef),(45,.undef),(46,.undef),(47,.bool false)]
   have g386:Grew Hx104 H362:=(gk st)
   have g387:OnlyS S H H362:=gt104.grewR g386
   have s388:=sp104_0.grew g386
   refine qQ (id:=0) kr ?_
   have hupi104:j104 < i104 \/ tmK κ ((L0.set a [.int .i32 v16_0,.int .i32 v16_1,.int .i32 v16_2]).set p [.int .i32 v34_0,.int .i32 v34_1,.int .i32 v34_2]) a<=tmK κ ((L0.set a [.int .i32 v16_0,.int .i32 v16_1,.int .i32 v16_2]).set p [.int .i32 v34_0,.int .i32 v34_1,.int .i32 v34_2]) i104:=by omega
   have q389:=q105.app (kL:KdsL [.bool] [.bool w368])
   refine rC 0 0 [] [(12,nI 15),(13,nI 16),(32,nI 15),(33,nI 16),(4,.fn 22 [] []),(0,n1 0),(37,.lit .undef),(38,.lit .undef),(39,.lit .undef),(1,nI 1),(41,.lit .undef),(42,.lit .undef),(43,.lit .undef),(36,.lit .undef),(40,.lit .undef),(44,.lit .undef),(45,.lit .undef),(46,.lit .undef),(47,.lit (.bool false)),(34,nB 17),(35,nB 17)] q389 (sc B14 (.cons b369 (.cons b383 .nil))) ?_
   refine qM kr fun vs ls H390 E390 st hE=>?_
   have b391:=eo st hE 12 (.int .i64 (i104:Int))
   have b392:=eo st hE 13 (.int .i64 (j104:Int))
   have b393:=eo st hE 4 (.func 22 [] [])
   have b394:=eo st hE 0 S
   have b395:=eo st hE 1 (.int .i64 (a:Int))
   have g396:Grew H362 H390:=(gk st)
   have g397:OnlyS S H H390:=g387.grewR g396
   have s398:=s388.grew g396
   refine zE kr (fun z E H'=>∃ (i399:Nat) (j399:Nat),z=j399/\E 4=.func 22 [] []/\E 0=S/\E 1=.int .i64 (a:Int)/\E 12=.int .i64 (i399:Int)/\E 13=.int .i64 (j399:Int)/\OnlyS S H H'/\SlF H' 3 ((L0.set a [.int .i32 v16_0,.int .i32 v16_1,.int .i32 v16_2]).set p [.int .i32 v34_0,.int .i32 v34_1,.int .i32 v34_2]) S/\PInv κ a b L0 ((L0.set a [.int .i32 v16_0,.int .i32 v16_1,.int .i32 v16_2]).set p [.int .i32 v34_0,.int .i32 v34_1,.int .i32 v34_2]) i399 j399/\(j399 < i399 \/ tmK κ ((L0.set a [.int .i32 v16_0,.int .i32 v16_1,.int .i32 v16_2]).set p [.int .i32 v34_0,.int .i32 v34_1,.int .i32 v34_2]) a<=tmK κ ((L0.set a [.int .i32 v16_0,.int .i32 v16_1,.int .i32 v16_2]).set p [.int .i32 v34_0,.int .i32 v34_1,.int .i32 v34_2]) i399)/\True) (j104) ⟨i104,j104,rfl,b393,b394,b395,b391,b392,g397,s398,⟨hvi104,hupi104,trivial⟩⟩ ?_
   rintro z399 E399 Hx399 ⟨i399,j399,hz399,c399_4,c399_0,c399_1,cv399_12,cv399_13,gt399,sp399_0,iv399⟩
   obtain⟨hvi399,hxi399⟩:=iv399
   have haii399:=hvi399.ai
   have hiji399:=hvi399.ij
   have hjbi399:=hvi399.jb
   have hlni399:=hvi399.st.len
   have q400:=q389.app (kL:KdsL [KI,KI] [.int .i64 (i399:Int),.int .i64 (j399:Int)])
   refine rC 0 0 [] [(4,.fn 22 [] []),(0,n1 0),(1,nI 1),(12,nI 18),(13,nI 19)] q400 (.cons c399_4 (.cons c399_0 (.cons c399_1 (.cons cv399_12 (.cons cv399_13 .nil))))) ?_
   refine vI kr ?_ ?_
   ·intro vs ls H401 E401 st hE
    have f402:¬ ((j399:Int) < (i399:Int)):=df st 0
    obtain⟨w408,hw408⟩:∃ z,z=(!(decide ((j399:Int) < (i399:Int)))):=⟨_,rfl⟩
    have b409:E401 53=.bool w408:=by rw [hw408];exact eo st hE 53 _
    have B15:=es st hE [(55,S),(56,.int .i64 (j399:Int)),(0,S),(1,.int .i64 (a:Int)),(54,.func 22 [] []),(13,.int .i64 (j399:Int)),(12,.int .i64 (i399:Int)),(4,.func 22 [] [])]
    have g413:Grew Hx399 H401:=(gk st)
    have g414:OnlyS S H H401:=gt399.grewR g413
    have s415:=sp399_0.grew g413
    have hlt416:j399 < ((L0.set a [.int .i32 v16_0,.int .i32 v16_1,.int .i32 v16_2]).set p [.int .i32 v34_0,.int .i32 v34_1,.int .i32 v34_2]).length:=by omega
    obtain⟨lS416,cap416,rest416,wr416,eS416,gS416⟩:=(s415.toL).isSl hlt416
    obtain⟨v416_0,v416_1,v416_2,hm416⟩:=qC ((qL.set (qL.set hr (.cons kA (.cons kA (.cons kA .nil)))) (.cons kA (.cons kA (.cons kA .nil)))).get hlt416)
    have he416:((L0.set a [.int .i32 v16_0,.int .i32 v16_1,.int .i32 v16_2]).set p [.int .i32 v34_0,.int .i32 v34_1,.int .i32 v34_2]).getD j399 []=[.int .i32 v416_0,.int .i32 v416_1,.int .i32 v416_2]:=by rw [<- hm416,List.getD_eq_getElem?_getD,List.getElem?_eq_getElem hlt416];rfl
    have q417:=q400.app (kL:KdsL [.bool,K2,K2,K2] [.bool w408,.int .i32 v416_0,.int .i32 v416_1,.int .i32 v416_2])
    refine rF 1 0 [(.ia 3 (n1 0) (nI 19),.ptr 0 0)] [⟨lS416,(j399 * 3),[n2 21,n2 22,n2 23],false⟩] [(55,n1 0),(56,nI 19),(0,n1 0),(1,nI 1),(54,.fn 22 [] []),(13,nI 19),(12,nI 18),(4,.fn 22 [] []),(53,nB 20)] q417 (.cons (qA (qL.set (qL.set hr (.cons kA (.cons kA (.cons kA .nil)))) (.cons kA (.cons kA (.cons kA .nil)))) gS416 hlt416 rfl (by rw [hm416];exact(dL q417))) .nil) (.cons (qD (k:=j399) (dE q417) eS416 (dE q417) hlt416 rfl) .nil) (sc B15 (.cons b409 .nil)) ?_
    refine vI kr ?_ ?_
    ·intro vs ls H418 E418 st hE
     have f419:w408=true:=bf st 0
     have B16:=es st hE [(59,S),(60,.int .i64 (a:Int)),(54,.func 22 [] []),(58,.agg [.int .i32 v416_0,.int .i32 v416_1,.int .i32 v416_2]),(53,.bool w408),(13,.int .i64 (j399:Int)),(12,.int .i64 (i399:Int)),(0,S),(1,.int .i64 (a:Int)),(4,.func 22 [] [])]
     have g430:Grew H401 H418:=(gk st)
     have g431:OnlyS S H H418:=g414.grewR g430
     have s433:=s415.grew g430
     have hlt434:a < ((L0.set a [.int .i32 v16_0,.int .i32 v16_1,.int .i32 v16_2]).set p [.int .i32 v34_0,.int .i32 v34_1,.int .i32 v34_2]).length:=by omega
     obtain⟨lS434,cap434,rest434,wr434,eS434,gS434⟩:=(s433.toL).isSl hlt434
     obtain⟨v434_0,v434_1,v434_2,hm434⟩:=qC ((qL.set (qL.set hr (.cons kA (.cons kA (.cons kA .nil)))) (.cons kA (.cons kA (.cons kA .nil)))).get hlt434)
     have he434:((L0.set a [.int .i32 v16_0,.int .i32 v16_1,.int .i32 v16_2]).set p [.int .i32 v34_0,.int .i32 v34_1,.int .i32 v34_2]).getD a []=[.int .i32 v434_0,.int .i32 v434_1,.int .i32 v434_2]:=by rw [<- hm434,List.getD_eq_getElem?_getD,List.getElem?_eq_getElem hlt434];rfl
     have q435:=q417.app (kL:KdsL [K2,K2,K2,KI] [.int .i32 v434_0,.int .i32 v434_1,.int .i32 v434_2,.int .i64 (zD v416_0 v416_1 v416_2 v434_0 v434_1 v434_2)])
     refine rF 1 0 [(.ia 3 (n1 0) (nI 1),.ptr 0 0),(.call 22 [.agg [n2 21,n2 22,n2 23],.agg [n2 24,n2 25,n2 26]],nI 27)] [⟨lS434,(a * 3),[n2 24,n2 25,n2 26],false⟩] [(59,n1 0),(60,nI 1),(54,.fn 22 [] []),(58,.agg [n2 21,n2 22,n2 23]),(53,nB 20),(13,nI 19),(12,nI 18),(0,n1 0),(1,nI 1),(4,.fn 22 [] [])] q435 (.cons (qA (qL.set (qL.set hr (.cons kA (.cons kA (.cons kA .nil)))) (.cons kA (.cons kA (.cons kA .nil)))) gS434 hlt434 rfl (by rw [hm434];exact(dL q435))) .nil) (.cons (qD (k:=a) (dE q435) eS434 (dE q435) hlt434 rfl) (.cons (qI (args:=[.agg [.int .i32 v416_0,.int .i32 v416_1,.int .i32 v416_2],.agg [.int .i32 v434_0,.int .i32 v434_1,.int .i32 v434_2]]) (dL q435) (dE q435) (fun H9 hk=>qO H9 v416_0 v416_1 v416_2 v434_0 v434_1 v434_2)) .nil)) B16 ?_
     refine cJ kr ?_ ?_ ?_
     ·intro vs ls H436 E436 st hE
      have f437:¬ ((zD v416_0 v416_1 v416_2 v434_0 v434_1 v434_2) < 0):=df st 0
      have f438:w408=true:=bf st 1
      have b439:=eo st hE 12 (.int .i64 (i399:Int))
      obtain⟨w440,hw440⟩:∃ z,z=(IntKind.wrap .i64 ((j399:Int) - 1)):=⟨_,rfl⟩
      have b441:E436 13=.int .i64 w440:=by rw [hw440];exact eo st hE 13 _
      have b442:=eo st hE 4 (.func 22 [] [])
      have b443:=eo st hE 0 S
      have b444:=eo st hE 1 (.int .i64 (a:Int))
      have g445:Grew H418 H436:=(gk st)
      have g446:OnlyS S H H436:=g431.grewR g445
      have s448:=s433.grew g445
      have nw440:w440=((j399:Int) - 1):=hw440.trans (wI _ om om)
      obtain⟨k449,hk449⟩:∃ k:Nat,w440=(k:Int):=⟨Int.toNat w440,by omega⟩
      have ct450:=xT hκ hvi399.st.pe hlt416 hlt434 he416 he434
      have hm9:k449 < z399:=by omega
      exact qP kr ⟨k449,hm9,i399,k449,rfl,b442,b443,b444,b439,(b441.trans (by rw [hk449])),g446,s448,⟨by rw [show i399=i399 by omega,show k449=j399 - 1 by omega];exact PInv.down hvi399 om om,by rw [show i399=i399 by omega];omega,trivial⟩⟩
     ·intro vs ls H451 E451 st hE
      have f452:(zD v416_0 v416_1 v416_2 v434_0 v434_1 v434_2) < 0:=dt st 0
      have f453:w408=true:=bf st 1
      obtain⟨w466,hw466⟩:∃ z,z=(decide ((zD v416_0 v416_1 v416_2 v434_0 v434_1 v434_2) < 0)):=⟨_,rfl⟩
      have b467:E451 64=.bool w466:=by rw [hw466];exact eo st hE 64 _
      have B17:=es st hE [(12,.int .i64 (i399:Int)),(13,.int .i64 (j399:Int)),(4,.func 22 [] []),(0,S),(1,.int .i64 (a:Int)),(59,S),(60,.int .i64 (a:Int)),(61,.ptr lS434 ((a * 3)+0)),(54,.func 22 [] []),(58,.agg [.int .i32 v416_0,.int .i32 v416_1,.int .i32 v416_2]),(62,.agg [.int .i32 v434_0,.int .i32 v434_1,.int .i32 v434_2]),(63,.int .i64 (zD v416_0 v416_1 v416_2 v434_0 v434_1 v434_2)),(53,.bool w408)]
      obtain⟨w469,hw469⟩:∃ z,z=(!(decide ((zD v416_0 v416_1 v416_2 v434_0 v434_1 v434_2) < 0))):=⟨_,rfl⟩
      have b470:E451 65=.bool w469:=by rw [hw469];exact eo st hE 65 _
      have b471:E451 66=.bool w469:=by rw [hw469];exact eo st hE 66 _
      have g472:Grew H418 H451:=(gk st)
      have g473:OnlyS S H H451:=g431.grewR g472
      have r474:=g472.at gS434
      have s475:=s433.grew g472
      refine qQ (id:=2) kr ?_
      have qf453:=of_decide_eq_false ((Bool.not_eq_true' _).mp (hw408.symm.trans f453))
      have ct476:=xT hκ hvi399.st.pe hlt416 hlt434 he416 he434
      have hdni399:j399 < i399 \/ (tmK κ ((L0.set a [.int .i32 v16_0,.int .i32 v16_1,.int .i32 v16_2]).set p [.int .i32 v34_0,.int .i32 v34_1,.int .i32 v34_2]) a<=tmK κ ((L0.set a [.int .i32 v16_0,.int .i32 v16_1,.int .i32 v16_2]).set p [.int .i32 v34_0,.int .i32 v34_1,.int .i32 v34_2]) i399/\tmK κ ((L0.set a [.int .i32 v16_0,.int .i32 v16_1,.int .i32 v16_2]).set p [.int .i32 v34_0,.int .i32 v34_1,.int .i32 v34_2]) j399 < tmK κ ((L0.set a [.int .i32 v16_0,.int .i32 v16_1,.int .i32 v16_2]).set p [.int .i32 v34_0,.int .i32 v34_1,.int .i32 v34_2]) a):=by omega
      have q477:=q435.app (kL:KdsL [.bool,.bool] [.bool w466,.bool w469])
      refine rF 1 0 [] [⟨lS434,(a * 3),[n2 24,n2 25,n2 26],false⟩] [(12,nI 18),(13,nI 19),(4,.fn 22 [] []),(0,n1 0),(1,nI 1),(59,n1 0),(60,nI 1),(61,.ptr 0 0),(54,.fn 22 [] []),(58,.agg [n2 21,n2 22,n2 23]),(62,.agg [n2 24,n2 25,n2 26]),(63,nI 27),(53,nB 20),(64,nB 28),(65,nB 29),(66,nB 29)] q477 (.cons (qA (qL.set (qL.set hr (.cons kA (.cons kA (.cons kA .nil)))) (.cons kA (.cons kA (.cons kA .nil)))) r474 hlt434 rfl (by rw [hm434];exact(dL q477))) .nil) .nil (sc B17 (.cons b467 (.cons b470 (.cons b471 .nil)))) ?_
      refine qM kr fun vs ls H478 E478 st hE=>?_
      have b479:=eo st hE 12 (.int .i64 (i399:Int))
      have b480:=eo st hE 13 (.int .i64 (j399:Int))
      have b481:=eo st hE 0 S
      have b482:=eo st hE 1 (.int .i64 (a:Int))
      have b483:=eo st hE 4 (.func 22 [] [])
      have g484:Grew H451 H478:=(gk st)
      have g485:OnlyS S H H478:=g473.grewR g484
      have s487:=s475.grew g484
      exact qZ kr ⟨i399,j399,((L0.set a [.int .i32 v16_0,.int .i32 v16_1,.int .i32 v16_2]).set p [.int .i32 v34_0,.int .i32 v34_1,.int .i32 v34_2]),b483,b481,b482,b479,b480,g485,s487,(qL.set (qL.set hr (.cons kA (.cons kA (.cons kA .nil)))) (.cons kA (.cons kA (.cons kA .nil)))),⟨hvi399,hdni399,trivial⟩⟩
     ·intro vs ls H488 E488 st hE
      have f489:w408=false:=bf st 0
      exact absurd (of_decide_eq_true ((Bool.not_eq_false' _).mp (hw408.symm.trans f489))) f402
    ·intro vs ls H499 E499 st hE
     have f500:w408=false:=bf st 0
     exact absurd (of_decide_eq_true ((Bool.not_eq_false' _).mp (hw408.symm.trans f500))) f402
   ·intro vs ls H510 E510 st hE
    have f511:(j399:Int) < (i399:Int):=dt st 0
    obtain⟨w516,hw516⟩:∃ z,z=(!(decide ((j399:Int) < (i399:Int)))):=⟨_,rfl⟩
    have b517:E510 52=.bool w516:=by rw [hw516];exact eo st hE 52 _
    have b532:E510 53=.bool w516:=by rw [hw516];exact eo st hE 53 _
    have B18:=es st hE [(12,.int .i64 (i399:Int)),(13,.int .i64 (j399:Int)),(50,.int .i64 (i399:Int)),(51,.int .i64 (j399:Int)),(4,.func 22 [] []),(0,S),(55,.undef),(56,.undef),(57,.undef),(1,.int .i64 (a:Int)),(59,.undef),(60,.undef),(61,.undef),(54,.undef),(58,.undef),(62,.undef),(63,.undef),(64,.undef),(65,.undef),(66,.bool false)]
    have g535:Grew Hx399 H510:=(gk st)
    have g536:OnlyS S H H510:=gt399.grewR g535
    have s537:=sp399_0.grew g535
    refine qQ (id:=2) kr ?_
    have hdni399:j399 < i399 \/ (tmK κ ((L0.set a [.int .i32 v16_0,.int .i32 v16_1,.int .i32 v16_2]).set p [.int .i32 v34_0,.int .i32 v34_1,.int .i32 v34_2]) a<=tmK κ ((L0.set a [.int .i32 v16_0,.int .i32 v16_1,.int .i32 v16_2]).set p [.int .i32 v34_0,.int .i32 v34_1,.int .i32 v34_2]) i399/\tmK κ ((L0.set a [.int .i32 v16_0,.int .i32 v16_1,.int .i32 v16_2]).set p [.int .i32 v34_0,.int .i32 v34_1,.int .i32 v34_2]) j399 < tmK κ ((L0.set a [.int .i32 v16_0,.int .i32 v16_1,.int .i32 v16_2]).set p [.int .i32 v34_0,.int .i32 v34_1,.int .i32 v34_2]) a):=by omega
    have q538:=q400.app (kL:KdsL [.bool] [.bool w516])
    refine rC 0 0 [] [(12,nI 18),(13,nI 19),(50,nI 18),(51,nI 19),(4,.fn 22 [] []),(0,n1 0),(55,.lit .undef),(56,.lit .undef),(57,.lit .undef),(1,nI 1),(59,.lit .undef),(60,.lit .undef),(61,.lit .undef),(54,.lit .undef),(58,.lit .undef),(62,.lit .undef),(63,.lit .undef),(64,.lit .undef),(65,.lit .undef),(66,.lit (.bool false)),(52,nB 20),(53,nB 20)] q538 (sc B18 (.cons b517 (.cons b532 .nil))) ?_
    refine qM kr fun vs ls H539 E539 st hE=>?_
    have b540:=eo st hE 12 (.int .i64 (i399:Int))
    have b541:=eo st hE 13 (.int .i64 (j399:Int))
    have b542:=eo st hE 0 S
    have b543:=eo st hE 1 (.int .i64 (a:Int))
    have b544:=eo st hE 4 (.func 22 [] [])
    have g545:Grew H510 H539:=(gk st)
    have g546:OnlyS S H H539:=g536.grewR g545
    have s547:=s537.grew g545
    exact qZ kr ⟨i399,j399,((L0.set a [.int .i32 v16_0,.int .i32 v16_1,.int .i32 v16_2]).set p [.int .i32 v34_0,.int .i32 v34_1,.int .i32 v34_2]),b544,b542,b543,b540,b541,g546,s547,(qL.set (qL.set hr (.cons kA (.cons kA (.cons kA .nil)))) (.cons kA (.cons kA (.cons kA .nil)))),⟨hvi399,hdni399,trivial⟩⟩
 ·rintro E91 Hx91 ⟨i91,j91,L91,c91_4,c91_0,c91_1,cv91_12,cv91_13,gt91,so91_0,hr91_0,iv91⟩
  obtain⟨hvi91,hxi91⟩:=iv91
  have haii91:=hvi91.ai
  have hiji91:=hvi91.ij
  have hjbi91:=hvi91.jb
  have hlni91:=hvi91.st.len
  have q548:=q65.app (kL:KdsL [KI,KI,KI,KI] [.int .i64 w81,.int .i64 w83,.int .i64 (i91:Int),.int .i64 (j91:Int)])
  refine rC 0 0 [] [(4,.fn 22 [] []),(0,n1 0),(1,nI 1),(12,nI 15),(13,nI 16)] q548 (.cons c91_4 (.cons c91_0 (.cons c91_1 (.cons cv91_12 (.cons cv91_13 .nil))))) ?_
  refine vI kr ?_ ?_
  ·intro vs ls H549 E549 st hE
   have f550:(j91:Int) < (i91:Int):=dt st 0
   have B19:=es st hE [(76,S),(77,.int .i64 (a:Int)),(0,S),(13,.int .i64 (j91:Int)),(72,S),(73,.int .i64 (j91:Int)),(74,S),(75,.int .i64 (a:Int)),(12,.int .i64 (i91:Int)),(4,.func 22 [] []),(1,.int .i64 (a:Int))]
   have g562:Grew Hx91 H549:=(gk st)
   have g563:OnlyS S H H549:=gt91.grewR g562
   have s564:=so91_0.grew g562
   have hlt565:a < L91.length:=by omega
   obtain⟨lS565,cap565,rest565,wr565,eS565,gS565⟩:=(s564.toL).isSl hlt565
   obtain⟨v565_0,v565_1,v565_2,hm565⟩:=qC (hr91_0.get hlt565)
   have he565:L91.getD a []=[.int .i32 v565_0,.int .i32 v565_1,.int .i32 v565_2]:=by rw [<- hm565,List.getD_eq_getElem?_getD,List.getElem?_eq_getElem hlt565];rfl
   have q566:=q548.app (kL:KdsL [K2,K2,K2] [.int .i32 v565_0,.int .i32 v565_1,.int .i32 v565_2])
   refine rF 1 0 [(.ia 3 (n1 0) (nI 1),.ptr 0 0)] [⟨lS565,(a * 3),[n2 17,n2 18,n2 19],false⟩] [(76,n1 0),(77,nI 1),(0,n1 0),(13,nI 16),(72,n1 0),(73,nI 16),(74,n1 0),(75,nI 1),(12,nI 15),(4,.fn 22 [] []),(1,nI 1)] q566 (.cons (qA hr91_0 gS565 hlt565 rfl (by rw [hm565];exact(dL q566))) .nil) (.cons (qD (k:=a) (dE q566) eS565 (dE q566) hlt565 rfl) .nil) B19 ?_
   refine qM kr fun vs ls H567 E567 st hE=>?_
   have B20:=es st hE [(80,S),(81,.int .i64 (j91:Int)),(72,S),(73,.int .i64 (j91:Int)),(79,.agg [.int .i32 v565_0,.int .i32 v565_1,.int .i32 v565_2]),(74,S),(75,.int .i64 (a:Int)),(13,.int .i64 (j91:Int)),(0,S),(12,.int .i64 (i91:Int)),(4,.func 22 [] []),(1,.int .i64 (a:Int))]
   have g580:Grew H549 H567:=(gk st)
   have g581:OnlyS S H H567:=g563.grewR g580
   have s583:=s564.grew g580
   have hlt584:j91 < L91.length:=by omega
   obtain⟨lS584,cap584,rest584,wr584,eS584,gS584⟩:=(s583.toL).isSl hlt584
   obtain⟨v584_0,v584_1,v584_2,hm584⟩:=qC (hr91_0.get hlt584)
   have he584:L91.getD j91 []=[.int .i32 v584_0,.int .i32 v584_1,.int .i32 v584_2]:=by rw [<- hm584,List.getD_eq_getElem?_getD,List.getElem?_eq_getElem hlt584];rfl
   have q585:=q566.app (kL:KdsL [K2,K2,K2] [.int .i32 v584_0,.int .i32 v584_1,.int .i32 v584_2])
   refine rF 1 0 [(.ia 3 (n1 0) (nI 16),.ptr 0 0)] [⟨lS584,(j91 * 3),[n2 20,n2 21,n2 22],false⟩] [(80,n1 0),(81,nI 16),(72,n1 0),(73,nI 16),(79,.agg [n2 17,n2 18,n2 19]),(74,n1 0),(75,nI 1),(13,nI 16),(0,n1 0),(12,nI 15),(4,.fn 22 [] []),(1,nI 1)] q585 (.cons (qA hr91_0 gS584 hlt584 rfl (by rw [hm584];exact(dL q585))) .nil) (.cons (qD (k:=j91) (dE q585) eS584 (dE q585) hlt584 rfl) .nil) B20 ?_
   refine qM kr fun vs ls H586 E586 st hE=>?_
   have b587:=eo st hE 84 (.ptr lS584 ((j91 * 3)+0))
   have b588:=eo st hE 79 (.agg [.int .i32 v565_0,.int .i32 v565_1,.int .i32 v565_2])
   have B21:=es st hE [(79,.agg [.int .i32 v565_0,.int .i32 v565_1,.int .i32 v565_2]),(74,S),(75,.int .i64 (a:Int)),(83,.agg [.int .i32 v584_0,.int .i32 v584_1,.int .i32 v584_2]),(13,.int .i64 (j91:Int)),(0,S),(12,.int .i64 (i91:Int)),(4,.func 22 [] []),(1,.int .i64 (a:Int))]
   have g597:Grew H567 H586:=(gk st)
   have g598:OnlyS S H H586:=g581.grewR g597
   have s600:=s583.grew g597
   refine qH (d:=none) (n:=3) (x:=.tmp 84) (y:=.tmp 79) kr (S:=S) (ms:=L91) (k:=j91) (m':=[.int .i32 v565_0,.int .i32 v565_1,.int .i32 v565_2]) (s600) eS584 b587 hlt584 hr91_0.len (by show AV.cells (E586 79)=_;rw [b588];rfl) rfl rfl rfl ?_
   intro H601 s601 oo601
   have hln601:(L91.set j91 [.int .i32 v565_0,.int .i32 v565_1,.int .i32 v565_2]).length=L91.length:=by simp
   have g602:OnlyS S H H601:=g598.trans oo601
   refine rC 0 0 [] [(79,.agg [n2 17,n2 18,n2 19]),(74,n1 0),(75,nI 1),(83,.agg [n2 20,n2 21,n2 22]),(13,nI 16),(0,n1 0),(12,nI 15),(4,.fn 22 [] []),(1,nI 1)] q585 (sn B21) ?_
   refine qM kr fun vs ls H604 E604 st hE=>?_
   have B22:=es st hE [(74,S),(75,.int .i64 (a:Int)),(83,.agg [.int .i32 v584_0,.int .i32 v584_1,.int .i32 v584_2]),(13,.int .i64 (j91:Int)),(0,S),(12,.int .i64 (i91:Int)),(4,.func 22 [] []),(1,.int .i64 (a:Int))]
   have g613:Grew H601 H604:=(gk st)
   have g614:OnlyS S H H604:=g602.grewR g613
   have s615:=s601.grew g613
   have hlt616:a < (L91.set j91 [.int .i32 v565_0,.int .i32 v565_1,.int .i32 v565_2]).length:=by omega
   obtain⟨lS616,cap616,rest616,wr616,eS616,gS616⟩:=(s615.toL).isSl hlt616
   obtain⟨v616_0,v616_1,v616_2,hm616⟩:=qC ((qL.set hr91_0 (.cons kA (.cons kA (.cons kA .nil)))).get hlt616)
   have he616:(L91.set j91 [.int .i32 v565_0,.int .i32 v565_1,.int .i32 v565_2]).getD a []=[.int .i32 v616_0,.int .i32 v616_1,.int .i32 v616_2]:=by rw [<- hm616,List.getD_eq_getElem?_getD,List.getElem?_eq_getElem hlt616];rfl
   have q617:=q585.app (kL:KdsL [K2,K2,K2] [.int .i32 v616_0,.int .i32 v616_1,.int .i32 v616_2])
   refine rF 1 0 [(.ia 3 (n1 0) (nI 1),.ptr 0 0)] [⟨lS616,(a * 3),[n2 23,n2 24,n2 25],false⟩] [(74,n1 0),(75,nI 1),(83,.agg [n2 20,n2 21,n2 22]),(13,nI 16),(0,n1 0),(12,nI 15),(4,.fn 22 [] []),(1,nI 1)] q617 (.cons (qA (qL.set hr91_0 (.cons kA (.cons kA (.cons kA .nil)))) gS616 hlt616 rfl (by rw [hm616];exact(dL q617))) .nil) (.cons (qD (k:=a) (dE q617) eS616 (dE q617) hlt616 rfl) .nil) B22 ?_
   refine qM kr fun vs ls H618 E618 st hE=>?_
   have b619:=eo st hE 85 (.ptr lS616 ((a * 3)+0))
   have b620:=eo st hE 83 (.agg [.int .i32 v584_0,.int .i32 v584_1,.int .i32 v584_2])
   have B23:=es st hE [(83,.agg [.int .i32 v584_0,.int .i32 v584_1,.int .i32 v584_2]),(13,.int .i64 (j91:Int)),(0,S),(12,.int .i64 (i91:Int)),(4,.func 22 [] []),(1,.int .i64 (a:Int))]
   have g626:Grew H604 H618:=(gk st)
   have g627:OnlyS S H H618:=g614.grewR g626
   have s629:=s615.grew g626
   refine qH (d:=none) (n:=3) (x:=.tmp 85) (y:=.tmp 83) kr (S:=S) (ms:=(L91.set j91 [.int .i32 v565_0,.int .i32 v565_1,.int .i32 v565_2])) (k:=a) (m':=[.int .i32 v584_0,.int .i32 v584_1,.int .i32 v584_2]) (s629) eS616 b619 hlt616 (qL.set hr91_0 (.cons kA (.cons kA (.cons kA .nil)))).len (by show AV.cells (E618 83)=_;rw [b620];rfl) rfl rfl rfl ?_
   intro H630 s630 oo630
   have hln630:((L91.set j91 [.int .i32 v565_0,.int .i32 v565_1,.int .i32 v565_2]).set a [.int .i32 v584_0,.int .i32 v584_1,.int .i32 v584_2]).length=(L91.set j91 [.int .i32 v565_0,.int .i32 v565_1,.int .i32 v565_2]).length:=by simp
   have g631:OnlyS S H H630:=g627.trans oo630
   refine rC 0 0 [] [(83,.agg [n2 20,n2 21,n2 22]),(13,nI 16),(0,n1 0),(12,nI 15),(4,.fn 22 [] []),(1,nI 1)] q617 (sn B23) ?_
   refine qM kr fun vs ls H633 E633 st hE=>?_
   have gz:OnlyS S H H633:=(g631.grewR (gk st))
   have hsw9:((L91.set j91 [.int .i32 v565_0,.int .i32 v565_1,.int .i32 v565_2]).set a [.int .i32 v584_0,.int .i32 v584_1,.int .i32 v584_2])=swp L91 j91 a:=by unfold swp;rw [he584,he565]
   obtain⟨hf8,hf9⟩:=PInv.fin hvi91 om (show j91 < i91 by omega)
   rw [<- hsw9] at hf8 hf9
   exact re st hE (.tuple [.int .i64 (j91:Int),.bool true]) gz.next ⟨gz,_,j91,_,rfl,(s630.grew (st.inn.kept.grew (Nat.le_refl _))),(qL.set (qL.set hr91_0 (.cons kA (.cons kA (.cons kA .nil)))) (.cons kA (.cons kA (.cons kA .nil)))),hf8,hf9⟩
  ·intro vs ls H634 E634 st hE
   have f635:¬ ((j91:Int) < (i91:Int)):=df st 0
   have B24:=es st hE [(91,S),(92,.int .i64 (j91:Int)),(0,S),(12,.int .i64 (i91:Int)),(87,S),(88,.int .i64 (i91:Int)),(89,S),(90,.int .i64 (j91:Int)),(13,.int .i64 (j91:Int)),(4,.func 22 [] []),(1,.int .i64 (a:Int))]
   have g647:Grew Hx91 H634:=(gk st)
   have g648:OnlyS S H H634:=gt91.grewR g647
   have s649:=so91_0.grew g647
   have hlt650:j91 < L91.length:=by omega
   obtain⟨lS650,cap650,rest650,wr650,eS650,gS650⟩:=(s649.toL).isSl hlt650
   obtain⟨v650_0,v650_1,v650_2,hm650⟩:=qC (hr91_0.get hlt650)
   have he650:L91.getD j91 []=[.int .i32 v650_0,.int .i32 v650_1,.int .i32 v650_2]:=by rw [<- hm650,List.getD_eq_getElem?_getD,List.getElem?_eq_getElem hlt650];rfl
   have q651:=q548.app (kL:KdsL [K2,K2,K2] [.int .i32 v650_0,.int .i32 v650_1,.int .i32 v650_2])
   refine rF 1 0 [(.ia 3 (n1 0) (nI 16),.ptr 0 0)] [⟨lS650,(j91 * 3),[n2 17,n2 18,n2 19],false⟩] [(91,n1 0),(92,nI 16),(0,n1 0),(12,nI 15),(87,n1 0),(88,nI 15),(89,n1 0),(90,nI 16),(13,nI 16),(4,.fn 22 [] []),(1,nI 1)] q651 (.cons (qA hr91_0 gS650 hlt650 rfl (by rw [hm650];exact(dL q651))) .nil) (.cons (qD (k:=j91) (dE q651) eS650 (dE q651) hlt650 rfl) .nil) B24 ?_
   refine qM kr fun vs ls H652 E652 st hE=>?_
   have B25:=es st hE [(95,S),(96,.int .i64 (i91:Int)),(87,S),(88,.int .i64 (i91:Int)),(94,.agg [.int .i32 v650_0,.int .i32 v650_1,.int .i32 v650_2]),(89,S),(90,.int .i64 (j91:Int)),(12,.int .i64 (i91:Int)),(13,.int .i64 (j91:Int)),(4,.func 22 [] []),(0,S),(1,.int .i64 (a:Int))]
   have g665:Grew H634 H652:=(gk st)
   have g666:OnlyS S H H652:=g648.grewR g665
   have s668:=s649.grew g665
   have hlt669:i91 < L91.length:=by omega
   obtain⟨lS669,cap669,rest669,wr669,eS669,gS669⟩:=(s668.toL).isSl hlt669
   obtain⟨v669_0,v669_1,v669_2,hm669⟩:=qC (hr91_0.get hlt669)
   have he669:L91.getD i91 []=[.int .i32 v669_0,.int .i32 v669_1,.int .i32 v669_2]:=by rw [<- hm669,List.getD_eq_getElem?_getD,List.getElem?_eq_getElem hlt669];rfl
   have q670:=q651.app (kL:KdsL [K2,K2,K2] [.int .i32 v669_0,.int .i32 v669_1,.int .i32 v669_2])
   refine rF 1 0 [(.ia 3 (n1 0) (nI 15),.ptr 0 0)] [⟨lS669,(i91 * 3),[n2 20,n2 21,n2 22],false⟩] [(95,n1 0),(96,nI 15),(87,n1 0),(88,nI 15),(94,.agg [n2 17,n2 18,n2 19]),(89,n1 0),(90,nI 16),(12,nI 15),(13,nI 16),(4,.fn 22 [] []),(0,n1 0),(1,nI 1)] q670 (.cons (qA hr91_0 gS669 hlt669 rfl (by rw [hm669];exact(dL q670))) .nil) (.cons (qD (k:=i91) (dE q670) eS669 (dE q670) hlt669 rfl) .nil) B25 ?_
   refine qM kr fun vs ls H671 E671 st hE=>?_
   have b672:=eo st hE 99 (.ptr lS669 ((i91 * 3)+0))
   have b673:=eo st hE 94 (.agg [.int .i32 v650_0,.int .i32 v650_1,.int .i32 v650_2])
   have B26:=es st hE [(94,.agg [.int .i32 v650_0,.int .i32 v650_1,.int .i32 v650_2]),(89,S),(90,.int .i64 (j91:Int)),(98,.agg [.int .i32 v669_0,.int .i32 v669_1,.int .i32 v669_2]),(12,.int .i64 (i91:Int)),(13,.int .i64 (j91:Int)),(4,.func 22 [] []),(0,S),(1,.int .i64 (a:Int))]
   have g682:Grew H652 H671:=(gk st)
   have g683:OnlyS S H H671:=g666.grewR g682
   have s685:=s668.grew g682
   refine qH (d:=none) (n:=3) (x:=.tmp 99) (y:=.tmp 94) kr (S:=S) (ms:=L91) (k:=i91) (m':=[.int .i32 v650_0,.int .i32 v650_1,.int .i32 v650_2]) (s685) eS669 b672 hlt669 hr91_0.len (by show AV.cells (E671 94)=_;rw [b673];rfl) rfl rfl rfl ?_
   intro H686 s686 oo686
   have hln686:(L91.set i91 [.int .i32 v650_0,.int .i32 v650_1,.int .i32 v650_2]).length=L91.length:=by simp
   have g687:OnlyS S H H686:=g683.trans oo686
   refine rC 0 0 [] [(94,.agg [n2 17,n2 18,n2 19]),(89,n1 0),(90,nI 16),(98,.agg [n2 20,n2 21,n2 22]),(12,nI 15),(13,nI 16),(4,.fn 22 [] []),(0,n1 0),(1,nI 1)] q670 (sn B26) ?_
   refine qM kr fun vs ls H689 E689 st hE=>?_
   have B27:=es st hE [(89,S),(90,.int .i64 (j91:Int)),(98,.agg [.int .i32 v669_0,.int .i32 v669_1,.int .i32 v669_2]),(12,.int .i64 (i91:Int)),(13,.int .i64 (j91:Int)),(4,.func 22 [] []),(0,S),(1,.int .i64 (a:Int))]
   have g698:Grew H686 H689:=(gk st)
   have g699:OnlyS S H H689:=g687.grewR g698
   have s700:=s686.grew g698
   have hlt701:j91 < (L91.set i91 [.int .i32 v650_0,.int .i32 v650_1,.int .i32 v650_2]).length:=by omega
   obtain⟨lS701,cap701,rest701,wr701,eS701,gS701⟩:=(s700.toL).isSl hlt701
   obtain⟨v701_0,v701_1,v701_2,hm701⟩:=qC ((qL.set hr91_0 (.cons kA (.cons kA (.cons kA .nil)))).get hlt701)
   have he701:(L91.set i91 [.int .i32 v650_0,.int .i32 v650_1,.int .i32 v650_2]).getD j91 []=[.int .i32 v701_0,.int .i32 v701_1,.int .i32 v701_2]:=by rw [<- hm701,List.getD_eq_getElem?_getD,List.getElem?_eq_getElem hlt701];rfl
   have q702:=q670.app (kL:KdsL [K2,K2,K2] [.int .i32 v701_0,.int .i32 v701_1,.int .i32 v701_2])
   refine rF 1 0 [(.ia 3 (n1 0) (nI 16),.ptr 0 0)] [⟨lS701,(j91 * 3),[n2 23,n2 24,n2 25],false⟩] [(89,n1 0),(90,nI 16),(98,.agg [n2 20,n2 21,n2 22]),(12,nI 15),(13,nI 16),(4,.fn 22 [] []),(0,n1 0),(1,nI 1)] q702 (.cons (qA (qL.set hr91_0 (.cons kA (.cons kA (.cons kA .nil)))) gS701 hlt701 rfl (by rw [hm701];exact(dL q702))) .nil) (.cons (qD (k:=j91) (dE q702) eS701 (dE q702) hlt701 rfl) .nil) B27 ?_
   refine qM kr fun vs ls H703 E703 st hE=>?_
   have b704:=eo st hE 100 (.ptr lS701 ((j91 * 3)+0))
   have b705:=eo st hE 98 (.agg [.int .i32 v669_0,.int .i32 v669_1,.int .i32 v669_2])
   have B28:=es st hE [(98,.agg [.int .i32 v669_0,.int .i32 v669_1,.int .i32 v669_2]),(12,.int .i64 (i91:Int)),(13,.int .i64 (j91:Int)),(4,.func 22 [] []),(0,S),(1,.int .i64 (a:Int))]
   have g711:Grew H689 H703:=(gk st)
   have g712:OnlyS S H H703:=g699.grewR g711
   have s714:=s700.grew g711
   refine qH (d:=none) (n:=3) (x:=.tmp 100) (y:=.tmp 98) kr (S:=S) (ms:=(L91.set i91 [.int .i32 v650_0,.int .i32 v650_1,.int .i32 v650_2])) (k:=j91) (m':=[.int .i32 v669_0,.int .i32 v669_1,.int .i32 v669_2]) (s714) eS701 b704 hlt701 (qL.set hr91_0 (.cons kA (.cons kA (.cons kA .nil)))).len (by show AV.cells (E703 98)=_;rw [b705];rfl) rfl rfl rfl ?_
   intro H715 s715 oo715
   have hln715:((L91.set i91 [.int .i32 v650_0,.int .i32 v650_1,.int .i32 v650_2]).set j91 [.int .i32 v669_0,.int .i32 v669_1,.int .i32 v669_2]).length=(L91.set i91 [.int .i32 v650_0,.int .i32 v650_1,.int .i32 v650_2]).length:=by simp
   have g716:OnlyS S H H715:=g712.trans oo715
   refine rC 0 0 [] [(98,.agg [n2 20,n2 21,n2 22]),(12,nI 15),(13,nI 16),(4,.fn 22 [] []),(0,n1 0),(1,nI 1)] q702 (sn B28) ?_
   refine qM kr fun vs ls H718 E718 st hE=>?_
   obtain⟨w719,hw719⟩:∃ z,z=(IntKind.wrap .i64 ((i91:Int)+1)):=⟨_,rfl⟩
   have b720:E718 12=.int .i64 w719:=by rw [hw719];exact eo st hE 12 _
   obtain⟨w721,hw721⟩:∃ z,z=(IntKind.wrap .i64 ((j91:Int) - 1)):=⟨_,rfl⟩
   have b722:E718 13=.int .i64 w721:=by rw [hw721];exact eo st hE 13 _
   have b723:=eo st hE 4 (.func 22 [] [])
   have b724:=eo st hE 0 S
   have b725:=eo st hE 1 (.int .i64 (a:Int))
   have g726:Grew H715 H718:=(gk st)
   have g727:OnlyS S H H718:=g716.grewR g726
   have s728:=s715.grew g726
   have nw719:w719=((i91:Int)+1):=hw719.trans (wI _ om om)
   have nw721:w721=((j91:Int) - 1):=hw721.trans (wI _ om om)
   obtain⟨k729,hk729⟩:∃ k:Nat,w719=(k:Int):=⟨Int.toNat w719,by omega⟩
   obtain⟨k730,hk730⟩:∃ k:Nat,w721=(k:Int):=⟨Int.toNat w721,by omega⟩
   have hsw9:((L91.set i91 [.int .i32 v650_0,.int .i32 v650_1,.int .i32 v650_2]).set j91 [.int .i32 v669_0,.int .i32 v669_1,.int .i32 v669_2])=swp L91 i91 j91:=by unfold swp;rw [he669,he650]
   have hlt9:i91 < j91:=by
    by_cases c9:i91=j91
    ·rw [<- c9] at hxi91;omega
    ·omega
   refine zE kr (fun z E H'=>∃ (i731:Nat) (j731:Nat) (L731:LL),z=j731+1 - i731/\E 4=.func 22 [] []/\E 0=S/\E 1=.int .i64 (a:Int)/\E 12=.int .i64 (i731:Int)/\E 13=.int .i64 (j731:Int)/\OnlyS S H H'/\SlF H' 3 L731 S/\qL KC L731/\PInv κ a b L0 L731 i731 j731/\True) (k730+1 - k729) ⟨k729,k730,((L91.set i91 [.int .i32 v650_0,.int .i32 v650_1,.int .i32 v650_2]).set j91 [.int .i32 v669_0,.int .i32 v669_1,.int .i32 v669_2]),rfl,b723,b724,b725,(b720.trans (by rw [hk729])),(b722.trans (by rw [hk730])),g727,s728,(qL.set (qL.set hr91_0 (.cons kA (.cons kA (.cons kA .nil)))) (.cons kA (.cons kA (.cons kA .nil)))),⟨by rw [hsw9,show k729=i91+1 by omega,show k730=j91 - 1 by omega];exact PInv.swap hvi91 om hlt9 om om,trivial⟩⟩ ?_
   rintro z731 E731 Hx731 ⟨i731,j731,L731,hz731,c731_4,c731_0,c731_1,cv731_12,cv731_13,gt731,so731_0,hr731_0,iv731⟩
   obtain⟨hvi731,hxi731⟩:=iv731
   have haii731:=hvi731.ai
   have hiji731:=hvi731.ij
   have hjbi731:=hvi731.jb
   have hlni731:=hvi731.st.len
   have q732:=q702.app (kL:KdsL [KI,KI,KI,KI] [.int .i64 w719,.int .i64 w721,.int .i64 (i731:Int),.int .i64 (j731:Int)])
   refine rC 0 0 [] [(4,.fn 22 [] []),(0,n1 0),(1,nI 1),(12,nI 28),(13,nI 29)] q732 (.cons c731_4 (.cons c731_0 (.cons c731_1 (.cons cv731_12 (.cons cv731_13 .nil))))) ?_
   refine qM kr fun vs ls H733 E733 st hE=>?_
   have B29:=es st hE [(12,.int .i64 (i731:Int)),(13,.int .i64 (j731:Int)),(4,.func 22 [] []),(0,S),(1,.int .i64 (a:Int))]
   have g739:Grew Hx731 H733:=(gk st)
   have g740:OnlyS S H H733:=gt731.grewR g739
   have s741:=so731_0.grew g739
   refine gI 2 (fun E H'=>∃ (i742:Nat) (j742:Nat) (L742:LL),E 4=.func 22 [] []/\E 0=S/\E 1=.int .i64 (a:Int)/\E 12=.int .i64 (i742:Int)/\E 13=.int .i64 (j742:Int)/\OnlyS S H H'/\SlF H' 3 L742 S/\qL KC L742/\PInv κ a b L0 L742 i742 j742/\(j742 < i742 \/ (tmK κ L742 a<=tmK κ L742 i742/\tmK κ L742 j742 < tmK κ L742 a))/\(i731<=i742/\j742<=j731)) kr ?_ ?_
   ·refine rC 0 0 [] [(12,nI 28),(13,nI 29),(4,.fn 22 [] []),(0,n1 0),(1,nI 1)] q732 B29 ?_
    refine qM kr fun vs ls H744 E744 st hE=>?_
    have b745:=eo st hE 12 (.int .i64 (i731:Int))
    have b746:=eo st hE 13 (.int .i64 (j731:Int))
    have b747:=eo st hE 4 (.func 22 [] [])
    have b748:=eo st hE 0 S
    have b749:=eo st hE 1 (.int .i64 (a:Int))
    have g750:Grew H733 H744:=(gk st)
    have g751:OnlyS S H H744:=g740.grewR g750
    have s752:=s741.grew g750
    refine zE kr (fun z E H'=>∃ (i753:Nat) (j753:Nat),z=j753+1 - i753/\E 4=.func 22 [] []/\E 0=S/\E 1=.int .i64 (a:Int)/\E 12=.int .i64 (i753:Int)/\E 13=.int .i64 (j753:Int)/\OnlyS S H H'/\SlF H' 3 L731 S/\PInv κ a b L0 L731 i753 j753/\(i731<=i753/\j753<=j731)) (j731+1 - i731) ⟨i731,j731,rfl,b747,b748,b749,b745,b746,g751,s752,⟨hvi731,⟨by omega,by omega⟩⟩⟩ ?_
    rintro z753 E753 Hx753 ⟨i753,j753,hz753,c753_4,c753_0,c753_1,cv753_12,cv753_13,gt753,sp753_0,iv753⟩
    obtain⟨hvi753,hxi753⟩:=iv753
    have haii753:=hvi753.ai
    have hiji753:=hvi753.ij
    have hjbi753:=hvi753.jb
    have hlni753:=hvi753.st.len
    have q754:=q732.app (kL:KdsL [KI,KI] [.int .i64 (i753:Int),.int .i64 (j753:Int)])
    refine rC 0 0 [] [(4,.fn 22 [] []),(0,n1 0),(1,nI 1),(12,nI 30),(13,nI 31)] q754 (.cons c753_4 (.cons c753_0 (.cons c753_1 (.cons cv753_12 (.cons cv753_13 .nil))))) ?_
    refine vI kr ?_ ?_
    ·intro vs ls H755 E755 st hE
     have f756:¬ ((j753:Int) < (i753:Int)):=df st 0
     obtain⟨w762,hw762⟩:∃ z,z=(!(decide ((j753:Int) < (i753:Int)))):=⟨_,rfl⟩
     have b763:E755 108=.bool w762:=by rw [hw762];exact eo st hE 108 _
     have B30:=es st hE [(110,S),(111,.int .i64 (i753:Int)),(0,S),(1,.int .i64 (a:Int)),(109,.func 22 [] []),(12,.int .i64 (i753:Int)),(13,.int .i64 (j753:Int)),(4,.func 22 [] [])]
     have g767:Grew Hx753 H755:=(gk st)
     have g768:OnlyS S H H755:=gt753.grewR g767
     have s769:=sp753_0.grew g767
     have hlt770:i753 < L731.length:=by omega
     obtain⟨lS770,cap770,rest770,wr770,eS770,gS770⟩:=(s769.toL).isSl hlt770
     obtain⟨v770_0,v770_1,v770_2,hm770⟩:=qC (hr731_0.get hlt770)
     have he770:L731.getD i753 []=[.int .i32 v770_0,.int .i32 v770_1,.int .i32 v770_2]:=by rw [<- hm770,List.getD_eq_getElem?_getD,List.getElem?_eq_getElem hlt770];rfl
     have q771:=q754.app (kL:KdsL [.bool,K2,K2,K2] [.bool w762,.int .i32 v770_0,.int .i32 v770_1,.int .i32 v770_2])
     refine rF 1 0 [(.ia 3 (n1 0) (nI 30),.ptr 0 0)] [⟨lS770,(i753 * 3),[n2 33,n2 34,n2 35],false⟩] [(110,n1 0),(111,nI 30),(0,n1 0),(1,nI 1),(109,.fn 22 [] []),(12,nI 30),(13,nI 31),(4,.fn 22 [] []),(108,nB 32)] q771 (.cons (qA hr731_0 gS770 hlt770 rfl (by rw [hm770];exact(dL q771))) .nil) (.cons (qD (k:=i753) (dE q771) eS770 (dE q771) hlt770 rfl) .nil) (sc B30 (.cons b763 .nil)) ?_
     refine vI kr ?_ ?_
     ·intro vs ls H772 E772 st hE
      have f773:w762=true:=bf st 0
      have B31:=es st hE [(114,S),(115,.int .i64 (a:Int)),(109,.func 22 [] []),(113,.agg [.int .i32 v770_0,.int .i32 v770_1,.int .i32 v770_2]),(108,.bool w762),(12,.int .i64 (i753:Int)),(13,.int .i64 (j753:Int)),(0,S),(4,.func 22 [] []),(1,.int .i64 (a:Int))]
      have g784:Grew H755 H772:=(gk st)
      have g785:OnlyS S H H772:=g768.grewR g784
      have s787:=s769.grew g784
      have hlt788:a < L731.length:=by omega
      obtain⟨lS788,cap788,rest788,wr788,eS788,gS788⟩:=(s787.toL).isSl hlt788
      obtain⟨v788_0,v788_1,v788_2,hm788⟩:=qC (hr731_0.get hlt788)
      have he788:L731.getD a []=[.int .i32 v788_0,.int .i32 v788_1,.int .i32 v788_2]:=by rw [<- hm788,List.getD_eq_getElem?_getD,List.getElem?_eq_getElem hlt788];rfl
      have q789:=q771.app (kL:KdsL [K2,K2,K2,KI] [.int .i32 v788_0,.int .i32 v788_1,.int .i32 v788_2,.int .i64 (zD v770_0 v770_1 v770_2 v788_0 v788_1 v788_2)])
      refine rF 1 0 [(.ia 3 (n1 0) (nI 1),.ptr 0 0),(.call 22 [.agg [n2 33,n2 34,n2 35],.agg [n2 36,n2 37,n2 38]],nI 39)] [⟨lS788,(a * 3),[n2 36,n2 37,n2 38],false⟩] [(114,n1 0),(115,nI 1),(109,.fn 22 [] []),(113,.agg [n2 33,n2 34,n2 35]),(108,nB 32),(12,nI 30),(13,nI 31),(0,n1 0),(4,.fn 22 [] []),(1,nI 1)] q789 (.cons (qA hr731_0 gS788 hlt788 rfl (by rw [hm788];exact(dL q789))) .nil) (.cons (qD (k:=a) (dE q789) eS788 (dE q789) hlt788 rfl) (.cons (qI (args:=[.agg [.int .i32 v770_0,.int .i32 v770_1,.int .i32 v770_2],.agg [.int .i32 v788_0,.int .i32 v788_1,.int .i32 v788_2]]) (dL q789) (dE q789) (fun H9 hk=>qO H9 v770_0 v770_1 v770_2 v788_0 v788_1 v788_2)) .nil)) B31 ?_
      refine cJ kr ?_ ?_ ?_
      ·intro vs ls H790 E790 st hE
       have f791:(zD v770_0 v770_1 v770_2 v788_0 v788_1 v788_2) < 0:=dt st 0
       have f792:w762=true:=bf st 1
       obtain⟨w793,hw793⟩:∃ z,z=(IntKind.wrap .i64 ((i753:Int)+1)):=⟨_,rfl⟩
       have b794:E790 12=.int .i64 w793:=by rw [hw793];exact eo st hE 12 _
       have b795:=eo st hE 13 (.int .i64 (j753:Int))
       have b796:=eo st hE 4 (.func 22 [] [])
       have b797:=eo st hE 0 S
       have b798:=eo st hE 1 (.int .i64 (a:Int))
       have g799:Grew H772 H790:=(gk st)
       have g800:OnlyS S H H790:=g785.grewR g799
       have s802:=s787.grew g799
       have nw793:w793=((i753:Int)+1):=hw793.trans (wI _ om om)
       obtain⟨k803,hk803⟩:∃ k:Nat,w793=(k:Int):=⟨Int.toNat w793,by omega⟩
       have ct804:=xT hκ hvi753.st.pe hlt770 hlt788 he770 he788
       have hm9:j753+1 - k803 < z753:=by omega
       exact qP kr ⟨j753+1 - k803,hm9,k803,j753,rfl,b796,b797,b798,(b794.trans (by rw [hk803])),b795,g800,s802,⟨by rw [show k803=i753+1 by omega,show j753=j753 by omega];exact PInv.up hvi753 om om,⟨by omega,by omega⟩⟩⟩
      ·intro vs ls H805 E805 st hE
       have f806:¬ ((zD v770_0 v770_1 v770_2 v788_0 v788_1 v788_2) < 0):=df st 0
       have f807:w762=true:=bf st 1
       have B32:=es st hE [(12,.int .i64 (i753:Int)),(13,.int .i64 (j753:Int)),(4,.func 22 [] []),(0,S),(1,.int .i64 (a:Int)),(114,S),(115,.int .i64 (a:Int)),(116,.ptr lS788 ((a * 3)+0)),(109,.func 22 [] []),(113,.agg [.int .i32 v770_0,.int .i32 v770_1,.int .i32 v770_2]),(117,.agg [.int .i32 v788_0,.int .i32 v788_1,.int .i32 v788_2]),(118,.int .i64 (zD v770_0 v770_1 v770_2 v788_0 v788_1 v788_2)),(108,.bool w762)]
       obtain⟨w821,hw821⟩:∃ z,z=(decide ((zD v770_0 v770_1 v770_2 v788_0 v788_1 v788_2) < 0)):=⟨_,rfl⟩
       have b822:E805 119=.bool w821:=by rw [hw821];exact eo st hE 119 _
       have b823:E805 120=.bool w821:=by rw [hw821];exact eo st hE 120 _
       have g824:Grew H772 H805:=(gk st)
       have g825:OnlyS S H H805:=g785.grewR g824
       have r826:=g824.at gS788
       have s827:=s787.grew g824
       refine qQ (id:=6) kr ?_
       have qf807:=of_decide_eq_false ((Bool.not_eq_true' _).mp (hw762.symm.trans f807))
       have ct828:=xT hκ hvi753.st.pe hlt770 hlt788 he770 he788
       have hupi753:j753 < i753 \/ tmK κ L731 a<=tmK κ L731 i753:=by omega
       have q829:=q789.app (kL:KdsL [.bool] [.bool w821])
       refine rF 1 0 [] [⟨lS788,(a * 3),[n2 36,n2 37,n2 38],false⟩] [(12,nI 30),(13,nI 31),(4,.fn 22 [] []),(0,n1 0),(1,nI 1),(114,n1 0),(115,nI 1),(116,.ptr 0 0),(109,.fn 22 [] []),(113,.agg [n2 33,n2 34,n2 35]),(117,.agg [n2 36,n2 37,n2 38]),(118,nI 39),(108,nB 32),(119,nB 40),(120,nB 40)] q829 (.cons (qA hr731_0 r826 hlt788 rfl (by rw [hm788];exact(dL q829))) .nil) .nil (sc B32 (.cons b822 (.cons b823 .nil))) ?_
       refine qM kr fun vs ls H830 E830 st hE=>?_
       have b831:=eo st hE 12 (.int .i64 (i753:Int))
       have b832:=eo st hE 13 (.int .i64 (j753:Int))
       have b833:=eo st hE 4 (.func 22 [] [])
       have b834:=eo st hE 0 S
       have b835:=eo st hE 1 (.int .i64 (a:Int))
       have g836:Grew H805 H830:=(gk st)
       have g837:OnlyS S H H830:=g825.grewR g836
       have s839:=s827.grew g836
       refine zE kr (fun z E H'=>∃ (i840:Nat) (j840:Nat),z=j840/\E 4=.func 22 [] []/\E 0=S/\E 1=.int .i64 (a:Int)/\E 12=.int .i64 (i840:Int)/\E 13=.int .i64 (j840:Int)/\OnlyS S H H'/\SlF H' 3 L731 S/\PInv κ a b L0 L731 i840 j840/\(j840 < i840 \/ tmK κ L731 a<=tmK κ L731 i840)/\(i731<=i840/\j840<=j731)) (j753) ⟨i753,j753,rfl,b833,b834,b835,b831,b832,g837,s839,⟨hvi753,hupi753,⟨by omega,by omega⟩⟩⟩ ?_
       rintro z840 E840 Hx840 ⟨i840,j840,hz840,c840_4,c840_0,c840_1,cv840_12,cv840_13,gt840,sp840_0,iv840⟩
       obtain⟨hvi840,hxi840⟩:=iv840
       have haii840:=hvi840.ai
       have hiji840:=hvi840.ij
       have hjbi840:=hvi840.jb
       have hlni840:=hvi840.st.len
       have q841:=q829.app (kL:KdsL [KI,KI] [.int .i64 (i840:Int),.int .i64 (j840:Int)])
       refine rC 0 0 [] [(4,.fn 22 [] []),(0,n1 0),(1,nI 1),(12,nI 41),(13,nI 42)] q841 (.cons c840_4 (.cons c840_0 (.cons c840_1 (.cons cv840_12 (.cons cv840_13 .nil))))) ?_
       refine vI kr ?_ ?_
       ·intro vs ls H842 E842 st hE
        have f843:¬ ((j840:Int) < (i840:Int)):=df st 0
        obtain⟨w849,hw849⟩:∃ z,z=(!(decide ((j840:Int) < (i840:Int)))):=⟨_,rfl⟩
        have b850:E842 126=.bool w849:=by rw [hw849];exact eo st hE 126 _
        have B33:=es st hE [(128,S),(129,.int .i64 (j840:Int)),(0,S),(1,.int .i64 (a:Int)),(127,.func 22 [] []),(13,.int .i64 (j840:Int)),(12,.int .i64 (i840:Int)),(4,.func 22 [] [])]
        have g854:Grew Hx840 H842:=(gk st)
        have g855:OnlyS S H H842:=gt840.grewR g854
        have s856:=sp840_0.grew g854
        have hlt857:j840 < L731.length:=by omega
        obtain⟨lS857,cap857,rest857,wr857,eS857,gS857⟩:=(s856.toL).isSl hlt857
        obtain⟨v857_0,v857_1,v857_2,hm857⟩:=qC (hr731_0.get hlt857)
        have he857:L731.getD j840 []=[.int .i32 v857_0,.int .i32 v857_1,.int .i32 v857_2]:=by rw [<- hm857,List.getD_eq_getElem?_getD,List.getElem?_eq_getElem hlt857];rfl
        have q858:=q841.app (kL:KdsL [.bool,K2,K2,K2] [.bool w849,.int .i32 v857_0,.int .i32 v857_1,.int .i32 v857_2])
        refine rF 1 0 [(.ia 3 (n1 0) (nI 42),.ptr 0 0)] [⟨lS857,(j840 * 3),[n2 44,n2 45,n2 46],false⟩] [(128,n1 0),(129,nI 42),(0,n1 0),(1,nI 1),(127,.fn 22 [] []),(13,nI 42),(12,nI 41),(4,.fn 22 [] []),(126,nB 43)] q858 (.cons (qA hr731_0 gS857 hlt857 rfl (by rw [hm857];exact(dL q858))) .nil) (.cons (qD (k:=j840) (dE q858) eS857 (dE q858) hlt857 rfl) .nil) (sc B33 (.cons b850 .nil)) ?_
        refine vI kr ?_ ?_
        ·intro vs ls H859 E859 st hE
         have f860:w849=true:=bf st 0
         have B34:=es st hE [(132,S),(133,.int .i64 (a:Int)),(127,.func 22 [] []),(131,.agg [.int .i32 v857_0,.int .i32 v857_1,.int .i32 v857_2]),(126,.bool w849),(13,.int .i64 (j840:Int)),(12,.int .i64 (i840:Int)),(0,S),(4,.func 22 [] []),(1,.int .i64 (a:Int))]
         have g871:Grew H842 H859:=(gk st)
         have g872:OnlyS S H H859:=g855.grewR g871
         have s874:=s856.grew g871
         have hlt875:a < L731.length:=by omega
         obtain⟨lS875,cap875,rest875,wr875,eS875,gS875⟩:=(s874.toL).isSl hlt875
         obtain⟨v875_0,v875_1,v875_2,hm875⟩:=qC (hr731_0.get hlt875)
         have he875:L731.getD a []=[.int .i32 v875_0,.int .i32 v875_1,.int .i32 v875_2]:=by rw [<- hm875,List.getD_eq_getElem?_getD,List.getElem?_eq_getElem hlt875];rfl
         have q876:=q858.app (kL:KdsL [K2,K2,K2,KI] [.int .i32 v875_0,.int .i32 v875_1,.int .i32 v875_2,.int .i64 (zD v857_0 v857_1 v857_2 v875_0 v875_1 v875_2)])
         refine rF 1 0 [(.ia 3 (n1 0) (nI 1),.ptr 0 0),(.call 22 [.agg [n2 44,n2 45,n2 46],.agg [n2 47,n2 48,n2 49]],nI 50)] [⟨lS875,(a * 3),[n2 47,n2 48,n2 49],false⟩] [(132,n1 0),(133,nI 1),(127,.fn 22 [] []),(131,.agg [n2 44,n2 45,n2 46]),(126,nB 43),(13,nI 42),(12,nI 41),(0,n1 0),(4,.fn 22 [] []),(1,nI 1)] q876 (.cons (qA hr731_0 gS875 hlt875 rfl (by rw [hm875];exact(dL q876))) .nil) (.cons (qD (k:=a) (dE q876) eS875 (dE q876) hlt875 rfl) (.cons (qI (args:=[.agg [.int .i32 v857_0,.int .i32 v857_1,.int .i32 v857_2],.agg [.int .i32 v875_0,.int .i32 v875_1,.int .i32 v875_2]]) (dL q876) (dE q876) (fun H9 hk=>qO H9 v857_0 v857_1 v857_2 v875_0 v875_1 v875_2)) .nil)) B34 ?_
         refine cJ kr ?_ ?_ ?_
         ·intro vs ls H877 E877 st hE
          have f878:¬ ((zD v857_0 v857_1 v857_2 v875_0 v875_1 v875_2) < 0):=df st 0
          have f879:w849=true:=bf st 1
          have b880:=eo st hE 12 (.int .i64 (i840:Int))
          obtain⟨w881,hw881⟩:∃ z,z=(IntKind.wrap .i64 ((j840:Int) - 1)):=⟨_,rfl⟩
          have b882:E877 13=.int .i64 w881:=by rw [hw881];exact eo st hE 13 _
          have b883:=eo st hE 4 (.func 22 [] [])
          have b884:=eo st hE 0 S
          have b885:=eo st hE 1 (.int .i64 (a:Int))
          have g886:Grew H859 H877:=(gk st)
          have g887:OnlyS S H H877:=g872.grewR g886
          have s889:=s874.grew g886
          have nw881:w881=((j840:Int) - 1):=hw881.trans (wI _ om om)
          obtain⟨k890,hk890⟩:∃ k:Nat,w881=(k:Int):=⟨Int.toNat w881,by omega⟩
          have ct891:=xT hκ hvi840.st.pe hlt857 hlt875 he857 he875
          have hm9:k890 < z840:=by omega
          exact qP kr ⟨k890,hm9,i840,k890,rfl,b883,b884,b885,b880,(b882.trans (by rw [hk890])),g887,s889,⟨by rw [show i840=i840 by omega,show k890=j840 - 1 by omega];exact PInv.down hvi840 om om,by rw [show i840=i840 by omega];omega,⟨by omega,by omega⟩⟩⟩
         ·intro vs ls H892 E892 st hE
          have f893:(zD v857_0 v857_1 v857_2 v875_0 v875_1 v875_2) < 0:=dt st 0
          have f894:w849=true:=bf st 1
          obtain⟨w907,hw907⟩:∃ z,z=(decide ((zD v857_0 v857_1 v857_2 v875_0 v875_1 v875_2) < 0)):=⟨_,rfl⟩
          have b908:E892 137=.bool w907:=by rw [hw907];exact eo st hE 137 _
          have B35:=es st hE [(12,.int .i64 (i840:Int)),(13,.int .i64 (j840:Int)),(4,.func 22 [] []),(0,S),(1,.int .i64 (a:Int)),(132,S),(133,.int .i64 (a:Int)),(134,.ptr lS875 ((a * 3)+0)),(127,.func 22 [] []),(131,.agg [.int .i32 v857_0,.int .i32 v857_1,.int .i32 v857_2]),(135,.agg [.int .i32 v875_0,.int .i32 v875_1,.int .i32 v875_2]),(136,.int .i64 (zD v857_0 v857_1 v857_2 v875_0 v875_1 v875_2)),(126,.bool w849)]
          obtain⟨w910,hw910⟩:∃ z,z=(!(decide ((zD v857_0 v857_1 v857_2 v875_0 v875_1 v875_2) < 0))):=⟨_,rfl⟩
          have b911:E892 138=.bool w910:=by rw [hw910];exact eo st hE 138 _
          have b912:E892 139=.bool w910:=by rw [hw910];exact eo st hE 139 _
          have g913:Grew H859 H892:=(gk st)
          have g914:OnlyS S H H892:=g872.grewR g913
          have r915:=g913.at gS875
          have s916:=s874.grew g913
          refine qQ (id:=8) kr ?_
          have qf894:=of_decide_eq_false ((Bool.not_eq_true' _).mp (hw849.symm.trans f894))
          have ct917:=xT hκ hvi840.st.pe hlt857 hlt875 he857 he875
          have hdni840:j840 < i840 \/ (tmK κ L731 a<=tmK κ L731 i840/\tmK κ L731 j840 < tmK κ L731 a):=by omega
          have q918:=q876.app (kL:KdsL [.bool,.bool] [.bool w907,.bool w910])
          refine rF 1 0 [] [⟨lS875,(a * 3),[n2 47,n2 48,n2 49],false⟩] [(12,nI 41),(13,nI 42),(4,.fn 22 [] []),(0,n1 0),(1,nI 1),(132,n1 0),(133,nI 1),(134,.ptr 0 0),(127,.fn 22 [] []),(131,.agg [n2 44,n2 45,n2 46]),(135,.agg [n2 47,n2 48,n2 49]),(136,nI 50),(126,nB 43),(137,nB 51),(138,nB 52),(139,nB 52)] q918 (.cons (qA hr731_0 r915 hlt875 rfl (by rw [hm875];exact(dL q918))) .nil) .nil (sc B35 (.cons b908 (.cons b911 (.cons b912 .nil)))) ?_
          refine qM kr fun vs ls H919 E919 st hE=>?_
          have b920:=eo st hE 12 (.int .i64 (i840:Int))
          have b921:=eo st hE 13 (.int .i64 (j840:Int))
          have b922:=eo st hE 0 S
          have b923:=eo st hE 4 (.func 22 [] [])
          have b924:=eo st hE 1 (.int .i64 (a:Int))
          have g925:Grew H892 H919:=(gk st)
          have g926:OnlyS S H H919:=g914.grewR g925
          have s928:=s916.grew g925
          exact qZ kr ⟨i840,j840,L731,b923,b922,b924,b920,b921,g926,s928,hr731_0,⟨hvi840,hdni840,⟨by omega,by omega⟩⟩⟩
         ·intro vs ls H929 E929 st hE
          have f930:w849=false:=bf st 0
          exact absurd (of_decide_eq_true ((Bool.not_eq_false' _).mp (hw849.symm.trans f930))) f843
        ·intro vs ls H940 E940 st hE
         have f941:w849=false:=bf st 0
         exact absurd (of_decide_eq_true ((Bool.not_eq_false' _).mp (hw849.symm.trans f941))) f843
       ·intro vs ls H951 E951 st hE
        have f952:(j840:Int) < (i840:Int):=dt st 0
        obtain⟨w957,hw957⟩:∃ z,z=(!(decide ((j840:Int) < (i840:Int)))):=⟨_,rfl⟩
        have b958:E951 125=.bool w957:=by rw [hw957];exact eo st hE 125 _
        have b973:E951 126=.bool w957:=by rw [hw957];exact eo st hE 126 _
        have B36:=es st hE [(12,.int .i64 (i840:Int)),(13,.int .i64 (j840:Int)),(123,.int .i64 (i840:Int)),(124,.int .i64 (j840:Int)),(4,.func 22 [] []),(0,S),(128,.undef),(129,.undef),(130,.undef),(1,.int .i64 (a:Int)),(132,.undef),(133,.undef),(134,.undef),(127,.undef),(131,.undef),(135,.undef),(136,.undef),(137,.undef),(138,.undef),(139,.bool false)]
        have g976:Grew Hx840 H951:=(gk st)
        have g977:OnlyS S H H951:=gt840.grewR g976
        have s978:=sp840_0.grew g976
        refine qQ (id:=8) kr ?_
        have hdni840:j840 < i840 \/ (tmK κ L731 a<=tmK κ L731 i840/\tmK κ L731 j840 < tmK κ L731 a):=by omega
        have q979:=q841.app (kL:KdsL [.bool] [.bool w957])
        refine rC 0 0 [] [(12,nI 41),(13,nI 42),(123,nI 41),(124,nI 42),(4,.fn 22 [] []),(0,n1 0),(128,.lit .undef),(129,.lit .undef),(130,.lit .undef),(1,nI 1),(132,.lit .undef),(133,.lit .undef),(134,.lit .undef),(127,.lit .undef),(131,.lit .undef),(135,.lit .undef),(136,.lit .undef),(137,.lit .undef),(138,.lit .undef),(139,.lit (.bool false)),(125,nB 43),(126,nB 43)] q979 (sc B36 (.cons b958 (.cons b973 .nil))) ?_
        refine qM kr fun vs ls H980 E980 st hE=>?_
        have b981:=eo st hE 12 (.int .i64 (i840:Int))
        have b982:=eo st hE 13 (.int .i64 (j840:Int))
        have b983:=eo st hE 0 S
        have b984:=eo st hE 4 (.func 22 [] [])
        have b985:=eo st hE 1 (.int .i64 (a:Int))
        have g986:Grew H951 H980:=(gk st)
        have g987:OnlyS S H H980:=g977.grewR g986
        have s988:=s978.grew g986
        exact qZ kr ⟨i840,j840,L731,b984,b983,b985,b981,b982,g987,s988,hr731_0,⟨hvi840,hdni840,⟨by omega,by omega⟩⟩⟩
      ·intro vs ls H989 E989 st hE
       have f990:w762=false:=bf st 0
       exact absurd (of_decide_eq_true ((Bool.not_eq_false' _).mp (hw762.symm.trans f990))) f756
     ·intro vs ls H1000 E1000 st hE
      have f1001:w762=false:=bf st 0
      exact absurd (of_decide_eq_true ((Bool.not_eq_false' _).mp (hw762.symm.trans f1001))) f756
    ·intro vs ls H1011 E1011 st hE
     have f1012:(j753:Int) < (i753:Int):=dt st 0
     obtain⟨w1017,hw1017⟩:∃ z,z=(!(decide ((j753:Int) < (i753:Int)))):=⟨_,rfl⟩
     have b1018:E1011 107=.bool w1017:=by rw [hw1017];exact eo st hE 107 _
     have b1032:E1011 108=.bool w1017:=by rw [hw1017];exact eo st hE 108 _
     have B37:=es st hE [(12,.int .i64 (i753:Int)),(13,.int .i64 (j753:Int)),(105,.int .i64 (i753:Int)),(106,.int .i64 (j753:Int)),(4,.func 22 [] []),(0,S),(110,.undef),(111,.undef),(112,.undef),(1,.int .i64 (a:Int)),(114,.undef),(115,.undef),(116,.undef),(109,.undef),(113,.undef),(117,.undef),(118,.undef),(119,.undef),(120,.bool false)]
     have g1035:Grew Hx753 H1011:=(gk st)
     have g1036:OnlyS S H H1011:=gt753.grewR g1035
     have s1037:=sp753_0.grew g1035
     refine qQ (id:=6) kr ?_
     have hupi753:j753 < i753 \/ tmK κ L731 a<=tmK κ L731 i753:=by omega
     have q1038:=q754.app (kL:KdsL [.bool] [.bool w1017])
     refine rC 0 0 [] [(12,nI 30),(13,nI 31),(105,nI 30),(106,nI 31),(4,.fn 22 [] []),(0,n1 0),(110,.lit .undef),(111,.lit .undef),(112,.lit .undef),(1,nI 1),(114,.lit .undef),(115,.lit .undef),(116,.lit .undef),(109,.lit .undef),(113,.lit .undef),(117,.lit .undef),(118,.lit .undef),(119,.lit .undef),(120,.lit (.bool false)),(107,nB 32),(108,nB 32)] q1038 (sc B37 (.cons b1018 (.cons b1032 .nil))) ?_
     refine qM kr fun vs ls H1039 E1039 st hE=>?_
     have b1040:=eo st hE 12 (.int .i64 (i753:Int))
     have b1041:=eo st hE 13 (.int .i64 (j753:Int))
     have b1042:=eo st hE 4 (.func 22 [] [])
     have b1043:=eo st hE 0 S
     have b1044:=eo st hE 1 (.int .i64 (a:Int))
     have g1045:Grew H1011 H1039:=(gk st)
     have g1046:OnlyS S H H1039:=g1036.grewR g1045
     have s1047:=s1037.grew g1045
     refine zE kr (fun z E H'=>∃ (i1048:Nat) (j1048:Nat),z=j1048/\E 4=.func 22 [] []/\E 0=S/\E 1=.int .i64 (a:Int)/\E 12=.int .i64 (i1048:Int)/\E 13=.int .i64 (j1048:Int)/\OnlyS S H H'/\SlF H' 3 L731 S/\PInv κ a b L0 L731 i1048 j1048/\(j1048 < i1048 \/ tmK κ L731 a<=tmK κ L731 i1048)/\(i731<=i1048/\j1048<=j731)) (j753) ⟨i753,j753,rfl,b1042,b1043,b1044,b1040,b1041,g1046,s1047,⟨hvi753,hupi753,⟨by omega,by omega⟩⟩⟩ ?_
     rintro z1048 E1048 Hx1048 ⟨i1048,j1048,hz1048,c1048_4,c1048_0,c1048_1,cv1048_12,cv1048_13,gt1048,sp1048_0,iv1048⟩
     obtain⟨hvi1048,hxi1048⟩:=iv1048
     have haii1048:=hvi1048.ai
     have hiji1048:=hvi1048.ij
     have hjbi1048:=hvi1048.jb
     have hlni1048:=hvi1048.st.len
     have q1049:=q1038.app (kL:KdsL [KI,KI] [.int .i64 (i1048:Int),.int .i64 (j1048:Int)])
     refine rC 0 0 [] [(4,.fn 22 [] []),(0,n1 0),(1,nI 1),(12,nI 33),(13,nI 34)] q1049 (.cons c1048_4 (.cons c1048_0 (.cons c1048_1 (.cons cv1048_12 (.cons cv1048_13 .nil))))) ?_
     refine vI kr ?_ ?_
     ·intro vs ls H1050 E1050 st hE
      have f1051:¬ ((j1048:Int) < (i1048:Int)):=df st 0
      obtain⟨w1057,hw1057⟩:∃ z,z=(!(decide ((j1048:Int) < (i1048:Int)))):=⟨_,rfl⟩
      have b1058:E1050 126=.bool w1057:=by rw [hw1057];exact eo st hE 126 _
      have B38:=es st hE [(128,S),(129,.int .i64 (j1048:Int)),(0,S),(1,.int .i64 (a:Int)),(127,.func 22 [] []),(13,.int .i64 (j1048:Int)),(12,.int .i64 (i1048:Int)),(4,.func 22 [] [])]
      have g1062:Grew Hx1048 H1050:=(gk st)
      have g1063:OnlyS S H H1050:=gt1048.grewR g1062
      have s1064:=sp1048_0.grew g1062
      have hlt1065:j1048 < L731.length:=by omega
      obtain⟨lS1065,cap1065,rest1065,wr1065,eS1065,gS1065⟩:=(s1064.toL).isSl hlt1065
      obtain⟨v1065_0,v1065_1,v1065_2,hm1065⟩:=qC (hr731_0.get hlt1065)
      have he1065:L731.getD j1048 []=[.int .i32 v1065_0,.int .i32 v1065_1,.int .i32 v1065_2]:=by rw [<- hm1065,List.getD_eq_getElem?_getD,List.getElem?_eq_getElem hlt1065];rfl
      have q1066:=q1049.app (kL:KdsL [.bool,K2,K2,K2] [.bool w1057,.int .i32 v1065_0,.int .i32 v1065_1,.int .i32 v1065_2])
      refine rF 1 0 [(.ia 3 (n1 0) (nI 34),.ptr 0 0)] [⟨lS1065,(j1048 * 3),[n2 36,n2 37,n2 38],false⟩] [(128,n1 0),(129,nI 34),(0,n1 0),(1,nI 1),(127,.fn 22 [] []),(13,nI 34),(12,nI 33),(4,.fn 22 [] []),(126,nB 35)] q1066 (.cons (qA hr731_0 gS1065 hlt1065 rfl (by rw [hm1065];exact(dL q1066))) .nil) (.cons (qD (k:=j1048) (dE q1066) eS1065 (dE q1066) hlt1065 rfl) .nil) (sc B38 (.cons b1058 .nil)) ?_
      refine vI kr ?_ ?_
      ·intro vs ls H1067 E1067 st hE
       have f1068:w1057=true:=bf st 0
       have B39:=es st hE [(132,S),(133,.int .i64 (a:Int)),(127,.func 22 [] []),(131,.agg [.int .i32 v1065_0,.int .i32 v1065_1,.int .i32 v1065_2]),(126,.bool w1057),(13,.int .i64 (j1048:Int)),(12,.int .i64 (i1048:Int)),(0,S),(4,.func 22 [] []),(1,.int .i64 (a:Int))]
       have g1079:Grew H1050 H1067:=(gk st)
       have g1080:OnlyS S H H1067:=g1063.grewR g1079
       have s1082:=s1064.grew g1079
       have hlt1083:a < L731.length:=by omega
       obtain⟨lS1083,cap1083,rest1083,wr1083,eS1083,gS1083⟩:=(s1082.toL).isSl hlt1083
       obtain⟨v1083_0,v1083_1,v1083_2,hm1083⟩:=qC (hr731_0.get hlt1083)
       have he1083:L731.getD a []=[.int .i32 v1083_0,.int .i32 v1083_1,.int .i32 v1083_2]:=by rw [<- hm1083,List.getD_eq_getElem?_getD,List.getElem?_eq_getElem hlt1083];rfl
       have q1084:=q1066.app (kL:KdsL [K2,K2,K2,KI] [.int .i32 v1083_0,.int .i32 v1083_1,.int .i32 v1083_2,.int .i64 (zD v1065_0 v1065_1 v1065_2 v1083_0 v1083_1 v1083_2)])
       refine rF 1 0 [(.ia 3 (n1 0) (nI 1),.ptr 0 0),(.call 22 [.agg [n2 36,n2 37,n2 38],.agg [n2 39,n2 40,n2 41]],nI 42)] [⟨lS1083,(a * 3),[n2 39,n2 40,n2 41],false⟩] [(132,n1 0),(133,nI 1),(127,.fn 22 [] []),(131,.agg [n2 36,n2 37,n2 38]),(126,nB 35),(13,nI 34),(12,nI 33),(0,n1 0),(4,.fn 22 [] []),(1,nI 1)] q1084 (.cons (qA hr731_0 gS1083 hlt1083 rfl (by rw [hm1083];exact(dL q1084))) .nil) (.cons (qD (k:=a) (dE q1084) eS1083 (dE q1084) hlt1083 rfl) (.cons (qI (args:=[.agg [.int .i32 v1065_0,.int .i32 v1065_1,.int .i32 v1065_2],.agg [.int .i32 v1083_0,.int .i32 v1083_1,.int .i32 v1083_2]]) (dL q1084) (dE q1084) (fun H9 hk=>qO H9 v1065_0 v1065_1 v1065_2 v1083_0 v1083_1 v1083_2)) .nil)) B39 ?_
       refine cJ kr ?_ ?_ ?_
       ·intro vs ls H1085 E1085 st hE
        have f1086:¬ ((zD v1065_0 v1065_1 v1065_2 v1083_0 v1083_1 v1083_2) < 0):=df st 0
        have f1087:w1057=true:=bf st 1
        have b1088:=eo st hE 12 (.int .i64 (i1048:Int))
        obtain⟨w1089,hw1089⟩:∃ z,z=(IntKind.wrap .i64 ((j1048:Int) - 1)):=⟨_,rfl⟩
        have b1090:E1085 13=.int .i64 w1089:=by rw [hw1089];exact eo st hE 13 _
        have b1091:=eo st hE 4 (.func 22 [] [])
        have b1092:=eo st hE 0 S
        have b1093:=eo st hE 1 (.int .i64 (a:Int))
        have g1094:Grew H1067 H1085:=(gk st)
        have g1095:OnlyS S H H1085:=g1080.grewR g1094
        have s1097:=s1082.grew g1094
        have nw1089:w1089=((j1048:Int) - 1):=hw1089.trans (wI _ om om)
        obtain⟨k1098,hk1098⟩:∃ k:Nat,w1089=(k:Int):=⟨Int.toNat w1089,by omega⟩
        have ct1099:=xT hκ hvi1048.st.pe hlt1065 hlt1083 he1065 he1083
        have hm9:k1098 < z1048:=by omega
        exact qP kr ⟨k1098,hm9,i1048,k1098,rfl,b1091,b1092,b1093,b1088,(b1090.trans (by rw [hk1098])),g1095,s1097,⟨by rw [show i1048=i1048 by omega,show k1098=j1048 - 1 by omega];exact PInv.down hvi1048 om om,by rw [show i1048=i1048 by omega];omega,⟨by omega,by omega⟩⟩⟩
       ·intro vs ls H1100 E1100 st hE
        have f1101:(zD v1065_0 v1065_1 v1065_2 v1083_0 v1083_1 v1083_2) < 0:=dt st 0
        have f1102:w1057=true:=bf st 1
        obtain⟨w1115,hw1115⟩:∃ z,z=(decide ((zD v1065_0 v1065_1 v1065_2 v1083_0 v1083_1 v1083_2) < 0)):=⟨_,rfl⟩
        have b1116:E1100 137=.bool w1115:=by rw [hw1115];exact eo st hE 137 _
        have B40:=es st hE [(12,.int .i64 (i1048:Int)),(13,.int .i64 (j1048:Int)),(4,.func 22 [] []),(0,S),(1,.int .i64 (a:Int)),(132,S),(133,.int .i64 (a:Int)),(134,.ptr lS1083 ((a * 3)+0)),(127,.func 22 [] []),(131,.agg [.int .i32 v1065_0,.int .i32 v1065_1,.int .i32 v1065_2]),(135,.agg [.int .i32 v1083_0,.int .i32 v1083_1,.int .i32 v1083_2]),(136,.int .i64 (zD v1065_0 v1065_1 v1065_2 v1083_0 v1083_1 v1083_2)),(126,.bool w1057)]
        obtain⟨w1118,hw1118⟩:∃ z,z=(!(decide ((zD v1065_0 v1065_1 v1065_2 v1083_0 v1083_1 v1083_2) < 0))):=⟨_,rfl⟩
        have b1119:E1100 138=.bool w1118:=by rw [hw1118];exact eo st hE 138 _
        have b1120:E1100 139=.bool w1118:=by rw [hw1118];exact eo st hE 139 _
        have g1121:Grew H1067 H1100:=(gk st)
        have g1122:OnlyS S H H1100:=g1080.grewR g1121
        have r1123:=g1121.at gS1083
        have s1124:=s1082.grew g1121
        refine qQ (id:=8) kr ?_
        have qf1102:=of_decide_eq_false ((Bool.not_eq_true' _).mp (hw1057.symm.trans f1102))
        have ct1125:=xT hκ hvi1048.st.pe hlt1065 hlt1083 he1065 he1083
        have hdni1048:j1048 < i1048 \/ (tmK κ L731 a<=tmK κ L731 i1048/\tmK κ L731 j1048 < tmK κ L731 a):=by omega
        have q1126:=q1084.app (kL:KdsL [.bool,.bool] [.bool w1115,.bool w1118])
        refine rF 1 0 [] [⟨lS1083,(a * 3),[n2 39,n2 40,n2 41],false⟩] [(12,nI 33),(13,nI 34),(4,.fn 22 [] []),(0,n1 0),(1,nI 1),(132,n1 0),(133,nI 1),(134,.ptr 0 0),(127,.fn 22 [] []),(131,.agg [n2 36,n2 37,n2 38]),(135,.agg [n2 39,n2 40,n2 41]),(136,nI 42),(126,nB 35),(137,nB 43),(138,nB 44),(139,nB 44)] q1126 (.cons (qA hr731_0 r1123 hlt1083 rfl (by rw [hm1083];exact(dL q1126))) .nil) .nil (sc B40 (.cons b1116 (.cons b1119 (.cons b1120 .nil)))) ?_
        refine qM kr fun vs ls H1127 E1127 st hE=>?_
        have b1128:=eo st hE 12 (.int .i64 (i1048:Int))
        have b1129:=eo st hE 13 (.int .i64 (j1048:Int))
        have b1130:=eo st hE 0 S
        have b1131:=eo st hE 4 (.func 22 [] [])
        have b1132:=eo st hE 1 (.int .i64 (a:Int))
        have g1133:Grew H1100 H1127:=(gk st)
        have g1134:OnlyS S H H1127:=g1122.grewR g1133
        have s1136:=s1124.grew g1133
        exact qZ kr ⟨i1048,j1048,L731,b1131,b1130,b1132,b1128,b1129,g1134,s1136,hr731_0,⟨hvi1048,hdni1048,⟨by omega,by omega⟩⟩⟩
       ·intro vs ls H1137 E1137 st hE
        have f1138:w1057=false:=bf st 0
        exact absurd (of_decide_eq_true ((Bool.not_eq_false' _).mp (hw1057.symm.trans f1138))) f1051
      ·intro vs ls H1148 E1148 st hE
       have f1149:w1057=false:=bf st 0
       exact absurd (of_decide_eq_true ((Bool.not_eq_false' _).mp (hw1057.symm.trans f1149))) f1051
     ·intro vs ls H1159 E1159 st hE
      have f1160:(j1048:Int) < (i1048:Int):=dt st 0
      obtain⟨w1165,hw1165⟩:∃ z,z=(!(decide ((j1048:Int) < (i1048:Int)))):=⟨_,rfl⟩
      have b1166:E1159 125=.bool w1165:=by rw [hw1165];exact eo st hE 125 _
      have b1181:E1159 126=.bool w1165:=by rw [hw1165];exact eo st hE 126 _
      have B41:=es st hE [(12,.int .i64 (i1048:Int)),(13,.int .i64 (j1048:Int)),(123,.int .i64 (i1048:Int)),(124,.int .i64 (j1048:Int)),(4,.func 22 [] []),(0,S),(128,.undef),(129,.undef),(130,.undef),(1,.int .i64 (a:Int)),(132,.undef),(133,.undef),(134,.undef),(127,.undef),(131,.undef),(135,.undef),(136,.undef),(137,.undef),(138,.undef),(139,.bool false)]
      have g1184:Grew Hx1048 H1159:=(gk st)
      have g1185:OnlyS S H H1159:=gt1048.grewR g1184
      have s1186:=sp1048_0.grew g1184
      refine qQ (id:=8) kr ?_
      have hdni1048:j1048 < i1048 \/ (tmK κ L731 a<=tmK κ L731 i1048/\tmK κ L731 j1048 < tmK κ L731 a):=by omega
      have q1187:=q1049.app (kL:KdsL [.bool] [.bool w1165])
      refine rC 0 0 [] [(12,nI 33),(13,nI 34),(123,nI 33),(124,nI 34),(4,.fn 22 [] []),(0,n1 0),(128,.lit .undef),(129,.lit .undef),(130,.lit .undef),(1,nI 1),(132,.lit .undef),(133,.lit .undef),(134,.lit .undef),(127,.lit .undef),(131,.lit .undef),(135,.lit .undef),(136,.lit .undef),(137,.lit .undef),(138,.lit .undef),(139,.lit (.bool false)),(125,nB 35),(126,nB 35)] q1187 (sc B41 (.cons b1166 (.cons b1181 .nil))) ?_
      refine qM kr fun vs ls H1188 E1188 st hE=>?_
      have b1189:=eo st hE 12 (.int .i64 (i1048:Int))
      have b1190:=eo st hE 13 (.int .i64 (j1048:Int))
      have b1191:=eo st hE 0 S
      have b1192:=eo st hE 4 (.func 22 [] [])
      have b1193:=eo st hE 1 (.int .i64 (a:Int))
      have g1194:Grew H1159 H1188:=(gk st)
      have g1195:OnlyS S H H1188:=g1185.grewR g1194
      have s1196:=s1186.grew g1194
      exact qZ kr ⟨i1048,j1048,L731,b1192,b1191,b1193,b1189,b1190,g1195,s1196,hr731_0,⟨hvi1048,hdni1048,⟨by omega,by omega⟩⟩⟩
   ·rintro E742 Hx742 ⟨i742,j742,L742,c742_4,c742_0,c742_1,cv742_12,cv742_13,gt742,so742_0,hr742_0,iv742⟩
    obtain⟨hvi742,hxi742⟩:=iv742
    have haii742:=hvi742.ai
    have hiji742:=hvi742.ij
    have hjbi742:=hvi742.jb
    have hlni742:=hvi742.st.len
    have q1197:=q732.app (kL:KdsL [KI,KI] [.int .i64 (i742:Int),.int .i64 (j742:Int)])
    refine rC 0 0 [] [(4,.fn 22 [] []),(0,n1 0),(1,nI 1),(12,nI 30),(13,nI 31)] q1197 (.cons c742_4 (.cons c742_0 (.cons c742_1 (.cons cv742_12 (.cons cv742_13 .nil))))) ?_
    refine vI kr ?_ ?_
    ·intro vs ls H1198 E1198 st hE
     have f1199:(j742:Int) < (i742:Int):=dt st 0
     have B42:=es st hE [(12,.int .i64 (i742:Int)),(13,.int .i64 (j742:Int)),(4,.func 22 [] []),(0,S),(1,.int .i64 (a:Int)),(142,.int .i64 (i742:Int)),(143,.int .i64 (j742:Int))]
     obtain⟨w1207,hw1207⟩:∃ z,z=(decide ((j742:Int) < (i742:Int))):=⟨_,rfl⟩
     have b1208:E1198 144=.bool w1207:=by rw [hw1207];exact eo st hE 144 _
     have g1209:Grew Hx742 H1198:=(gk st)
     have g1210:OnlyS S H H1198:=gt742.grewR g1209
     have s1211:=so742_0.grew g1209
     refine qQ (id:=4) kr ?_
     have q1212:=q1197.app (kL:KdsL [.bool] [.bool w1207])
     refine rC 0 0 [] [(12,nI 30),(13,nI 31),(4,.fn 22 [] []),(0,n1 0),(1,nI 1),(142,nI 30),(143,nI 31),(144,nB 32)] q1212 (sc B42 (.cons b1208 .nil)) ?_
     refine qM kr fun vs ls H1213 E1213 st hE=>?_
     have B43:=es st hE [(167,S),(168,.int .i64 (a:Int)),(0,S),(13,.int .i64 (j742:Int)),(163,S),(164,.int .i64 (j742:Int)),(165,S),(166,.int .i64 (a:Int))]
     have g1222:Grew H1198 H1213:=(gk st)
     have g1223:OnlyS S H H1213:=g1210.grewR g1222
     have s1224:=s1211.grew g1222
     have hlt1225:a < L742.length:=by omega
     obtain⟨lS1225,cap1225,rest1225,wr1225,eS1225,gS1225⟩:=(s1224.toL).isSl hlt1225
     obtain⟨v1225_0,v1225_1,v1225_2,hm1225⟩:=qC (hr742_0.get hlt1225)
     have he1225:L742.getD a []=[.int .i32 v1225_0,.int .i32 v1225_1,.int .i32 v1225_2]:=by rw [<- hm1225,List.getD_eq_getElem?_getD,List.getElem?_eq_getElem hlt1225];rfl
     have q1226:=q1212.app (kL:KdsL [K2,K2,K2] [.int .i32 v1225_0,.int .i32 v1225_1,.int .i32 v1225_2])
     refine rF 1 0 [(.ia 3 (n1 0) (nI 1),.ptr 0 0)] [⟨lS1225,(a * 3),[n2 33,n2 34,n2 35],false⟩] [(167,n1 0),(168,nI 1),(0,n1 0),(13,nI 31),(163,n1 0),(164,nI 31),(165,n1 0),(166,nI 1)] q1226 (.cons (qA hr742_0 gS1225 hlt1225 rfl (by rw [hm1225];exact(dL q1226))) .nil) (.cons (qD (k:=a) (dE q1226) eS1225 (dE q1226) hlt1225 rfl) .nil) B43 ?_
     refine qM kr fun vs ls H1227 E1227 st hE=>?_
     have B44:=es st hE [(171,S),(172,.int .i64 (j742:Int)),(163,S),(164,.int .i64 (j742:Int)),(170,.agg [.int .i32 v1225_0,.int .i32 v1225_1,.int .i32 v1225_2]),(165,S),(166,.int .i64 (a:Int)),(13,.int .i64 (j742:Int))]
     have g1236:Grew H1213 H1227:=(gk st)
     have g1237:OnlyS S H H1227:=g1223.grewR g1236
     have s1239:=s1224.grew g1236
     have hlt1240:j742 < L742.length:=by omega
     obtain⟨lS1240,cap1240,rest1240,wr1240,eS1240,gS1240⟩:=(s1239.toL).isSl hlt1240
     obtain⟨v1240_0,v1240_1,v1240_2,hm1240⟩:=qC (hr742_0.get hlt1240)
     have he1240:L742.getD j742 []=[.int .i32 v1240_0,.int .i32 v1240_1,.int .i32 v1240_2]:=by rw [<- hm1240,List.getD_eq_getElem?_getD,List.getElem?_eq_getElem hlt1240];rfl
     have q1241:=q1226.app (kL:KdsL [K2,K2,K2] [.int .i32 v1240_0,.int .i32 v1240_1,.int .i32 v1240_2])
     refine rF 1 0 [(.ia 3 (n1 0) (nI 31),.ptr 0 0)] [⟨lS1240,(j742 * 3),[n2 36,n2 37,n2 38],false⟩] [(171,n1 0),(172,nI 31),(163,n1 0),(164,nI 31),(170,.agg [n2 33,n2 34,n2 35]),(165,n1 0),(166,nI 1),(13,nI 31)] q1241 (.cons (qA hr742_0 gS1240 hlt1240 rfl (by rw [hm1240];exact(dL q1241))) .nil) (.cons (qD (k:=j742) (dE q1241) eS1240 (dE q1241) hlt1240 rfl) .nil) B44 ?_
     refine qM kr fun vs ls H1242 E1242 st hE=>?_
     have b1243:=eo st hE 175 (.ptr lS1240 ((j742 * 3)+0))
     have b1244:=eo st hE 170 (.agg [.int .i32 v1225_0,.int .i32 v1225_1,.int .i32 v1225_2])
     have B45:=es st hE [(170,.agg [.int .i32 v1225_0,.int .i32 v1225_1,.int .i32 v1225_2]),(165,S),(166,.int .i64 (a:Int)),(174,.agg [.int .i32 v1240_0,.int .i32 v1240_1,.int .i32 v1240_2]),(13,.int .i64 (j742:Int))]
     have g1249:Grew H1227 H1242:=(gk st)
     have g1250:OnlyS S H H1242:=g1237.grewR g1249
     have s1252:=s1239.grew g1249
     refine qH (d:=none) (n:=3) (x:=.tmp 175) (y:=.tmp 170) kr (S:=S) (ms:=L742) (k:=j742) (m':=[.int .i32 v1225_0,.int .i32 v1225_1,.int .i32 v1225_2]) (s1252) eS1240 b1243 hlt1240 hr742_0.len (by show AV.cells (E1242 170)=_;rw [b1244];rfl) rfl rfl rfl ?_
     intro H1253 s1253 oo1253
     have hln1253:(L742.set j742 [.int .i32 v1225_0,.int .i32 v1225_1,.int .i32 v1225_2]).length=L742.length:=by simp
     have g1254:OnlyS S H H1253:=g1250.trans oo1253
     refine rC 0 0 [] [(170,.agg [n2 33,n2 34,n2 35]),(165,n1 0),(166,nI 1),(174,.agg [n2 36,n2 37,n2 38]),(13,nI 31)] q1241 (sn B45) ?_
     refine qM kr fun vs ls H1256 E1256 st hE=>?_
     have B46:=es st hE [(165,S),(166,.int .i64 (a:Int)),(174,.agg [.int .i32 v1240_0,.int .i32 v1240_1,.int .i32 v1240_2]),(13,.int .i64 (j742:Int))]
     have g1261:Grew H1253 H1256:=(gk st)
     have g1262:OnlyS S H H1256:=g1254.grewR g1261
     have s1263:=s1253.grew g1261
     have hlt1264:a < (L742.set j742 [.int .i32 v1225_0,.int .i32 v1225_1,.int .i32 v1225_2]).length:=by omega
     obtain⟨lS1264,cap1264,rest1264,wr1264,eS1264,gS1264⟩:=(s1263.toL).isSl hlt1264
     obtain⟨v1264_0,v1264_1,v1264_2,hm1264⟩:=qC ((qL.set hr742_0 (.cons kA (.cons kA (.cons kA .nil)))).get hlt1264)
     have he1264:(L742.set j742 [.int .i32 v1225_0,.int .i32 v1225_1,.int .i32 v1225_2]).getD a []=[.int .i32 v1264_0,.int .i32 v1264_1,.int .i32 v1264_2]:=by rw [<- hm1264,List.getD_eq_getElem?_getD,List.getElem?_eq_getElem hlt1264];rfl
     have q1265:=q1241.app (kL:KdsL [K2,K2,K2] [.int .i32 v1264_0,.int .i32 v1264_1,.int .i32 v1264_2])
     refine rF 1 0 [(.ia 3 (n1 0) (nI 1),.ptr 0 0)] [⟨lS1264,(a * 3),[n2 39,n2 40,n2 41],false⟩] [(165,n1 0),(166,nI 1),(174,.agg [n2 36,n2 37,n2 38]),(13,nI 31)] q1265 (.cons (qA (qL.set hr742_0 (.cons kA (.cons kA (.cons kA .nil)))) gS1264 hlt1264 rfl (by rw [hm1264];exact(dL q1265))) .nil) (.cons (qD (k:=a) (dE q1265) eS1264 (dE q1265) hlt1264 rfl) .nil) B46 ?_
     refine qM kr fun vs ls H1266 E1266 st hE=>?_
     have b1267:=eo st hE 176 (.ptr lS1264 ((a * 3)+0))
     have b1268:=eo st hE 174 (.agg [.int .i32 v1240_0,.int .i32 v1240_1,.int .i32 v1240_2])
     have B47:=es st hE [(174,.agg [.int .i32 v1240_0,.int .i32 v1240_1,.int .i32 v1240_2]),(13,.int .i64 (j742:Int))]
     have g1270:Grew H1256 H1266:=(gk st)
     have g1271:OnlyS S H H1266:=g1262.grewR g1270
     have s1273:=s1263.grew g1270
     refine qH (d:=none) (n:=3) (x:=.tmp 176) (y:=.tmp 174) kr (S:=S) (ms:=(L742.set j742 [.int .i32 v1225_0,.int .i32 v1225_1,.int .i32 v1225_2])) (k:=a) (m':=[.int .i32 v1240_0,.int .i32 v1240_1,.int .i32 v1240_2]) (s1273) eS1264 b1267 hlt1264 (qL.set hr742_0 (.cons kA (.cons kA (.cons kA .nil)))).len (by show AV.cells (E1266 174)=_;rw [b1268];rfl) rfl rfl rfl ?_
     intro H1274 s1274 oo1274
     have hln1274:((L742.set j742 [.int .i32 v1225_0,.int .i32 v1225_1,.int .i32 v1225_2]).set a [.int .i32 v1240_0,.int .i32 v1240_1,.int .i32 v1240_2]).length=(L742.set j742 [.int .i32 v1225_0,.int .i32 v1225_1,.int .i32 v1225_2]).length:=by simp
     have g1275:OnlyS S H H1274:=g1271.trans oo1274
     refine rC 0 0 [] [(174,.agg [n2 36,n2 37,n2 38]),(13,nI 31)] q1265 (sn B47) ?_
     refine qM kr fun vs ls H1277 E1277 st hE=>?_
     have gz:OnlyS S H H1277:=(g1275.grewR (gk st))
     have hsw9:((L742.set j742 [.int .i32 v1225_0,.int .i32 v1225_1,.int .i32 v1225_2]).set a [.int .i32 v1240_0,.int .i32 v1240_1,.int .i32 v1240_2])=swp L742 j742 a:=by unfold swp;rw [he1240,he1225]
     obtain⟨hf8,hf9⟩:=PInv.fin hvi742 om (show j742 < i742 by omega)
     rw [<- hsw9] at hf8 hf9
     exact re st hE (.tuple [.int .i64 (j742:Int),.bool false]) gz.next ⟨gz,_,j742,_,rfl,(s1274.grew (st.inn.kept.grew (Nat.le_refl _))),(qL.set (qL.set hr742_0 (.cons kA (.cons kA (.cons kA .nil)))) (.cons kA (.cons kA (.cons kA .nil)))),hf8,hf9⟩
    ·intro vs ls H1278 E1278 st hE
     have f1279:¬ ((j742:Int) < (i742:Int)):=df st 0
     have B48:=es st hE [(149,S),(150,.int .i64 (j742:Int)),(0,S),(12,.int .i64 (i742:Int)),(145,S),(146,.int .i64 (i742:Int)),(147,S),(148,.int .i64 (j742:Int)),(13,.int .i64 (j742:Int)),(4,.func 22 [] []),(1,.int .i64 (a:Int))]
     have g1291:Grew Hx742 H1278:=(gk st)
     have g1292:OnlyS S H H1278:=gt742.grewR g1291
     have s1293:=so742_0.grew g1291
     have hlt1294:j742 < L742.length:=by omega
     obtain⟨lS1294,cap1294,rest1294,wr1294,eS1294,gS1294⟩:=(s1293.toL).isSl hlt1294
     obtain⟨v1294_0,v1294_1,v1294_2,hm1294⟩:=qC (hr742_0.get hlt1294)
     have he1294:L742.getD j742 []=[.int .i32 v1294_0,.int .i32 v1294_1,.int .i32 v1294_2]:=by rw [<- hm1294,List.getD_eq_getElem?_getD,List.getElem?_eq_getElem hlt1294];rfl
     have q1295:=q1197.app (kL:KdsL [K2,K2,K2] [.int .i32 v1294_0,.int .i32 v1294_1,.int .i32 v1294_2])
     refine rF 1 0 [(.ia 3 (n1 0) (nI 31),.ptr 0 0)] [⟨lS1294,(j742 * 3),[n2 32,n2 33,n2 34],false⟩] [(149,n1 0),(150,nI 31),(0,n1 0),(12,nI 30),(145,n1 0),(146,nI 30),(147,n1 0),(148,nI 31),(13,nI 31),(4,.fn 22 [] []),(1,nI 1)] q1295 (.cons (qA hr742_0 gS1294 hlt1294 rfl (by rw [hm1294];exact(dL q1295))) .nil) (.cons (qD (k:=j742) (dE q1295) eS1294 (dE q1295) hlt1294 rfl) .nil) B48 ?_
     refine qM kr fun vs ls H1296 E1296 st hE=>?_
     have B49:=es st hE [(153,S),(154,.int .i64 (i742:Int)),(145,S),(146,.int .i64 (i742:Int)),(152,.agg [.int .i32 v1294_0,.int .i32 v1294_1,.int .i32 v1294_2]),(147,S),(148,.int .i64 (j742:Int)),(12,.int .i64 (i742:Int)),(13,.int .i64 (j742:Int)),(4,.func 22 [] []),(0,S),(1,.int .i64 (a:Int))]
     have g1309:Grew H1278 H1296:=(gk st)
     have g1310:OnlyS S H H1296:=g1292.grewR g1309
     have s1312:=s1293.grew g1309
     have hlt1313:i742 < L742.length:=by omega
     obtain⟨lS1313,cap1313,rest1313,wr1313,eS1313,gS1313⟩:=(s1312.toL).isSl hlt1313
     obtain⟨v1313_0,v1313_1,v1313_2,hm1313⟩:=qC (hr742_0.get hlt1313)
     have he1313:L742.getD i742 []=[.int .i32 v1313_0,.int .i32 v1313_1,.int .i32 v1313_2]:=by rw [<- hm1313,List.getD_eq_getElem?_getD,List.getElem?_eq_getElem hlt1313];rfl
     have q1314:=q1295.app (kL:KdsL [K2,K2,K2] [.int .i32 v1313_0,.int .i32 v1313_1,.int .i32 v1313_2])
     refine rF 1 0 [(.ia 3 (n1 0) (nI 30),.ptr 0 0)] [⟨lS1313,(i742 * 3),[n2 35,n2 36,n2 37],false⟩] [(153,n1 0),(154,nI 30),(145,n1 0),(146,nI 30),(152,.agg [n2 32,n2 33,n2 34]),(147,n1 0),(148,nI 31),(12,nI 30),(13,nI 31),(4,.fn 22 [] []),(0,n1 0),(1,nI 1)] q1314 (.cons (qA hr742_0 gS1313 hlt1313 rfl (by rw [hm1313];exact(dL q1314))) .nil) (.cons (qD (k:=i742) (dE q1314) eS1313 (dE q1314) hlt1313 rfl) .nil) B49 ?_
     refine qM kr fun vs ls H1315 E1315 st hE=>?_
     have b1316:=eo st hE 157 (.ptr lS1313 ((i742 * 3)+0))
     have b1317:=eo st hE 152 (.agg [.int .i32 v1294_0,.int .i32 v1294_1,.int .i32 v1294_2])
     have B50:=es st hE [(152,.agg [.int .i32 v1294_0,.int .i32 v1294_1,.int .i32 v1294_2]),(147,S),(148,.int .i64 (j742:Int)),(156,.agg [.int .i32 v1313_0,.int .i32 v1313_1,.int .i32 v1313_2]),(12,.int .i64 (i742:Int)),(13,.int .i64 (j742:Int)),(4,.func 22 [] []),(0,S),(1,.int .i64 (a:Int))]
     have g1326:Grew H1296 H1315:=(gk st)
     have g1327:OnlyS S H H1315:=g1310.grewR g1326
     have s1329:=s1312.grew g1326
     refine qH (d:=none) (n:=3) (x:=.tmp 157) (y:=.tmp 152) kr (S:=S) (ms:=L742) (k:=i742) (m':=[.int .i32 v1294_0,.int .i32 v1294_1,.int .i32 v1294_2]) (s1329) eS1313 b1316 hlt1313 hr742_0.len (by show AV.cells (E1315 152)=_;rw [b1317];rfl) rfl rfl rfl ?_
     intro H1330 s1330 oo1330
     have hln1330:(L742.set i742 [.int .i32 v1294_0,.int .i32 v1294_1,.int .i32 v1294_2]).length=L742.length:=by simp
     have g1331:OnlyS S H H1330:=g1327.trans oo1330
     refine rC 0 0 [] [(152,.agg [n2 32,n2 33,n2 34]),(147,n1 0),(148,nI 31),(156,.agg [n2 35,n2 36,n2 37]),(12,nI 30),(13,nI 31),(4,.fn 22 [] []),(0,n1 0),(1,nI 1)] q1314 (sn B50) ?_
     refine qM kr fun vs ls H1333 E1333 st hE=>?_
     have B51:=es st hE [(147,S),(148,.int .i64 (j742:Int)),(156,.agg [.int .i32 v1313_0,.int .i32 v1313_1,.int .i32 v1313_2]),(12,.int .i64 (i742:Int)),(13,.int .i64 (j742:Int)),(4,.func 22 [] []),(0,S),(1,.int .i64 (a:Int))]
     have g1342:Grew H1330 H1333:=(gk st)
     have g1343:OnlyS S H H1333:=g1331.grewR g1342
     have s1344:=s1330.grew g1342
     have hlt1345:j742 < (L742.set i742 [.int .i32 v1294_0,.int .i32 v1294_1,.int .i32 v1294_2]).length:=by omega
     obtain⟨lS1345,cap1345,rest1345,wr1345,eS1345,gS1345⟩:=(s1344.toL).isSl hlt1345
     obtain⟨v1345_0,v1345_1,v1345_2,hm1345⟩:=qC ((qL.set hr742_0 (.cons kA (.cons kA (.cons kA .nil)))).get hlt1345)
     have he1345:(L742.set i742 [.int .i32 v1294_0,.int .i32 v1294_1,.int .i32 v1294_2]).getD j742 []=[.int .i32 v1345_0,.int .i32 v1345_1,.int .i32 v1345_2]:=by rw [<- hm1345,List.getD_eq_getElem?_getD,List.getElem?_eq_getElem hlt1345];rfl
     have q1346:=q1314.app (kL:KdsL [K2,K2,K2] [.int .i32 v1345_0,.int .i32 v1345_1,.int .i32 v1345_2])
     refine rF 1 0 [(.ia 3 (n1 0) (nI 31),.ptr 0 0)] [⟨lS1345,(j742 * 3),[n2 38,n2 39,n2 40],false⟩] [(147,n1 0),(148,nI 31),(156,.agg [n2 35,n2 36,n2 37]),(12,nI 30),(13,nI 31),(4,.fn 22 [] []),(0,n1 0),(1,nI 1)] q1346 (.cons (qA (qL.set hr742_0 (.cons kA (.cons kA (.cons kA .nil)))) gS1345 hlt1345 rfl (by rw [hm1345];exact(dL q1346))) .nil) (.cons (qD (k:=j742) (dE q1346) eS1345 (dE q1346) hlt1345 rfl) .nil) B51 ?_
     refine qM kr fun vs ls H1347 E1347 st hE=>?_
     have b1348:=eo st hE 158 (.ptr lS1345 ((j742 * 3)+0))
     have b1349:=eo st hE 156 (.agg [.int .i32 v1313_0,.int .i32 v1313_1,.int .i32 v1313_2])
     have B52:=es st hE [(156,.agg [.int .i32 v1313_0,.int .i32 v1313_1,.int .i32 v1313_2]),(12,.int .i64 (i742:Int)),(13,.int .i64 (j742:Int)),(4,.func 22 [] []),(0,S),(1,.int .i64 (a:Int))]
     have g1355:Grew H1333 H1347:=(gk st)
     have g1356:OnlyS S H H1347:=g1343.grewR g1355
     have s1358:=s1344.grew g1355
     refine qH (d:=none) (n:=3) (x:=.tmp 158) (y:=.tmp 156) kr (S:=S) (ms:=(L742.set i742 [.int .i32 v1294_0,.int .i32 v1294_1,.int .i32 v1294_2])) (k:=j742) (m':=[.int .i32 v1313_0,.int .i32 v1313_1,.int .i32 v1313_2]) (s1358) eS1345 b1348 hlt1345 (qL.set hr742_0 (.cons kA (.cons kA (.cons kA .nil)))).len (by show AV.cells (E1347 156)=_;rw [b1349];rfl) rfl rfl rfl ?_
     intro H1359 s1359 oo1359
     have hln1359:((L742.set i742 [.int .i32 v1294_0,.int .i32 v1294_1,.int .i32 v1294_2]).set j742 [.int .i32 v1313_0,.int .i32 v1313_1,.int .i32 v1313_2]).length=(L742.set i742 [.int .i32 v1294_0,.int .i32 v1294_1,.int .i32 v1294_2]).length:=by simp
     have g1360:OnlyS S H H1359:=g1356.trans oo1359
     refine rC 0 0 [] [(156,.agg [n2 35,n2 36,n2 37]),(12,nI 30),(13,nI 31),(4,.fn 22 [] []),(0,n1 0),(1,nI 1)] q1346 (sn B52) ?_
     refine qM kr fun vs ls H1362 E1362 st hE=>?_
     obtain⟨w1363,hw1363⟩:∃ z,z=(IntKind.wrap .i64 ((i742:Int)+1)):=⟨_,rfl⟩
     have b1364:E1362 12=.int .i64 w1363:=by rw [hw1363];exact eo st hE 12 _
     obtain⟨w1365,hw1365⟩:∃ z,z=(IntKind.wrap .i64 ((j742:Int) - 1)):=⟨_,rfl⟩
     have b1366:E1362 13=.int .i64 w1365:=by rw [hw1365];exact eo st hE 13 _
     have b1367:=eo st hE 4 (.func 22 [] [])
     have b1368:=eo st hE 0 S
     have b1369:=eo st hE 1 (.int .i64 (a:Int))
     have g1370:Grew H1359 H1362:=(gk st)
     have g1371:OnlyS S H H1362:=g1360.grewR g1370
     have s1372:=s1359.grew g1370
     have nw1363:w1363=((i742:Int)+1):=hw1363.trans (wI _ om om)
     have nw1365:w1365=((j742:Int) - 1):=hw1365.trans (wI _ om om)
     obtain⟨k1373,hk1373⟩:∃ k:Nat,w1363=(k:Int):=⟨Int.toNat w1363,by omega⟩
     obtain⟨k1374,hk1374⟩:∃ k:Nat,w1365=(k:Int):=⟨Int.toNat w1365,by omega⟩
     have hsw9:((L742.set i742 [.int .i32 v1294_0,.int .i32 v1294_1,.int .i32 v1294_2]).set j742 [.int .i32 v1313_0,.int .i32 v1313_1,.int .i32 v1313_2])=swp L742 i742 j742:=by unfold swp;rw [he1313,he1294]
     have hlt9:i742 < j742:=by
      by_cases c9:i742=j742
      ·rw [<- c9] at hxi742;omega
      ·omega
     have hm9:k1374+1 - k1373 < z731:=by omega
     exact qP kr ⟨k1374+1 - k1373,hm9,k1373,k1374,((L742.set i742 [.int .i32 v1294_0,.int .i32 v1294_1,.int .i32 v1294_2]).set j742 [.int .i32 v1313_0,.int .i32 v1313_1,.int .i32 v1313_2]),rfl,b1367,b1368,b1369,(b1364.trans (by rw [hk1373])),(b1366.trans (by rw [hk1374])),g1371,s1372,(qL.set (qL.set hr742_0 (.cons kA (.cons kA (.cons kA .nil)))) (.cons kA (.cons kA (.cons kA .nil)))),⟨by rw [hsw9,show k1373=i742+1 by omega,show k1374=j742 - 1 by omega];exact PInv.swap hvi742 om hlt9 om om,trivial⟩⟩
end Go.Proofs.Ytgjggkgafdnhcaa
