/- Contracts: a partial insertion of cells, by the library. -/
import Derived.Test.YtgjggkgafdnhcaaTSqE
import Derived.Test.YtgjggkgafdnhcaaSxE
set_option linter.unusedVariables false
set_option linter.unusedSimpArgs false
namespace Go.Proofs.Ytgjggkgafdnhcaa
open Go.Ab
set_option maxRecDepth 100000
set_option maxHeartbeats 1000000
attribute [local irreducible] Res
theorem qAu (H:AHeap) (κ:List AV->Int) (L0:LL) (hr:qL KC L0) (hκ:uM κ L0) (S:AV) (hS:SlF H 3 L0 S) (hmx:L0.length < 2^20) (a b:Nat) (hab:a < b) (hb:b<=L0.length) (hlo:Lo κ a b L0):qK Try.prog 53 [S,.int .i64 (a:Int),.int .i64 (b:Int),.func 22 [] []] H fun r H'=>OnlyS S H H' /\ ∃ M x,r=.bool x/\SlF H' 3 M S/\qL KC M/\Pt2 a b L0 M/\(x=true->yM κ a b M):=by
 refine qN zO (by simp) ?_
 have q1:KdsL [.one,KI,KI] [S,.int .i64 (a:Int),.int .i64 (b:Int)]:=kL
 refine rC 0 0 [] [(0,n1 0),(1,nI 1),(2,nI 2),(3,.fn 22 [] [])] q1 (.cons (t:=0) rfl (.cons (t:=1) rfl (.cons (t:=2) rfl (.cons (t:=3) rfl .nil)))) ?_
 refine qM kr fun vs ls H2 E2 st hE=>?_
 have b3:=eo st hE 10 (.int .i64 0)
 obtain⟨w4,hw4⟩:∃ z,z=(IntKind.wrap .i64 ((a:Int)+1)):=⟨_,rfl⟩
 have b5:E2 9=.int .i64 w4:=by rw [hw4];exact eo st hE 9 _
 have b6:=eo st hE 2 (.int .i64 (b:Int))
 have b7:=eo st hE 3 (.func 22 [] [])
 have b8:=eo st hE 0 S
 have b9:=eo st hE 1 (.int .i64 (a:Int))
 have g10:Grew H H2:=(gk st)
 have g11:OnlyS S H H2:=(OnlyS.of_grew (Grew.refl H)).grewR g10
 have s12:=hS.grew g10
 have nw4:w4=((a:Int)+1):=hw4.trans (wI _ om om)
 obtain⟨k13,hk13⟩:∃ k:Nat,w4=(k:Int):=⟨Int.toNat w4,by omega⟩
 refine zE kr (fun z E H'=>∃ (c14:Nat) (i14:Nat) (L14:LL),z=5 - c14/\E 2=.int .i64 (b:Int)/\E 3=.func 22 [] []/\E 0=S/\E 1=.int .i64 (a:Int)/\E 10=.int .i64 (c14:Int)/\E 9=.int .i64 (i14:Int)/\OnlyS S H H'/\SlF H' 3 L14 S/\qL KC L14/\(a < i14/\i14<=b/\c14<=5)/\Pt2 a b L0 L14/\yM κ a i14 L14) (5 - 0) ⟨0,k13,L0,rfl,b6,b7,b8,b9,(b3.trans rfl),(b5.trans (by rw [hk13])),g11,s12,hr,⟨⟨by omega,by omega,by omega⟩,.refl _ _ _,.one _ om⟩⟩ ?_
 rintro z14 E14 Hx14 ⟨c14,i14,L14,hz14,c14_2,c14_3,c14_0,c14_1,cv14_10,cv14_9,gt14,so14_0,hr14_0,iv14⟩
 obtain⟨⟨hai14,hbi14,hci14⟩,hstL14,hsri14⟩:=iv14
 have hlL14:=hstL14.len
 have q15:=q1.app (kL:KdsL [KI,KI,KI] [.int .i64 w4,.int .i64 (c14:Int),.int .i64 (i14:Int)])
 refine rC 0 0 [] [(2,nI 2),(3,.fn 22 [] []),(0,n1 0),(1,nI 1),(10,nI 4),(9,nI 5)] q15 (.cons c14_2 (.cons c14_3 (.cons c14_0 (.cons c14_1 (.cons cv14_10 (.cons cv14_9 .nil)))))) ?_
 refine vI kr ?_ ?_
 ·intro vs ls H16 E16 st hE
  have f17:(c14:Int) < 5:=dt st 0
  have B1:=es st hE [(9,.int .i64 (i14:Int)),(2,.int .i64 (b:Int)),(3,.func 22 [] []),(0,S),(1,.int .i64 (a:Int)),(10,.int .i64 (c14:Int))]
  have g24:Grew Hx14 H16:=(gk st)
  have g25:OnlyS S H H16:=gt14.grewR g24
  have s26:=so14_0.grew g24
  refine gI 1 (fun E H'=>∃ (i27:Nat),E 2=.int .i64 (b:Int)/\E 3=.func 22 [] []/\E 0=S/\E 1=.int .i64 (a:Int)/\E 10=.int .i64 (c14:Int)/\E 9=.int .i64 (i27:Int)/\OnlyS S H H'/\SlF H' 3 L14 S/\(a < i27/\i27<=b)/\yM κ a i27 L14) kr ?_ ?_
  ·refine rC 0 0 [] [(9,nI 5),(2,nI 2),(3,.fn 22 [] []),(0,n1 0),(1,nI 1),(10,nI 4)] q15 B1 ?_
   refine qM kr fun vs ls H29 E29 st hE=>?_
   have b30:=eo st hE 9 (.int .i64 (i14:Int))
   have b31:=eo st hE 2 (.int .i64 (b:Int))
   have b32:=eo st hE 3 (.func 22 [] [])
   have b33:=eo st hE 0 S
   have b34:=eo st hE 1 (.int .i64 (a:Int))
   have b35:=eo st hE 10 (.int .i64 (c14:Int))
   have g36:Grew H16 H29:=(gk st)
   have g37:OnlyS S H H29:=g25.grewR g36
   have s38:=s26.grew g36
   refine zE kr (fun z E H'=>∃ (i39:Nat),z=b - i39/\E 2=.int .i64 (b:Int)/\E 3=.func 22 [] []/\E 0=S/\E 1=.int .i64 (a:Int)/\E 10=.int .i64 (c14:Int)/\E 9=.int .i64 (i39:Int)/\OnlyS S H H'/\SlF H' 3 L14 S/\(a < i39/\i39<=b)/\yM κ a i39 L14) (b - i14) ⟨i14,rfl,b31,b32,b33,b34,b35,b30,g37,s38,⟨⟨by omega,by omega⟩,hsri14⟩⟩ ?_
   rintro z39 E39 Hx39 ⟨i39,hz39,c39_2,c39_3,c39_0,c39_1,c39_10,cv39_9,gt39,sp39_0,iv39⟩
   obtain⟨⟨hai39,hbi39⟩,hsri39⟩:=iv39
   have q40:=q15.app (kL:KdsL [KI] [.int .i64 (i39:Int)])
   refine rC 0 0 [] [(2,nI 2),(3,.fn 22 [] []),(0,n1 0),(1,nI 1),(10,nI 4),(9,nI 6)] q40 (.cons c39_2 (.cons c39_3 (.cons c39_0 (.cons c39_1 (.cons c39_10 (.cons cv39_9 .nil)))))) ?_
   refine vI kr ?_ ?_
   ·intro vs ls H41 E41 st hE
    have f42:(i39:Int) < (b:Int):=dt st 0
    obtain⟨w48,hw48⟩:∃ z,z=(decide ((i39:Int) < (b:Int))):=⟨_,rfl⟩
    have b49:E41 22=.bool w48:=by rw [hw48];exact eo st hE 22 _
    have B2:=es st hE [(24,S),(25,.int .i64 (i39:Int)),(0,S),(9,.int .i64 (i39:Int)),(23,.func 22 [] []),(2,.int .i64 (b:Int)),(1,.int .i64 (a:Int)),(3,.func 22 [] []),(10,.int .i64 (c14:Int))]
    have g54:Grew Hx39 H41:=(gk st)
    have g55:OnlyS S H H41:=gt39.grewR g54
    have s56:=sp39_0.grew g54
    have hlt57:i39 < L14.length:=by omega
    obtain⟨lS57,cap57,rest57,wr57,eS57,gS57⟩:=(s56.toL).isSl hlt57
    obtain⟨v57_0,v57_1,v57_2,hm57⟩:=qC (hr14_0.get hlt57)
    have he57:L14.getD i39 []=[.int .i32 v57_0,.int .i32 v57_1,.int .i32 v57_2]:=by rw [<- hm57,List.getD_eq_getElem?_getD,List.getElem?_eq_getElem hlt57];rfl
    have q58:=q40.app (kL:KdsL [.bool,K2,K2,K2] [.bool w48,.int .i32 v57_0,.int .i32 v57_1,.int .i32 v57_2])
    refine rF 1 0 [(.ia 3 (n1 0) (nI 6),.ptr 0 0)] [⟨lS57,(i39 * 3),[n2 8,n2 9,n2 10],false⟩] [(24,n1 0),(25,nI 6),(0,n1 0),(9,nI 6),(23,.fn 22 [] []),(2,nI 2),(1,nI 1),(3,.fn 22 [] []),(10,nI 4),(22,nB 7)] q58 (.cons (qA hr14_0 gS57 hlt57 rfl (by rw [hm57];exact(dL q58))) .nil) (.cons (qD (k:=i39) (dE q58) eS57 (dE q58) hlt57 rfl) .nil) (sc B2 (.cons b49 .nil)) ?_
    refine vI kr ?_ ?_
    ·intro vs ls H59 E59 st hE
     have f60:w48=true:=bf st 0
     obtain⟨w62,hw62⟩:∃ z,z=(IntKind.wrap .i64 ((i39:Int) - 1)):=⟨_,rfl⟩
     have b63:E59 30=.int .i64 w62:=by rw [hw62];exact eo st hE 30 _
     have B3:=es st hE [(28,S),(23,.func 22 [] []),(27,.agg [.int .i32 v57_0,.int .i32 v57_1,.int .i32 v57_2]),(22,.bool w48),(9,.int .i64 (i39:Int)),(2,.int .i64 (b:Int)),(1,.int .i64 (a:Int)),(0,S),(3,.func 22 [] []),(10,.int .i64 (c14:Int))]
     have g73:Grew H41 H59:=(gk st)
     have g74:OnlyS S H H59:=g55.grewR g73
     have s76:=s56.grew g73
     have nw62:w62=((i39:Int) - 1):=hw62.trans (wI _ om om)
     obtain⟨k77,rfl⟩:∃ k:Nat,w62=(k:Int):=⟨Int.toNat w62,by omega⟩
     have hlt78:k77 < L14.length:=by omega
     obtain⟨lS78,cap78,rest78,wr78,eS78,gS78⟩:=(s76.toL).isSl hlt78
     obtain⟨v78_0,v78_1,v78_2,hm78⟩:=qC (hr14_0.get hlt78)
     have he78:L14.getD k77 []=[.int .i32 v78_0,.int .i32 v78_1,.int .i32 v78_2]:=by rw [<- hm78,List.getD_eq_getElem?_getD,List.getElem?_eq_getElem hlt78];rfl
     have q79:=q58.app (kL:KdsL [KI,K2,K2,K2,KI] [.int .i64 (k77:Int),.int .i32 v78_0,.int .i32 v78_1,.int .i32 v78_2,.int .i64 (zD v57_0 v57_1 v57_2 v78_0 v78_1 v78_2)])
     refine rF 1 0 [(.ia 3 (n1 0) (nI 11),.ptr 0 0),(.call 22 [.agg [n2 8,n2 9,n2 10],.agg [n2 12,n2 13,n2 14]],nI 15)] [⟨lS78,(k77 * 3),[n2 12,n2 13,n2 14],false⟩] [(28,n1 0),(23,.fn 22 [] []),(27,.agg [n2 8,n2 9,n2 10]),(22,nB 7),(9,nI 6),(2,nI 2),(1,nI 1),(0,n1 0),(3,.fn 22 [] []),(10,nI 4),(30,nI 11)] q79 (.cons (qA hr14_0 gS78 hlt78 rfl (by rw [hm78];exact(dL q79))) .nil) (.cons (qD (k:=k77) (dE q79) eS78 (dE q79) hlt78 rfl) (.cons (qI (args:=[.agg [.int .i32 v57_0,.int .i32 v57_1,.int .i32 v57_2],.agg [.int .i32 v78_0,.int .i32 v78_1,.int .i32 v78_2]]) (dL q79) (dE q79) (fun H9 hk=>qO H9 v57_0 v57_1 v57_2 v78_0 v78_1 v78_2)) .nil)) (sc B3 (.cons b63 .nil)) ?_
     refine cJ kr ?_ ?_ ?_
     ·intro vs ls H80 E80 st hE
      have f81:¬ ((zD v57_0 v57_1 v57_2 v78_0 v78_1 v78_2) < 0):=df st 0
      have f82:w48=true:=bf st 1
      obtain⟨w83,hw83⟩:∃ z,z=(IntKind.wrap .i64 ((i39:Int)+1)):=⟨_,rfl⟩
      have b84:E80 9=.int .i64 w83:=by rw [hw83];exact eo st hE 9 _
      have b85:=eo st hE 2 (.int .i64 (b:Int))
      have b86:=eo st hE 3 (.func 22 [] [])
      have b87:=eo st hE 0 S
      have b88:=eo st hE 1 (.int .i64 (a:Int))
      have b89:=eo st hE 10 (.int .i64 (c14:Int))
      have g90:Grew H59 H80:=(gk st)
      have g91:OnlyS S H H80:=g74.grewR g90
      have s93:=s76.grew g90
      have nw83:w83=((i39:Int)+1):=hw83.trans (wI _ om om)
      obtain⟨k94,hk94⟩:∃ k:Nat,w83=(k:Int):=⟨Int.toNat w83,by omega⟩
      have ct95:=xT hκ hstL14.pe hlt57 hlt78 he57 he78
      have hm9:b - k94 < z39:=by omega
      exact qP kr ⟨b - k94,hm9,k94,rfl,b85,b86,b87,b88,b89,(b84.trans (by rw [hk94])),g91,s93,⟨⟨by omega,by omega⟩,by rw [show k94=i39+1 by omega];exact yM.snoc hsri39 om (by rw [show i39 - 1=k77 by omega];omega)⟩⟩
     ·intro vs ls H96 E96 st hE
      have f97:(zD v57_0 v57_1 v57_2 v78_0 v78_1 v78_2) < 0:=dt st 0
      have f98:w48=true:=bf st 1
      obtain⟨w110,hw110⟩:∃ z,z=(decide ((zD v57_0 v57_1 v57_2 v78_0 v78_1 v78_2) < 0)):=⟨_,rfl⟩
      have b111:E96 34=.bool w110:=by rw [hw110];exact eo st hE 34 _
      obtain⟨w113,hw113⟩:∃ z,z=(!(decide ((zD v57_0 v57_1 v57_2 v78_0 v78_1 v78_2) < 0))):=⟨_,rfl⟩
      have b114:E96 35=.bool w113:=by rw [hw113];exact eo st hE 35 _
      have b115:E96 36=.bool w113:=by rw [hw113];exact eo st hE 36 _
      have B4:=es st hE [(9,.int .i64 (i39:Int)),(2,.int .i64 (b:Int)),(3,.func 22 [] []),(0,S),(28,S),(30,.int .i64 (k77:Int)),(31,.ptr lS78 ((k77 * 3)+0)),(23,.func 22 [] []),(27,.agg [.int .i32 v57_0,.int .i32 v57_1,.int .i32 v57_2]),(32,.agg [.int .i32 v78_0,.int .i32 v78_1,.int .i32 v78_2]),(33,.int .i64 (zD v57_0 v57_1 v57_2 v78_0 v78_1 v78_2)),(22,.bool w48),(1,.int .i64 (a:Int)),(10,.int .i64 (c14:Int))]
      have g118:Grew H59 H96:=(gk st)
      have g119:OnlyS S H H96:=g74.grewR g118
      have r120:=g118.at gS78
      have s121:=s76.grew g118
      refine qQ (id:=2) kr ?_
      have qf98:=of_decide_eq_true (hw48.symm.trans f98)
      have q122:=q79.app (kL:KdsL [.bool,.bool] [.bool w110,.bool w113])
      refine rF 1 0 [] [⟨lS78,(k77 * 3),[n2 12,n2 13,n2 14],false⟩] [(9,nI 6),(2,nI 2),(3,.fn 22 [] []),(0,n1 0),(28,n1 0),(30,nI 11),(31,.ptr 0 0),(23,.fn 22 [] []),(27,.agg [n2 8,n2 9,n2 10]),(32,.agg [n2 12,n2 13,n2 14]),(33,nI 15),(22,nB 7),(1,nI 1),(10,nI 4),(34,nB 16),(35,nB 17),(36,nB 17)] q122 (.cons (qA hr14_0 r120 hlt78 rfl (by rw [hm78];exact(dL q122))) .nil) .nil (sc B4 (.cons b111 (.cons b114 (.cons b115 .nil)))) ?_
      refine qM kr fun vs ls H123 E123 st hE=>?_
      have b124:=eo st hE 9 (.int .i64 (i39:Int))
      have b125:=eo st hE 2 (.int .i64 (b:Int))
      have b126:=eo st hE 1 (.int .i64 (a:Int))
      have b127:=eo st hE 0 S
      have b128:=eo st hE 3 (.func 22 [] [])
      have b129:=eo st hE 10 (.int .i64 (c14:Int))
      have g130:Grew H96 H123:=(gk st)
      have g131:OnlyS S H H123:=g119.grewR g130
      have s133:=s121.grew g130
      exact qZ kr ⟨i39,b125,b128,b127,b126,b129,b124,g131,s133,⟨⟨by omega,by omega⟩,hsri39⟩⟩
     ·intro vs ls H134 E134 st hE
      have f135:w48=false:=bf st 0
      have B5:=es st hE [(9,.int .i64 (i39:Int)),(2,.int .i64 (b:Int)),(3,.func 22 [] []),(0,S),(28,S),(30,.int .i64 (k77:Int)),(31,.undef),(23,.func 22 [] []),(27,.agg [.int .i32 v57_0,.int .i32 v57_1,.int .i32 v57_2]),(32,.undef),(33,.undef),(34,.undef),(22,.bool w48),(35,.undef),(36,.bool false),(1,.int .i64 (a:Int)),(10,.int .i64 (c14:Int))]
      have g153:Grew H59 H134:=(gk st)
      have g154:OnlyS S H H134:=g74.grewR g153
      have s156:=s76.grew g153
      refine qQ (id:=2) kr ?_
      have qf135:=of_decide_eq_false (hw48.symm.trans f135)
      refine rC 0 0 [] [(9,nI 6),(2,nI 2),(3,.fn 22 [] []),(0,n1 0),(28,n1 0),(30,nI 11),(31,.lit .undef),(23,.fn 22 [] []),(27,.agg [n2 8,n2 9,n2 10]),(32,.lit .undef),(33,.lit .undef),(34,.lit .undef),(22,nB 7),(35,.lit .undef),(36,.lit (.bool false)),(1,nI 1),(10,nI 4)] q79 B5 ?_
      refine qM kr fun vs ls H158 E158 st hE=>?_
      have b159:=eo st hE 9 (.int .i64 (i39:Int))
      have b160:=eo st hE 2 (.int .i64 (b:Int))
      have b161:=eo st hE 1 (.int .i64 (a:Int))
      have b162:=eo st hE 0 S
      have b163:=eo st hE 3 (.func 22 [] [])
      have b164:=eo st hE 10 (.int .i64 (c14:Int))
      have g165:Grew H134 H158:=(gk st)
      have g166:OnlyS S H H158:=g154.grewR g165
      have s167:=s156.grew g165
      exact qZ kr ⟨i39,b160,b163,b162,b161,b164,b159,g166,s167,⟨⟨by omega,by omega⟩,hsri39⟩⟩
    ·intro vs ls H168 E168 st hE
     have f169:w48=false:=bf st 0
     have B6:=es st hE [(9,.int .i64 (i39:Int)),(2,.int .i64 (b:Int)),(3,.func 22 [] []),(0,S),(24,S),(25,.int .i64 (i39:Int)),(26,.undef),(29,.undef),(28,.undef),(30,.undef),(31,.undef),(23,.func 22 [] []),(27,.undef),(32,.undef),(33,.undef),(34,.undef),(22,.bool w48),(35,.undef),(36,.bool false),(1,.int .i64 (a:Int)),(10,.int .i64 (c14:Int))]
     have g191:Grew H41 H168:=(gk st)
     have g192:OnlyS S H H168:=g55.grewR g191
     have s194:=s56.grew g191
     refine qQ (id:=2) kr ?_
     have qf169:=of_decide_eq_false (hw48.symm.trans f169)
     refine rC 0 0 [] [(9,nI 6),(2,nI 2),(3,.fn 22 [] []),(0,n1 0),(24,n1 0),(25,nI 6),(26,.lit .undef),(29,.lit .undef),(28,.lit .undef),(30,.lit .undef),(31,.lit .undef),(23,.fn 22 [] []),(27,.lit .undef),(32,.lit .undef),(33,.lit .undef),(34,.lit .undef),(22,nB 7),(35,.lit .undef),(36,.lit (.bool false)),(1,nI 1),(10,nI 4)] q58 B6 ?_
     refine qM kr fun vs ls H196 E196 st hE=>?_
     have b197:=eo st hE 9 (.int .i64 (i39:Int))
     have b198:=eo st hE 2 (.int .i64 (b:Int))
     have b199:=eo st hE 1 (.int .i64 (a:Int))
     have b200:=eo st hE 0 S
     have b201:=eo st hE 3 (.func 22 [] [])
     have b202:=eo st hE 10 (.int .i64 (c14:Int))
     have g203:Grew H168 H196:=(gk st)
     have g204:OnlyS S H H196:=g192.grewR g203
     have s205:=s194.grew g203
     exact qZ kr ⟨i39,b198,b201,b200,b199,b202,b197,g204,s205,⟨⟨by omega,by omega⟩,hsri39⟩⟩
   ·intro vs ls H206 E206 st hE
    have f207:¬ ((i39:Int) < (b:Int)):=df st 0
    obtain⟨w212,hw212⟩:∃ z,z=(decide ((i39:Int) < (b:Int))):=⟨_,rfl⟩
    have b213:E206 21=.bool w212:=by rw [hw212];exact eo st hE 21 _
    have b228:E206 22=.bool w212:=by rw [hw212];exact eo st hE 22 _
    have B7:=es st hE [(9,.int .i64 (i39:Int)),(2,.int .i64 (b:Int)),(19,.int .i64 (i39:Int)),(20,.int .i64 (b:Int)),(3,.func 22 [] []),(0,S),(24,.undef),(25,.undef),(26,.undef),(29,.undef),(28,.undef),(30,.undef),(31,.undef),(23,.undef),(27,.undef),(32,.undef),(33,.undef),(34,.undef),(35,.undef),(36,.bool false),(1,.int .i64 (a:Int)),(10,.int .i64 (c14:Int))]
    have g233:Grew Hx39 H206:=(gk st)
    have g234:OnlyS S H H206:=gt39.grewR g233
    have s235:=sp39_0.grew g233
    refine qQ (id:=2) kr ?_
    have q236:=q40.app (kL:KdsL [.bool] [.bool w212])
    refine rC 0 0 [] [(9,nI 6),(2,nI 2),(19,nI 6),(20,nI 2),(3,.fn 22 [] []),(0,n1 0),(24,.lit .undef),(25,.lit .undef),(26,.lit .undef),(29,.lit .undef),(28,.lit .undef),(30,.lit .undef),(31,.lit .undef),(23,.lit .undef),(27,.lit .undef),(32,.lit .undef),(33,.lit .undef),(34,.lit .undef),(35,.lit .undef),(36,.lit (.bool false)),(1,nI 1),(10,nI 4),(21,nB 7),(22,nB 7)] q236 (sc B7 (.cons b213 (.cons b228 .nil))) ?_
    refine qM kr fun vs ls H237 E237 st hE=>?_
    have b238:=eo st hE 9 (.int .i64 (i39:Int))
    have b239:=eo st hE 2 (.int .i64 (b:Int))
    have b240:=eo st hE 1 (.int .i64 (a:Int))
    have b241:=eo st hE 0 S
    have b242:=eo st hE 3 (.func 22 [] [])
    have b243:=eo st hE 10 (.int .i64 (c14:Int))
    have g244:Grew H206 H237:=(gk st)
    have g245:OnlyS S H H237:=g234.grewR g244
    have s246:=s235.grew g244
    exact qZ kr ⟨i39,b239,b242,b241,b240,b243,b238,g245,s246,⟨⟨by omega,by omega⟩,hsri39⟩⟩
  ·rintro E27 Hx27 ⟨i27,c27_2,c27_3,c27_0,c27_1,c27_10,cv27_9,gt27,sp27_0,iv27⟩
   obtain⟨⟨hai27,hbi27⟩,hsri27⟩:=iv27
   have q247:=q15.app (kL:KdsL [KI] [.int .i64 (i27:Int)])
   refine rC 0 0 [] [(2,nI 2),(3,.fn 22 [] []),(0,n1 0),(1,nI 1),(10,nI 4),(9,nI 6)] q247 (.cons c27_2 (.cons c27_3 (.cons c27_0 (.cons c27_1 (.cons c27_10 (.cons cv27_9 .nil)))))) ?_
   refine cJ kr ?_ ?_ ?_
   ·intro vs ls H248 E248 st hE
    have f249:(i27:Int)=(b:Int):=dt st 0
    have gz:OnlyS S H H248:=(gt27.grewR (gk st))
    exact bE kr (qS st.inn hE (.inr rfl) (a:=.bool true) kr gz.next ⟨gz,_,_,rfl,(sp27_0.grew (st.inn.kept.grew (Nat.le_refl _))),hr14_0,hstL14,fun _=>by rw [show b=i27 by omega];exact hsri27⟩)
   ·intro vs ls H250 E250 st hE
    have f251:(IntKind.wrap .i64 ((b:Int) - (a:Int))) < 50:=dt st 0
    rw [wI ((b:Int) - (a:Int)) om om] at f251
    have f252:¬ ((i27:Int)=(b:Int)):=df st 1
    have gz:OnlyS S H H250:=(gt27.grewR (gk st))
    exact bE kr (qS st.inn hE (.inr rfl) (a:=.bool false) kr gz.next ⟨gz,_,_,rfl,(sp27_0.grew (st.inn.kept.grew (Nat.le_refl _))),hr14_0,hstL14,fun h=>by cases h⟩)
   ·intro vs ls H253 E253 st hE
    have f254:¬ ((IntKind.wrap .i64 ((b:Int) - (a:Int))) < 50):=df st 0
    rw [wI ((b:Int) - (a:Int)) om om] at f254
    have f255:¬ ((i27:Int)=(b:Int)):=df st 1
    obtain⟨w257,hw257⟩:∃ z,z=(IntKind.wrap .i64 ((i27:Int) - 1)):=⟨_,rfl⟩
    have b258:E253 53=.int .i64 w257:=by rw [hw257];exact eo st hE 53 _
    have b264:E253 50=.int .i64 w257:=by rw [hw257];exact eo st hE 50 _
    have B8:=es st hE [(51,S),(0,S),(9,.int .i64 (i27:Int)),(46,S),(47,.int .i64 (i27:Int)),(48,S),(1,.int .i64 (a:Int)),(3,.func 22 [] []),(2,.int .i64 (b:Int)),(10,.int .i64 (c14:Int))]
    have g269:Grew Hx27 H253:=(gk st)
    have g270:OnlyS S H H253:=gt27.grewR g269
    have s271:=sp27_0.grew g269
    have nw257:w257=((i27:Int) - 1):=hw257.trans (wI _ om om)
    obtain⟨k272,rfl⟩:∃ k:Nat,w257=(k:Int):=⟨Int.toNat w257,by omega⟩
    have hlt273:k272 < L14.length:=by omega
    obtain⟨lS273,cap273,rest273,wr273,eS273,gS273⟩:=(s271.toL).isSl hlt273
    obtain⟨v273_0,v273_1,v273_2,hm273⟩:=qC (hr14_0.get hlt273)
    have he273:L14.getD k272 []=[.int .i32 v273_0,.int .i32 v273_1,.int .i32 v273_2]:=by rw [<- hm273,List.getD_eq_getElem?_getD,List.getElem?_eq_getElem hlt273];rfl
    have q274:=q247.app (kL:KdsL [KI,K2,K2,K2] [.int .i64 (k272:Int),.int .i32 v273_0,.int .i32 v273_1,.int .i32 v273_2])
    refine rF 1 0 [(.ia 3 (n1 0) (nI 7),.ptr 0 0)] [⟨lS273,(k272 * 3),[n2 8,n2 9,n2 10],false⟩] [(51,n1 0),(0,n1 0),(9,nI 6),(46,n1 0),(47,nI 6),(48,n1 0),(1,nI 1),(3,.fn 22 [] []),(2,nI 2),(10,nI 4),(53,nI 7),(50,nI 7)] q274 (.cons (qA hr14_0 gS273 hlt273 rfl (by rw [hm273];exact(dL q274))) .nil) (.cons (qD (k:=k272) (dE q274) eS273 (dE q274) hlt273 rfl) .nil) (sc B8 (.cons b258 (.cons b264 .nil))) ?_
    refine qM kr fun vs ls H275 E275 st hE=>?_
    have B9:=es st hE [(56,S),(57,.int .i64 (i27:Int)),(46,S),(47,.int .i64 (i27:Int)),(55,.agg [.int .i32 v273_0,.int .i32 v273_1,.int .i32 v273_2]),(48,S),(50,.int .i64 (k272:Int)),(9,.int .i64 (i27:Int)),(1,.int .i64 (a:Int)),(3,.func 22 [] []),(0,S),(2,.int .i64 (b:Int)),(10,.int .i64 (c14:Int))]
    have g289:Grew H253 H275:=(gk st)
    have g290:OnlyS S H H275:=g270.grewR g289
    have s292:=s271.grew g289
    have hlt293:i27 < L14.length:=by omega
    obtain⟨lS293,cap293,rest293,wr293,eS293,gS293⟩:=(s292.toL).isSl hlt293
    obtain⟨v293_0,v293_1,v293_2,hm293⟩:=qC (hr14_0.get hlt293)
    have he293:L14.getD i27 []=[.int .i32 v293_0,.int .i32 v293_1,.int .i32 v293_2]:=by rw [<- hm293,List.getD_eq_getElem?_getD,List.getElem?_eq_getElem hlt293];rfl
    have q294:=q274.app (kL:KdsL [K2,K2,K2] [.int .i32 v293_0,.int .i32 v293_1,.int .i32 v293_2])
    refine rF 1 0 [(.ia 3 (n1 0) (nI 6),.ptr 0 0)] [⟨lS293,(i27 * 3),[n2 11,n2 12,n2 13],false⟩] [(56,n1 0),(57,nI 6),(46,n1 0),(47,nI 6),(55,.agg [n2 8,n2 9,n2 10]),(48,n1 0),(50,nI 7),(9,nI 6),(1,nI 1),(3,.fn 22 [] []),(0,n1 0),(2,nI 2),(10,nI 4)] q294 (.cons (qA hr14_0 gS293 hlt293 rfl (by rw [hm293];exact(dL q294))) .nil) (.cons (qD (k:=i27) (dE q294) eS293 (dE q294) hlt293 rfl) .nil) B9 ?_
    refine qM kr fun vs ls H295 E295 st hE=>?_
    have b296:=eo st hE 60 (.ptr lS293 ((i27 * 3)+0))
    have b297:=eo st hE 55 (.agg [.int .i32 v273_0,.int .i32 v273_1,.int .i32 v273_2])
    have B10:=es st hE [(55,.agg [.int .i32 v273_0,.int .i32 v273_1,.int .i32 v273_2]),(48,S),(50,.int .i64 (k272:Int)),(59,.agg [.int .i32 v293_0,.int .i32 v293_1,.int .i32 v293_2]),(9,.int .i64 (i27:Int)),(1,.int .i64 (a:Int)),(3,.func 22 [] []),(0,S),(2,.int .i64 (b:Int)),(10,.int .i64 (c14:Int))]
    have g307:Grew H275 H295:=(gk st)
    have g308:OnlyS S H H295:=g290.grewR g307
    have s310:=s292.grew g307
    refine qH (d:=none) (n:=3) (x:=.tmp 60) (y:=.tmp 55) kr (S:=S) (ms:=L14) (k:=i27) (m':=[.int .i32 v273_0,.int .i32 v273_1,.int .i32 v273_2]) (s310) eS293 b296 hlt293 hr14_0.len (by show AV.cells (E295 55)=_;rw [b297];rfl) rfl rfl rfl ?_
    intro H311 s311 oo311
    have hln311:(L14.set i27 [.int .i32 v273_0,.int .i32 v273_1,.int .i32 v273_2]).length=L14.length:=by simp
    have g312:OnlyS S H H311:=g308.trans oo311
    refine rC 0 0 [] [(55,.agg [n2 8,n2 9,n2 10]),(48,n1 0),(50,nI 7),(59,.agg [n2 11,n2 12,n2 13]),(9,nI 6),(1,nI 1),(3,.fn 22 [] []),(0,n1 0),(2,nI 2),(10,nI 4)] q294 (sn B10) ?_
    refine qM kr fun vs ls H314 E314 st hE=>?_
    have B11:=es st hE [(48,S),(50,.int .i64 (k272:Int)),(59,.agg [.int .i32 v293_0,.int .i32 v293_1,.int .i32 v293_2]),(9,.int .i64 (i27:Int)),(1,.int .i64 (a:Int)),(3,.func 22 [] []),(0,S),(2,.int .i64 (b:Int)),(10,.int .i64 (c14:Int))]
    have g324:Grew H311 H314:=(gk st)
    have g325:OnlyS S H H314:=g312.grewR g324
    have s326:=s311.grew g324
    have hlt327:k272 < (L14.set i27 [.int .i32 v273_0,.int .i32 v273_1,.int .i32 v273_2]).length:=by omega
    obtain⟨lS327,cap327,rest327,wr327,eS327,gS327⟩:=(s326.toL).isSl hlt327
    obtain⟨v327_0,v327_1,v327_2,hm327⟩:=qC ((qL.set hr14_0 (.cons kA (.cons kA (.cons kA .nil)))).get hlt327)
    have he327:(L14.set i27 [.int .i32 v273_0,.int .i32 v273_1,.int .i32 v273_2]).getD k272 []=[.int .i32 v327_0,.int .i32 v327_1,.int .i32 v327_2]:=by rw [<- hm327,List.getD_eq_getElem?_getD,List.getElem?_eq_getElem hlt327];rfl
    have q328:=q294.app (kL:KdsL [K2,K2,K2] [.int .i32 v327_0,.int .i32 v327_1,.int .i32 v327_2])
    refine rF 1 0 [(.ia 3 (n1 0) (nI 7),.ptr 0 0)] [⟨lS327,(k272 * 3),[n2 14,n2 15,n2 16],false⟩] [(48,n1 0),(50,nI 7),(59,.agg [n2 11,n2 12,n2 13]),(9,nI 6),(1,nI 1),(3,.fn 22 [] []),(0,n1 0),(2,nI 2),(10,nI 4)] q328 (.cons (qA (qL.set hr14_0 (.cons kA (.cons kA (.cons kA .nil)))) gS327 hlt327 rfl (by rw [hm327];exact(dL q328))) .nil) (.cons (qD (k:=k272) (dE q328) eS327 (dE q328) hlt327 rfl) .nil) B11 ?_
    refine qM kr fun vs ls H329 E329 st hE=>?_
    have b330:=eo st hE 61 (.ptr lS327 ((k272 * 3)+0))
    have b331:=eo st hE 59 (.agg [.int .i32 v293_0,.int .i32 v293_1,.int .i32 v293_2])
    have B12:=es st hE [(59,.agg [.int .i32 v293_0,.int .i32 v293_1,.int .i32 v293_2]),(9,.int .i64 (i27:Int)),(1,.int .i64 (a:Int)),(3,.func 22 [] []),(0,S),(2,.int .i64 (b:Int)),(10,.int .i64 (c14:Int))]
    have g338:Grew H314 H329:=(gk st)
    have g339:OnlyS S H H329:=g325.grewR g338
    have s341:=s326.grew g338
    refine qH (d:=none) (n:=3) (x:=.tmp 61) (y:=.tmp 59) kr (S:=S) (ms:=(L14.set i27 [.int .i32 v273_0,.int .i32 v273_1,.int .i32 v273_2])) (k:=k272) (m':=[.int .i32 v293_0,.int .i32 v293_1,.int .i32 v293_2]) (s341) eS327 b330 hlt327 (qL.set hr14_0 (.cons kA (.cons kA (.cons kA .nil)))).len (by show AV.cells (E329 59)=_;rw [b331];rfl) rfl rfl rfl ?_
    intro H342 s342 oo342
    have hln342:((L14.set i27 [.int .i32 v273_0,.int .i32 v273_1,.int .i32 v273_2]).set k272 [.int .i32 v293_0,.int .i32 v293_1,.int .i32 v293_2]).length=(L14.set i27 [.int .i32 v273_0,.int .i32 v273_1,.int .i32 v273_2]).length:=by simp
    have g343:OnlyS S H H342:=g339.trans oo342
    refine rC 0 0 [] [(59,.agg [n2 11,n2 12,n2 13]),(9,nI 6),(1,nI 1),(3,.fn 22 [] []),(0,n1 0),(2,nI 2),(10,nI 4)] q328 (sn B12) ?_
    refine cJ kr ?_ ?_ ?_
    ·intro vs ls H345 E345 st hE
     have f346:¬ ((IntKind.wrap .i64 ((i27:Int) - (a:Int))) < 2):=df st 0
     rw [wI ((i27:Int) - (a:Int)) om om] at f346
     obtain⟨w347,hw347⟩:∃ z,z=(IntKind.wrap .i64 ((i27:Int) - 1)):=⟨_,rfl⟩
     have b348:E345 11=.int .i64 w347:=by rw [hw347];exact eo st hE 11 _
     have B13:=es st hE [(3,.func 22 [] []),(0,S),(2,.int .i64 (b:Int)),(9,.int .i64 (i27:Int)),(10,.int .i64 (c14:Int)),(1,.int .i64 (a:Int))]
     have g355:Grew H342 H345:=(gk st)
     have g356:OnlyS S H H345:=g343.grewR g355
     have s357:=s342.grew g355
     have nw347:w347=((i27:Int) - 1):=hw347.trans (wI _ om om)
     have hsw9:((L14.set i27 [.int .i32 v273_0,.int .i32 v273_1,.int .i32 v273_2]).set k272 [.int .i32 v293_0,.int .i32 v293_1,.int .i32 v293_2])=swp L14 i27 k272:=by unfold swp;rw [he293,he273]
     have hst1:Pt2 a b L0 ((L14.set i27 [.int .i32 v273_0,.int .i32 v273_1,.int .i32 v273_2]).set k272 [.int .i32 v293_0,.int .i32 v293_1,.int .i32 v293_2]):=by rw [hsw9];exact hstL14.trans (Pt2.swap om om om om om)
     have hsr1:yM κ a (i27 - 1) ((L14.set i27 [.int .i32 v273_0,.int .i32 v273_1,.int .i32 v273_2]).set k272 [.int .i32 v293_0,.int .i32 v293_1,.int .i32 v293_2]):=by rw [hsw9];exact(hsri27.sub (Nat.le_refl _) om).swp om om om om
     refine gI 1 (fun E H'=>∃ (L358:LL),E 3=.func 22 [] []/\E 0=S/\E 2=.int .i64 (b:Int)/\E 9=.int .i64 (i27:Int)/\E 10=.int .i64 (c14:Int)/\E 1=.int .i64 (a:Int)/\OnlyS S H H'/\SlF H' 3 L358 S/\qL KC L358/\Pt2 a b L0 L358/\yM κ a i27 L358) kr ?_ ?_
     ·have q359:=q328.app (kL:KdsL [KI] [.int .i64 w347])
      refine rC 0 0 [] [(3,.fn 22 [] []),(0,n1 0),(2,nI 2),(9,nI 6),(10,nI 4),(1,nI 1),(11,nI 17)] q359 (sc B13 (.cons b348 .nil)) ?_
      refine qM kr fun vs ls H360 E360 st hE=>?_
      have b361:=eo st hE 11 (.int .i64 w347)
      have b362:=eo st hE 3 (.func 22 [] [])
      have b363:=eo st hE 0 S
      have b364:=eo st hE 2 (.int .i64 (b:Int))
      have b365:=eo st hE 9 (.int .i64 (i27:Int))
      have b366:=eo st hE 10 (.int .i64 (c14:Int))
      have b367:=eo st hE 1 (.int .i64 (a:Int))
      have g368:Grew H345 H360:=(gk st)
      have g369:OnlyS S H H360:=g356.grewR g368
      have s370:=s357.grew g368
      obtain⟨k371,hk371⟩:∃ k:Nat,w347=(k:Int):=⟨Int.toNat w347,by omega⟩
      refine zE kr (fun z E H'=>∃ (j372:Nat) (L372:LL),z=j372/\E 3=.func 22 [] []/\E 0=S/\E 2=.int .i64 (b:Int)/\E 9=.int .i64 (i27:Int)/\E 10=.int .i64 (c14:Int)/\E 1=.int .i64 (a:Int)/\E 11=.int .i64 (j372:Int)/\OnlyS S H H'/\SlF H' 3 L372 S/\qL KC L372/\InsK κ a b (i27 - 1) L0 L372 j372) (k371) ⟨k371,((L14.set i27 [.int .i32 v273_0,.int .i32 v273_1,.int .i32 v273_2]).set k272 [.int .i32 v293_0,.int .i32 v293_1,.int .i32 v293_2]),rfl,b362,b363,b364,b365,b366,b367,(b361.trans (by rw [hk371])),g369,s370,(qL.set (qL.set hr14_0 (.cons kA (.cons kA (.cons kA .nil)))) (.cons kA (.cons kA (.cons kA .nil)))),(by rw [show k371=i27 - 1 by omega];exact InsK.start hst1 hsr1 om)⟩ ?_
      rintro z372 E372 Hx372 ⟨j372,L372,hz372,c372_3,c372_0,c372_2,c372_9,c372_10,c372_1,cv372_11,gt372,so372_0,hr372_0,iv372⟩
      have hlnL372:=iv372.st.len
      have hajj372:=iv372.aj
      have hjij372:=iv372.ji
      have q373:=q359.app (kL:KdsL [KI] [.int .i64 (j372:Int)])
      refine rC 0 0 [] [(3,.fn 22 [] []),(0,n1 0),(2,nI 2),(9,nI 6),(10,nI 4),(1,nI 1),(11,nI 18)] q373 (.cons c372_3 (.cons c372_0 (.cons c372_2 (.cons c372_9 (.cons c372_10 (.cons c372_1 (.cons cv372_11 .nil))))))) ?_
      refine vI kr ?_ ?_
      ·intro vs ls H374 E374 st hE
       have f375:¬ ((j372:Int) < 1):=df st 0
       have B14:=es st hE [(73,S),(74,.int .i64 (j372:Int)),(0,S),(11,.int .i64 (j372:Int)),(72,.func 22 [] []),(2,.int .i64 (b:Int)),(9,.int .i64 (i27:Int)),(3,.func 22 [] []),(10,.int .i64 (c14:Int)),(1,.int .i64 (a:Int))]
       have g386:Grew Hx372 H374:=(gk st)
       have g387:OnlyS S H H374:=gt372.grewR g386
       have s388:=so372_0.grew g386
       have hlt389:j372 < L372.length:=by omega
       obtain⟨lS389,cap389,rest389,wr389,eS389,gS389⟩:=(s388.toL).isSl hlt389
       obtain⟨v389_0,v389_1,v389_2,hm389⟩:=qC (hr372_0.get hlt389)
       have he389:L372.getD j372 []=[.int .i32 v389_0,.int .i32 v389_1,.int .i32 v389_2]:=by rw [<- hm389,List.getD_eq_getElem?_getD,List.getElem?_eq_getElem hlt389];rfl
       have q390:=q373.app (kL:KdsL [K2,K2,K2] [.int .i32 v389_0,.int .i32 v389_1,.int .i32 v389_2])
       refine rF 1 0 [(.ia 3 (n1 0) (nI 18),.ptr 0 0)] [⟨lS389,(j372 * 3),[n2 19,n2 20,n2 21],false⟩] [(73,n1 0),(74,nI 18),(0,n1 0),(11,nI 18),(72,.fn 22 [] []),(2,nI 2),(9,nI 6),(3,.fn 22 [] []),(10,nI 4),(1,nI 1)] q390 (.cons (qA hr372_0 gS389 hlt389 rfl (by rw [hm389];exact(dL q390))) .nil) (.cons (qD (k:=j372) (dE q390) eS389 (dE q390) hlt389 rfl) .nil) B14 ?_
       refine qM kr fun vs ls H391 E391 st hE=>?_
       obtain⟨w393,hw393⟩:∃ z,z=(IntKind.wrap .i64 ((j372:Int) - 1)):=⟨_,rfl⟩
       have b394:E391 79=.int .i64 w393:=by rw [hw393];exact eo st hE 79 _
       have B15:=es st hE [(77,S),(72,.func 22 [] []),(76,.agg [.int .i32 v389_0,.int .i32 v389_1,.int .i32 v389_2]),(0,S),(11,.int .i64 (j372:Int)),(2,.int .i64 (b:Int)),(9,.int .i64 (i27:Int)),(3,.func 22 [] []),(10,.int .i64 (c14:Int)),(1,.int .i64 (a:Int))]
       have g404:Grew H374 H391:=(gk st)
       have g405:OnlyS S H H391:=g387.grewR g404
       have s407:=s388.grew g404
       have nw393:w393=((j372:Int) - 1):=hw393.trans (wI _ om om)
       obtain⟨k408,rfl⟩:∃ k:Nat,w393=(k:Int):=⟨Int.toNat w393,by omega⟩
       have hlt409:k408 < L372.length:=by omega
       obtain⟨lS409,cap409,rest409,wr409,eS409,gS409⟩:=(s407.toL).isSl hlt409
       obtain⟨v409_0,v409_1,v409_2,hm409⟩:=qC (hr372_0.get hlt409)
       have he409:L372.getD k408 []=[.int .i32 v409_0,.int .i32 v409_1,.int .i32 v409_2]:=by rw [<- hm409,List.getD_eq_getElem?_getD,List.getElem?_eq_getElem hlt409];rfl
       have q410:=q390.app (kL:KdsL [KI,K2,K2,K2,KI] [.int .i64 (k408:Int),.int .i32 v409_0,.int .i32 v409_1,.int .i32 v409_2,.int .i64 (zD v389_0 v389_1 v389_2 v409_0 v409_1 v409_2)])
       refine rF 1 0 [(.ia 3 (n1 0) (nI 22),.ptr 0 0),(.call 22 [.agg [n2 19,n2 20,n2 21],.agg [n2 23,n2 24,n2 25]],nI 26)] [⟨lS409,(k408 * 3),[n2 23,n2 24,n2 25],false⟩] [(77,n1 0),(72,.fn 22 [] []),(76,.agg [n2 19,n2 20,n2 21]),(0,n1 0),(11,nI 18),(2,nI 2),(9,nI 6),(3,.fn 22 [] []),(10,nI 4),(1,nI 1),(79,nI 22)] q410 (.cons (qA hr372_0 gS409 hlt409 rfl (by rw [hm409];exact(dL q410))) .nil) (.cons (qD (k:=k408) (dE q410) eS409 (dE q410) hlt409 rfl) (.cons (qI (args:=[.agg [.int .i32 v389_0,.int .i32 v389_1,.int .i32 v389_2],.agg [.int .i32 v409_0,.int .i32 v409_1,.int .i32 v409_2]]) (dL q410) (dE q410) (fun H9 hk=>qO H9 v389_0 v389_1 v389_2 v409_0 v409_1 v409_2)) .nil)) (sc B15 (.cons b394 .nil)) ?_
       refine vI kr ?_ ?_
       ·intro vs ls H411 E411 st hE
        have f412:¬ ((zD v389_0 v389_1 v389_2 v409_0 v409_1 v409_2) < 0):=df st 0
        obtain⟨w423,hw423⟩:∃ z,z=(decide ((zD v389_0 v389_1 v389_2 v409_0 v409_1 v409_2) < 0)):=⟨_,rfl⟩
        have b424:E411 83=.bool w423:=by rw [hw423];exact eo st hE 83 _
        obtain⟨w425,hw425⟩:∃ z,z=(!(decide ((zD v389_0 v389_1 v389_2 v409_0 v409_1 v409_2) < 0))):=⟨_,rfl⟩
        have b426:E411 84=.bool w425:=by rw [hw425];exact eo st hE 84 _
        have B16:=es st hE [(11,.int .i64 (j372:Int)),(3,.func 22 [] []),(0,S),(77,S),(79,.int .i64 (k408:Int)),(80,.ptr lS409 ((k408 * 3)+0)),(72,.func 22 [] []),(76,.agg [.int .i32 v389_0,.int .i32 v389_1,.int .i32 v389_2]),(81,.agg [.int .i32 v409_0,.int .i32 v409_1,.int .i32 v409_2]),(82,.int .i64 (zD v389_0 v389_1 v389_2 v409_0 v409_1 v409_2)),(2,.int .i64 (b:Int)),(9,.int .i64 (i27:Int)),(10,.int .i64 (c14:Int)),(1,.int .i64 (a:Int))]
        have g431:Grew H391 H411:=(gk st)
        have g432:OnlyS S H H411:=g405.grewR g431
        have r433:=g431.at gS409
        have s434:=s407.grew g431
        refine qQ (id:=4) kr ?_
        have ct435:=xT hκ iv372.st.pe hlt389 hlt409 he389 he409
        have hx9:j372=a \/ tmK κ L372 (j372 - 1)<=tmK κ L372 j372:=.inr (by rw [show j372 - 1=k408 by omega];omega)
        have hfi9:=InsK.fin iv372 hx9
        have q436:=q410.app (kL:KdsL [.bool,.bool] [.bool w423,.bool w425])
        refine rF 1 0 [] [⟨lS409,(k408 * 3),[n2 23,n2 24,n2 25],false⟩] [(11,nI 18),(3,.fn 22 [] []),(0,n1 0),(77,n1 0),(79,nI 22),(80,.ptr 0 0),(72,.fn 22 [] []),(76,.agg [n2 19,n2 20,n2 21]),(81,.agg [n2 23,n2 24,n2 25]),(82,nI 26),(2,nI 2),(9,nI 6),(10,nI 4),(1,nI 1),(83,nB 27),(84,nB 28)] q436 (.cons (qA hr372_0 r433 hlt409 rfl (by rw [hm409];exact(dL q436))) .nil) .nil (sc B16 (.cons b424 (.cons b426 .nil))) ?_
        refine qM kr fun vs ls H437 E437 st hE=>?_
        have b438:=eo st hE 2 (.int .i64 (b:Int))
        have b439:=eo st hE 9 (.int .i64 (i27:Int))
        have b440:=eo st hE 3 (.func 22 [] [])
        have b441:=eo st hE 0 S
        have b442:=eo st hE 10 (.int .i64 (c14:Int))
        have b443:=eo st hE 1 (.int .i64 (a:Int))
        have g444:Grew H411 H437:=(gk st)
        have g445:OnlyS S H H437:=g432.grewR g444
        have s447:=s434.grew g444
        exact qZ kr ⟨L372,b440,b441,b438,b439,b442,b443,g445,s447,hr372_0,⟨hfi9.1,by rw [show i27=i27 - 1+1 by omega];exact hfi9.2⟩⟩
       ·intro vs ls H448 E448 st hE
        have f449:(zD v389_0 v389_1 v389_2 v409_0 v409_1 v409_2) < 0:=dt st 0
        obtain⟨w451,hw451⟩:∃ z,z=(IntKind.wrap .i64 ((j372:Int) - 1)):=⟨_,rfl⟩
        have b452:E448 92=.int .i64 w451:=by rw [hw451];exact eo st hE 92 _
        have b458:E448 89=.int .i64 w451:=by rw [hw451];exact eo st hE 89 _
        have B17:=es st hE [(90,S),(0,S),(11,.int .i64 (j372:Int)),(85,S),(86,.int .i64 (j372:Int)),(87,S),(2,.int .i64 (b:Int)),(9,.int .i64 (i27:Int)),(3,.func 22 [] []),(10,.int .i64 (c14:Int)),(1,.int .i64 (a:Int))]
        have g464:Grew H391 H448:=(gk st)
        have g465:OnlyS S H H448:=g405.grewR g464
        have s467:=s407.grew g464
        have nw451:w451=((j372:Int) - 1):=hw451.trans (wI _ om om)
        obtain rfl:w451=(k408:Int):=by omega
        have hlt468:k408 < L372.length:=by omega
        obtain⟨lS468,cap468,rest468,wr468,eS468,gS468⟩:=(s467.toL).isSl hlt468
        obtain⟨v468_0,v468_1,v468_2,hm468⟩:=qC (hr372_0.get hlt468)
        have he468:L372.getD k408 []=[.int .i32 v468_0,.int .i32 v468_1,.int .i32 v468_2]:=by rw [<- hm468,List.getD_eq_getElem?_getD,List.getElem?_eq_getElem hlt468];rfl
        have hq468:=he409.symm.trans he468
        simp only [List.cons.injEq,AV.flt.injEq,AV.int.injEq,Int.natCast_inj,true_and,and_true] at hq468
        obtain⟨rfl,rfl,rfl⟩:=hq468
        have q469:=q410.app (kL:KdsL [KI,K2,K2,K2] [.int .i64 (k408:Int),.int .i32 v409_0,.int .i32 v409_1,.int .i32 v409_2])
        refine rF 1 0 [(.ia 3 (n1 0) (nI 27),.ptr 0 0)] [⟨lS468,(k408 * 3),[n2 28,n2 29,n2 30],false⟩] [(90,n1 0),(0,n1 0),(11,nI 18),(85,n1 0),(86,nI 18),(87,n1 0),(2,nI 2),(9,nI 6),(3,.fn 22 [] []),(10,nI 4),(1,nI 1),(92,nI 27),(89,nI 27)] q469 (.cons (qA hr372_0 gS468 hlt468 rfl (by rw [hm468];exact(dL q469))) .nil) (.cons (qD (k:=k408) (dE q469) eS468 (dE q469) hlt468 rfl) .nil) (sc B17 (.cons b452 (.cons b458 .nil))) ?_
        refine qM kr fun vs ls H470 E470 st hE=>?_
        have B18:=es st hE [(95,S),(96,.int .i64 (j372:Int)),(85,S),(86,.int .i64 (j372:Int)),(94,.agg [.int .i32 v409_0,.int .i32 v409_1,.int .i32 v409_2]),(87,S),(89,.int .i64 (k408:Int)),(11,.int .i64 (j372:Int)),(2,.int .i64 (b:Int)),(9,.int .i64 (i27:Int)),(3,.func 22 [] []),(0,S),(10,.int .i64 (c14:Int)),(1,.int .i64 (a:Int))]
        have g485:Grew H448 H470:=(gk st)
        have g486:OnlyS S H H470:=g465.grewR g485
        have s488:=s467.grew g485
        have hlt489:j372 < L372.length:=by omega
        obtain⟨lS489,cap489,rest489,wr489,eS489,gS489⟩:=(s488.toL).isSl hlt489
        obtain⟨v489_0,v489_1,v489_2,hm489⟩:=qC (hr372_0.get hlt489)
        have he489:L372.getD j372 []=[.int .i32 v489_0,.int .i32 v489_1,.int .i32 v489_2]:=by rw [<- hm489,List.getD_eq_getElem?_getD,List.getElem?_eq_getElem hlt489];rfl
        have hq489:=he389.symm.trans he489
        simp only [List.cons.injEq,AV.flt.injEq,AV.int.injEq,Int.natCast_inj,true_and,and_true] at hq489
        obtain⟨rfl,rfl,rfl⟩:=hq489
        have q490:=q469.app (kL:KdsL [K2,K2,K2] [.int .i32 v389_0,.int .i32 v389_1,.int .i32 v389_2])
        refine rF 1 0 [(.ia 3 (n1 0) (nI 18),.ptr 0 0)] [⟨lS489,(j372 * 3),[n2 31,n2 32,n2 33],false⟩] [(95,n1 0),(96,nI 18),(85,n1 0),(86,nI 18),(94,.agg [n2 28,n2 29,n2 30]),(87,n1 0),(89,nI 27),(11,nI 18),(2,nI 2),(9,nI 6),(3,.fn 22 [] []),(0,n1 0),(10,nI 4),(1,nI 1)] q490 (.cons (qA hr372_0 gS489 hlt489 rfl (by rw [hm489];exact(dL q490))) .nil) (.cons (qD (k:=j372) (dE q490) eS489 (dE q490) hlt489 rfl) .nil) B18 ?_
        refine qM kr fun vs ls H491 E491 st hE=>?_
        have b492:=eo st hE 99 (.ptr lS489 ((j372 * 3)+0))
        have b493:=eo st hE 94 (.agg [.int .i32 v409_0,.int .i32 v409_1,.int .i32 v409_2])
        have B19:=es st hE [(94,.agg [.int .i32 v409_0,.int .i32 v409_1,.int .i32 v409_2]),(87,S),(89,.int .i64 (k408:Int)),(98,.agg [.int .i32 v389_0,.int .i32 v389_1,.int .i32 v389_2]),(11,.int .i64 (j372:Int)),(2,.int .i64 (b:Int)),(9,.int .i64 (i27:Int)),(3,.func 22 [] []),(0,S),(10,.int .i64 (c14:Int)),(1,.int .i64 (a:Int))]
        have g504:Grew H470 H491:=(gk st)
        have g505:OnlyS S H H491:=g486.grewR g504
        have s507:=s488.grew g504
        refine qH (d:=none) (n:=3) (x:=.tmp 99) (y:=.tmp 94) kr (S:=S) (ms:=L372) (k:=j372) (m':=[.int .i32 v409_0,.int .i32 v409_1,.int .i32 v409_2]) (s507) eS489 b492 hlt489 hr372_0.len (by show AV.cells (E491 94)=_;rw [b493];rfl) rfl rfl rfl ?_
        intro H508 s508 oo508
        have hln508:(L372.set j372 [.int .i32 v409_0,.int .i32 v409_1,.int .i32 v409_2]).length=L372.length:=by simp
        have g509:OnlyS S H H508:=g505.trans oo508
        refine rC 0 0 [] [(94,.agg [n2 28,n2 29,n2 30]),(87,n1 0),(89,nI 27),(98,.agg [n2 31,n2 32,n2 33]),(11,nI 18),(2,nI 2),(9,nI 6),(3,.fn 22 [] []),(0,n1 0),(10,nI 4),(1,nI 1)] q490 (sn B19) ?_
        refine qM kr fun vs ls H511 E511 st hE=>?_
        have B20:=es st hE [(87,S),(89,.int .i64 (k408:Int)),(98,.agg [.int .i32 v389_0,.int .i32 v389_1,.int .i32 v389_2]),(11,.int .i64 (j372:Int)),(2,.int .i64 (b:Int)),(9,.int .i64 (i27:Int)),(3,.func 22 [] []),(0,S),(10,.int .i64 (c14:Int)),(1,.int .i64 (a:Int))]
        have g522:Grew H508 H511:=(gk st)
        have g523:OnlyS S H H511:=g509.grewR g522
        have s524:=s508.grew g522
        have hlt525:k408 < (L372.set j372 [.int .i32 v409_0,.int .i32 v409_1,.int .i32 v409_2]).length:=by omega
        obtain⟨lS525,cap525,rest525,wr525,eS525,gS525⟩:=(s524.toL).isSl hlt525
        obtain⟨v525_0,v525_1,v525_2,hm525⟩:=qC ((qL.set hr372_0 (.cons kA (.cons kA (.cons kA .nil)))).get hlt525)
        have he525:(L372.set j372 [.int .i32 v409_0,.int .i32 v409_1,.int .i32 v409_2]).getD k408 []=[.int .i32 v525_0,.int .i32 v525_1,.int .i32 v525_2]:=by rw [<- hm525,List.getD_eq_getElem?_getD,List.getElem?_eq_getElem hlt525];rfl
        have q526:=q490.app (kL:KdsL [K2,K2,K2] [.int .i32 v525_0,.int .i32 v525_1,.int .i32 v525_2])
        refine rF 1 0 [(.ia 3 (n1 0) (nI 27),.ptr 0 0)] [⟨lS525,(k408 * 3),[n2 34,n2 35,n2 36],false⟩] [(87,n1 0),(89,nI 27),(98,.agg [n2 31,n2 32,n2 33]),(11,nI 18),(2,nI 2),(9,nI 6),(3,.fn 22 [] []),(0,n1 0),(10,nI 4),(1,nI 1)] q526 (.cons (qA (qL.set hr372_0 (.cons kA (.cons kA (.cons kA .nil)))) gS525 hlt525 rfl (by rw [hm525];exact(dL q526))) .nil) (.cons (qD (k:=k408) (dE q526) eS525 (dE q526) hlt525 rfl) .nil) B20 ?_
        refine qM kr fun vs ls H527 E527 st hE=>?_
        have b528:=eo st hE 100 (.ptr lS525 ((k408 * 3)+0))
        have b529:=eo st hE 98 (.agg [.int .i32 v389_0,.int .i32 v389_1,.int .i32 v389_2])
        have B21:=es st hE [(98,.agg [.int .i32 v389_0,.int .i32 v389_1,.int .i32 v389_2]),(11,.int .i64 (j372:Int)),(2,.int .i64 (b:Int)),(9,.int .i64 (i27:Int)),(3,.func 22 [] []),(0,S),(10,.int .i64 (c14:Int)),(1,.int .i64 (a:Int))]
        have g537:Grew H511 H527:=(gk st)
        have g538:OnlyS S H H527:=g523.grewR g537
        have s540:=s524.grew g537
        refine qH (d:=none) (n:=3) (x:=.tmp 100) (y:=.tmp 98) kr (S:=S) (ms:=(L372.set j372 [.int .i32 v409_0,.int .i32 v409_1,.int .i32 v409_2])) (k:=k408) (m':=[.int .i32 v389_0,.int .i32 v389_1,.int .i32 v389_2]) (s540) eS525 b528 hlt525 (qL.set hr372_0 (.cons kA (.cons kA (.cons kA .nil)))).len (by show AV.cells (E527 98)=_;rw [b529];rfl) rfl rfl rfl ?_
        intro H541 s541 oo541
        have hln541:((L372.set j372 [.int .i32 v409_0,.int .i32 v409_1,.int .i32 v409_2]).set k408 [.int .i32 v389_0,.int .i32 v389_1,.int .i32 v389_2]).length=(L372.set j372 [.int .i32 v409_0,.int .i32 v409_1,.int .i32 v409_2]).length:=by simp
        have g542:OnlyS S H H541:=g538.trans oo541
        refine rC 0 0 [] [(98,.agg [n2 31,n2 32,n2 33]),(11,nI 18),(2,nI 2),(9,nI 6),(3,.fn 22 [] []),(0,n1 0),(10,nI 4),(1,nI 1)] q526 (sn B21) ?_
        refine qM kr fun vs ls H544 E544 st hE=>?_
        obtain⟨w545,hw545⟩:∃ z,z=(IntKind.wrap .i64 ((j372:Int) - 1)):=⟨_,rfl⟩
        have b546:E544 11=.int .i64 w545:=by rw [hw545];exact eo st hE 11 _
        have b547:=eo st hE 3 (.func 22 [] [])
        have b548:=eo st hE 0 S
        have b549:=eo st hE 2 (.int .i64 (b:Int))
        have b550:=eo st hE 9 (.int .i64 (i27:Int))
        have b551:=eo st hE 10 (.int .i64 (c14:Int))
        have b552:=eo st hE 1 (.int .i64 (a:Int))
        have g553:Grew H541 H544:=(gk st)
        have g554:OnlyS S H H544:=g542.grewR g553
        have s555:=s541.grew g553
        have nw545:w545=((j372:Int) - 1):=hw545.trans (wI _ om om)
        obtain⟨k556,hk556⟩:∃ k:Nat,w545=(k:Int):=⟨Int.toNat w545,by omega⟩
        have ct557:=xT hκ iv372.st.pe hlt489 hlt468 he489 he468
        have hsw9:((L372.set j372 [.int .i32 v409_0,.int .i32 v409_1,.int .i32 v409_2]).set k408 [.int .i32 v389_0,.int .i32 v389_1,.int .i32 v389_2])=swp L372 j372 k408:=by unfold swp;rw [he489,he468]
        have hk9:k408=j372 - 1:=by omega
        rw [show swp L372 j372 k408=swp L372 j372 (j372 - 1) by rw [hk9]] at hsw9
        have hlt9:tmK κ L372 j372 < tmK κ L372 (j372 - 1):=by rw [<- hk9];omega
        have haj9:a < j372:=(hlo.pt iv372.st om hb).step om om om hlt9
        have hm9:k556 < z372:=by omega
        exact qP kr ⟨k556,hm9,k556,((L372.set j372 [.int .i32 v409_0,.int .i32 v409_1,.int .i32 v409_2]).set k408 [.int .i32 v389_0,.int .i32 v389_1,.int .i32 v389_2]),rfl,b547,b548,b549,b550,b551,b552,(b546.trans (by rw [hk556])),g554,s555,(qL.set (qL.set hr372_0 (.cons kA (.cons kA (.cons kA .nil)))) (.cons kA (.cons kA (.cons kA .nil)))),(by rw [hsw9,show k556=j372 - 1 by omega];exact InsK.step iv372 haj9 om hb hlt9)⟩
      ·intro vs ls H558 E558 st hE
       have f559:(j372:Int) < 1:=dt st 0
       obtain⟨w562,hw562⟩:∃ z,z=(!(decide ((j372:Int) < 1))):=⟨_,rfl⟩
       have b563:E558 69=.bool w562:=by rw [hw562];exact eo st hE 69 _
       have B22:=es st hE [(11,.int .i64 (j372:Int)),(68,.int .i64 (j372:Int)),(3,.func 22 [] []),(0,S),(2,.int .i64 (b:Int)),(9,.int .i64 (i27:Int)),(10,.int .i64 (c14:Int)),(1,.int .i64 (a:Int))]
       have g570:Grew Hx372 H558:=(gk st)
       have g571:OnlyS S H H558:=gt372.grewR g570
       have s572:=so372_0.grew g570
       refine qQ (id:=4) kr ?_
       have hx9:j372=a \/ tmK κ L372 (j372 - 1)<=tmK κ L372 j372:=.inl om
       have hfi9:=InsK.fin iv372 hx9
       have q573:=q373.app (kL:KdsL [.bool] [.bool w562])
       refine rC 0 0 [] [(11,nI 18),(68,nI 18),(3,.fn 22 [] []),(0,n1 0),(2,nI 2),(9,nI 6),(10,nI 4),(1,nI 1),(69,nB 19)] q573 (sc B22 (.cons b563 .nil)) ?_
       refine qM kr fun vs ls H574 E574 st hE=>?_
       have b575:=eo st hE 2 (.int .i64 (b:Int))
       have b576:=eo st hE 9 (.int .i64 (i27:Int))
       have b577:=eo st hE 3 (.func 22 [] [])
       have b578:=eo st hE 0 S
       have b579:=eo st hE 10 (.int .i64 (c14:Int))
       have b580:=eo st hE 1 (.int .i64 (a:Int))
       have g581:Grew H558 H574:=(gk st)
       have g582:OnlyS S H H574:=g571.grewR g581
       have s583:=s572.grew g581
       exact qZ kr ⟨L372,b577,b578,b575,b576,b579,b580,g582,s583,hr372_0,⟨hfi9.1,by rw [show i27=i27 - 1+1 by omega];exact hfi9.2⟩⟩
     ·rintro E358 Hx358 ⟨L358,c358_3,c358_0,c358_2,c358_9,c358_10,c358_1,gt358,so358_0,hr358_0,iv358⟩
      obtain⟨hstL358,hsrL358⟩:=iv358
      have hlL358:=hstL358.len
      have q584:=q328.app (kL:KdsL [KI] [.int .i64 w347])
      refine rC 0 0 [] [(3,.fn 22 [] []),(0,n1 0),(2,nI 2),(9,nI 6),(10,nI 4),(1,nI 1)] q584 (.cons c358_3 (.cons c358_0 (.cons c358_2 (.cons c358_9 (.cons c358_10 (.cons c358_1 .nil)))))) ?_
      refine vI kr ?_ ?_
      ·intro vs ls H585 E585 st hE
       have f586:¬ ((IntKind.wrap .i64 ((b:Int) - (i27:Int))) < 2):=df st 0
       rw [wI ((b:Int) - (i27:Int)) om om] at f586
       obtain⟨w587,hw587⟩:∃ z,z=(IntKind.wrap .i64 ((i27:Int)+1)):=⟨_,rfl⟩
       have b588:E585 12=.int .i64 w587:=by rw [hw587];exact eo st hE 12 _
       have B23:=es st hE [(2,.int .i64 (b:Int)),(3,.func 22 [] []),(0,S),(10,.int .i64 (c14:Int)),(1,.int .i64 (a:Int)),(9,.int .i64 (i27:Int))]
       have g595:Grew Hx358 H585:=(gk st)
       have g596:OnlyS S H H585:=gt358.grewR g595
       have s597:=so358_0.grew g595
       have nw587:w587=((i27:Int)+1):=hw587.trans (wI _ om om)
       refine gI 1 (fun E H'=>∃ (L598:LL),E 2=.int .i64 (b:Int)/\E 3=.func 22 [] []/\E 0=S/\E 10=.int .i64 (c14:Int)/\E 1=.int .i64 (a:Int)/\E 9=.int .i64 (i27:Int)/\OnlyS S H H'/\SlF H' 3 L598 S/\qL KC L598/\Pt2 a b L0 L598/\yM κ a i27 L598) kr ?_ ?_
       ·have q599:=q584.app (kL:KdsL [KI] [.int .i64 w587])
        refine rC 0 0 [] [(2,nI 2),(3,.fn 22 [] []),(0,n1 0),(10,nI 4),(1,nI 1),(9,nI 6),(12,nI 18)] q599 (sc B23 (.cons b588 .nil)) ?_
        refine qM kr fun vs ls H600 E600 st hE=>?_
        have b601:=eo st hE 12 (.int .i64 w587)
        have b602:=eo st hE 2 (.int .i64 (b:Int))
        have b603:=eo st hE 3 (.func 22 [] [])
        have b604:=eo st hE 0 S
        have b605:=eo st hE 10 (.int .i64 (c14:Int))
        have b606:=eo st hE 1 (.int .i64 (a:Int))
        have b607:=eo st hE 9 (.int .i64 (i27:Int))
        have g608:Grew H585 H600:=(gk st)
        have g609:OnlyS S H H600:=g596.grewR g608
        have s610:=s597.grew g608
        obtain⟨k611,hk611⟩:∃ k:Nat,w587=(k:Int):=⟨Int.toNat w587,by omega⟩
        refine zE kr (fun z E H'=>∃ (j612:Nat) (L612:LL),z=b - j612/\E 2=.int .i64 (b:Int)/\E 3=.func 22 [] []/\E 0=S/\E 10=.int .i64 (c14:Int)/\E 1=.int .i64 (a:Int)/\E 9=.int .i64 (i27:Int)/\E 12=.int .i64 (j612:Int)/\OnlyS S H H'/\SlF H' 3 L612 S/\qL KC L612/\i27 < j612/\Pt2 a b L0 L612/\yM κ a i27 L612) (b - k611) ⟨k611,L358,rfl,b602,b603,b604,b605,b606,b607,(b601.trans (by rw [hk611])),g609,s610,hr358_0,⟨by omega,hstL358,hsrL358⟩⟩ ?_
        rintro z612 E612 Hx612 ⟨j612,L612,hz612,c612_2,c612_3,c612_0,c612_10,c612_1,c612_9,cv612_12,gt612,so612_0,hr612_0,iv612⟩
        obtain⟨hjjj612,hstL612,hsrL612⟩:=iv612
        have hlL612:=hstL612.len
        have q613:=q599.app (kL:KdsL [KI] [.int .i64 (j612:Int)])
        refine rC 0 0 [] [(2,nI 2),(3,.fn 22 [] []),(0,n1 0),(10,nI 4),(1,nI 1),(9,nI 6),(12,nI 19)] q613 (.cons c612_2 (.cons c612_3 (.cons c612_0 (.cons c612_10 (.cons c612_1 (.cons c612_9 (.cons cv612_12 .nil))))))) ?_
        refine vI kr ?_ ?_
        ·intro vs ls H614 E614 st hE
         have f615:(j612:Int) < (b:Int):=dt st 0
         have B24:=es st hE [(113,S),(114,.int .i64 (j612:Int)),(0,S),(12,.int .i64 (j612:Int)),(112,.func 22 [] []),(10,.int .i64 (c14:Int)),(2,.int .i64 (b:Int)),(3,.func 22 [] []),(1,.int .i64 (a:Int)),(9,.int .i64 (i27:Int))]
         have g626:Grew Hx612 H614:=(gk st)
         have g627:OnlyS S H H614:=gt612.grewR g626
         have s628:=so612_0.grew g626
         have hlt629:j612 < L612.length:=by omega
         obtain⟨lS629,cap629,rest629,wr629,eS629,gS629⟩:=(s628.toL).isSl hlt629
         obtain⟨v629_0,v629_1,v629_2,hm629⟩:=qC (hr612_0.get hlt629)
         have he629:L612.getD j612 []=[.int .i32 v629_0,.int .i32 v629_1,.int .i32 v629_2]:=by rw [<- hm629,List.getD_eq_getElem?_getD,List.getElem?_eq_getElem hlt629];rfl
         have q630:=q613.app (kL:KdsL [K2,K2,K2] [.int .i32 v629_0,.int .i32 v629_1,.int .i32 v629_2])
         refine rF 1 0 [(.ia 3 (n1 0) (nI 19),.ptr 0 0)] [⟨lS629,(j612 * 3),[n2 20,n2 21,n2 22],false⟩] [(113,n1 0),(114,nI 19),(0,n1 0),(12,nI 19),(112,.fn 22 [] []),(10,nI 4),(2,nI 2),(3,.fn 22 [] []),(1,nI 1),(9,nI 6)] q630 (.cons (qA hr612_0 gS629 hlt629 rfl (by rw [hm629];exact(dL q630))) .nil) (.cons (qD (k:=j612) (dE q630) eS629 (dE q630) hlt629 rfl) .nil) B24 ?_
         refine qM kr fun vs ls H631 E631 st hE=>?_
         obtain⟨w633,hw633⟩:∃ z,z=(IntKind.wrap .i64 ((j612:Int) - 1)):=⟨_,rfl⟩
         have b634:E631 119=.int .i64 w633:=by rw [hw633];exact eo st hE 119 _
         have B25:=es st hE [(117,S),(112,.func 22 [] []),(116,.agg [.int .i32 v629_0,.int .i32 v629_1,.int .i32 v629_2]),(0,S),(12,.int .i64 (j612:Int)),(10,.int .i64 (c14:Int)),(2,.int .i64 (b:Int)),(3,.func 22 [] []),(1,.int .i64 (a:Int)),(9,.int .i64 (i27:Int))]
         have g644:Grew H614 H631:=(gk st)
         have g645:OnlyS S H H631:=g627.grewR g644
         have s647:=s628.grew g644
         have nw633:w633=((j612:Int) - 1):=hw633.trans (wI _ om om)
         obtain⟨k648,rfl⟩:∃ k:Nat,w633=(k:Int):=⟨Int.toNat w633,by omega⟩
         have hlt649:k648 < L612.length:=by omega
         obtain⟨lS649,cap649,rest649,wr649,eS649,gS649⟩:=(s647.toL).isSl hlt649
         obtain⟨v649_0,v649_1,v649_2,hm649⟩:=qC (hr612_0.get hlt649)
         have he649:L612.getD k648 []=[.int .i32 v649_0,.int .i32 v649_1,.int .i32 v649_2]:=by rw [<- hm649,List.getD_eq_getElem?_getD,List.getElem?_eq_getElem hlt649];rfl
         have q650:=q630.app (kL:KdsL [KI,K2,K2,K2,KI] [.int .i64 (k648:Int),.int .i32 v649_0,.int .i32 v649_1,.int .i32 v649_2,.int .i64 (zD v629_0 v629_1 v629_2 v649_0 v649_1 v649_2)])
         refine rF 1 0 [(.ia 3 (n1 0) (nI 23),.ptr 0 0),(.call 22 [.agg [n2 20,n2 21,n2 22],.agg [n2 24,n2 25,n2 26]],nI 27)] [⟨lS649,(k648 * 3),[n2 24,n2 25,n2 26],false⟩] [(117,n1 0),(112,.fn 22 [] []),(116,.agg [n2 20,n2 21,n2 22]),(0,n1 0),(12,nI 19),(10,nI 4),(2,nI 2),(3,.fn 22 [] []),(1,nI 1),(9,nI 6),(119,nI 23)] q650 (.cons (qA hr612_0 gS649 hlt649 rfl (by rw [hm649];exact(dL q650))) .nil) (.cons (qD (k:=k648) (dE q650) eS649 (dE q650) hlt649 rfl) (.cons (qI (args:=[.agg [.int .i32 v629_0,.int .i32 v629_1,.int .i32 v629_2],.agg [.int .i32 v649_0,.int .i32 v649_1,.int .i32 v649_2]]) (dL q650) (dE q650) (fun H9 hk=>qO H9 v629_0 v629_1 v629_2 v649_0 v649_1 v649_2)) .nil)) (sc B25 (.cons b634 .nil)) ?_
         refine vI kr ?_ ?_
         ·intro vs ls H651 E651 st hE
          have f652:¬ ((zD v629_0 v629_1 v629_2 v649_0 v649_1 v649_2) < 0):=df st 0
          obtain⟨w664,hw664⟩:∃ z,z=(decide ((zD v629_0 v629_1 v629_2 v649_0 v649_1 v649_2) < 0)):=⟨_,rfl⟩
          have b665:E651 123=.bool w664:=by rw [hw664];exact eo st hE 123 _
          obtain⟨w666,hw666⟩:∃ z,z=(!(decide ((zD v629_0 v629_1 v629_2 v649_0 v649_1 v649_2) < 0))):=⟨_,rfl⟩
          have b667:E651 124=.bool w666:=by rw [hw666];exact eo st hE 124 _
          have B26:=es st hE [(12,.int .i64 (j612:Int)),(2,.int .i64 (b:Int)),(3,.func 22 [] []),(0,S),(117,S),(119,.int .i64 (k648:Int)),(120,.ptr lS649 ((k648 * 3)+0)),(112,.func 22 [] []),(116,.agg [.int .i32 v629_0,.int .i32 v629_1,.int .i32 v629_2]),(121,.agg [.int .i32 v649_0,.int .i32 v649_1,.int .i32 v649_2]),(122,.int .i64 (zD v629_0 v629_1 v629_2 v649_0 v649_1 v649_2)),(10,.int .i64 (c14:Int)),(1,.int .i64 (a:Int)),(9,.int .i64 (i27:Int))]
          have g671:Grew H631 H651:=(gk st)
          have g672:OnlyS S H H651:=g645.grewR g671
          have r673:=g671.at gS649
          have s674:=s647.grew g671
          refine qQ (id:=6) kr ?_
          have q675:=q650.app (kL:KdsL [.bool,.bool] [.bool w664,.bool w666])
          refine rF 1 0 [] [⟨lS649,(k648 * 3),[n2 24,n2 25,n2 26],false⟩] [(12,nI 19),(2,nI 2),(3,.fn 22 [] []),(0,n1 0),(117,n1 0),(119,nI 23),(120,.ptr 0 0),(112,.fn 22 [] []),(116,.agg [n2 20,n2 21,n2 22]),(121,.agg [n2 24,n2 25,n2 26]),(122,nI 27),(10,nI 4),(1,nI 1),(9,nI 6),(123,nB 28),(124,nB 29)] q675 (.cons (qA hr612_0 r673 hlt649 rfl (by rw [hm649];exact(dL q675))) .nil) .nil (sc B26 (.cons b665 (.cons b667 .nil))) ?_
          refine qM kr fun vs ls H676 E676 st hE=>?_
          have b677:=eo st hE 10 (.int .i64 (c14:Int))
          have b678:=eo st hE 2 (.int .i64 (b:Int))
          have b679:=eo st hE 3 (.func 22 [] [])
          have b680:=eo st hE 0 S
          have b681:=eo st hE 1 (.int .i64 (a:Int))
          have b682:=eo st hE 9 (.int .i64 (i27:Int))
          have g683:Grew H651 H676:=(gk st)
          have g684:OnlyS S H H676:=g672.grewR g683
          have s686:=s674.grew g683
          exact qZ kr ⟨L612,b678,b679,b680,b677,b681,b682,g684,s686,hr612_0,⟨hstL612,hsrL612⟩⟩
         ·intro vs ls H687 E687 st hE
          have f688:(zD v629_0 v629_1 v629_2 v649_0 v649_1 v649_2) < 0:=dt st 0
          obtain⟨w690,hw690⟩:∃ z,z=(IntKind.wrap .i64 ((j612:Int) - 1)):=⟨_,rfl⟩
          have b691:E687 132=.int .i64 w690:=by rw [hw690];exact eo st hE 132 _
          have b697:E687 129=.int .i64 w690:=by rw [hw690];exact eo st hE 129 _
          have B27:=es st hE [(130,S),(0,S),(12,.int .i64 (j612:Int)),(125,S),(126,.int .i64 (j612:Int)),(127,S),(10,.int .i64 (c14:Int)),(2,.int .i64 (b:Int)),(3,.func 22 [] []),(1,.int .i64 (a:Int)),(9,.int .i64 (i27:Int))]
          have g703:Grew H631 H687:=(gk st)
          have g704:OnlyS S H H687:=g645.grewR g703
          have s706:=s647.grew g703
          have nw690:w690=((j612:Int) - 1):=hw690.trans (wI _ om om)
          obtain rfl:w690=(k648:Int):=by omega
          have hlt707:k648 < L612.length:=by omega
          obtain⟨lS707,cap707,rest707,wr707,eS707,gS707⟩:=(s706.toL).isSl hlt707
          obtain⟨v707_0,v707_1,v707_2,hm707⟩:=qC (hr612_0.get hlt707)
          have he707:L612.getD k648 []=[.int .i32 v707_0,.int .i32 v707_1,.int .i32 v707_2]:=by rw [<- hm707,List.getD_eq_getElem?_getD,List.getElem?_eq_getElem hlt707];rfl
          have hq707:=he649.symm.trans he707
          simp only [List.cons.injEq,AV.flt.injEq,AV.int.injEq,Int.natCast_inj,true_and,and_true] at hq707
          obtain⟨rfl,rfl,rfl⟩:=hq707
          have q708:=q650.app (kL:KdsL [KI,K2,K2,K2] [.int .i64 (k648:Int),.int .i32 v649_0,.int .i32 v649_1,.int .i32 v649_2])
          refine rF 1 0 [(.ia 3 (n1 0) (nI 28),.ptr 0 0)] [⟨lS707,(k648 * 3),[n2 29,n2 30,n2 31],false⟩] [(130,n1 0),(0,n1 0),(12,nI 19),(125,n1 0),(126,nI 19),(127,n1 0),(10,nI 4),(2,nI 2),(3,.fn 22 [] []),(1,nI 1),(9,nI 6),(132,nI 28),(129,nI 28)] q708 (.cons (qA hr612_0 gS707 hlt707 rfl (by rw [hm707];exact(dL q708))) .nil) (.cons (qD (k:=k648) (dE q708) eS707 (dE q708) hlt707 rfl) .nil) (sc B27 (.cons b691 (.cons b697 .nil))) ?_
          refine qM kr fun vs ls H709 E709 st hE=>?_
          have B28:=es st hE [(135,S),(136,.int .i64 (j612:Int)),(125,S),(126,.int .i64 (j612:Int)),(134,.agg [.int .i32 v649_0,.int .i32 v649_1,.int .i32 v649_2]),(127,S),(129,.int .i64 (k648:Int)),(12,.int .i64 (j612:Int)),(10,.int .i64 (c14:Int)),(2,.int .i64 (b:Int)),(3,.func 22 [] []),(0,S),(1,.int .i64 (a:Int)),(9,.int .i64 (i27:Int))]
          have g724:Grew H687 H709:=(gk st)
          have g725:OnlyS S H H709:=g704.grewR g724
          have s727:=s706.grew g724
          have hlt728:j612 < L612.length:=by omega
          obtain⟨lS728,cap728,rest728,wr728,eS728,gS728⟩:=(s727.toL).isSl hlt728
          obtain⟨v728_0,v728_1,v728_2,hm728⟩:=qC (hr612_0.get hlt728)
          have he728:L612.getD j612 []=[.int .i32 v728_0,.int .i32 v728_1,.int .i32 v728_2]:=by rw [<- hm728,List.getD_eq_getElem?_getD,List.getElem?_eq_getElem hlt728];rfl
          have hq728:=he629.symm.trans he728
          simp only [List.cons.injEq,AV.flt.injEq,AV.int.injEq,Int.natCast_inj,true_and,and_true] at hq728
          obtain⟨rfl,rfl,rfl⟩:=hq728
          have q729:=q708.app (kL:KdsL [K2,K2,K2] [.int .i32 v629_0,.int .i32 v629_1,.int .i32 v629_2])
          refine rF 1 0 [(.ia 3 (n1 0) (nI 19),.ptr 0 0)] [⟨lS728,(j612 * 3),[n2 32,n2 33,n2 34],false⟩] [(135,n1 0),(136,nI 19),(125,n1 0),(126,nI 19),(134,.agg [n2 29,n2 30,n2 31]),(127,n1 0),(129,nI 28),(12,nI 19),(10,nI 4),(2,nI 2),(3,.fn 22 [] []),(0,n1 0),(1,nI 1),(9,nI 6)] q729 (.cons (qA hr612_0 gS728 hlt728 rfl (by rw [hm728];exact(dL q729))) .nil) (.cons (qD (k:=j612) (dE q729) eS728 (dE q729) hlt728 rfl) .nil) B28 ?_
          refine qM kr fun vs ls H730 E730 st hE=>?_
          have b731:=eo st hE 139 (.ptr lS728 ((j612 * 3)+0))
          have b732:=eo st hE 134 (.agg [.int .i32 v649_0,.int .i32 v649_1,.int .i32 v649_2])
          have B29:=es st hE [(134,.agg [.int .i32 v649_0,.int .i32 v649_1,.int .i32 v649_2]),(127,S),(129,.int .i64 (k648:Int)),(138,.agg [.int .i32 v629_0,.int .i32 v629_1,.int .i32 v629_2]),(12,.int .i64 (j612:Int)),(10,.int .i64 (c14:Int)),(2,.int .i64 (b:Int)),(3,.func 22 [] []),(0,S),(1,.int .i64 (a:Int)),(9,.int .i64 (i27:Int))]
          have g743:Grew H709 H730:=(gk st)
          have g744:OnlyS S H H730:=g725.grewR g743
          have s746:=s727.grew g743
          refine qH (d:=none) (n:=3) (x:=.tmp 139) (y:=.tmp 134) kr (S:=S) (ms:=L612) (k:=j612) (m':=[.int .i32 v649_0,.int .i32 v649_1,.int .i32 v649_2]) (s746) eS728 b731 hlt728 hr612_0.len (by show AV.cells (E730 134)=_;rw [b732];rfl) rfl rfl rfl ?_
          intro H747 s747 oo747
          have hln747:(L612.set j612 [.int .i32 v649_0,.int .i32 v649_1,.int .i32 v649_2]).length=L612.length:=by simp
          have g748:OnlyS S H H747:=g744.trans oo747
          refine rC 0 0 [] [(134,.agg [n2 29,n2 30,n2 31]),(127,n1 0),(129,nI 28),(138,.agg [n2 32,n2 33,n2 34]),(12,nI 19),(10,nI 4),(2,nI 2),(3,.fn 22 [] []),(0,n1 0),(1,nI 1),(9,nI 6)] q729 (sn B29) ?_
          refine qM kr fun vs ls H750 E750 st hE=>?_
          have B30:=es st hE [(127,S),(129,.int .i64 (k648:Int)),(138,.agg [.int .i32 v629_0,.int .i32 v629_1,.int .i32 v629_2]),(12,.int .i64 (j612:Int)),(10,.int .i64 (c14:Int)),(2,.int .i64 (b:Int)),(3,.func 22 [] []),(0,S),(1,.int .i64 (a:Int)),(9,.int .i64 (i27:Int))]
          have g761:Grew H747 H750:=(gk st)
          have g762:OnlyS S H H750:=g748.grewR g761
          have s763:=s747.grew g761
          have hlt764:k648 < (L612.set j612 [.int .i32 v649_0,.int .i32 v649_1,.int .i32 v649_2]).length:=by omega
          obtain⟨lS764,cap764,rest764,wr764,eS764,gS764⟩:=(s763.toL).isSl hlt764
          obtain⟨v764_0,v764_1,v764_2,hm764⟩:=qC ((qL.set hr612_0 (.cons kA (.cons kA (.cons kA .nil)))).get hlt764)
          have he764:(L612.set j612 [.int .i32 v649_0,.int .i32 v649_1,.int .i32 v649_2]).getD k648 []=[.int .i32 v764_0,.int .i32 v764_1,.int .i32 v764_2]:=by rw [<- hm764,List.getD_eq_getElem?_getD,List.getElem?_eq_getElem hlt764];rfl
          have q765:=q729.app (kL:KdsL [K2,K2,K2] [.int .i32 v764_0,.int .i32 v764_1,.int .i32 v764_2])
          refine rF 1 0 [(.ia 3 (n1 0) (nI 28),.ptr 0 0)] [⟨lS764,(k648 * 3),[n2 35,n2 36,n2 37],false⟩] [(127,n1 0),(129,nI 28),(138,.agg [n2 32,n2 33,n2 34]),(12,nI 19),(10,nI 4),(2,nI 2),(3,.fn 22 [] []),(0,n1 0),(1,nI 1),(9,nI 6)] q765 (.cons (qA (qL.set hr612_0 (.cons kA (.cons kA (.cons kA .nil)))) gS764 hlt764 rfl (by rw [hm764];exact(dL q765))) .nil) (.cons (qD (k:=k648) (dE q765) eS764 (dE q765) hlt764 rfl) .nil) B30 ?_
          refine qM kr fun vs ls H766 E766 st hE=>?_
          have b767:=eo st hE 140 (.ptr lS764 ((k648 * 3)+0))
          have b768:=eo st hE 138 (.agg [.int .i32 v629_0,.int .i32 v629_1,.int .i32 v629_2])
          have B31:=es st hE [(138,.agg [.int .i32 v629_0,.int .i32 v629_1,.int .i32 v629_2]),(12,.int .i64 (j612:Int)),(10,.int .i64 (c14:Int)),(2,.int .i64 (b:Int)),(3,.func 22 [] []),(0,S),(1,.int .i64 (a:Int)),(9,.int .i64 (i27:Int))]
          have g776:Grew H750 H766:=(gk st)
          have g777:OnlyS S H H766:=g762.grewR g776
          have s779:=s763.grew g776
          refine qH (d:=none) (n:=3) (x:=.tmp 140) (y:=.tmp 138) kr (S:=S) (ms:=(L612.set j612 [.int .i32 v649_0,.int .i32 v649_1,.int .i32 v649_2])) (k:=k648) (m':=[.int .i32 v629_0,.int .i32 v629_1,.int .i32 v629_2]) (s779) eS764 b767 hlt764 (qL.set hr612_0 (.cons kA (.cons kA (.cons kA .nil)))).len (by show AV.cells (E766 138)=_;rw [b768];rfl) rfl rfl rfl ?_
          intro H780 s780 oo780
          have hln780:((L612.set j612 [.int .i32 v649_0,.int .i32 v649_1,.int .i32 v649_2]).set k648 [.int .i32 v629_0,.int .i32 v629_1,.int .i32 v629_2]).length=(L612.set j612 [.int .i32 v649_0,.int .i32 v649_1,.int .i32 v649_2]).length:=by simp
          have g781:OnlyS S H H780:=g777.trans oo780
          refine rC 0 0 [] [(138,.agg [n2 32,n2 33,n2 34]),(12,nI 19),(10,nI 4),(2,nI 2),(3,.fn 22 [] []),(0,n1 0),(1,nI 1),(9,nI 6)] q765 (sn B31) ?_
          refine qM kr fun vs ls H783 E783 st hE=>?_
          obtain⟨w784,hw784⟩:∃ z,z=(IntKind.wrap .i64 ((j612:Int)+1)):=⟨_,rfl⟩
          have b785:E783 12=.int .i64 w784:=by rw [hw784];exact eo st hE 12 _
          have b786:=eo st hE 2 (.int .i64 (b:Int))
          have b787:=eo st hE 3 (.func 22 [] [])
          have b788:=eo st hE 0 S
          have b789:=eo st hE 10 (.int .i64 (c14:Int))
          have b790:=eo st hE 1 (.int .i64 (a:Int))
          have b791:=eo st hE 9 (.int .i64 (i27:Int))
          have g792:Grew H780 H783:=(gk st)
          have g793:OnlyS S H H783:=g781.grewR g792
          have s794:=s780.grew g792
          have nw784:w784=((j612:Int)+1):=hw784.trans (wI _ om om)
          obtain⟨k795,hk795⟩:∃ k:Nat,w784=(k:Int):=⟨Int.toNat w784,by omega⟩
          have hsw9:((L612.set j612 [.int .i32 v649_0,.int .i32 v649_1,.int .i32 v649_2]).set k648 [.int .i32 v629_0,.int .i32 v629_1,.int .i32 v629_2])=swp L612 j612 k648:=by unfold swp;rw [he728,he707]
          have hm9:b - k795 < z612:=by omega
          exact qP kr ⟨b - k795,hm9,k795,((L612.set j612 [.int .i32 v649_0,.int .i32 v649_1,.int .i32 v649_2]).set k648 [.int .i32 v629_0,.int .i32 v629_1,.int .i32 v629_2]),rfl,b786,b787,b788,b789,b790,b791,(b785.trans (by rw [hk795])),g793,s794,(qL.set (qL.set hr612_0 (.cons kA (.cons kA (.cons kA .nil)))) (.cons kA (.cons kA (.cons kA .nil)))),⟨by omega,by rw [hsw9];exact hstL612.trans (Pt2.swap om om om om om),by rw [hsw9];exact hsrL612.swp om om om om⟩⟩
        ·intro vs ls H796 E796 st hE
         have f797:¬ ((j612:Int) < (b:Int)):=df st 0
         obtain⟨w802,hw802⟩:∃ z,z=(decide ((j612:Int) < (b:Int))):=⟨_,rfl⟩
         have b803:E796 109=.bool w802:=by rw [hw802];exact eo st hE 109 _
         have B32:=es st hE [(12,.int .i64 (j612:Int)),(2,.int .i64 (b:Int)),(107,.int .i64 (j612:Int)),(108,.int .i64 (b:Int)),(3,.func 22 [] []),(0,S),(10,.int .i64 (c14:Int)),(1,.int .i64 (a:Int)),(9,.int .i64 (i27:Int))]
         have g809:Grew Hx612 H796:=(gk st)
         have g810:OnlyS S H H796:=gt612.grewR g809
         have s811:=so612_0.grew g809
         refine qQ (id:=6) kr ?_
         have q812:=q613.app (kL:KdsL [.bool] [.bool w802])
         refine rC 0 0 [] [(12,nI 19),(2,nI 2),(107,nI 19),(108,nI 2),(3,.fn 22 [] []),(0,n1 0),(10,nI 4),(1,nI 1),(9,nI 6),(109,nB 20)] q812 (sc B32 (.cons b803 .nil)) ?_
         refine qM kr fun vs ls H813 E813 st hE=>?_
         have b814:=eo st hE 10 (.int .i64 (c14:Int))
         have b815:=eo st hE 2 (.int .i64 (b:Int))
         have b816:=eo st hE 3 (.func 22 [] [])
         have b817:=eo st hE 0 S
         have b818:=eo st hE 1 (.int .i64 (a:Int))
         have b819:=eo st hE 9 (.int .i64 (i27:Int))
         have g820:Grew H796 H813:=(gk st)
         have g821:OnlyS S H H813:=g810.grewR g820
         have s822:=s811.grew g820
         exact qZ kr ⟨L612,b815,b816,b817,b814,b818,b819,g821,s822,hr612_0,⟨hstL612,hsrL612⟩⟩
       ·rintro E598 Hx598 ⟨L598,c598_2,c598_3,c598_0,c598_10,c598_1,c598_9,gt598,so598_0,hr598_0,iv598⟩
        obtain⟨hstL598,hsrL598⟩:=iv598
        have hlL598:=hstL598.len
        have q823:=q584.app (kL:KdsL [KI] [.int .i64 w587])
        refine rC 0 0 [] [(2,nI 2),(3,.fn 22 [] []),(0,n1 0),(10,nI 4),(1,nI 1),(9,nI 6)] q823 (.cons c598_2 (.cons c598_3 (.cons c598_0 (.cons c598_10 (.cons c598_1 (.cons c598_9 .nil)))))) ?_
        refine qM kr fun vs ls H824 E824 st hE=>?_
        obtain⟨w825,hw825⟩:∃ z,z=(IntKind.wrap .i64 ((c14:Int)+1)):=⟨_,rfl⟩
        have b826:E824 10=.int .i64 w825:=by rw [hw825];exact eo st hE 10 _
        have b827:=eo st hE 9 (.int .i64 (i27:Int))
        have b828:=eo st hE 2 (.int .i64 (b:Int))
        have b829:=eo st hE 3 (.func 22 [] [])
        have b830:=eo st hE 0 S
        have b831:=eo st hE 1 (.int .i64 (a:Int))
        have g832:Grew Hx598 H824:=(gk st)
        have g833:OnlyS S H H824:=gt598.grewR g832
        have s834:=so598_0.grew g832
        have nw825:w825=((c14:Int)+1):=hw825.trans (wI _ om om)
        obtain⟨k835,hk835⟩:∃ k:Nat,w825=(k:Int):=⟨Int.toNat w825,by omega⟩
        have hm9:5 - k835 < z14:=by omega
        exact qP kr ⟨5 - k835,hm9,k835,i27,L598,rfl,b828,b829,b830,b831,(b826.trans (by rw [hk835])),b827,g833,s834,hr598_0,⟨⟨by omega,by omega,by omega⟩,hstL598,by rw [show i27=i27 by omega];exact hsrL598⟩⟩
      ·intro vs ls H836 E836 st hE
       have f837:(IntKind.wrap .i64 ((b:Int) - (i27:Int))) < 2:=dt st 0
       rw [wI ((b:Int) - (i27:Int)) om om] at f837
       obtain⟨w838,hw838⟩:∃ z,z=(IntKind.wrap .i64 ((c14:Int)+1)):=⟨_,rfl⟩
       have b839:E836 10=.int .i64 w838:=by rw [hw838];exact eo st hE 10 _
       have b840:=eo st hE 9 (.int .i64 (i27:Int))
       have b841:=eo st hE 2 (.int .i64 (b:Int))
       have b842:=eo st hE 3 (.func 22 [] [])
       have b843:=eo st hE 0 S
       have b844:=eo st hE 1 (.int .i64 (a:Int))
       have g845:Grew Hx358 H836:=(gk st)
       have g846:OnlyS S H H836:=gt358.grewR g845
       have s847:=so358_0.grew g845
       have nw838:w838=((c14:Int)+1):=hw838.trans (wI _ om om)
       obtain⟨k848,hk848⟩:∃ k:Nat,w838=(k:Int):=⟨Int.toNat w838,by omega⟩
       have hm9:5 - k848 < z14:=by omega
       exact qP kr ⟨5 - k848,hm9,k848,i27,L358,rfl,b841,b842,b843,b844,(b839.trans (by rw [hk848])),b840,g846,s847,hr358_0,⟨⟨by omega,by omega,by omega⟩,hstL358,by rw [show i27=i27 by omega];exact hsrL358⟩⟩
    ·intro vs ls H849 E849 st hE
     have f850:¬ ((IntKind.wrap .i64 ((b:Int) - (i27:Int))) < 2):=df st 0
     rw [wI ((b:Int) - (i27:Int)) om om] at f850
     have f851:(IntKind.wrap .i64 ((i27:Int) - (a:Int))) < 2:=dt st 1
     rw [wI ((i27:Int) - (a:Int)) om om] at f851
     obtain⟨w852,hw852⟩:∃ z,z=(IntKind.wrap .i64 ((i27:Int)+1)):=⟨_,rfl⟩
     have b853:E849 12=.int .i64 w852:=by rw [hw852];exact eo st hE 12 _
     have B33:=es st hE [(2,.int .i64 (b:Int)),(3,.func 22 [] []),(0,S),(10,.int .i64 (c14:Int)),(1,.int .i64 (a:Int)),(9,.int .i64 (i27:Int))]
     have g860:Grew H342 H849:=(gk st)
     have g861:OnlyS S H H849:=g343.grewR g860
     have s862:=s342.grew g860
     have nw852:w852=((i27:Int)+1):=hw852.trans (wI _ om om)
     have hsw9:((L14.set i27 [.int .i32 v273_0,.int .i32 v273_1,.int .i32 v273_2]).set k272 [.int .i32 v293_0,.int .i32 v293_1,.int .i32 v293_2])=swp L14 i27 k272:=by unfold swp;rw [he293,he273]
     have hst1:Pt2 a b L0 ((L14.set i27 [.int .i32 v273_0,.int .i32 v273_1,.int .i32 v273_2]).set k272 [.int .i32 v293_0,.int .i32 v293_1,.int .i32 v293_2]):=by rw [hsw9];exact hstL14.trans (Pt2.swap om om om om om)
     have hsr1:yM κ a (i27 - 1) ((L14.set i27 [.int .i32 v273_0,.int .i32 v273_1,.int .i32 v273_2]).set k272 [.int .i32 v293_0,.int .i32 v293_1,.int .i32 v293_2]):=by rw [hsw9];exact(hsri27.sub (Nat.le_refl _) om).swp om om om om
     have hsr2:yM κ a i27 ((L14.set i27 [.int .i32 v273_0,.int .i32 v273_1,.int .i32 v273_2]).set k272 [.int .i32 v293_0,.int .i32 v293_1,.int .i32 v293_2]):=.one _ om
     refine gI 1 (fun E H'=>∃ (L863:LL),E 2=.int .i64 (b:Int)/\E 3=.func 22 [] []/\E 0=S/\E 10=.int .i64 (c14:Int)/\E 1=.int .i64 (a:Int)/\E 9=.int .i64 (i27:Int)/\OnlyS S H H'/\SlF H' 3 L863 S/\qL KC L863/\Pt2 a b L0 L863/\yM κ a i27 L863) kr ?_ ?_
     ·have q864:=q328.app (kL:KdsL [KI] [.int .i64 w852])
      refine rC 0 0 [] [(2,nI 2),(3,.fn 22 [] []),(0,n1 0),(10,nI 4),(1,nI 1),(9,nI 6),(12,nI 17)] q864 (sc B33 (.cons b853 .nil)) ?_
      refine qM kr fun vs ls H865 E865 st hE=>?_
      have b866:=eo st hE 12 (.int .i64 w852)
      have b867:=eo st hE 2 (.int .i64 (b:Int))
      have b868:=eo st hE 3 (.func 22 [] [])
      have b869:=eo st hE 0 S
      have b870:=eo st hE 10 (.int .i64 (c14:Int))
      have b871:=eo st hE 1 (.int .i64 (a:Int))
      have b872:=eo st hE 9 (.int .i64 (i27:Int))
      have g873:Grew H849 H865:=(gk st)
      have g874:OnlyS S H H865:=g861.grewR g873
      have s875:=s862.grew g873
      obtain⟨k876,hk876⟩:∃ k:Nat,w852=(k:Int):=⟨Int.toNat w852,by omega⟩
      refine zE kr (fun z E H'=>∃ (j877:Nat) (L877:LL),z=b - j877/\E 2=.int .i64 (b:Int)/\E 3=.func 22 [] []/\E 0=S/\E 10=.int .i64 (c14:Int)/\E 1=.int .i64 (a:Int)/\E 9=.int .i64 (i27:Int)/\E 12=.int .i64 (j877:Int)/\OnlyS S H H'/\SlF H' 3 L877 S/\qL KC L877/\i27 < j877/\Pt2 a b L0 L877/\yM κ a i27 L877) (b - k876) ⟨k876,((L14.set i27 [.int .i32 v273_0,.int .i32 v273_1,.int .i32 v273_2]).set k272 [.int .i32 v293_0,.int .i32 v293_1,.int .i32 v293_2]),rfl,b867,b868,b869,b870,b871,b872,(b866.trans (by rw [hk876])),g874,s875,(qL.set (qL.set hr14_0 (.cons kA (.cons kA (.cons kA .nil)))) (.cons kA (.cons kA (.cons kA .nil)))),⟨by omega,hst1,hsr2⟩⟩ ?_
      rintro z877 E877 Hx877 ⟨j877,L877,hz877,c877_2,c877_3,c877_0,c877_10,c877_1,c877_9,cv877_12,gt877,so877_0,hr877_0,iv877⟩
      obtain⟨hjjj877,hstL877,hsrL877⟩:=iv877
      have hlL877:=hstL877.len
      have q878:=q864.app (kL:KdsL [KI] [.int .i64 (j877:Int)])
      refine rC 0 0 [] [(2,nI 2),(3,.fn 22 [] []),(0,n1 0),(10,nI 4),(1,nI 1),(9,nI 6),(12,nI 18)] q878 (.cons c877_2 (.cons c877_3 (.cons c877_0 (.cons c877_10 (.cons c877_1 (.cons c877_9 (.cons cv877_12 .nil))))))) ?_
      refine vI kr ?_ ?_
      ·intro vs ls H879 E879 st hE
       have f880:(j877:Int) < (b:Int):=dt st 0
       have B34:=es st hE [(113,S),(114,.int .i64 (j877:Int)),(0,S),(12,.int .i64 (j877:Int)),(112,.func 22 [] []),(10,.int .i64 (c14:Int)),(2,.int .i64 (b:Int)),(3,.func 22 [] []),(1,.int .i64 (a:Int)),(9,.int .i64 (i27:Int))]
       have g891:Grew Hx877 H879:=(gk st)
       have g892:OnlyS S H H879:=gt877.grewR g891
       have s893:=so877_0.grew g891
       have hlt894:j877 < L877.length:=by omega
       obtain⟨lS894,cap894,rest894,wr894,eS894,gS894⟩:=(s893.toL).isSl hlt894
       obtain⟨v894_0,v894_1,v894_2,hm894⟩:=qC (hr877_0.get hlt894)
       have he894:L877.getD j877 []=[.int .i32 v894_0,.int .i32 v894_1,.int .i32 v894_2]:=by rw [<- hm894,List.getD_eq_getElem?_getD,List.getElem?_eq_getElem hlt894];rfl
       have q895:=q878.app (kL:KdsL [K2,K2,K2] [.int .i32 v894_0,.int .i32 v894_1,.int .i32 v894_2])
       refine rF 1 0 [(.ia 3 (n1 0) (nI 18),.ptr 0 0)] [⟨lS894,(j877 * 3),[n2 19,n2 20,n2 21],false⟩] [(113,n1 0),(114,nI 18),(0,n1 0),(12,nI 18),(112,.fn 22 [] []),(10,nI 4),(2,nI 2),(3,.fn 22 [] []),(1,nI 1),(9,nI 6)] q895 (.cons (qA hr877_0 gS894 hlt894 rfl (by rw [hm894];exact(dL q895))) .nil) (.cons (qD (k:=j877) (dE q895) eS894 (dE q895) hlt894 rfl) .nil) B34 ?_
       refine qM kr fun vs ls H896 E896 st hE=>?_
       obtain⟨w898,hw898⟩:∃ z,z=(IntKind.wrap .i64 ((j877:Int) - 1)):=⟨_,rfl⟩
       have b899:E896 119=.int .i64 w898:=by rw [hw898];exact eo st hE 119 _
       have B35:=es st hE [(117,S),(112,.func 22 [] []),(116,.agg [.int .i32 v894_0,.int .i32 v894_1,.int .i32 v894_2]),(0,S),(12,.int .i64 (j877:Int)),(10,.int .i64 (c14:Int)),(2,.int .i64 (b:Int)),(3,.func 22 [] []),(1,.int .i64 (a:Int)),(9,.int .i64 (i27:Int))]
       have g909:Grew H879 H896:=(gk st)
       have g910:OnlyS S H H896:=g892.grewR g909
       have s912:=s893.grew g909
       have nw898:w898=((j877:Int) - 1):=hw898.trans (wI _ om om)
       obtain⟨k913,rfl⟩:∃ k:Nat,w898=(k:Int):=⟨Int.toNat w898,by omega⟩
       have hlt914:k913 < L877.length:=by omega
       obtain⟨lS914,cap914,rest914,wr914,eS914,gS914⟩:=(s912.toL).isSl hlt914
       obtain⟨v914_0,v914_1,v914_2,hm914⟩:=qC (hr877_0.get hlt914)
       have he914:L877.getD k913 []=[.int .i32 v914_0,.int .i32 v914_1,.int .i32 v914_2]:=by rw [<- hm914,List.getD_eq_getElem?_getD,List.getElem?_eq_getElem hlt914];rfl
       have q915:=q895.app (kL:KdsL [KI,K2,K2,K2,KI] [.int .i64 (k913:Int),.int .i32 v914_0,.int .i32 v914_1,.int .i32 v914_2,.int .i64 (zD v894_0 v894_1 v894_2 v914_0 v914_1 v914_2)])
       refine rF 1 0 [(.ia 3 (n1 0) (nI 22),.ptr 0 0),(.call 22 [.agg [n2 19,n2 20,n2 21],.agg [n2 23,n2 24,n2 25]],nI 26)] [⟨lS914,(k913 * 3),[n2 23,n2 24,n2 25],false⟩] [(117,n1 0),(112,.fn 22 [] []),(116,.agg [n2 19,n2 20,n2 21]),(0,n1 0),(12,nI 18),(10,nI 4),(2,nI 2),(3,.fn 22 [] []),(1,nI 1),(9,nI 6),(119,nI 22)] q915 (.cons (qA hr877_0 gS914 hlt914 rfl (by rw [hm914];exact(dL q915))) .nil) (.cons (qD (k:=k913) (dE q915) eS914 (dE q915) hlt914 rfl) (.cons (qI (args:=[.agg [.int .i32 v894_0,.int .i32 v894_1,.int .i32 v894_2],.agg [.int .i32 v914_0,.int .i32 v914_1,.int .i32 v914_2]]) (dL q915) (dE q915) (fun H9 hk=>qO H9 v894_0 v894_1 v894_2 v914_0 v914_1 v914_2)) .nil)) (sc B35 (.cons b899 .nil)) ?_
       refine vI kr ?_ ?_
       ·intro vs ls H916 E916 st hE
        have f917:¬ ((zD v894_0 v894_1 v894_2 v914_0 v914_1 v914_2) < 0):=df st 0
        obtain⟨w929,hw929⟩:∃ z,z=(decide ((zD v894_0 v894_1 v894_2 v914_0 v914_1 v914_2) < 0)):=⟨_,rfl⟩
        have b930:E916 123=.bool w929:=by rw [hw929];exact eo st hE 123 _
        obtain⟨w931,hw931⟩:∃ z,z=(!(decide ((zD v894_0 v894_1 v894_2 v914_0 v914_1 v914_2) < 0))):=⟨_,rfl⟩
        have b932:E916 124=.bool w931:=by rw [hw931];exact eo st hE 124 _
        have B36:=es st hE [(12,.int .i64 (j877:Int)),(2,.int .i64 (b:Int)),(3,.func 22 [] []),(0,S),(117,S),(119,.int .i64 (k913:Int)),(120,.ptr lS914 ((k913 * 3)+0)),(112,.func 22 [] []),(116,.agg [.int .i32 v894_0,.int .i32 v894_1,.int .i32 v894_2]),(121,.agg [.int .i32 v914_0,.int .i32 v914_1,.int .i32 v914_2]),(122,.int .i64 (zD v894_0 v894_1 v894_2 v914_0 v914_1 v914_2)),(10,.int .i64 (c14:Int)),(1,.int .i64 (a:Int)),(9,.int .i64 (i27:Int))]
        have g936:Grew H896 H916:=(gk st)
        have g937:OnlyS S H H916:=g910.grewR g936
        have r938:=g936.at gS914
        have s939:=s912.grew g936
        refine qQ (id:=6) kr ?_
        have q940:=q915.app (kL:KdsL [.bool,.bool] [.bool w929,.bool w931])
        refine rF 1 0 [] [⟨lS914,(k913 * 3),[n2 23,n2 24,n2 25],false⟩] [(12,nI 18),(2,nI 2),(3,.fn 22 [] []),(0,n1 0),(117,n1 0),(119,nI 22),(120,.ptr 0 0),(112,.fn 22 [] []),(116,.agg [n2 19,n2 20,n2 21]),(121,.agg [n2 23,n2 24,n2 25]),(122,nI 26),(10,nI 4),(1,nI 1),(9,nI 6),(123,nB 27),(124,nB 28)] q940 (.cons (qA hr877_0 r938 hlt914 rfl (by rw [hm914];exact(dL q940))) .nil) .nil (sc B36 (.cons b930 (.cons b932 .nil))) ?_
        refine qM kr fun vs ls H941 E941 st hE=>?_
        have b942:=eo st hE 10 (.int .i64 (c14:Int))
        have b943:=eo st hE 2 (.int .i64 (b:Int))
        have b944:=eo st hE 3 (.func 22 [] [])
        have b945:=eo st hE 0 S
        have b946:=eo st hE 1 (.int .i64 (a:Int))
        have b947:=eo st hE 9 (.int .i64 (i27:Int))
        have g948:Grew H916 H941:=(gk st)
        have g949:OnlyS S H H941:=g937.grewR g948
        have s951:=s939.grew g948
        exact qZ kr ⟨L877,b943,b944,b945,b942,b946,b947,g949,s951,hr877_0,⟨hstL877,hsrL877⟩⟩
       ·intro vs ls H952 E952 st hE
        have f953:(zD v894_0 v894_1 v894_2 v914_0 v914_1 v914_2) < 0:=dt st 0
        obtain⟨w955,hw955⟩:∃ z,z=(IntKind.wrap .i64 ((j877:Int) - 1)):=⟨_,rfl⟩
        have b956:E952 132=.int .i64 w955:=by rw [hw955];exact eo st hE 132 _
        have b962:E952 129=.int .i64 w955:=by rw [hw955];exact eo st hE 129 _
        have B37:=es st hE [(130,S),(0,S),(12,.int .i64 (j877:Int)),(125,S),(126,.int .i64 (j877:Int)),(127,S),(10,.int .i64 (c14:Int)),(2,.int .i64 (b:Int)),(3,.func 22 [] []),(1,.int .i64 (a:Int)),(9,.int .i64 (i27:Int))]
        have g968:Grew H896 H952:=(gk st)
        have g969:OnlyS S H H952:=g910.grewR g968
        have s971:=s912.grew g968
        have nw955:w955=((j877:Int) - 1):=hw955.trans (wI _ om om)
        obtain rfl:w955=(k913:Int):=by omega
        have hlt972:k913 < L877.length:=by omega
        obtain⟨lS972,cap972,rest972,wr972,eS972,gS972⟩:=(s971.toL).isSl hlt972
        obtain⟨v972_0,v972_1,v972_2,hm972⟩:=qC (hr877_0.get hlt972)
        have he972:L877.getD k913 []=[.int .i32 v972_0,.int .i32 v972_1,.int .i32 v972_2]:=by rw [<- hm972,List.getD_eq_getElem?_getD,List.getElem?_eq_getElem hlt972];rfl
        have hq972:=he914.symm.trans he972
        simp only [List.cons.injEq,AV.flt.injEq,AV.int.injEq,Int.natCast_inj,true_and,and_true] at hq972
        obtain⟨rfl,rfl,rfl⟩:=hq972
        have q973:=q915.app (kL:KdsL [KI,K2,K2,K2] [.int .i64 (k913:Int),.int .i32 v914_0,.int .i32 v914_1,.int .i32 v914_2])
        refine rF 1 0 [(.ia 3 (n1 0) (nI 27),.ptr 0 0)] [⟨lS972,(k913 * 3),[n2 28,n2 29,n2 30],false⟩] [(130,n1 0),(0,n1 0),(12,nI 18),(125,n1 0),(126,nI 18),(127,n1 0),(10,nI 4),(2,nI 2),(3,.fn 22 [] []),(1,nI 1),(9,nI 6),(132,nI 27),(129,nI 27)] q973 (.cons (qA hr877_0 gS972 hlt972 rfl (by rw [hm972];exact(dL q973))) .nil) (.cons (qD (k:=k913) (dE q973) eS972 (dE q973) hlt972 rfl) .nil) (sc B37 (.cons b956 (.cons b962 .nil))) ?_
        refine qM kr fun vs ls H974 E974 st hE=>?_
        have B38:=es st hE [(135,S),(136,.int .i64 (j877:Int)),(125,S),(126,.int .i64 (j877:Int)),(134,.agg [.int .i32 v914_0,.int .i32 v914_1,.int .i32 v914_2]),(127,S),(129,.int .i64 (k913:Int)),(12,.int .i64 (j877:Int)),(10,.int .i64 (c14:Int)),(2,.int .i64 (b:Int)),(3,.func 22 [] []),(0,S),(1,.int .i64 (a:Int)),(9,.int .i64 (i27:Int))]
        have g989:Grew H952 H974:=(gk st)
        have g990:OnlyS S H H974:=g969.grewR g989
        have s992:=s971.grew g989
        have hlt993:j877 < L877.length:=by omega
        obtain⟨lS993,cap993,rest993,wr993,eS993,gS993⟩:=(s992.toL).isSl hlt993
        obtain⟨v993_0,v993_1,v993_2,hm993⟩:=qC (hr877_0.get hlt993)
        have he993:L877.getD j877 []=[.int .i32 v993_0,.int .i32 v993_1,.int .i32 v993_2]:=by rw [<- hm993,List.getD_eq_getElem?_getD,List.getElem?_eq_getElem hlt993];rfl
        have hq993:=he894.symm.trans he993
        simp only [List.cons.injEq,AV.flt.injEq,AV.int.injEq,Int.natCast_inj,true_and,and_true] at hq993
        obtain⟨rfl,rfl,rfl⟩:=hq993
        have q994:=q973.app (kL:KdsL [K2,K2,K2] [.int .i32 v894_0,.int .i32 v894_1,.int .i32 v894_2])
        refine rF 1 0 [(.ia 3 (n1 0) (nI 18),.ptr 0 0)] [⟨lS993,(j877 * 3),[n2 31,n2 32,n2 33],false⟩] [(135,n1 0),(136,nI 18),(125,n1 0),(126,nI 18),(134,.agg [n2 28,n2 29,n2 30]),(127,n1 0),(129,nI 27),(12,nI 18),(10,nI 4),(2,nI 2),(3,.fn 22 [] []),(0,n1 0),(1,nI 1),(9,nI 6)] q994 (.cons (qA hr877_0 gS993 hlt993 rfl (by rw [hm993];exact(dL q994))) .nil) (.cons (qD (k:=j877) (dE q994) eS993 (dE q994) hlt993 rfl) .nil) B38 ?_
        refine qM kr fun vs ls H995 E995 st hE=>?_
        have b996:=eo st hE 139 (.ptr lS993 ((j877 * 3)+0))
        have b997:=eo st hE 134 (.agg [.int .i32 v914_0,.int .i32 v914_1,.int .i32 v914_2])
        have B39:=es st hE [(134,.agg [.int .i32 v914_0,.int .i32 v914_1,.int .i32 v914_2]),(127,S),(129,.int .i64 (k913:Int)),(138,.agg [.int .i32 v894_0,.int .i32 v894_1,.int .i32 v894_2]),(12,.int .i64 (j877:Int)),(10,.int .i64 (c14:Int)),(2,.int .i64 (b:Int)),(3,.func 22 [] []),(0,S),(1,.int .i64 (a:Int)),(9,.int .i64 (i27:Int))]
        have g1008:Grew H974 H995:=(gk st)
        have g1009:OnlyS S H H995:=g990.grewR g1008
        have s1011:=s992.grew g1008
        refine qH (d:=none) (n:=3) (x:=.tmp 139) (y:=.tmp 134) kr (S:=S) (ms:=L877) (k:=j877) (m':=[.int .i32 v914_0,.int .i32 v914_1,.int .i32 v914_2]) (s1011) eS993 b996 hlt993 hr877_0.len (by show AV.cells (E995 134)=_;rw [b997];rfl) rfl rfl rfl ?_
        intro H1012 s1012 oo1012
        have hln1012:(L877.set j877 [.int .i32 v914_0,.int .i32 v914_1,.int .i32 v914_2]).length=L877.length:=by simp
        have g1013:OnlyS S H H1012:=g1009.trans oo1012
        refine rC 0 0 [] [(134,.agg [n2 28,n2 29,n2 30]),(127,n1 0),(129,nI 27),(138,.agg [n2 31,n2 32,n2 33]),(12,nI 18),(10,nI 4),(2,nI 2),(3,.fn 22 [] []),(0,n1 0),(1,nI 1),(9,nI 6)] q994 (sn B39) ?_
        refine qM kr fun vs ls H1015 E1015 st hE=>?_
        have B40:=es st hE [(127,S),(129,.int .i64 (k913:Int)),(138,.agg [.int .i32 v894_0,.int .i32 v894_1,.int .i32 v894_2]),(12,.int .i64 (j877:Int)),(10,.int .i64 (c14:Int)),(2,.int .i64 (b:Int)),(3,.func 22 [] []),(0,S),(1,.int .i64 (a:Int)),(9,.int .i64 (i27:Int))]
        have g1026:Grew H1012 H1015:=(gk st)
        have g1027:OnlyS S H H1015:=g1013.grewR g1026
        have s1028:=s1012.grew g1026
        have hlt1029:k913 < (L877.set j877 [.int .i32 v914_0,.int .i32 v914_1,.int .i32 v914_2]).length:=by omega
        obtain⟨lS1029,cap1029,rest1029,wr1029,eS1029,gS1029⟩:=(s1028.toL).isSl hlt1029
        obtain⟨v1029_0,v1029_1,v1029_2,hm1029⟩:=qC ((qL.set hr877_0 (.cons kA (.cons kA (.cons kA .nil)))).get hlt1029)
        have he1029:(L877.set j877 [.int .i32 v914_0,.int .i32 v914_1,.int .i32 v914_2]).getD k913 []=[.int .i32 v1029_0,.int .i32 v1029_1,.int .i32 v1029_2]:=by rw [<- hm1029,List.getD_eq_getElem?_getD,List.getElem?_eq_getElem hlt1029];rfl
        have q1030:=q994.app (kL:KdsL [K2,K2,K2] [.int .i32 v1029_0,.int .i32 v1029_1,.int .i32 v1029_2])
        refine rF 1 0 [(.ia 3 (n1 0) (nI 27),.ptr 0 0)] [⟨lS1029,(k913 * 3),[n2 34,n2 35,n2 36],false⟩] [(127,n1 0),(129,nI 27),(138,.agg [n2 31,n2 32,n2 33]),(12,nI 18),(10,nI 4),(2,nI 2),(3,.fn 22 [] []),(0,n1 0),(1,nI 1),(9,nI 6)] q1030 (.cons (qA (qL.set hr877_0 (.cons kA (.cons kA (.cons kA .nil)))) gS1029 hlt1029 rfl (by rw [hm1029];exact(dL q1030))) .nil) (.cons (qD (k:=k913) (dE q1030) eS1029 (dE q1030) hlt1029 rfl) .nil) B40 ?_
        refine qM kr fun vs ls H1031 E1031 st hE=>?_
        have b1032:=eo st hE 140 (.ptr lS1029 ((k913 * 3)+0))
        have b1033:=eo st hE 138 (.agg [.int .i32 v894_0,.int .i32 v894_1,.int .i32 v894_2])
        have B41:=es st hE [(138,.agg [.int .i32 v894_0,.int .i32 v894_1,.int .i32 v894_2]),(12,.int .i64 (j877:Int)),(10,.int .i64 (c14:Int)),(2,.int .i64 (b:Int)),(3,.func 22 [] []),(0,S),(1,.int .i64 (a:Int)),(9,.int .i64 (i27:Int))]
        have g1041:Grew H1015 H1031:=(gk st)
        have g1042:OnlyS S H H1031:=g1027.grewR g1041
        have s1044:=s1028.grew g1041
        refine qH (d:=none) (n:=3) (x:=.tmp 140) (y:=.tmp 138) kr (S:=S) (ms:=(L877.set j877 [.int .i32 v914_0,.int .i32 v914_1,.int .i32 v914_2])) (k:=k913) (m':=[.int .i32 v894_0,.int .i32 v894_1,.int .i32 v894_2]) (s1044) eS1029 b1032 hlt1029 (qL.set hr877_0 (.cons kA (.cons kA (.cons kA .nil)))).len (by show AV.cells (E1031 138)=_;rw [b1033];rfl) rfl rfl rfl ?_
        intro H1045 s1045 oo1045
        have hln1045:((L877.set j877 [.int .i32 v914_0,.int .i32 v914_1,.int .i32 v914_2]).set k913 [.int .i32 v894_0,.int .i32 v894_1,.int .i32 v894_2]).length=(L877.set j877 [.int .i32 v914_0,.int .i32 v914_1,.int .i32 v914_2]).length:=by simp
        have g1046:OnlyS S H H1045:=g1042.trans oo1045
        refine rC 0 0 [] [(138,.agg [n2 31,n2 32,n2 33]),(12,nI 18),(10,nI 4),(2,nI 2),(3,.fn 22 [] []),(0,n1 0),(1,nI 1),(9,nI 6)] q1030 (sn B41) ?_
        refine qM kr fun vs ls H1048 E1048 st hE=>?_
        obtain⟨w1049,hw1049⟩:∃ z,z=(IntKind.wrap .i64 ((j877:Int)+1)):=⟨_,rfl⟩
        have b1050:E1048 12=.int .i64 w1049:=by rw [hw1049];exact eo st hE 12 _
        have b1051:=eo st hE 2 (.int .i64 (b:Int))
        have b1052:=eo st hE 3 (.func 22 [] [])
        have b1053:=eo st hE 0 S
        have b1054:=eo st hE 10 (.int .i64 (c14:Int))
        have b1055:=eo st hE 1 (.int .i64 (a:Int))
        have b1056:=eo st hE 9 (.int .i64 (i27:Int))
        have g1057:Grew H1045 H1048:=(gk st)
        have g1058:OnlyS S H H1048:=g1046.grewR g1057
        have s1059:=s1045.grew g1057
        have nw1049:w1049=((j877:Int)+1):=hw1049.trans (wI _ om om)
        obtain⟨k1060,hk1060⟩:∃ k:Nat,w1049=(k:Int):=⟨Int.toNat w1049,by omega⟩
        have hsw9:((L877.set j877 [.int .i32 v914_0,.int .i32 v914_1,.int .i32 v914_2]).set k913 [.int .i32 v894_0,.int .i32 v894_1,.int .i32 v894_2])=swp L877 j877 k913:=by unfold swp;rw [he993,he972]
        have hm9:b - k1060 < z877:=by omega
        exact qP kr ⟨b - k1060,hm9,k1060,((L877.set j877 [.int .i32 v914_0,.int .i32 v914_1,.int .i32 v914_2]).set k913 [.int .i32 v894_0,.int .i32 v894_1,.int .i32 v894_2]),rfl,b1051,b1052,b1053,b1054,b1055,b1056,(b1050.trans (by rw [hk1060])),g1058,s1059,(qL.set (qL.set hr877_0 (.cons kA (.cons kA (.cons kA .nil)))) (.cons kA (.cons kA (.cons kA .nil)))),⟨by omega,by rw [hsw9];exact hstL877.trans (Pt2.swap om om om om om),by rw [hsw9];exact hsrL877.swp om om om om⟩⟩
      ·intro vs ls H1061 E1061 st hE
       have f1062:¬ ((j877:Int) < (b:Int)):=df st 0
       obtain⟨w1067,hw1067⟩:∃ z,z=(decide ((j877:Int) < (b:Int))):=⟨_,rfl⟩
       have b1068:E1061 109=.bool w1067:=by rw [hw1067];exact eo st hE 109 _
       have B42:=es st hE [(12,.int .i64 (j877:Int)),(2,.int .i64 (b:Int)),(107,.int .i64 (j877:Int)),(108,.int .i64 (b:Int)),(3,.func 22 [] []),(0,S),(10,.int .i64 (c14:Int)),(1,.int .i64 (a:Int)),(9,.int .i64 (i27:Int))]
       have g1074:Grew Hx877 H1061:=(gk st)
       have g1075:OnlyS S H H1061:=gt877.grewR g1074
       have s1076:=so877_0.grew g1074
       refine qQ (id:=6) kr ?_
       have q1077:=q878.app (kL:KdsL [.bool] [.bool w1067])
       refine rC 0 0 [] [(12,nI 18),(2,nI 2),(107,nI 18),(108,nI 2),(3,.fn 22 [] []),(0,n1 0),(10,nI 4),(1,nI 1),(9,nI 6),(109,nB 19)] q1077 (sc B42 (.cons b1068 .nil)) ?_
       refine qM kr fun vs ls H1078 E1078 st hE=>?_
       have b1079:=eo st hE 10 (.int .i64 (c14:Int))
       have b1080:=eo st hE 2 (.int .i64 (b:Int))
       have b1081:=eo st hE 3 (.func 22 [] [])
       have b1082:=eo st hE 0 S
       have b1083:=eo st hE 1 (.int .i64 (a:Int))
       have b1084:=eo st hE 9 (.int .i64 (i27:Int))
       have g1085:Grew H1061 H1078:=(gk st)
       have g1086:OnlyS S H H1078:=g1075.grewR g1085
       have s1087:=s1076.grew g1085
       exact qZ kr ⟨L877,b1080,b1081,b1082,b1079,b1083,b1084,g1086,s1087,hr877_0,⟨hstL877,hsrL877⟩⟩
     ·rintro E863 Hx863 ⟨L863,c863_2,c863_3,c863_0,c863_10,c863_1,c863_9,gt863,so863_0,hr863_0,iv863⟩
      obtain⟨hstL863,hsrL863⟩:=iv863
      have hlL863:=hstL863.len
      have q1088:=q328.app (kL:KdsL [KI] [.int .i64 w852])
      refine rC 0 0 [] [(2,nI 2),(3,.fn 22 [] []),(0,n1 0),(10,nI 4),(1,nI 1),(9,nI 6)] q1088 (.cons c863_2 (.cons c863_3 (.cons c863_0 (.cons c863_10 (.cons c863_1 (.cons c863_9 .nil)))))) ?_
      refine qM kr fun vs ls H1089 E1089 st hE=>?_
      obtain⟨w1090,hw1090⟩:∃ z,z=(IntKind.wrap .i64 ((c14:Int)+1)):=⟨_,rfl⟩
      have b1091:E1089 10=.int .i64 w1090:=by rw [hw1090];exact eo st hE 10 _
      have b1092:=eo st hE 9 (.int .i64 (i27:Int))
      have b1093:=eo st hE 2 (.int .i64 (b:Int))
      have b1094:=eo st hE 3 (.func 22 [] [])
      have b1095:=eo st hE 0 S
      have b1096:=eo st hE 1 (.int .i64 (a:Int))
      have g1097:Grew Hx863 H1089:=(gk st)
      have g1098:OnlyS S H H1089:=gt863.grewR g1097
      have s1099:=so863_0.grew g1097
      have nw1090:w1090=((c14:Int)+1):=hw1090.trans (wI _ om om)
      obtain⟨k1100,hk1100⟩:∃ k:Nat,w1090=(k:Int):=⟨Int.toNat w1090,by omega⟩
      have hm9:5 - k1100 < z14:=by omega
      exact qP kr ⟨5 - k1100,hm9,k1100,i27,L863,rfl,b1093,b1094,b1095,b1096,(b1091.trans (by rw [hk1100])),b1092,g1098,s1099,hr863_0,⟨⟨by omega,by omega,by omega⟩,hstL863,by rw [show i27=i27 by omega];exact hsrL863⟩⟩
    ·intro vs ls H1101 E1101 st hE
     have f1102:(IntKind.wrap .i64 ((b:Int) - (i27:Int))) < 2:=dt st 0
     rw [wI ((b:Int) - (i27:Int)) om om] at f1102
     have f1103:(IntKind.wrap .i64 ((i27:Int) - (a:Int))) < 2:=dt st 1
     rw [wI ((i27:Int) - (a:Int)) om om] at f1103
     obtain⟨w1104,hw1104⟩:∃ z,z=(IntKind.wrap .i64 ((c14:Int)+1)):=⟨_,rfl⟩
     have b1105:E1101 10=.int .i64 w1104:=by rw [hw1104];exact eo st hE 10 _
     have b1106:=eo st hE 9 (.int .i64 (i27:Int))
     have b1107:=eo st hE 2 (.int .i64 (b:Int))
     have b1108:=eo st hE 3 (.func 22 [] [])
     have b1109:=eo st hE 0 S
     have b1110:=eo st hE 1 (.int .i64 (a:Int))
     have g1111:Grew H342 H1101:=(gk st)
     have g1112:OnlyS S H H1101:=g343.grewR g1111
     have s1113:=s342.grew g1111
     have nw1104:w1104=((c14:Int)+1):=hw1104.trans (wI _ om om)
     obtain⟨k1114,hk1114⟩:∃ k:Nat,w1104=(k:Int):=⟨Int.toNat w1104,by omega⟩
     have hsw9:((L14.set i27 [.int .i32 v273_0,.int .i32 v273_1,.int .i32 v273_2]).set k272 [.int .i32 v293_0,.int .i32 v293_1,.int .i32 v293_2])=swp L14 i27 k272:=by unfold swp;rw [he293,he273]
     have hst1:Pt2 a b L0 ((L14.set i27 [.int .i32 v273_0,.int .i32 v273_1,.int .i32 v273_2]).set k272 [.int .i32 v293_0,.int .i32 v293_1,.int .i32 v293_2]):=by rw [hsw9];exact hstL14.trans (Pt2.swap om om om om om)
     have hsr1:yM κ a (i27 - 1) ((L14.set i27 [.int .i32 v273_0,.int .i32 v273_1,.int .i32 v273_2]).set k272 [.int .i32 v293_0,.int .i32 v293_1,.int .i32 v293_2]):=by rw [hsw9];exact(hsri27.sub (Nat.le_refl _) om).swp om om om om
     have hsr2:yM κ a i27 ((L14.set i27 [.int .i32 v273_0,.int .i32 v273_1,.int .i32 v273_2]).set k272 [.int .i32 v293_0,.int .i32 v293_1,.int .i32 v293_2]):=.one _ om
     have hm9:5 - k1114 < z14:=by omega
     exact qP kr ⟨5 - k1114,hm9,k1114,i27,((L14.set i27 [.int .i32 v273_0,.int .i32 v273_1,.int .i32 v273_2]).set k272 [.int .i32 v293_0,.int .i32 v293_1,.int .i32 v293_2]),rfl,b1107,b1108,b1109,b1110,(b1105.trans (by rw [hk1114])),b1106,g1112,s1113,(qL.set (qL.set hr14_0 (.cons kA (.cons kA (.cons kA .nil)))) (.cons kA (.cons kA (.cons kA .nil)))),⟨⟨by omega,by omega,by omega⟩,hst1,by rw [show i27=i27 by omega];exact hsr2⟩⟩
 ·intro vs ls H1115 E1115 st hE
  have f1116:¬ ((c14:Int) < 5):=df st 0
  obtain⟨w1119,hw1119⟩:∃ z,z=(decide ((c14:Int) < 5)):=⟨_,rfl⟩
  have b1120:E1115 16=.bool w1119:=by rw [hw1119];exact eo st hE 16 _
  have B43:=es st hE [(10,.int .i64 (c14:Int)),(15,.int .i64 (c14:Int)),(9,.int .i64 (i14:Int)),(2,.int .i64 (b:Int)),(3,.func 22 [] []),(0,S),(1,.int .i64 (a:Int))]
  have g1126:Grew Hx14 H1115:=(gk st)
  have g1127:OnlyS S H H1115:=gt14.grewR g1126
  have s1128:=so14_0.grew g1126
  refine qQ (id:=0) kr ?_
  have q1129:=q15.app (kL:KdsL [.bool] [.bool w1119])
  refine rC 0 0 [] [(10,nI 4),(15,nI 4),(9,nI 5),(2,nI 2),(3,.fn 22 [] []),(0,n1 0),(1,nI 1),(16,nB 6)] q1129 (sc B43 (.cons b1120 .nil)) ?_
  refine qM kr fun vs ls H1130 E1130 st hE=>?_
  have gz:OnlyS S H H1130:=(g1127.grewR (gk st))
  exact re st hE (.bool false) gz.next ⟨gz,_,_,rfl,(s1128.grew (st.inn.kept.grew (Nat.le_refl _))),hr14_0,hstL14,fun h=>by cases h⟩
theorem qFy {S:AV} {H H' : AHeap} (h:Only2 S S H H'):OnlyS S H H':=⟨h.next,fun l hl hn=>h.get l hl hn hn⟩
theorem uO {S:AV} {l:Nat} (h:ApartL S l):ApartS S (PT l):=⟨fun q h1 h2=>h.ne (by have:=atS h2;subst this;exact h1)⟩
theorem kE {b l:Nat} (h:b<=l):FreshS b (PT l):=⟨fun q hq=>by rw [atS hq];exact h⟩
def tbC:List (Nat × AFun):=tb.filter fun p=>!(p.1 == 74 || p.1 == 72 || p.1 == 71)
theorem mA:qAA Try.prog tbC:=fun f a h=>jR f a (List.mem_filter.1 h).1
def pmC (fl:Nat) (ru:List (RK × SV)) (un:Nat):Pm:=⟨fl,ru,tbC,ap,un⟩
theorem qHn (H:AHeap) (ms:LL) (hr:qL KC ms) (S:AV) (hS:SlF H 3 ms S) (hmx:ms.length < 2^20) (lc:Nat) (c:Int) (hc:H.get lc=some (.row [.int .i64 c] true)) (hap:ApartL S lc) (i j:Nat) (hi:i < ms.length) (hj:j < ms.length):qK Try.prog 74 [S,.int .i64 (i:Int),.int .i64 (j:Int),.ptr lc 0,.func 22 [] []] H fun r H'=>OnlyS (PT lc) H H' /\ ∃ (x y:Nat) (c' : Int),r=.tuple [.int .i64 (x:Int),.int .i64 (y:Int)]/\((x=i/\y=j) \/ (x=j/\y=i))/\H'.get lc=some (.row [.int .i64 c'] true):=by
 refine qN xR (by simp) ?_
 have q1:KdsL [.one,KI,KI,KI] [S,.int .i64 (i:Int),.int .i64 (j:Int),.int .i64 c]:=kL
 refine rF 1 0 [] [wf lc [nI 3]] [(0,n1 0),(1,nI 1),(2,nI 2),(3,.ptr 0 0),(4,.fn 22 [] [])] q1 (.cons (wR hc q1) .nil) .nil (.cons (t:=0) rfl (.cons (t:=1) rfl (.cons (t:=2) rfl (.cons (t:=3) rfl (.cons (t:=4) rfl .nil))))) ?_
 refine qM kr fun vs ls H2 E2 st hE=>?_
 have B1:=es st hE [(13,S),(14,.int .i64 (j:Int)),(0,S),(1,.int .i64 (i:Int)),(12,.func 22 [] []),(3,.ptr lc 0),(2,.int .i64 (j:Int))]
 have g10:Grew H H2:=(gk st)
 have g11:Only2 (PT lc) (PT lc) H H2:=(Only2.refl _ _ _).grewR g10
 have r12:=g10.at hc
 have s13:=hS.grew g10
 have hlt14:j < ms.length:=by omega
 obtain⟨lS14,cap14,rest14,wr14,eS14,gS14⟩:=(s13.toL).isSl hlt14
 have ne15:Apart lc lS14:=⟨fun e=>(show ApartL (S) lc by assumption).ne ⟨0,_,_,_,by rw [e];exact eS14⟩⟩
 obtain⟨v14_0,v14_1,v14_2,hm14⟩:=qC (hr.get hlt14)
 have he14:ms.getD j []=[.int .i32 v14_0,.int .i32 v14_1,.int .i32 v14_2]:=by rw [<- hm14,List.getD_eq_getElem?_getD,List.getElem?_eq_getElem hlt14];rfl
 have q16:=q1.app (kL:KdsL [K2,K2,K2] [.int .i32 v14_0,.int .i32 v14_1,.int .i32 v14_2])
 refine rF 2 0 [(.ia 3 (n1 0) (nI 2),.ptr 1 0)] [wf lc [nI 3],⟨lS14,(j * 3),[n2 4,n2 5,n2 6],false⟩] [(13,n1 0),(14,nI 2),(0,n1 0),(1,nI 1),(12,.fn 22 [] []),(3,.ptr 0 0),(2,nI 2)] q16 (.cons (wR r12 q16) (.cons (qA hr gS14 hlt14 rfl (by rw [hm14];exact(dL q16))) .nil)) (.cons (qD (k:=j) (dE q16) eS14 (dE q16) hlt14 rfl) .nil) B1 ?_
 refine qM kr fun vs ls H17 E17 st hE=>?_
 have B2:=es st hE [(17,S),(18,.int .i64 (i:Int)),(12,.func 22 [] []),(16,.agg [.int .i32 v14_0,.int .i32 v14_1,.int .i32 v14_2]),(3,.ptr lc 0),(2,.int .i64 (j:Int)),(1,.int .i64 (i:Int))]
 have g25:Grew H2 H17:=(gk st)
 have g26:Only2 (PT lc) (PT lc) H H17:=g11.grewR g25
 have r27:=g25.at r12
 have s29:=s13.grew g25
 have hlt30:i < ms.length:=by omega
 obtain⟨lS30,cap30,rest30,wr30,eS30,gS30⟩:=(s29.toL).isSl hlt30
 have ne31:Apart lc lS30:=⟨fun e=>(show ApartL (S) lc by assumption).ne ⟨0,_,_,_,by rw [e];exact eS30⟩⟩
 obtain⟨v30_0,v30_1,v30_2,hm30⟩:=qC (hr.get hlt30)
 have he30:ms.getD i []=[.int .i32 v30_0,.int .i32 v30_1,.int .i32 v30_2]:=by rw [<- hm30,List.getD_eq_getElem?_getD,List.getElem?_eq_getElem hlt30];rfl
 have q32:=q16.app (kL:KdsL [K2,K2,K2,KI] [.int .i32 v30_0,.int .i32 v30_1,.int .i32 v30_2,.int .i64 (zD v14_0 v14_1 v14_2 v30_0 v30_1 v30_2)])
 refine rF 1 0 [] [⟨lS30,(i * 3),[n2 7,n2 8,n2 9],false⟩,⟨lc,0,[nI 3],true⟩] [(17,n1 0),(18,nI 1),(12,.fn 22 [] []),(16,.agg [n2 4,n2 5,n2 6]),(3,.ptr 1 0),(2,nI 2),(1,nI 1)] q32 (.cons (qA hr gS30 hlt30 rfl (by rw [hm30];exact(dL q32))) (.cons (wO r27 q32) .nil)) .nil B2 ?_
 refine qM kr fun vs ls H33 E33 st hE=>?_
 have B3:=es st hE [(17,S),(18,.int .i64 (i:Int)),(12,.func 22 [] []),(16,.agg [.int .i32 v14_0,.int .i32 v14_1,.int .i32 v14_2]),(3,.ptr lc 0),(2,.int .i64 (j:Int)),(1,.int .i64 (i:Int))]
 have g41:Grew H17 H33:=(gk st)
 have g42:Only2 (PT lc) (PT lc) H H33:=g26.grewR g41
 have r44:=g41.at r27
 have s45:=s29.grew g41
 have hlt46:i < ms.length:=by omega
 obtain⟨lS46,cap46,rest46,wr46,eS46,gS46⟩:=(s45.toL).isSl hlt46
 have ne47:Apart lc lS46:=⟨fun e=>(show ApartL (S) lc by assumption).ne ⟨0,_,_,_,by rw [e];exact eS46⟩⟩
 obtain⟨v46_0,v46_1,v46_2,hm46⟩:=qC (hr.get hlt46)
 have he46:ms.getD i []=[.int .i32 v46_0,.int .i32 v46_1,.int .i32 v46_2]:=by rw [<- hm46,List.getD_eq_getElem?_getD,List.getElem?_eq_getElem hlt46];rfl
 have hq46:=he30.symm.trans he46
 simp only [List.cons.injEq,AV.flt.injEq,AV.int.injEq,Int.natCast_inj,true_and,and_true] at hq46
 obtain⟨rfl,rfl,rfl⟩:=hq46
 have q48:=q32.app (kL:KdsL [K2,K2,K2,KI] [.int .i32 v30_0,.int .i32 v30_1,.int .i32 v30_2,.int .i64 (zD v14_0 v14_1 v14_2 v30_0 v30_1 v30_2)])
 refine rF 1 0 [(.ia 3 (n1 0) (nI 1),.ptr 0 0),(.call 22 [.agg [n2 4,n2 5,n2 6],.agg [n2 11,n2 12,n2 13]],nI 14)] [⟨lS46,(i * 3),[n2 11,n2 12,n2 13],false⟩,⟨lc,0,[nI 3],true⟩] [(17,n1 0),(18,nI 1),(12,.fn 22 [] []),(16,.agg [n2 4,n2 5,n2 6]),(3,.ptr 1 0),(2,nI 2),(1,nI 1)] q48 (.cons (qA hr gS46 hlt46 rfl (by rw [hm46];exact(dL q48))) (.cons (wO r44 q48) .nil)) (.cons (qD (k:=i) (dE q48) eS46 (dE q48) hlt46 rfl) (.cons (qI (args:=[.agg [.int .i32 v14_0,.int .i32 v14_1,.int .i32 v14_2],.agg [.int .i32 v30_0,.int .i32 v30_1,.int .i32 v30_2]]) (dL q48) (dE q48) (fun H9 hk=>qO H9 v14_0 v14_1 v14_2 v30_0 v30_1 v30_2)) .nil)) B3 ?_
 refine vI kr ?_ ?_
 ·intro vs ls H49 E49 st hE
  have f50:(zD v14_0 v14_1 v14_2 v30_0 v30_1 v30_2) < 0:=dt st 0
  have g9:Only2 (PT lc) (PT lc) H H49:=(qHI g42 (st.inn.kept) ⟨(.inl rfl),trivial⟩)
  have r9:H49.get lc=some (.row [.int .i64 (IntKind.wrap .i64 (c+1))] true):=rW st 1
  exact zF kr (qS st.inn hE (.inr rfl) (a:=.tuple [.int .i64 (j:Int),.int .i64 (i:Int)]) kr g9.next ⟨qFy g9,j,i,_,rfl,.inr ⟨rfl,rfl⟩,r9⟩)
 ·intro vs ls H51 E51 st hE
  have f52:¬ ((zD v14_0 v14_1 v14_2 v30_0 v30_1 v30_2) < 0):=df st 0
  have g9:Only2 (PT lc) (PT lc) H H51:=(g42.grewR (gk st))
  have r9:=(gk st).at r44
  exact zF kr (qS st.inn hE (.inr rfl) (a:=.tuple [.int .i64 (i:Int),.int .i64 (j:Int)]) kr g9.next ⟨qFy g9,i,j,_,rfl,.inl ⟨rfl,rfl⟩,r9⟩)
theorem qKd (H:AHeap) (ms:LL) (hr:qL KC ms) (S:AV) (hS:SlF H 3 ms S) (hmx:ms.length < 2^20) (lc:Nat) (c:Int) (hc:H.get lc=some (.row [.int .i64 c] true)) (hap:ApartL S lc) (i j k:Nat) (hi:i < ms.length) (hj:j < ms.length) (hk:k < ms.length):qK Try.prog 72 [S,.int .i64 (i:Int),.int .i64 (j:Int),.int .i64 (k:Int),.ptr lc 0,.func 22 [] []] H fun r H'=>OnlyS (PT lc) H H' /\ ∃ (x:Nat) (c' : Int),r=.int .i64 (x:Int)/\(x=i \/ x=j \/ x=k)/\H'.get lc=some (.row [.int .i64 c'] true):=by
 refine qN xQ (by simp) ?_
 have q1:KdsL [.one,KI,KI,KI,KI] [S,.int .i64 (i:Int),.int .i64 (j:Int),.int .i64 (k:Int),.int .i64 c]:=kL
 refine rG mA 1 0 [] [wf lc [nI 4]] [(0,n1 0),(1,nI 1),(2,nI 2),(3,nI 3),(4,.ptr 0 0),(5,.fn 22 [] [])] q1 (.cons (wR hc q1) .nil) .nil (.cons (t:=0) rfl (.cons (t:=1) rfl (.cons (t:=2) rfl (.cons (t:=3) rfl (.cons (t:=4) rfl (.cons (t:=5) rfl .nil)))))) ?_
 refine qM kr fun vs ls H2 E2 st hE=>?_
 have b3:=eo st hE 14 S
 have b4:=eo st hE 15 (.int .i64 (i:Int))
 have b5:=eo st hE 16 (.int .i64 (j:Int))
 have b6:=eo st hE 17 (.ptr lc 0)
 have b7:=eo st hE 18 (.func 22 [] [])
 have B1:=es st hE [(14,S),(15,.int .i64 (i:Int)),(16,.int .i64 (j:Int)),(17,.ptr lc 0),(18,.func 22 [] []),(0,S),(2,.int .i64 (j:Int)),(3,.int .i64 (k:Int)),(4,.ptr lc 0),(5,.func 22 [] []),(1,.int .i64 (i:Int))]
 have g14:Grew H H2:=(gk st)
 have g15:Only2 (PT lc) (PT lc) H H2:=(Only2.refl _ _ _).grewR g14
 have r16:=g14.at hc
 have s17:=hS.grew g14
 refine qR (d:=(some 19)) (f:=74) (args:=[.tmp 14,.tmp 15,.tmp 16,.tmp 17,.tmp 18]) kr (R:=fun z H'=>OnlyS (PT lc) H2 H' /\ ∃ y0 y1 c',z=.tuple [.int .i64 ((y0:Nat):Int),.int .i64 ((y1:Nat):Int)]/\((y0=i/\y1=j) \/ (y0=j/\y1=i))/\H'.get lc=some (.row [.int .i64 c'] true)) ?_ ?_
 ·show qK _ _ [E2 14,E2 15,E2 16,E2 17,E2 18] _ _
  rw [b3,b4,b5,b6,b7]
  exact(qHn H2 _ hr S s17 om lc c r16 am i j om om)
 rintro z H18 ⟨oo18,x18_0,x18_1,cc18,rfl,rl18,hc18⟩
 have g19:Only2 (PT lc) (PT lc) H H18:=g15.trans oo18
 have s20:=s17.only oo18 (uO am)
 have q21:=q1.app (kL:KdsL [KI,KI,KI] [.int .i64 (x18_0:Int),.int .i64 (x18_1:Int),.int .i64 cc18])
 refine rG mA 1 0 [] [wf lc [nI 7]] [(14,n1 0),(15,nI 1),(16,nI 2),(17,.ptr 0 0),(18,.fn 22 [] []),(0,n1 0),(2,nI 2),(3,nI 3),(4,.ptr 0 0),(5,.fn 22 [] []),(1,nI 1),(19,.tup [nI 5,nI 6])] q21 wA .nil (sc (sp B1) (.cons qJ .nil)) ?_
 refine qM kr fun vs ls H22 E22 st hE=>?_
 have b23:=eo st hE 23 S
 have b24:=eo st hE 24 (.int .i64 (x18_1:Int))
 have b25:=eo st hE 25 (.int .i64 (k:Int))
 have b26:=eo st hE 26 (.ptr lc 0)
 have b27:=eo st hE 27 (.func 22 [] [])
 have B2:=es st hE [(23,S),(24,.int .i64 (x18_1:Int)),(25,.int .i64 (k:Int)),(26,.ptr lc 0),(27,.func 22 [] []),(0,S),(1,.int .i64 (x18_0:Int)),(2,.int .i64 (x18_1:Int)),(4,.ptr lc 0),(5,.func 22 [] [])]
 have g33:Grew H18 H22:=(gk st)
 have g34:Only2 (PT lc) (PT lc) H H22:=g19.grewR g33
 have r35:=g33.at hc18
 have s36:=s20.grew g33
 refine qR (d:=(some 28)) (f:=74) (args:=[.tmp 23,.tmp 24,.tmp 25,.tmp 26,.tmp 27]) kr (R:=fun z H'=>OnlyS (PT lc) H22 H' /\ ∃ y0 y1 c',z=.tuple [.int .i64 ((y0:Nat):Int),.int .i64 ((y1:Nat):Int)]/\((y0=x18_1/\y1=k) \/ (y0=k/\y1=x18_1))/\H'.get lc=some (.row [.int .i64 c'] true)) ?_ ?_
 ·show qK _ _ [E22 23,E22 24,E22 25,E22 26,E22 27] _ _
  rw [b23,b24,b25,b26,b27]
  exact(qHn H22 _ hr S s36 om lc cc18 r35 am x18_1 k om om)
 rintro z H37 ⟨oo37,x37_0,x37_1,cc37,rfl,rl37,hc37⟩
 have g38:Only2 (PT lc) (PT lc) H H37:=g34.trans oo37
 have s39:=s36.only oo37 (uO am)
 have q40:=q21.app (kL:KdsL [KI,KI,KI] [.int .i64 (x37_0:Int),.int .i64 (x37_1:Int),.int .i64 cc37])
 refine rG mA 1 0 [] [wf lc [nI 10]] [(23,n1 0),(24,nI 6),(25,nI 3),(26,.ptr 0 0),(27,.fn 22 [] []),(0,n1 0),(1,nI 5),(2,nI 6),(4,.ptr 0 0),(5,.fn 22 [] []),(28,.tup [nI 8,nI 9])] q40 wA .nil (sc (sp B2) (.cons qJ .nil)) ?_
 refine qM kr fun vs ls H41 E41 st hE=>?_
 have b42:=eo st hE 32 S
 have b43:=eo st hE 33 (.int .i64 (x18_0:Int))
 have b44:=eo st hE 34 (.int .i64 (x37_0:Int))
 have b45:=eo st hE 35 (.ptr lc 0)
 have b46:=eo st hE 36 (.func 22 [] [])
 have B3:=es st hE [(32,S),(33,.int .i64 (x18_0:Int)),(34,.int .i64 (x37_0:Int)),(35,.ptr lc 0),(36,.func 22 [] []),(2,.int .i64 (x37_0:Int))]
 have g48:Grew H37 H41:=(gk st)
 have g49:Only2 (PT lc) (PT lc) H H41:=g38.grewR g48
 have r50:=g48.at hc37
 have s51:=s39.grew g48
 refine qR (d:=(some 37)) (f:=74) (args:=[.tmp 32,.tmp 33,.tmp 34,.tmp 35,.tmp 36]) kr (R:=fun z H'=>OnlyS (PT lc) H41 H' /\ ∃ y0 y1 c',z=.tuple [.int .i64 ((y0:Nat):Int),.int .i64 ((y1:Nat):Int)]/\((y0=x18_0/\y1=x37_0) \/ (y0=x37_0/\y1=x18_0))/\H'.get lc=some (.row [.int .i64 c'] true)) ?_ ?_
 ·show qK _ _ [E41 32,E41 33,E41 34,E41 35,E41 36] _ _
  rw [b42,b43,b44,b45,b46]
  exact(qHn H41 _ hr S s51 om lc cc37 r50 am x18_0 x37_0 om om)
 rintro z H52 ⟨oo52,x52_0,x52_1,cc52,rfl,rl52,hc52⟩
 have g53:Only2 (PT lc) (PT lc) H H52:=g49.trans oo52
 have q55:=q40.app (kL:KdsL [KI,KI,KI] [.int .i64 (x52_0:Int),.int .i64 (x52_1:Int),.int .i64 cc52])
 refine rG mA 1 0 [] [wf lc [nI 13]] [(32,n1 0),(33,nI 5),(34,nI 8),(35,.ptr 0 0),(36,.fn 22 [] []),(2,nI 8),(37,.tup [nI 11,nI 12])] q55 wA .nil (sc (sp B3) (.cons qJ .nil)) ?_
 refine qM kr fun vs ls H56 E56 st hE=>?_
 have g9:Only2 (PT lc) (PT lc) H H56:=(g53.grewR (gk st))
 have r9:=(gk st).at hc52
 exact zF kr (qS st.inn hE (.inr rfl) (a:=.int .i64 (x52_1:Int)) kr g9.next ⟨qFy g9,x52_1,_,rfl,by omega,r9⟩)
theorem qHm (H:AHeap) (ms:LL) (hr:qL KC ms) (S:AV) (hS:SlF H 3 ms S) (hmx:ms.length < 2^20) (lc:Nat) (c:Int) (hc:H.get lc=some (.row [.int .i64 c] true)) (hap:ApartL S lc) (i:Nat) (hi:1<=i) (hj:i+1 < ms.length):qK Try.prog 71 [S,.int .i64 (i:Int),.ptr lc 0,.func 22 [] []] H fun r H'=>OnlyS (PT lc) H H' /\ ∃ (x:Nat) (c' : Int),r=.int .i64 (x:Int)/\(i<=x+1/\x<=i+1)/\H'.get lc=some (.row [.int .i64 c'] true):=by
 refine qN zZ (by simp) ?_
 have q1:KdsL [.one,KI,KI] [S,.int .i64 (i:Int),.int .i64 c]:=kL
 refine rG mA 1 0 [] [wf lc [nI 2]] [(0,n1 0),(1,nI 1),(2,.ptr 0 0),(3,.fn 22 [] [])] q1 (.cons (wR hc q1) .nil) .nil (.cons (t:=0) rfl (.cons (t:=1) rfl (.cons (t:=2) rfl (.cons (t:=3) rfl .nil)))) ?_
 refine qM kr fun vs ls H2 E2 st hE=>?_
 have b3:=eo st hE 9 S
 obtain⟨w4,hw4⟩:∃ z,z=(IntKind.wrap .i64 ((i:Int) - 1)):=⟨_,rfl⟩
 have b5:E2 11=.int .i64 w4:=by rw [hw4];exact eo st hE 11 _
 have b6:=eo st hE 12 (.int .i64 (i:Int))
 obtain⟨w7,hw7⟩:∃ z,z=(IntKind.wrap .i64 ((i:Int)+1)):=⟨_,rfl⟩
 have b8:E2 14=.int .i64 w7:=by rw [hw7];exact eo st hE 14 _
 have b9:=eo st hE 15 (.ptr lc 0)
 have b10:=eo st hE 16 (.func 22 [] [])
 have B1:=es st hE [(9,S),(12,.int .i64 (i:Int)),(15,.ptr lc 0),(16,.func 22 [] [])]
 have g11:Grew H H2:=(gk st)
 have g12:Only2 (PT lc) (PT lc) H H2:=(Only2.refl _ _ _).grewR g11
 have r13:=g11.at hc
 have s14:=hS.grew g11
 have nw4:w4=((i:Int) - 1):=hw4.trans (wI _ om om)
 have nw7:w7=((i:Int)+1):=hw7.trans (wI _ om om)
 obtain⟨k15,hk15⟩:∃ k:Nat,w4=(k:Int):=⟨Int.toNat w4,by omega⟩
 obtain⟨k16,hk16⟩:∃ k:Nat,w7=(k:Int):=⟨Int.toNat w7,by omega⟩
 refine qR (d:=(some 17)) (f:=72) (args:=[.tmp 9,.tmp 11,.tmp 12,.tmp 14,.tmp 15,.tmp 16]) kr (R:=fun z H'=>OnlyS (PT lc) H2 H' /\ ∃ y0 c',z=.int .i64 ((y0:Nat):Int)/\(y0=k15 \/ y0=i \/ y0=k16)/\H'.get lc=some (.row [.int .i64 c'] true)) ?_ ?_
 ·show qK _ _ [E2 9,E2 11,E2 12,E2 14,E2 15,E2 16] _ _
  rw [b3,b5,b6,b8,b9,b10]
  exact(by rw [hk15,hk16];exact qKd H2 _ hr S s14 om lc c r13 am k15 i k16 om om om)
 rintro z H17 ⟨oo17,x17_0,cc17,rfl,rl17,hc17⟩
 have g18:Only2 (PT lc) (PT lc) H H17:=g12.trans oo17
 have q20:=q1.app (kL:KdsL [KI,KI,KI,KI] [.int .i64 w4,.int .i64 w7,.int .i64 (x17_0:Int),.int .i64 cc17])
 refine rG mA 1 0 [] [wf lc [nI 6]] [(9,n1 0),(12,nI 1),(15,.ptr 0 0),(16,.fn 22 [] []),(11,nI 3),(14,nI 4),(17,nI 5)] q20 wA .nil (sc (sp B1) (.cons (zL rfl b5) (.cons (zL rfl b8) (.cons qJ .nil)))) ?_
 refine qM kr fun vs ls H21 E21 st hE=>?_
 have g9:Only2 (PT lc) (PT lc) H H21:=(g18.grewR (gk st))
 have r9:=(gk st).at hc17
 exact zF kr (qS st.inn hE (.inr rfl) (a:=.int .i64 (x17_0:Int)) kr g9.next ⟨qFy g9,x17_0,_,rfl,by omega,r9⟩)
theorem qAq (H:AHeap) (ms:LL) (hr:qL KC ms) (S:AV) (hS:SlF H 3 ms S) (hmx:ms.length < 2^20) (a b:Nat) (hab:a+12 < b) (hb:b<=ms.length):qK Try.prog 51 [S,.int .i64 (a:Int),.int .i64 (b:Int),.func 22 [] []] H fun r H'=>Grew H H' /\ ∃ (p h:Nat),r=.tuple [.int .i64 (p:Int),.int .i64 (h:Int)]/\a<=p/\p < b/\h<=2:=by
 refine qN jU (by simp) ?_
 have q1:KdsL [.one,KI,KI] [S,.int .i64 (a:Int),.int .i64 (b:Int)]:=kL
 refine rG mA 0 0 [] [] [(0,n1 0),(1,nI 1),(2,nI 2),(3,.fn 22 [] [])] q1 .nil .nil (.cons (t:=0) rfl (.cons (t:=1) rfl (.cons (t:=2) rfl (.cons (t:=3) rfl .nil)))) ?_
 refine cJ kr ?_ ?_ ?_
 ·intro vs ls H2 E2 st hE
  have f3:¬ ((IntKind.wrap .i64 ((b:Int) - (a:Int))) < 50):=df st 0
  rw [wI ((b:Int) - (a:Int)) om om] at f3
  have f4:¬ ((IntKind.wrap .i64 ((b:Int) - (a:Int))) < 8):=df st 1
  rw [wI ((b:Int) - (a:Int)) om om] at f4
  obtain⟨p5,e6,r7,n8⟩:=pO st hE 11 0 [.int .i64 0]
  have op5:H.next<=p5:=Nat.le_trans (Nat.le_refl _) (oM n8)
  have ne9:ApartL (S) p5:=hS.apart_new (oM n8)
  have b10:=eo st hE 37 S
  obtain⟨w11,hw11⟩:∃ z,z=(IntKind.wrap .i64 ((a:Int)+(IntKind.wrap .i64 ((IntKind.wrap .i64 (Int.tdiv (IntKind.wrap .i64 ((b:Int) - (a:Int))) 4)) * 1)))):=⟨_,rfl⟩
  have b12:E2 38=.int .i64 w11:=by rw [hw11];exact eo st hE 38 _
  have b13:=eo st hE 39 (.func 22 [] [])
  obtain⟨w15,hw15⟩:∃ z,z=(IntKind.wrap .i64 ((a:Int)+(IntKind.wrap .i64 ((IntKind.wrap .i64 (Int.tdiv (IntKind.wrap .i64 ((b:Int) - (a:Int))) 4)) * 2)))):=⟨_,rfl⟩
  have b16:E2 13=.int .i64 w15:=by rw [hw15];exact eo st hE 13 _
  have B1:=es st hE [(37,S),(39,.func 22 [] []),(0,S),(3,.func 22 [] [])]
  obtain⟨w18,hw18⟩:∃ z,z=(IntKind.wrap .i64 ((a:Int)+(IntKind.wrap .i64 ((IntKind.wrap .i64 (Int.tdiv (IntKind.wrap .i64 ((b:Int) - (a:Int))) 4)) * 3)))):=⟨_,rfl⟩
  have b19:E2 14=.int .i64 w18:=by rw [hw18];exact eo st hE 14 _
  have b20:E2 12=.int .i64 w11:=by rw [hw11];exact eo st hE 12 _
  have g21:Grew H H2:=(gk st)
  have g22:Grew H H2:=Grew.trans (Grew.refl _) g21
  have s23:=hS.grew g21
  have nw11:w11=((a:Int)+((((b:Int) - (a:Int)) / 4) * 1)):=by
   rw [hw11]
   rw [wI ((b:Int) - (a:Int)) om om]
   rw [show Int.tdiv ((b:Int) - (a:Int)) 4=((b:Int) - (a:Int)) / 4 from Int.tdiv_eq_ediv_of_nonneg om]
   rw [wI (((b:Int) - (a:Int)) / 4) om om]
   rw [wI ((((b:Int) - (a:Int)) / 4) * 1) om om]
   rw [wI ((a:Int)+((((b:Int) - (a:Int)) / 4) * 1)) om om]
  have nw15:w15=((a:Int)+((((b:Int) - (a:Int)) / 4) * 2)):=by
   rw [hw15]
   rw [wI ((b:Int) - (a:Int)) om om]
   rw [show Int.tdiv ((b:Int) - (a:Int)) 4=((b:Int) - (a:Int)) / 4 from Int.tdiv_eq_ediv_of_nonneg om]
   rw [wI (((b:Int) - (a:Int)) / 4) om om]
   rw [wI ((((b:Int) - (a:Int)) / 4) * 2) om om]
   rw [wI ((a:Int)+((((b:Int) - (a:Int)) / 4) * 2)) om om]
  have nw18:w18=((a:Int)+((((b:Int) - (a:Int)) / 4) * 3)):=by
   rw [hw18]
   rw [wI ((b:Int) - (a:Int)) om om]
   rw [show Int.tdiv ((b:Int) - (a:Int)) 4=((b:Int) - (a:Int)) / 4 from Int.tdiv_eq_ediv_of_nonneg om]
   rw [wI (((b:Int) - (a:Int)) / 4) om om]
   rw [wI ((((b:Int) - (a:Int)) / 4) * 3) om om]
   rw [wI ((a:Int)+((((b:Int) - (a:Int)) / 4) * 3)) om om]
  obtain⟨k24,hk24⟩:∃ k:Nat,w11=(k:Int):=⟨Int.toNat w11,by omega⟩
  refine qR (d:=(some 40)) (f:=71) (args:=[.tmp 37,.tmp 38,.tmp 11,.tmp 39]) kr (R:=fun z H'=>OnlyS (PT p5) H2 H' /\ ∃ y0 c',z=.int .i64 ((y0:Nat):Int)/\(k24<=y0+1/\y0<=k24+1)/\H'.get p5=some (.row [.int .i64 c'] true)) ?_ ?_
  ·show qK _ _ [E2 37,E2 38,E2 11,E2 39] _ _
   rw [b10,b12,e6,b13]
   exact(by rw [hk24];exact qHm H2 _ hr S s23 om p5 0 r7 am k24 om om)
  rintro z H25 ⟨oo25,x25_0,cc25,rfl,rl25,hc25⟩
  have g26:Grew H H25:=OnlyS.own g22 (kE am) oo25
  have s27:=s23.only oo25 (uO am)
  have q28:=q1.app (kL:KdsL [KI,KI,KI,KI,KI] [.int .i64 w11,.int .i64 w15,.int .i64 w18,.int .i64 (x25_0:Int),.int .i64 cc25])
  refine rG mA 1 0 [] [wf p5 [nI 7]] [(37,n1 0),(39,.fn 22 [] []),(0,n1 0),(3,.fn 22 [] []),(38,nI 3),(11,.ptr 0 0),(13,nI 4),(14,nI 5),(12,nI 3),(40,nI 6)] q28 wA .nil (sc (sp B1) (.cons (zL rfl b12) (.cons (zL rfl e6) (.cons (zL rfl b16) (.cons (zL rfl b19) (.cons (zL rfl b20) (.cons qJ .nil))))))) ?_
  refine qM kr fun vs ls H29 E29 st hE=>?_
  have b30:=eo st hE 41 S
  have b31:=eo st hE 42 (.int .i64 w15)
  have b32:=eo st hE 11 (.ptr p5 0)
  have b33:=eo st hE 43 (.func 22 [] [])
  have B2:=es st hE [(41,S),(42,.int .i64 w15),(11,.ptr p5 0),(43,.func 22 [] []),(0,S),(14,.int .i64 w18),(3,.func 22 [] []),(12,.int .i64 (x25_0:Int)),(13,.int .i64 w15)]
  have g39:Grew H25 H29:=(gk st)
  have g40:=Grew.trans g26 g39
  have r41:=g39.at hc25
  have s42:=s27.grew g39
  obtain⟨k43,hk43⟩:∃ k:Nat,w15=(k:Int):=⟨Int.toNat w15,by omega⟩
  refine qR (d:=(some 44)) (f:=71) (args:=[.tmp 41,.tmp 42,.tmp 11,.tmp 43]) kr (R:=fun z H'=>OnlyS (PT p5) H29 H' /\ ∃ y0 c',z=.int .i64 ((y0:Nat):Int)/\(k43<=y0+1/\y0<=k43+1)/\H'.get p5=some (.row [.int .i64 c'] true)) ?_ ?_
  ·show qK _ _ [E29 41,E29 42,E29 11,E29 43] _ _
   rw [b30,b31,b32,b33]
   exact(by rw [hk43];exact qHm H29 _ hr S s42 om p5 cc25 r41 am k43 om om)
  rintro z H44 ⟨oo44,x44_0,cc44,rfl,rl44,hc44⟩
  have g45:Grew H H44:=OnlyS.own g40 (kE am) oo44
  have s46:=s42.only oo44 (uO am)
  have q47:=q28.app (kL:KdsL [KI,KI] [.int .i64 (x44_0:Int),.int .i64 cc44])
  refine rG mA 1 0 [] [wf p5 [nI 9]] [(41,n1 0),(42,nI 4),(11,.ptr 0 0),(43,.fn 22 [] []),(0,n1 0),(14,nI 5),(3,.fn 22 [] []),(12,nI 6),(13,nI 4),(44,nI 8)] q47 wA .nil (sc (sp B2) (.cons qJ .nil)) ?_
  refine qM kr fun vs ls H48 E48 st hE=>?_
  have b49:=eo st hE 45 S
  have b50:=eo st hE 46 (.int .i64 w18)
  have b51:=eo st hE 11 (.ptr p5 0)
  have b52:=eo st hE 47 (.func 22 [] [])
  have B3:=es st hE [(45,S),(46,.int .i64 w18),(11,.ptr p5 0),(47,.func 22 [] []),(0,S),(12,.int .i64 (x25_0:Int)),(13,.int .i64 (x44_0:Int)),(14,.int .i64 w18),(3,.func 22 [] [])]
  have g58:Grew H44 H48:=(gk st)
  have g59:=Grew.trans g45 g58
  have r60:=g58.at hc44
  have s61:=s46.grew g58
  obtain⟨k62,hk62⟩:∃ k:Nat,w18=(k:Int):=⟨Int.toNat w18,by omega⟩
  refine qR (d:=(some 48)) (f:=71) (args:=[.tmp 45,.tmp 46,.tmp 11,.tmp 47]) kr (R:=fun z H'=>OnlyS (PT p5) H48 H' /\ ∃ y0 c',z=.int .i64 ((y0:Nat):Int)/\(k62<=y0+1/\y0<=k62+1)/\H'.get p5=some (.row [.int .i64 c'] true)) ?_ ?_
  ·show qK _ _ [E48 45,E48 46,E48 11,E48 47] _ _
   rw [b49,b50,b51,b52]
   exact(by rw [hk62];exact qHm H48 _ hr S s61 om p5 cc44 r60 am k62 om om)
  rintro z H63 ⟨oo63,x63_0,cc63,rfl,rl63,hc63⟩
  have g64:Grew H H63:=OnlyS.own g59 (kE am) oo63
  have s65:=s61.only oo63 (uO am)
  have q66:=q47.app (kL:KdsL [KI,KI] [.int .i64 (x63_0:Int),.int .i64 cc63])
  refine rG mA 1 0 [] [wf p5 [nI 11]] [(45,n1 0),(46,nI 5),(11,.ptr 0 0),(47,.fn 22 [] []),(0,n1 0),(12,nI 6),(13,nI 8),(14,nI 5),(3,.fn 22 [] []),(48,nI 10)] q66 wA .nil (sc (sp B3) (.cons qJ .nil)) ?_
  refine qM kr fun vs ls H67 E67 st hE=>?_
  have b68:=eo st hE 49 S
  have b69:=eo st hE 50 (.int .i64 (x25_0:Int))
  have b70:=eo st hE 51 (.int .i64 (x44_0:Int))
  have b71:=eo st hE 52 (.int .i64 (x63_0:Int))
  have b72:=eo st hE 11 (.ptr p5 0)
  have b73:=eo st hE 53 (.func 22 [] [])
  have B4:=es st hE [(49,S),(50,.int .i64 (x25_0:Int)),(51,.int .i64 (x44_0:Int)),(52,.int .i64 (x63_0:Int)),(11,.ptr p5 0),(53,.func 22 [] []),(13,.int .i64 (x44_0:Int))]
  have g75:Grew H63 H67:=(gk st)
  have g76:=Grew.trans g64 g75
  have r77:=g75.at hc63
  have s78:=s65.grew g75
  refine qR (d:=(some 54)) (f:=72) (args:=[.tmp 49,.tmp 50,.tmp 51,.tmp 52,.tmp 11,.tmp 53]) kr (R:=fun z H'=>OnlyS (PT p5) H67 H' /\ ∃ y0 c',z=.int .i64 ((y0:Nat):Int)/\(y0=x25_0 \/ y0=x44_0 \/ y0=x63_0)/\H'.get p5=some (.row [.int .i64 c'] true)) ?_ ?_
  ·show qK _ _ [E67 49,E67 50,E67 51,E67 52,E67 11,E67 53] _ _
   rw [b68,b69,b70,b71,b72,b73]
   exact(qKd H67 _ hr S s78 om p5 cc63 r77 am x25_0 x44_0 x63_0 om om om)
  rintro z H79 ⟨oo79,x79_0,cc79,rfl,rl79,hc79⟩
  have g80:Grew H H79:=OnlyS.own g76 (kE am) oo79
  have q82:=q66.app (kL:KdsL [KI,KI] [.int .i64 (x79_0:Int),.int .i64 cc79])
  refine rG mA 1 0 [] [wf p5 [nI 13]] [(49,n1 0),(50,nI 6),(51,nI 8),(52,nI 10),(11,.ptr 0 0),(53,.fn 22 [] []),(13,nI 8),(54,nI 12)] q82 wA .nil (sc (sp B4) (.cons qJ .nil)) ?_
  refine cJ kr ?_ ?_ ?_
  ·intro vs ls H83 E83 st hE
   have f84:cc79=0:=dt st 0
   have g9:Grew H H83:=(Grew.trans g80 (gk st))
   exact zF kr (qS st.inn hE (.inr rfl) (a:=.tuple [.int .i64 (x79_0:Int),.int .i64 1]) kr g9.next ⟨g9,x79_0,1,rfl,by omega,by omega,by omega⟩)
  ·intro vs ls H85 E85 st hE
   have f86:cc79=12:=dt st 0
   have f87:¬ (cc79=0):=df st 1
   have g9:Grew H H85:=(Grew.trans g80 (gk st))
   exact zF kr (qS st.inn hE (.inr rfl) (a:=.tuple [.int .i64 (x79_0:Int),.int .i64 2]) kr g9.next ⟨g9,x79_0,2,rfl,by omega,by omega,by omega⟩)
  ·intro vs ls H88 E88 st hE
   have f89:¬ (cc79=12):=df st 0
   have f90:¬ (cc79=0):=df st 1
   have g9:Grew H H88:=(Grew.trans g80 (gk st))
   exact zF kr (qS st.inn hE (.inr rfl) (a:=.tuple [.int .i64 (x79_0:Int),.int .i64 0]) kr g9.next ⟨g9,x79_0,0,rfl,by omega,by omega,by omega⟩)
 ·intro vs ls H91 E91 st hE
  have f92:(IntKind.wrap .i64 ((b:Int) - (a:Int))) < 50:=dt st 0
  rw [wI ((b:Int) - (a:Int)) om om] at f92
  have f93:¬ ((IntKind.wrap .i64 ((b:Int) - (a:Int))) < 8):=df st 1
  rw [wI ((b:Int) - (a:Int)) om om] at f93
  obtain⟨p94,e95,r96,n97⟩:=pO st hE 11 0 [.int .i64 0]
  have op94:H.next<=p94:=Nat.le_trans (Nat.le_refl _) (oM n97)
  have ne98:ApartL (S) p94:=hS.apart_new (oM n97)
  have b99:=eo st hE 49 S
  obtain⟨w100,hw100⟩:∃ z,z=(IntKind.wrap .i64 ((a:Int)+(IntKind.wrap .i64 ((IntKind.wrap .i64 (Int.tdiv (IntKind.wrap .i64 ((b:Int) - (a:Int))) 4)) * 1)))):=⟨_,rfl⟩
  have b101:E91 50=.int .i64 w100:=by rw [hw100];exact eo st hE 50 _
  obtain⟨w102,hw102⟩:∃ z,z=(IntKind.wrap .i64 ((a:Int)+(IntKind.wrap .i64 ((IntKind.wrap .i64 (Int.tdiv (IntKind.wrap .i64 ((b:Int) - (a:Int))) 4)) * 2)))):=⟨_,rfl⟩
  have b103:E91 51=.int .i64 w102:=by rw [hw102];exact eo st hE 51 _
  obtain⟨w104,hw104⟩:∃ z,z=(IntKind.wrap .i64 ((a:Int)+(IntKind.wrap .i64 ((IntKind.wrap .i64 (Int.tdiv (IntKind.wrap .i64 ((b:Int) - (a:Int))) 4)) * 3)))):=⟨_,rfl⟩
  have b105:E91 52=.int .i64 w104:=by rw [hw104];exact eo st hE 52 _
  have b106:=eo st hE 53 (.func 22 [] [])
  have B5:=es st hE [(49,S),(53,.func 22 [] [])]
  have b107:E91 13=.int .i64 w102:=by rw [hw102];exact eo st hE 13 _
  have g108:Grew H H91:=(gk st)
  have g109:Grew H H91:=Grew.trans (Grew.refl _) g108
  have s110:=hS.grew g108
  have nw100:w100=((a:Int)+((((b:Int) - (a:Int)) / 4) * 1)):=by
   rw [hw100]
   rw [wI ((b:Int) - (a:Int)) om om]
   rw [show Int.tdiv ((b:Int) - (a:Int)) 4=((b:Int) - (a:Int)) / 4 from Int.tdiv_eq_ediv_of_nonneg om]
   rw [wI (((b:Int) - (a:Int)) / 4) om om]
   rw [wI ((((b:Int) - (a:Int)) / 4) * 1) om om]
   rw [wI ((a:Int)+((((b:Int) - (a:Int)) / 4) * 1)) om om]
  have nw102:w102=((a:Int)+((((b:Int) - (a:Int)) / 4) * 2)):=by
   rw [hw102]
   rw [wI ((b:Int) - (a:Int)) om om]
   rw [show Int.tdiv ((b:Int) - (a:Int)) 4=((b:Int) - (a:Int)) / 4 from Int.tdiv_eq_ediv_of_nonneg om]
   rw [wI (((b:Int) - (a:Int)) / 4) om om]
   rw [wI ((((b:Int) - (a:Int)) / 4) * 2) om om]
   rw [wI ((a:Int)+((((b:Int) - (a:Int)) / 4) * 2)) om om]
  have nw104:w104=((a:Int)+((((b:Int) - (a:Int)) / 4) * 3)):=by
   rw [hw104]
   rw [wI ((b:Int) - (a:Int)) om om]
   rw [show Int.tdiv ((b:Int) - (a:Int)) 4=((b:Int) - (a:Int)) / 4 from Int.tdiv_eq_ediv_of_nonneg om]
   rw [wI (((b:Int) - (a:Int)) / 4) om om]
   rw [wI ((((b:Int) - (a:Int)) / 4) * 3) om om]
   rw [wI ((a:Int)+((((b:Int) - (a:Int)) / 4) * 3)) om om]
  obtain⟨k111,hk111⟩:∃ k:Nat,w100=(k:Int):=⟨Int.toNat w100,by omega⟩
  obtain⟨k112,hk112⟩:∃ k:Nat,w102=(k:Int):=⟨Int.toNat w102,by omega⟩
  obtain⟨k113,hk113⟩:∃ k:Nat,w104=(k:Int):=⟨Int.toNat w104,by omega⟩
  refine qR (d:=(some 54)) (f:=72) (args:=[.tmp 49,.tmp 50,.tmp 51,.tmp 52,.tmp 11,.tmp 53]) kr (R:=fun z H'=>OnlyS (PT p94) H91 H' /\ ∃ y0 c',z=.int .i64 ((y0:Nat):Int)/\(y0=k111 \/ y0=k112 \/ y0=k113)/\H'.get p94=some (.row [.int .i64 c'] true)) ?_ ?_
  ·show qK _ _ [E91 49,E91 50,E91 51,E91 52,E91 11,E91 53] _ _
   rw [b99,b101,b103,b105,e95,b106]
   exact(by rw [hk111,hk112,hk113];exact qKd H91 _ hr S s110 om p94 0 r96 am k111 k112 k113 om om om)
  rintro z H114 ⟨oo114,x114_0,cc114,rfl,rl114,hc114⟩
  have g115:Grew H H114:=OnlyS.own g109 (kE am) oo114
  have q117:=q1.app (kL:KdsL [KI,KI,KI,KI,KI] [.int .i64 w100,.int .i64 w102,.int .i64 w104,.int .i64 (x114_0:Int),.int .i64 cc114])
  refine rG mA 1 0 [] [wf p94 [nI 7]] [(49,n1 0),(53,.fn 22 [] []),(50,nI 3),(51,nI 4),(52,nI 5),(11,.ptr 0 0),(13,nI 4),(54,nI 6)] q117 wA .nil (sc (sp B5) (.cons (zL rfl b101) (.cons (zL rfl b103) (.cons (zL rfl b105) (.cons (zL rfl e95) (.cons (zL rfl b107) (.cons qJ .nil))))))) ?_
  refine cJ kr ?_ ?_ ?_
  ·intro vs ls H118 E118 st hE
   have f119:cc114=0:=dt st 0
   have g9:Grew H H118:=(Grew.trans g115 (gk st))
   exact zF kr (qS st.inn hE (.inr rfl) (a:=.tuple [.int .i64 (x114_0:Int),.int .i64 1]) kr g9.next ⟨g9,x114_0,1,rfl,by omega,by omega,by omega⟩)
  ·intro vs ls H120 E120 st hE
   have f121:cc114=12:=dt st 0
   have f122:¬ (cc114=0):=df st 1
   have g9:Grew H H120:=(Grew.trans g115 (gk st))
   exact zF kr (qS st.inn hE (.inr rfl) (a:=.tuple [.int .i64 (x114_0:Int),.int .i64 2]) kr g9.next ⟨g9,x114_0,2,rfl,by omega,by omega,by omega⟩)
  ·intro vs ls H123 E123 st hE
   have f124:¬ (cc114=12):=df st 0
   have f125:¬ (cc114=0):=df st 1
   have g9:Grew H H123:=(Grew.trans g115 (gk st))
   exact zF kr (qS st.inn hE (.inr rfl) (a:=.tuple [.int .i64 (x114_0:Int),.int .i64 0]) kr g9.next ⟨g9,x114_0,0,rfl,by omega,by omega,by omega⟩)
 ·intro vs ls H126 E126 st hE
  have f127:(IntKind.wrap .i64 ((b:Int) - (a:Int))) < 8:=dt st 0
  rw [wI ((b:Int) - (a:Int)) om om] at f127
  exact(show False by omega).elim
def qLO:List UInt8:=[0,1,2,2,3,3,3,3,4,4,4,4,4,4,4,4,5,5,5,5,5,5,5,5,5,5,5,5,5,5,5,5,6,6,6,6,6,6,6,6,6,6,6,6,6,6,6,6,6,6,6,6,6,6,6,6,6,6,6,6,6,6,6,6,7,7,7,7,7,7,7,7,7,7,7,7,7,7,7,7,7,7,7,7,7,7,7,7,7,7,7,7,7,7,7,7,7,7,7,7,7,7,7,7,7,7,7,7,7,7,7,7,7,7,7,7,7,7,7,7,7,7,7,7,7,7,7,7,8,8,8,8,8,8,8,8,8,8,8,8,8,8,8,8,8,8,8,8,8,8,8,8,8,8,8,8,8,8,8,8,8,8,8,8,8,8,8,8,8,8,8,8,8,8,8,8,8,8,8,8,8,8,8,8,8,8,8,8,8,8,8,8,8,8,8,8,8,8,8,8,8,8,8,8,8,8,8,8,8,8,8,8,8,8,8,8,8,8,8,8,8,8,8,8,8,8,8,8,8,8,8,8,8,8,8,8,8,8,8,8,8,8,8,8,8,8,8,8,8,8,8,8,8,8,8,8]
def T8 (n:Nat):Nat:=(qLO.getD n 0).toNat
def qAQ (x:Nat):Nat:=if x < 256 then T8 x else 8+T8 (x / 256)
theorem qFN:qLO.length=256:=by decide +kernel
theorem qIz:∀ n:Fin 256,T8 n<=8/\2^T8 n<=2 * (n:Nat)+(if (n:Nat)=0 then 1 else 0):=by decide +kernel
theorem qEQ {x:Nat} (h:x < 65536):qAQ x<=16/\(1<=x->2^qAQ x<=2 * x):=by
 unfold qAQ
 split
 next c =>
  have:=qIz ⟨x,c⟩
  simp only at this
  refine⟨by omega,fun h1=>?_⟩
  rw [if_neg om] at this;omega
 next c =>
  have:=qIz ⟨x / 256,by omega⟩
  simp only at this
  rw [if_neg om] at this
  refine⟨by omega,fun _=>?_⟩
  rw [Nat.pow_add]
  omega
theorem qHT {c:Cx} {x i v:SV} {n:Nat} {w:Int} (hw:w=(n:Int)) (hx:D c.vs c.ls x (.str qLO)) (hi:D c.vs c.ls i (.int .u8 w)) (hn:n < 256) (hv:D c.vs c.ls v (.int .u8 ((T8 n:Nat):Int))):mJ c (.ixStr x i) v:=⟨_,_,_,hx,hi,hv,fun E get=>by
 subst hw
 show (if 0<=(n:Int) then (qLO[(n:Int).toNat]?).map _ else none)=_
 rw [if_pos om,Int.toNat_natCast,List.getElem?_eq_getElem (by rw [qFN];exact hn)]
 unfold T8
 rw [List.getD_eq_getElem?_getD,List.getElem?_eq_getElem (by rw [qFN];exact hn)]
 rfl⟩
theorem wr8 (x:Nat) (h:x < 256):IntKind.wrap .u8 (x:Int)=((x:Nat):Int):=by
 simp only [IntKind.wrap]
 show (x:Int) % 256=_
 omega
theorem qMu (x:Nat) (h:x < 65536):IntKind.wrap .u8 (Int.fdiv (x:Int) (2^(min (Int.toNat 8) (IntKind.bits .u64))))=((x / 256:Nat):Int):=by
 show IntKind.wrap .u8 (Int.fdiv (x:Int) 256)=_
 rw [Int.fdiv_eq_ediv_of_nonneg _ (by decide),show (x:Int) / 256=((x / 256:Nat):Int) by omega]
 exact wr8 _ om
theorem qMt {l:Nat} (h:l<=16):IntKind.wrap .u64 (1 * 2^(min (Int.toNat (l:Int)) (IntKind.bits .u64)))=((2^l:Nat):Int):=by
 have h1:min (Int.toNat (l:Int)) (IntKind.bits .u64)=l:=by
  rw [Int.toNat_natCast];show min l 64=l;omega
 rw [h1,Int.one_mul]
 have h2:(2:Nat)^l<=2^16:=Nat.pow_le_pow_right (by decide) h
 have h3:(2:Int)^l=((2^l:Nat):Int):=by push_cast;rfl
 rw [h3]
 generalize 2^l=m at h2
 simp only [IntKind.wrap]
 show (m:Int) % 18446744073709551616=_
 omega
theorem qLD {H:AHeap} {E:Env} {y l:Nat} (h2:E y=.int .i64 ((l:Nat):Int)) (hl:l<=16):zS E H.get (.bin .shl (.const (.int .u64 1)) (.tmp y))=some (.int .u64 ((2^l:Nat):Int)):=by
 show vJ .shl (.int .u64 1) (E y)=_
 rw [h2]
 simp only [vJ]
 rw [if_pos om,qMt hl]
theorem qKP (X:Int) (m:Nat) (h1:1<=m) (h2:m < 2^30):0<=IntKind.wrap .i64 (IntKind.wrap .u64 (BitVec.ofInt (IntKind.bits .u64) X &&& BitVec.ofInt (IntKind.bits .u64) (IntKind.wrap .u64 ((m:Int) - 1))).toNat)/\IntKind.wrap .i64 (IntKind.wrap .u64 (BitVec.ofInt (IntKind.bits .u64) X &&& BitVec.ofInt (IntKind.bits .u64) (IntKind.wrap .u64 ((m:Int) - 1))).toNat) < (m:Int):=by
 have e1:IntKind.wrap .u64 ((m:Int) - 1)=((m - 1:Nat):Int):=by
  simp only [IntKind.wrap]
  show ((m:Int) - 1) % 18446744073709551616=_
  omega
 rw [e1]
 have e2:(BitVec.ofInt (IntKind.bits .u64) ((m - 1:Nat):Int)).toNat=m - 1:=by
  show (BitVec.ofInt 64 ((m - 1:Nat):Int)).toNat=m - 1
  rw [BitVec.toNat_ofInt]
  omega
 have e3:(BitVec.ofInt (IntKind.bits .u64) X &&& BitVec.ofInt (IntKind.bits .u64) ((m - 1:Nat):Int)).toNat<=m - 1:=by
  rw [BitVec.toNat_and,e2];exact Nat.and_le_right
 generalize (BitVec.ofInt (IntKind.bits .u64) X &&& BitVec.ofInt (IntKind.bits .u64) ((m - 1:Nat):Int)).toNat=k at e3
 have e4:IntKind.wrap .u64 (k:Int)=(k:Int):=by
  simp only [IntKind.wrap]
  show (k:Int) % 18446744073709551616=_
  omega
 rw [e4,wrap_i64 om om]
 omega
def tbB:List (Nat × AFun):=tb.filter fun p=>!(p.1 == 57 || p.1 == 37 || p.1 == 69)
theorem vM:qAA Try.prog tbB:=fun f a h=>jR f a (List.mem_filter.1 h).1
def pmB (fl:Nat) (ru:List (RK × SV)) (un:Nat):Pm:=⟨fl,ru,tbB,ap,un⟩
theorem qKc (H:AHeap) (x:Nat) (hx:x < 65536):qK Try.prog 57 [.int .u64 (x:Int)] H fun r H'=>Grew H H'/\r=.int .i64 ((qAQ x:Nat):Int):=by
 refine qN dX (by simp) ?_
 have q1:KdsL [.int .u64] [.int .u64 (x:Int)]:=kL
 refine rC 0 0 [] [(0,.nd 0 (.int .u64))] q1 (.cons (t:=0) rfl .nil) ?_
 refine qMo kr ?_ ?_ ?_ ?_ ?_ ?_ ?_ ?_
 ·intro vs ls H2 E2 st hE
  have f3:¬ ((Int.fdiv (Int.fdiv (x:Int) (2^(min (Int.toNat 32) (IntKind.bits .u64)))) (2^(min (Int.toNat 16) (IntKind.bits .u64)))) < 256):=df st 0
  have f4:¬ ((Int.fdiv (x:Int) (2^(min (Int.toNat 32) (IntKind.bits .u64)))) < 65536):=df st 1
  have f5:¬ ((x:Int) < 4294967296):=df st 2
  exact(show False by omega).elim
 ·intro vs ls H8 E8 st hE
  have f9:(Int.fdiv (Int.fdiv (x:Int) (2^(min (Int.toNat 32) (IntKind.bits .u64)))) (2^(min (Int.toNat 16) (IntKind.bits .u64)))) < 256:=dt st 0
  have f10:¬ ((Int.fdiv (x:Int) (2^(min (Int.toNat 32) (IntKind.bits .u64)))) < 65536):=df st 1
  have f11:¬ ((x:Int) < 4294967296):=df st 2
  exact(show False by omega).elim
 ·intro vs ls H14 E14 st hE
  have f15:¬ ((Int.fdiv (x:Int) (2^(min (Int.toNat 32) (IntKind.bits .u64)))) < 256):=df st 0
  have f16:(Int.fdiv (x:Int) (2^(min (Int.toNat 32) (IntKind.bits .u64)))) < 65536:=dt st 1
  have f17:¬ ((x:Int) < 4294967296):=df st 2
  exact(show False by omega).elim
 ·intro vs ls H20 E20 st hE
  have f21:(Int.fdiv (x:Int) (2^(min (Int.toNat 32) (IntKind.bits .u64)))) < 256:=dt st 0
  have f22:(Int.fdiv (x:Int) (2^(min (Int.toNat 32) (IntKind.bits .u64)))) < 65536:=dt st 1
  have f23:¬ ((x:Int) < 4294967296):=df st 2
  exact(show False by omega).elim
 ·intro vs ls H26 E26 st hE
  have f27:¬ ((Int.fdiv (x:Int) (2^(min (Int.toNat 16) (IntKind.bits .u64)))) < 256):=df st 0
  have f28:¬ ((x:Int) < 65536):=df st 1
  have f29:(x:Int) < 4294967296:=dt st 2
  exact(show False by omega).elim
 ·intro vs ls H32 E32 st hE
  have f33:(Int.fdiv (x:Int) (2^(min (Int.toNat 16) (IntKind.bits .u64)))) < 256:=dt st 0
  have f34:¬ ((x:Int) < 65536):=df st 1
  have f35:(x:Int) < 4294967296:=dt st 2
  exact(show False by omega).elim
 ·intro vs ls H38 E38 st hE
  have f39:¬ ((x:Int) < 256):=df st 0
  have f40:(x:Int) < 65536:=dt st 1
  have f41:(x:Int) < 4294967296:=dt st 2
  obtain⟨w42,hw42⟩:∃ z,z=(IntKind.wrap .u8 (Int.fdiv (x:Int) (2^(min (Int.toNat 8) (IntKind.bits .u64))))):=⟨_,rfl⟩
  have b43:E38 21=.int .u8 w42:=by rw [hw42];exact eo st hE 21 _
  have b44:=eo st hE 19 (.int .i64 8)
  have g45:Grew H H38:=(gk st)
  have g46:Grew H H38:=Grew.trans (Grew.refl _) g45
  have hi9:w42=(((x / 256):Nat):Int):=by rw [hw42];exact qMu x om
  have q47:=q1.app (kL:KdsL [.int .u8,.int .u8] [.int .u8 w42,.int .u8 ((T8 (x / 256):Nat):Int)])
  refine rD 0 0 [(.ixStr (.lit (.str [0,1,2,2,3,3,3,3,4,4,4,4,4,4,4,4,5,5,5,5,5,5,5,5,5,5,5,5,5,5,5,5,6,6,6,6,6,6,6,6,6,6,6,6,6,6,6,6,6,6,6,6,6,6,6,6,6,6,6,6,6,6,6,6,7,7,7,7,7,7,7,7,7,7,7,7,7,7,7,7,7,7,7,7,7,7,7,7,7,7,7,7,7,7,7,7,7,7,7,7,7,7,7,7,7,7,7,7,7,7,7,7,7,7,7,7,7,7,7,7,7,7,7,7,7,7,7,7,8,8,8,8,8,8,8,8,8,8,8,8,8,8,8,8,8,8,8,8,8,8,8,8,8,8,8,8,8,8,8,8,8,8,8,8,8,8,8,8,8,8,8,8,8,8,8,8,8,8,8,8,8,8,8,8,8,8,8,8,8,8,8,8,8,8,8,8,8,8,8,8,8,8,8,8,8,8,8,8,8,8,8,8,8,8,8,8,8,8,8,8,8,8,8,8,8,8,8,8,8,8,8,8,8,8,8,8,8,8,8,8,8,8,8,8,8,8,8,8,8,8,8,8,8,8,8,8])) (.nd 1 (.int .u8)),.nd 2 (.int .u8))] [] [(21,.nd 1 (.int .u8)),(19,.lit (.int .i64 8))] q47 (.cons (qHT (n:=(x / 256)) hi9 (by exact qDo rfl) (dE q47) om (dE q47)) .nil) (.cons b43 (.cons b44 .nil)) ?_
  refine qM kr fun vs ls H48 E48 st hE=>?_
  have g9:Grew H H48:=(Grew.trans g46 (gk st))
  have t9:=(qIz ⟨(x / 256),by omega⟩).1
  simp only at t9
  have v9:(IntKind.wrap .i64 (8+(IntKind.wrap .i64 ((T8 (x / 256):Nat):Int))))=((qAQ x:Nat):Int):=by
   unfold qAQ;rw [if_neg om]
   rw [wI ((T8 (x / 256):Nat):Int) om om]
   rw [wI (8+(((T8 (x / 256):Nat):Int))) om om]
   omega
  exact zF kr (qS st.inn hE (.inr rfl) (a:=.int .i64 (IntKind.wrap .i64 (8+(IntKind.wrap .i64 ((T8 (x / 256):Nat):Int))))) kr g9.next ⟨g9,by rw [v9]⟩)
 ·intro vs ls H49 E49 st hE
  have f50:(x:Int) < 256:=dt st 0
  have f51:(x:Int) < 65536:=dt st 1
  have f52:(x:Int) < 4294967296:=dt st 2
  obtain⟨w53,hw53⟩:∃ z,z=(IntKind.wrap .u8 (x:Int)):=⟨_,rfl⟩
  have b54:E49 21=.int .u8 w53:=by rw [hw53];exact eo st hE 21 _
  have b55:=eo st hE 19 (.int .i64 0)
  have g56:Grew H H49:=(gk st)
  have g57:Grew H H49:=Grew.trans (Grew.refl _) g56
  have hi9:w53=((x:Nat):Int):=by rw [hw53];exact wr8 x om
  have q58:=q1.app (kL:KdsL [.int .u8,.int .u8] [.int .u8 w53,.int .u8 ((T8 x:Nat):Int)])
  refine rD 0 0 [(.ixStr (.lit (.str [0,1,2,2,3,3,3,3,4,4,4,4,4,4,4,4,5,5,5,5,5,5,5,5,5,5,5,5,5,5,5,5,6,6,6,6,6,6,6,6,6,6,6,6,6,6,6,6,6,6,6,6,6,6,6,6,6,6,6,6,6,6,6,6,7,7,7,7,7,7,7,7,7,7,7,7,7,7,7,7,7,7,7,7,7,7,7,7,7,7,7,7,7,7,7,7,7,7,7,7,7,7,7,7,7,7,7,7,7,7,7,7,7,7,7,7,7,7,7,7,7,7,7,7,7,7,7,7,8,8,8,8,8,8,8,8,8,8,8,8,8,8,8,8,8,8,8,8,8,8,8,8,8,8,8,8,8,8,8,8,8,8,8,8,8,8,8,8,8,8,8,8,8,8,8,8,8,8,8,8,8,8,8,8,8,8,8,8,8,8,8,8,8,8,8,8,8,8,8,8,8,8,8,8,8,8,8,8,8,8,8,8,8,8,8,8,8,8,8,8,8,8,8,8,8,8,8,8,8,8,8,8,8,8,8,8,8,8,8,8,8,8,8,8,8,8,8,8,8,8,8,8,8,8,8,8])) (.nd 1 (.int .u8)),.nd 2 (.int .u8))] [] [(21,.nd 1 (.int .u8)),(19,.lit (.int .i64 0))] q58 (.cons (qHT (n:=x) hi9 (by exact qDo rfl) (dE q58) om (dE q58)) .nil) (.cons b54 (.cons b55 .nil)) ?_
  refine qM kr fun vs ls H59 E59 st hE=>?_
  have g9:Grew H H59:=(Grew.trans g57 (gk st))
  have t9:=(qIz ⟨x,by omega⟩).1
  simp only at t9
  have v9:(IntKind.wrap .i64 (0+(IntKind.wrap .i64 ((T8 x:Nat):Int))))=((qAQ x:Nat):Int):=by
   unfold qAQ;rw [if_pos om]
   rw [wI ((T8 x:Nat):Int) om om]
   rw [wI (0+(((T8 x:Nat):Int))) om om]
   omega
  exact zF kr (qS st.inn hE (.inr rfl) (a:=.int .i64 (IntKind.wrap .i64 (0+(IntKind.wrap .i64 ((T8 x:Nat):Int))))) kr g9.next ⟨g9,by rw [v9]⟩)
theorem qLH {x:Int} (h:0<=x) (k:x < 2^40):IntKind.wrap .u64 x=x:=by
 simp only [IntKind.wrap]
 show x % 18446744073709551616=_
 omega
theorem qLg (H:AHeap) (x:Nat) (hx:x < 65536):qK Try.prog 37 [.int .u64 (x:Int)] H fun r H'=>Grew H H'/\r=.int .i64 ((qAQ x:Nat):Int):=by
 refine qN mZ (by simp) ?_
 have q1:KdsL [.int .u64] [.int .u64 (x:Int)]:=kL
 refine rG vM 0 0 [] [] [(0,.nd 0 (.int .u64))] q1 .nil .nil (.cons (t:=0) rfl .nil) ?_
 refine qM kr fun vs ls H2 E2 st hE=>?_
 have b3:=eo st hE 6 (.int .u64 (x:Int))
 have g4:Grew H H2:=(gk st)
 have g5:Grew H H2:=Grew.trans (Grew.refl _) g4
 refine qR (d:=(some 7)) (f:=57) (args:=[.tmp 6]) kr (R:=fun z H'=>Grew H2 H'/\z=.int .i64 ((qAQ x:Nat):Int)) ?_ ?_
 ·show qK _ _ [E2 6] _ _
  rw [b3]
  exact(qKc H2 x om)
 rintro z H6 ⟨g96,rfl⟩
 have g7:=Grew.trans g5 g96
 have q8:=q1.app (kL:KdsL [KI] [.int .i64 ((qAQ x:Nat):Int)])
 refine rG vM 0 0 [] [] [(6,.nd 0 (.int .u64)),(7,nI 1)] q8 .nil .nil (.cons (zL rfl b3) (.cons qJ .nil)) ?_
 refine qM kr fun vs ls H9 E9 st hE=>?_
 have g9:Grew H H9:=(Grew.trans g7 (gk st))
 exact zF kr (qS st.inn hE (.inr rfl) (a:=.int .i64 ((qAQ x:Nat):Int)) kr g9.next ⟨g9,rfl⟩)
theorem qLX (H:AHeap) (x:Nat) (hx:x < 65536) (h1:1<=x):qK Try.prog 69 [.int .i64 (x:Int)] H fun r H'=>Grew H H' /\ ∃ m:Nat,r=.int .u64 (m:Int)/\1<=m/\m<=2 * x:=by
 refine qN yC (by simp) ?_
 have q1:KdsL [KI] [.int .i64 (x:Int)]:=kL
 refine rG vM 0 0 [] [] [(0,nI 0)] q1 .nil .nil (.cons (t:=0) rfl .nil) ?_
 refine qM kr fun vs ls H2 E2 st hE=>?_
 obtain⟨w3,hw3⟩:∃ z,z=(IntKind.wrap .u64 (x:Int)):=⟨_,rfl⟩
 have b4:E2 4=.int .u64 w3:=by rw [hw3];exact eo st hE 4 _
 have g5:Grew H H2:=(gk st)
 have g6:Grew H H2:=Grew.trans (Grew.refl _) g5
 refine qR (d:=(some 5)) (f:=37) (args:=[.tmp 4]) kr (R:=fun z H'=>Grew H2 H'/\z=.int .i64 ((qAQ x:Nat):Int)) ?_ ?_
 ·show qK _ _ [E2 4] _ _
  rw [b4]
  exact(by rw [hw3,qLH (x:=(x:Int)) om om];exact qLg H2 x om)
 rintro z H7 ⟨g97,rfl⟩
 have g8:=Grew.trans g6 g97
 have q9:=q1.app (kL:KdsL [.int .u64,KI] [.int .u64 w3,.int .i64 ((qAQ x:Nat):Int)])
 refine rG vM 0 0 [] [] [(4,.nd 1 (.int .u64)),(5,nI 2)] q9 .nil .nil (.cons (zL rfl b4) (.cons qJ .nil)) ?_
 refine qM kr fun vs ls H10 E10 st hE=>?_
 have b11:=eo st hE 5 (.int .i64 ((qAQ x:Nat):Int))
 have g12:Grew H7 H10:=(gk st)
 have g13:=Grew.trans g8 g12
 refine qKs (d:=some 6) (b:=.shl) (x:=.const (.int .u64 1)) (y:=.tmp 5) (r:=.int .u64 ((2^qAQ x:Nat):Int)) kr (qLD b11 (qEQ hx).1) ?_
 have q14:=q9.app (kL:KdsL [.int .u64] [.int .u64 ((2^qAQ x:Nat):Int)])
 refine rG vM 0 0 [] [] [(5,nI 2),(6,.nd 3 (.int .u64))] q14 .nil .nil (.cons (zL rfl b11) (.cons qJ .nil)) ?_
 refine qM kr fun vs ls H15 E15 st hE=>?_
 have g9:Grew H H15:=(Grew.trans g13 (gk st))
 have t9:=qEQ hx
 exact zF kr (qS st.inn hE (.inr rfl) (a:=.int .u64 ((2^qAQ x:Nat):Int)) kr g9.next ⟨g9,_,rfl,Nat.one_le_two_pow,t9.2 h1⟩)
theorem qEM (H:AHeap) (κ:List AV->Int) (L0:LL) (hr:qL KC L0) (hκ:uM κ L0) (S:AV) (hS:SlF H 3 L0 S) (hmx:L0.length < 65536) (a b:Nat) (hab:a < b) (hb:b<=L0.length):qK Try.prog 50 [S,.int .i64 (a:Int),.int .i64 (b:Int),.func 22 [] []] H fun r H'=>r=.tuple []/\OnlyS S H H' /\ ∃ M,SlF H' 3 M S/\qL KC M/\Pt2 a b L0 M:=by
 refine qN jI (by simp) ?_
 have q1:KdsL [.one,KI,KI] [S,.int .i64 (a:Int),.int .i64 (b:Int)]:=kL
 refine rG vM 0 0 [] [] [(0,n1 0),(1,nI 1),(2,nI 2),(3,.fn 22 [] [])] q1 .nil .nil (.cons (t:=0) rfl (.cons (t:=1) rfl (.cons (t:=2) rfl (.cons (t:=3) rfl .nil)))) ?_
 refine vI kr ?_ ?_
 ·intro vs ls H2 E2 st hE
  have f3:¬ ((IntKind.wrap .i64 ((b:Int) - (a:Int))) < 8):=df st 0
  rw [wI ((b:Int) - (a:Int)) om om] at f3
  obtain⟨w4,hw4⟩:∃ z,z=(IntKind.wrap .u64 (IntKind.wrap .i64 ((b:Int) - (a:Int)))):=⟨_,rfl⟩
  obtain⟨p5,e6,r7,n8⟩:=pO st hE 9 0 [.int .u64 (IntKind.wrap .u64 (IntKind.wrap .i64 ((b:Int) - (a:Int))))]
  rw [<- hw4] at r7
  have op5:H.next<=p5:=Nat.le_trans (Nat.le_refl _) (oM n8)
  have ne9:ApartL (S) p5:=hS.apart_new (oM n8)
  obtain⟨w10,hw10⟩:∃ z,z=(IntKind.wrap .i64 ((b:Int) - (a:Int))):=⟨_,rfl⟩
  have b11:E2 20=.int .i64 w10:=by rw [hw10];exact eo st hE 20 _
  have b13:E2 8=.int .i64 w10:=by rw [hw10];exact eo st hE 8 _
  have B1:=es st hE [(1,.int .i64 (a:Int)),(0,S)]
  have g15:Grew H H2:=(gk st)
  have g16:OnlyS S H H2:=(OnlyS.of_grew (Grew.refl H)).grewR g15
  have s17:=hS.grew g15
  have nw10:w10=((b:Int) - (a:Int)):=hw10.trans (wI _ om om)
  obtain⟨k18,hk18⟩:∃ k:Nat,w10=(k:Int):=⟨Int.toNat w10,by omega⟩
  refine qR (d:=(some 21)) (f:=69) (args:=[.tmp 20]) kr (R:=fun z H'=>Grew H2 H' /\ ∃ m:Nat,z=.int .u64 (m:Int)/\1<=m/\m<=2 * k18) ?_ ?_
  ·show qK _ _ [E2 20] _ _
   rw [b11]
   exact(by rw [hk18];exact qLX H2 k18 om om)
  rintro z H19 ⟨g919,mm19,rfl,h119,h219⟩
  have g20:OnlyS S H H19:=g16.grewR g919
  have r21:=g919.at r7
  have s22:=s17.grew g919
  have q23:=q1.app (kL:KdsL [.int .u64,KI,.int .u64] [.int .u64 w4,.int .i64 w10,.int .u64 (mm19:Int)])
  refine rG vM 1 0 [] [wf p5 [.nd 3 (.int .u64)]] [(1,nI 1),(0,n1 0),(20,nI 4),(8,nI 4),(9,.ptr 0 0),(21,.nd 5 (.int .u64))] q23 (.cons (wR r21 q23) .nil) .nil (sc (sp B1) (.cons (zL rfl b11) (.cons (zL rfl b13) (.cons (zL rfl e6) (.cons qJ .nil))))) ?_
  refine qM kr fun vs ls H24 E24 st hE=>?_
  obtain⟨w25,hw25⟩:∃ z,z=(IntKind.wrap .i64 ((IntKind.wrap .i64 ((a:Int)+(IntKind.wrap .i64 ((IntKind.wrap .i64 (Int.tdiv w10 4)) * 2)))) - 1)):=⟨_,rfl⟩
  have b26:E24 11=.int .i64 w25:=by rw [hw25];exact eo st hE 11 _
  have b27:=eo st hE 1 (.int .i64 (a:Int))
  have b28:=eo st hE 8 (.int .i64 w10)
  have b29:=eo st hE 9 (.ptr p5 0)
  have b30:=eo st hE 10 (.int .u64 (mm19:Int))
  have b31:=eo st hE 0 S
  have g32:Grew H19 H24:=(gk st)
  have g33:OnlyS S H H24:=g20.grewR g32
  have r34:=g32.at r21
  have s35:=s22.grew g32
  have nw25:w25=(((a:Int)+((w10 / 4) * 2)) - 1):=by
   rw [hw25]
   rw [show Int.tdiv w10 4=w10 / 4 from Int.tdiv_eq_ediv_of_nonneg om]
   rw [wI (w10 / 4) om om]
   rw [wI ((w10 / 4) * 2) om om]
   rw [wI ((a:Int)+((w10 / 4) * 2)) om om]
   rw [wI (((a:Int)+((w10 / 4) * 2)) - 1) om om]
  obtain⟨k36,hk36⟩:∃ k:Nat,w25=(k:Int):=⟨Int.toNat w25,by omega⟩
  refine zE kr (fun z E H'=>∃ (i37:Nat) (L37:LL) (x37:Int),z=b - i37/\E 1=.int .i64 (a:Int)/\E 8=.int .i64 w10/\E 9=.ptr p5 0/\E 10=.int .u64 (mm19:Int)/\E 0=S/\E 11=.int .i64 (i37:Int)/\OnlyS S H H'/\SlF H' 3 L37 S/\qL KC L37/\H'.get p5=some (.row [.int .u64 x37] true)/\(a<=i37/\i37<=b)/\Pt2 a b L0 L37) (b - k36) ⟨k36,L0,w4,rfl,b27,b28,b29,b30,b31,(b26.trans (by rw [hk36])),g33,s35,hr,r34,⟨⟨by omega,by omega⟩,.refl _ _ _⟩⟩ ?_
  rintro z37 E37 Hx37 ⟨i37,L37,x37,hz37,c37_1,c37_8,c37_9,c37_10,c37_0,cv37_11,gt37,so37_0,hr37_0,rw37_0,iv37⟩
  obtain⟨⟨hai37,hbi37⟩,hstL37⟩:=iv37
  have hlL37:=hstL37.len
  have q38:=q23.app (kL:KdsL [KI,KI,.int .u64] [.int .i64 w25,.int .i64 (i37:Int),.int .u64 x37])
  refine rG vM 1 0 [] [wf p5 [.nd 8 (.int .u64)]] [(1,nI 1),(8,nI 4),(9,.ptr 0 0),(10,.nd 5 (.int .u64)),(0,n1 0),(11,nI 7)] q38 wA .nil (.cons c37_1 (.cons c37_8 (.cons c37_9 (.cons c37_10 (.cons c37_0 (.cons cv37_11 .nil)))))) ?_
  refine vI kr ?_ ?_
  ·intro vs ls H39 E39 st hE
   have f40:¬ ((IntKind.wrap .i64 ((IntKind.wrap .i64 ((a:Int)+(IntKind.wrap .i64 ((IntKind.wrap .i64 (Int.tdiv w10 4)) * 2))))+1)) < (i37:Int)):=df st 0
   rw [show Int.tdiv w10 4=w10 / 4 from Int.tdiv_eq_ediv_of_nonneg om] at f40
   rw [wI (w10 / 4) om om] at f40
   rw [wI ((w10 / 4) * 2) om om] at f40
   rw [wI ((a:Int)+((w10 / 4) * 2)) om om] at f40
   rw [wI (((a:Int)+((w10 / 4) * 2))+1) om om] at f40
   have B2:=es st hE [(9,.ptr p5 0),(10,.int .u64 (mm19:Int)),(8,.int .i64 w10),(0,S),(11,.int .i64 (i37:Int)),(1,.int .i64 (a:Int))]
   have g47:Grew Hx37 H39:=(gk st)
   have g48:OnlyS S H H39:=gt37.grewR g47
   have r49:=g47.at rw37_0
   have s50:=so37_0.grew g47
   refine qEm 0 kr ?_
   refine rG vM 0 0 [] [⟨p5,0,[.nd 8 (.int .u64)],true⟩] [(9,.ptr 0 0),(10,.nd 5 (.int .u64)),(8,nI 4),(0,n1 0),(11,nI 7),(1,nI 1)] q38 (.cons (wO r49 q38) .nil) .nil B2 ?_
   refine qM kr fun vs ls H52 E52 st hE=>?_
   obtain⟨w53,hw53⟩:∃ z,z=(IntKind.wrap .u64 (BitVec.ofInt (IntKind.bits .u64) (IntKind.wrap .u64 (BitVec.ofInt (IntKind.bits .u64) (IntKind.wrap .u64 (BitVec.ofInt (IntKind.bits .u64) x37 ^^^ BitVec.ofInt (IntKind.bits .u64) (IntKind.wrap .u64 (x37 * 2^(min (Int.toNat 13) (IntKind.bits .u64))))).toNat) ^^^ BitVec.ofInt (IntKind.bits .u64) (Int.fdiv (IntKind.wrap .u64 (BitVec.ofInt (IntKind.bits .u64) x37 ^^^ BitVec.ofInt (IntKind.bits .u64) (IntKind.wrap .u64 (x37 * 2^(min (Int.toNat 13) (IntKind.bits .u64))))).toNat) (2^(min (Int.toNat 7) (IntKind.bits .u64))))).toNat) ^^^ BitVec.ofInt (IntKind.bits .u64) (IntKind.wrap .u64 ((IntKind.wrap .u64 (BitVec.ofInt (IntKind.bits .u64) (IntKind.wrap .u64 (BitVec.ofInt (IntKind.bits .u64) x37 ^^^ BitVec.ofInt (IntKind.bits .u64) (IntKind.wrap .u64 (x37 * 2^(min (Int.toNat 13) (IntKind.bits .u64))))).toNat) ^^^ BitVec.ofInt (IntKind.bits .u64) (Int.fdiv (IntKind.wrap .u64 (BitVec.ofInt (IntKind.bits .u64) x37 ^^^ BitVec.ofInt (IntKind.bits .u64) (IntKind.wrap .u64 (x37 * 2^(min (Int.toNat 13) (IntKind.bits .u64))))).toNat) (2^(min (Int.toNat 7) (IntKind.bits .u64))))).toNat) * 2^(min (Int.toNat 17) (IntKind.bits .u64))))).toNat):=⟨_,rfl⟩
   have r54:H52.get p5=some (.row [.int .u64 (IntKind.wrap .u64 (BitVec.ofInt (IntKind.bits .u64) (IntKind.wrap .u64 (BitVec.ofInt (IntKind.bits .u64) (IntKind.wrap .u64 (BitVec.ofInt (IntKind.bits .u64) x37 ^^^ BitVec.ofInt (IntKind.bits .u64) (IntKind.wrap .u64 (x37 * 2^(min (Int.toNat 13) (IntKind.bits .u64))))).toNat) ^^^ BitVec.ofInt (IntKind.bits .u64) (Int.fdiv (IntKind.wrap .u64 (BitVec.ofInt (IntKind.bits .u64) x37 ^^^ BitVec.ofInt (IntKind.bits .u64) (IntKind.wrap .u64 (x37 * 2^(min (Int.toNat 13) (IntKind.bits .u64))))).toNat) (2^(min (Int.toNat 7) (IntKind.bits .u64))))).toNat) ^^^ BitVec.ofInt (IntKind.bits .u64) (IntKind.wrap .u64 ((IntKind.wrap .u64 (BitVec.ofInt (IntKind.bits .u64) (IntKind.wrap .u64 (BitVec.ofInt (IntKind.bits .u64) x37 ^^^ BitVec.ofInt (IntKind.bits .u64) (IntKind.wrap .u64 (x37 * 2^(min (Int.toNat 13) (IntKind.bits .u64))))).toNat) ^^^ BitVec.ofInt (IntKind.bits .u64) (Int.fdiv (IntKind.wrap .u64 (BitVec.ofInt (IntKind.bits .u64) x37 ^^^ BitVec.ofInt (IntKind.bits .u64) (IntKind.wrap .u64 (x37 * 2^(min (Int.toNat 13) (IntKind.bits .u64))))).toNat) (2^(min (Int.toNat 7) (IntKind.bits .u64))))).toNat) * 2^(min (Int.toNat 17) (IntKind.bits .u64))))).toNat)] true):=rW st 0
   rw [<- hw53] at r54
   obtain⟨w55,hw55⟩:∃ z,z=(IntKind.wrap .i64 (IntKind.wrap .u64 (BitVec.ofInt (IntKind.bits .u64) (IntKind.wrap .u64 (BitVec.ofInt (IntKind.bits .u64) (IntKind.wrap .u64 (BitVec.ofInt (IntKind.bits .u64) (IntKind.wrap .u64 (BitVec.ofInt (IntKind.bits .u64) x37 ^^^ BitVec.ofInt (IntKind.bits .u64) (IntKind.wrap .u64 (x37 * 2^(min (Int.toNat 13) (IntKind.bits .u64))))).toNat) ^^^ BitVec.ofInt (IntKind.bits .u64) (Int.fdiv (IntKind.wrap .u64 (BitVec.ofInt (IntKind.bits .u64) x37 ^^^ BitVec.ofInt (IntKind.bits .u64) (IntKind.wrap .u64 (x37 * 2^(min (Int.toNat 13) (IntKind.bits .u64))))).toNat) (2^(min (Int.toNat 7) (IntKind.bits .u64))))).toNat) ^^^ BitVec.ofInt (IntKind.bits .u64) (IntKind.wrap .u64 ((IntKind.wrap .u64 (BitVec.ofInt (IntKind.bits .u64) (IntKind.wrap .u64 (BitVec.ofInt (IntKind.bits .u64) x37 ^^^ BitVec.ofInt (IntKind.bits .u64) (IntKind.wrap .u64 (x37 * 2^(min (Int.toNat 13) (IntKind.bits .u64))))).toNat) ^^^ BitVec.ofInt (IntKind.bits .u64) (Int.fdiv (IntKind.wrap .u64 (BitVec.ofInt (IntKind.bits .u64) x37 ^^^ BitVec.ofInt (IntKind.bits .u64) (IntKind.wrap .u64 (x37 * 2^(min (Int.toNat 13) (IntKind.bits .u64))))).toNat) (2^(min (Int.toNat 7) (IntKind.bits .u64))))).toNat) * 2^(min (Int.toNat 17) (IntKind.bits .u64))))).toNat) &&& BitVec.ofInt (IntKind.bits .u64) (IntKind.wrap .u64 ((mm19:Int) - 1))).toNat)):=⟨_,rfl⟩
   have b56:E52 12=.int .i64 w55:=by rw [hw55];exact eo st hE 12 _
   have B3:=es st hE [(8,.int .i64 w10),(0,S),(11,.int .i64 (i37:Int)),(1,.int .i64 (a:Int)),(9,.ptr p5 0),(10,.int .u64 (mm19:Int))]
   have g64:OnlyS S H H52:=qJd g48 st.inn.kept ⟨op5,trivial⟩
   have s65:=s50.keep st.inn.kept ⟨by assumption,trivial⟩
   have nw53:=hw53
   have nw55:0<=w55/\w55 < (mm19:Int):=by rw [hw55];exact qKP _ mm19 om om
   refine qLt kr ?_
   have q66:=q38.app (kL:KdsL [.int .u64,KI] [.int .u64 w53,.int .i64 w55])
   refine rG vM 0 0 [] [⟨p5,0,[.nd 9 (.int .u64)],true⟩] [(8,nI 4),(0,n1 0),(11,nI 7),(1,nI 1),(9,.ptr 0 0),(10,.nd 5 (.int .u64)),(12,nI 10)] q66 (.cons (wO r54 q66) .nil) .nil (sc B3 (.cons b56 .nil)) ?_
   refine vI kr ?_ ?_
   ·intro vs ls H67 E67 st hE
    have f68:¬ (w55 < w10):=df st 0
    obtain⟨w70,hw70⟩:∃ z,z=(IntKind.wrap .i64 ((a:Int)+(IntKind.wrap .i64 (w55 - w10)))):=⟨_,rfl⟩
    have b71:E67 58=.int .i64 w70:=by rw [hw70];exact eo st hE 58 _
    have b77:E67 54=.int .i64 w70:=by rw [hw70];exact eo st hE 54 _
    have B4:=es st hE [(55,S),(0,S),(11,.int .i64 (i37:Int)),(49,S),(50,.int .i64 (i37:Int)),(51,S),(1,.int .i64 (a:Int)),(8,.int .i64 w10),(9,.ptr p5 0),(10,.int .u64 (mm19:Int))]
    have g82:Grew H52 H67:=(gk st)
    have g83:OnlyS S H H67:=g64.grewR g82
    have r84:=g82.at r54
    have s85:=s65.grew g82
    have nw70:w70=((a:Int)+(w55 - w10)):=by
     rw [hw70]
     rw [wI (w55 - w10) om om]
     rw [wI ((a:Int)+(w55 - w10)) om om]
    obtain⟨k86,rfl⟩:∃ k:Nat,w70=(k:Int):=⟨Int.toNat w70,by omega⟩
    have hlt87:k86 < L37.length:=by omega
    obtain⟨lS87,cap87,rest87,wr87,eS87,gS87⟩:=(s85.toL).isSl hlt87
    have ne88:Apart p5 lS87:=⟨fun e=>(show ApartL (S) p5 by assumption).ne ⟨0,_,_,_,by rw [e];exact eS87⟩⟩
    obtain⟨v87_0,v87_1,v87_2,hm87⟩:=qC (hr37_0.get hlt87)
    have he87:L37.getD k86 []=[.int .i32 v87_0,.int .i32 v87_1,.int .i32 v87_2]:=by rw [<- hm87,List.getD_eq_getElem?_getD,List.getElem?_eq_getElem hlt87];rfl
    have q89:=q66.app (kL:KdsL [KI,K2,K2,K2] [.int .i64 (k86:Int),.int .i32 v87_0,.int .i32 v87_1,.int .i32 v87_2])
    refine rG vM 1 0 [(.ia 3 (n1 0) (nI 11),.ptr 0 0)] [⟨lS87,(k86 * 3),[n2 12,n2 13,n2 14],false⟩,⟨p5,0,[.nd 9 (.int .u64)],true⟩] [(55,n1 0),(0,n1 0),(11,nI 7),(49,n1 0),(50,nI 7),(51,n1 0),(1,nI 1),(8,nI 4),(9,.ptr 1 0),(10,.nd 5 (.int .u64)),(58,nI 11),(54,nI 11)] q89 (.cons (qA hr37_0 gS87 hlt87 rfl (by rw [hm87];exact(dL q89))) (.cons (wO r84 q89) .nil)) (.cons (qD (k:=k86) (dE q89) eS87 (dE q89) hlt87 rfl) .nil) (sc B4 (.cons b71 (.cons b77 .nil))) ?_
    refine qM kr fun vs ls H90 E90 st hE=>?_
    have B5:=es st hE [(61,S),(62,.int .i64 (i37:Int)),(49,S),(50,.int .i64 (i37:Int)),(60,.agg [.int .i32 v87_0,.int .i32 v87_1,.int .i32 v87_2]),(51,S),(54,.int .i64 (k86:Int)),(11,.int .i64 (i37:Int)),(1,.int .i64 (a:Int)),(8,.int .i64 w10),(9,.ptr p5 0),(10,.int .u64 (mm19:Int)),(0,S)]
    have g104:Grew H67 H90:=(gk st)
    have g105:OnlyS S H H90:=g83.grewR g104
    have r107:=g104.at r84
    have s108:=s85.grew g104
    have hlt109:i37 < L37.length:=by omega
    obtain⟨lS109,cap109,rest109,wr109,eS109,gS109⟩:=(s108.toL).isSl hlt109
    have ne110:Apart p5 lS109:=⟨fun e=>(show ApartL (S) p5 by assumption).ne ⟨0,_,_,_,by rw [e];exact eS109⟩⟩
    obtain⟨v109_0,v109_1,v109_2,hm109⟩:=qC (hr37_0.get hlt109)
    have he109:L37.getD i37 []=[.int .i32 v109_0,.int .i32 v109_1,.int .i32 v109_2]:=by rw [<- hm109,List.getD_eq_getElem?_getD,List.getElem?_eq_getElem hlt109];rfl
    have q111:=q89.app (kL:KdsL [K2,K2,K2] [.int .i32 v109_0,.int .i32 v109_1,.int .i32 v109_2])
    refine rG vM 1 0 [(.ia 3 (n1 0) (nI 7),.ptr 0 0)] [⟨lS109,(i37 * 3),[n2 15,n2 16,n2 17],false⟩,⟨p5,0,[.nd 9 (.int .u64)],true⟩] [(61,n1 0),(62,nI 7),(49,n1 0),(50,nI 7),(60,.agg [n2 12,n2 13,n2 14]),(51,n1 0),(54,nI 11),(11,nI 7),(1,nI 1),(8,nI 4),(9,.ptr 1 0),(10,.nd 5 (.int .u64)),(0,n1 0)] q111 (.cons (qA hr37_0 gS109 hlt109 rfl (by rw [hm109];exact(dL q111))) wA) (.cons (qD (k:=i37) (dE q111) eS109 (dE q111) hlt109 rfl) .nil) B5 ?_
    refine qM kr fun vs ls H112 E112 st hE=>?_
    have b113:=eo st hE 65 (.ptr lS109 ((i37 * 3)+0))
    have b114:=eo st hE 60 (.agg [.int .i32 v87_0,.int .i32 v87_1,.int .i32 v87_2])
    have B6:=es st hE [(60,.agg [.int .i32 v87_0,.int .i32 v87_1,.int .i32 v87_2]),(51,S),(54,.int .i64 (k86:Int)),(64,.agg [.int .i32 v109_0,.int .i32 v109_1,.int .i32 v109_2]),(11,.int .i64 (i37:Int)),(1,.int .i64 (a:Int)),(8,.int .i64 w10),(9,.ptr p5 0),(10,.int .u64 (mm19:Int)),(0,S)]
    have g124:Grew H90 H112:=(gk st)
    have g125:OnlyS S H H112:=g105.grewR g124
    have r127:=g124.at r107
    have s128:=s108.grew g124
    refine qH (d:=none) (n:=3) (x:=.tmp 65) (y:=.tmp 60) kr (S:=S) (ms:=L37) (k:=i37) (m':=[.int .i32 v87_0,.int .i32 v87_1,.int .i32 v87_2]) (s128) eS109 b113 hlt109 hr37_0.len (by show AV.cells (E112 60)=_;rw [b114];rfl) rfl rfl rfl ?_
    intro H129 s129 oo129
    have hln129:(L37.set i37 [.int .i32 v87_0,.int .i32 v87_1,.int .i32 v87_2]).length=L37.length:=by simp
    have g130:OnlyS S H H129:=g125.trans oo129
    have r131:=oo129.at r127 am
    refine rG vM 0 0 [] [⟨p5,0,[.nd 9 (.int .u64)],true⟩] [(60,.agg [n2 12,n2 13,n2 14]),(51,n1 0),(54,nI 11),(64,.agg [n2 15,n2 16,n2 17]),(11,nI 7),(1,nI 1),(8,nI 4),(9,.ptr 0 0),(10,.nd 5 (.int .u64)),(0,n1 0)] q111 wA .nil (sn B6) ?_
    refine qM kr fun vs ls H133 E133 st hE=>?_
    have B7:=es st hE [(51,S),(54,.int .i64 (k86:Int)),(64,.agg [.int .i32 v109_0,.int .i32 v109_1,.int .i32 v109_2]),(11,.int .i64 (i37:Int)),(1,.int .i64 (a:Int)),(8,.int .i64 w10),(9,.ptr p5 0),(10,.int .u64 (mm19:Int)),(0,S)]
    have g143:Grew H129 H133:=(gk st)
    have g144:OnlyS S H H133:=g130.grewR g143
    have r145:=g143.at r131
    have s146:=s129.grew g143
    have hlt147:k86 < (L37.set i37 [.int .i32 v87_0,.int .i32 v87_1,.int .i32 v87_2]).length:=by omega
    obtain⟨lS147,cap147,rest147,wr147,eS147,gS147⟩:=(s146.toL).isSl hlt147
    have ne148:Apart p5 lS147:=⟨fun e=>(show ApartL (S) p5 by assumption).ne ⟨0,_,_,_,by rw [e];exact eS147⟩⟩
    obtain⟨v147_0,v147_1,v147_2,hm147⟩:=qC ((qL.set hr37_0 (.cons kA (.cons kA (.cons kA .nil)))).get hlt147)
    have he147:(L37.set i37 [.int .i32 v87_0,.int .i32 v87_1,.int .i32 v87_2]).getD k86 []=[.int .i32 v147_0,.int .i32 v147_1,.int .i32 v147_2]:=by rw [<- hm147,List.getD_eq_getElem?_getD,List.getElem?_eq_getElem hlt147];rfl
    have q149:=q111.app (kL:KdsL [K2,K2,K2] [.int .i32 v147_0,.int .i32 v147_1,.int .i32 v147_2])
    refine rG vM 1 0 [(.ia 3 (n1 0) (nI 11),.ptr 0 0)] [⟨lS147,(k86 * 3),[n2 18,n2 19,n2 20],false⟩,⟨p5,0,[.nd 9 (.int .u64)],true⟩] [(51,n1 0),(54,nI 11),(64,.agg [n2 15,n2 16,n2 17]),(11,nI 7),(1,nI 1),(8,nI 4),(9,.ptr 1 0),(10,.nd 5 (.int .u64)),(0,n1 0)] q149 (.cons (qA (qL.set hr37_0 (.cons kA (.cons kA (.cons kA .nil)))) gS147 hlt147 rfl (by rw [hm147];exact(dL q149))) wA) (.cons (qD (k:=k86) (dE q149) eS147 (dE q149) hlt147 rfl) .nil) B7 ?_
    refine qM kr fun vs ls H150 E150 st hE=>?_
    have b151:=eo st hE 66 (.ptr lS147 ((k86 * 3)+0))
    have b152:=eo st hE 64 (.agg [.int .i32 v109_0,.int .i32 v109_1,.int .i32 v109_2])
    have B8:=es st hE [(64,.agg [.int .i32 v109_0,.int .i32 v109_1,.int .i32 v109_2]),(11,.int .i64 (i37:Int)),(1,.int .i64 (a:Int)),(8,.int .i64 w10),(9,.ptr p5 0),(10,.int .u64 (mm19:Int)),(0,S)]
    have g159:Grew H133 H150:=(gk st)
    have g160:OnlyS S H H150:=g144.grewR g159
    have r162:=g159.at r145
    have s163:=s146.grew g159
    refine qH (d:=none) (n:=3) (x:=.tmp 66) (y:=.tmp 64) kr (S:=S) (ms:=(L37.set i37 [.int .i32 v87_0,.int .i32 v87_1,.int .i32 v87_2])) (k:=k86) (m':=[.int .i32 v109_0,.int .i32 v109_1,.int .i32 v109_2]) (s163) eS147 b151 hlt147 (qL.set hr37_0 (.cons kA (.cons kA (.cons kA .nil)))).len (by show AV.cells (E150 64)=_;rw [b152];rfl) rfl rfl rfl ?_
    intro H164 s164 oo164
    have hln164:((L37.set i37 [.int .i32 v87_0,.int .i32 v87_1,.int .i32 v87_2]).set k86 [.int .i32 v109_0,.int .i32 v109_1,.int .i32 v109_2]).length=(L37.set i37 [.int .i32 v87_0,.int .i32 v87_1,.int .i32 v87_2]).length:=by simp
    have g165:OnlyS S H H164:=g160.trans oo164
    have r166:=oo164.at r162 am
    refine rG vM 0 0 [] [⟨p5,0,[.nd 9 (.int .u64)],true⟩] [(64,.agg [n2 15,n2 16,n2 17]),(11,nI 7),(1,nI 1),(8,nI 4),(9,.ptr 0 0),(10,.nd 5 (.int .u64)),(0,n1 0)] q149 wA .nil (sn B8) ?_
    refine qM kr fun vs ls H168 E168 st hE=>?_
    obtain⟨w169,hw169⟩:∃ z,z=(IntKind.wrap .i64 ((i37:Int)+1)):=⟨_,rfl⟩
    have b170:E168 11=.int .i64 w169:=by rw [hw169];exact eo st hE 11 _
    have b171:=eo st hE 1 (.int .i64 (a:Int))
    have b172:=eo st hE 8 (.int .i64 w10)
    have b173:=eo st hE 9 (.ptr p5 0)
    have b174:=eo st hE 10 (.int .u64 (mm19:Int))
    have b175:=eo st hE 0 S
    have g176:Grew H164 H168:=(gk st)
    have g177:OnlyS S H H168:=g165.grewR g176
    have r178:=g176.at r166
    have s179:=s164.grew g176
    have nw169:w169=((i37:Int)+1):=hw169.trans (wI _ om om)
    obtain⟨k180,hk180⟩:∃ k:Nat,w169=(k:Int):=⟨Int.toNat w169,by omega⟩
    have hsw9:((L37.set i37 [.int .i32 v87_0,.int .i32 v87_1,.int .i32 v87_2]).set k86 [.int .i32 v109_0,.int .i32 v109_1,.int .i32 v109_2])=swp L37 i37 k86:=by unfold swp;rw [he109,he87]
    have hm9:b - k180 < z37:=by omega
    exact qP kr ⟨b - k180,hm9,k180,((L37.set i37 [.int .i32 v87_0,.int .i32 v87_1,.int .i32 v87_2]).set k86 [.int .i32 v109_0,.int .i32 v109_1,.int .i32 v109_2]),w53,rfl,b171,b172,b173,b174,b175,(b170.trans (by rw [hk180])),g177,s179,(qL.set (qL.set hr37_0 (.cons kA (.cons kA (.cons kA .nil)))) (.cons kA (.cons kA (.cons kA .nil)))),r178,⟨⟨by omega,by omega⟩,by rw [hsw9];exact hstL37.trans (Pt2.swap om om om om om)⟩⟩
   ·intro vs ls H181 E181 st hE
    have f182:w55 < w10:=dt st 0
    obtain⟨w184,hw184⟩:∃ z,z=(IntKind.wrap .i64 ((a:Int)+w55)):=⟨_,rfl⟩
    have b185:E181 58=.int .i64 w184:=by rw [hw184];exact eo st hE 58 _
    have b191:E181 54=.int .i64 w184:=by rw [hw184];exact eo st hE 54 _
    have B9:=es st hE [(55,S),(0,S),(11,.int .i64 (i37:Int)),(49,S),(50,.int .i64 (i37:Int)),(51,S),(1,.int .i64 (a:Int)),(8,.int .i64 w10),(9,.ptr p5 0),(10,.int .u64 (mm19:Int))]
    have g196:Grew H52 H181:=(gk st)
    have g197:OnlyS S H H181:=g64.grewR g196
    have r198:=g196.at r54
    have s199:=s65.grew g196
    have nw184:w184=((a:Int)+w55):=hw184.trans (wI _ om om)
    obtain⟨k200,rfl⟩:∃ k:Nat,w184=(k:Int):=⟨Int.toNat w184,by omega⟩
    have hlt201:k200 < L37.length:=by omega
    obtain⟨lS201,cap201,rest201,wr201,eS201,gS201⟩:=(s199.toL).isSl hlt201
    have ne202:Apart p5 lS201:=⟨fun e=>(show ApartL (S) p5 by assumption).ne ⟨0,_,_,_,by rw [e];exact eS201⟩⟩
    obtain⟨v201_0,v201_1,v201_2,hm201⟩:=qC (hr37_0.get hlt201)
    have he201:L37.getD k200 []=[.int .i32 v201_0,.int .i32 v201_1,.int .i32 v201_2]:=by rw [<- hm201,List.getD_eq_getElem?_getD,List.getElem?_eq_getElem hlt201];rfl
    have q203:=q66.app (kL:KdsL [KI,K2,K2,K2] [.int .i64 (k200:Int),.int .i32 v201_0,.int .i32 v201_1,.int .i32 v201_2])
    refine rG vM 1 0 [(.ia 3 (n1 0) (nI 11),.ptr 0 0)] [⟨lS201,(k200 * 3),[n2 12,n2 13,n2 14],false⟩,⟨p5,0,[.nd 9 (.int .u64)],true⟩] [(55,n1 0),(0,n1 0),(11,nI 7),(49,n1 0),(50,nI 7),(51,n1 0),(1,nI 1),(8,nI 4),(9,.ptr 1 0),(10,.nd 5 (.int .u64)),(58,nI 11),(54,nI 11)] q203 (.cons (qA hr37_0 gS201 hlt201 rfl (by rw [hm201];exact(dL q203))) wA) (.cons (qD (k:=k200) (dE q203) eS201 (dE q203) hlt201 rfl) .nil) (sc B9 (.cons b185 (.cons b191 .nil))) ?_
    refine qM kr fun vs ls H204 E204 st hE=>?_
    have B10:=es st hE [(61,S),(62,.int .i64 (i37:Int)),(49,S),(50,.int .i64 (i37:Int)),(60,.agg [.int .i32 v201_0,.int .i32 v201_1,.int .i32 v201_2]),(51,S),(54,.int .i64 (k200:Int)),(11,.int .i64 (i37:Int)),(1,.int .i64 (a:Int)),(8,.int .i64 w10),(9,.ptr p5 0),(10,.int .u64 (mm19:Int)),(0,S)]
    have g218:Grew H181 H204:=(gk st)
    have g219:OnlyS S H H204:=g197.grewR g218
    have r221:=g218.at r198
    have s222:=s199.grew g218
    have hlt223:i37 < L37.length:=by omega
    obtain⟨lS223,cap223,rest223,wr223,eS223,gS223⟩:=(s222.toL).isSl hlt223
    have ne224:Apart p5 lS223:=⟨fun e=>(show ApartL (S) p5 by assumption).ne ⟨0,_,_,_,by rw [e];exact eS223⟩⟩
    obtain⟨v223_0,v223_1,v223_2,hm223⟩:=qC (hr37_0.get hlt223)
    have he223:L37.getD i37 []=[.int .i32 v223_0,.int .i32 v223_1,.int .i32 v223_2]:=by rw [<- hm223,List.getD_eq_getElem?_getD,List.getElem?_eq_getElem hlt223];rfl
    have q225:=q203.app (kL:KdsL [K2,K2,K2] [.int .i32 v223_0,.int .i32 v223_1,.int .i32 v223_2])
    refine rG vM 1 0 [(.ia 3 (n1 0) (nI 7),.ptr 0 0)] [⟨lS223,(i37 * 3),[n2 15,n2 16,n2 17],false⟩,⟨p5,0,[.nd 9 (.int .u64)],true⟩] [(61,n1 0),(62,nI 7),(49,n1 0),(50,nI 7),(60,.agg [n2 12,n2 13,n2 14]),(51,n1 0),(54,nI 11),(11,nI 7),(1,nI 1),(8,nI 4),(9,.ptr 1 0),(10,.nd 5 (.int .u64)),(0,n1 0)] q225 (.cons (qA hr37_0 gS223 hlt223 rfl (by rw [hm223];exact(dL q225))) wA) (.cons (qD (k:=i37) (dE q225) eS223 (dE q225) hlt223 rfl) .nil) B10 ?_
    refine qM kr fun vs ls H226 E226 st hE=>?_
    have b227:=eo st hE 65 (.ptr lS223 ((i37 * 3)+0))
    have b228:=eo st hE 60 (.agg [.int .i32 v201_0,.int .i32 v201_1,.int .i32 v201_2])
    have B11:=es st hE [(60,.agg [.int .i32 v201_0,.int .i32 v201_1,.int .i32 v201_2]),(51,S),(54,.int .i64 (k200:Int)),(64,.agg [.int .i32 v223_0,.int .i32 v223_1,.int .i32 v223_2]),(11,.int .i64 (i37:Int)),(1,.int .i64 (a:Int)),(8,.int .i64 w10),(9,.ptr p5 0),(10,.int .u64 (mm19:Int)),(0,S)]
    have g238:Grew H204 H226:=(gk st)
    have g239:OnlyS S H H226:=g219.grewR g238
    have r241:=g238.at r221
    have s242:=s222.grew g238
    refine qH (d:=none) (n:=3) (x:=.tmp 65) (y:=.tmp 60) kr (S:=S) (ms:=L37) (k:=i37) (m':=[.int .i32 v201_0,.int .i32 v201_1,.int .i32 v201_2]) (s242) eS223 b227 hlt223 hr37_0.len (by show AV.cells (E226 60)=_;rw [b228];rfl) rfl rfl rfl ?_
    intro H243 s243 oo243
    have hln243:(L37.set i37 [.int .i32 v201_0,.int .i32 v201_1,.int .i32 v201_2]).length=L37.length:=by simp
    have g244:OnlyS S H H243:=g239.trans oo243
    have r245:=oo243.at r241 am
    refine rG vM 0 0 [] [⟨p5,0,[.nd 9 (.int .u64)],true⟩] [(60,.agg [n2 12,n2 13,n2 14]),(51,n1 0),(54,nI 11),(64,.agg [n2 15,n2 16,n2 17]),(11,nI 7),(1,nI 1),(8,nI 4),(9,.ptr 0 0),(10,.nd 5 (.int .u64)),(0,n1 0)] q225 wA .nil (sn B11) ?_
    refine qM kr fun vs ls H247 E247 st hE=>?_
    have B12:=es st hE [(51,S),(54,.int .i64 (k200:Int)),(64,.agg [.int .i32 v223_0,.int .i32 v223_1,.int .i32 v223_2]),(11,.int .i64 (i37:Int)),(1,.int .i64 (a:Int)),(8,.int .i64 w10),(9,.ptr p5 0),(10,.int .u64 (mm19:Int)),(0,S)]
    have g257:Grew H243 H247:=(gk st)
    have g258:OnlyS S H H247:=g244.grewR g257
    have r259:=g257.at r245
    have s260:=s243.grew g257
    have hlt261:k200 < (L37.set i37 [.int .i32 v201_0,.int .i32 v201_1,.int .i32 v201_2]).length:=by omega
    obtain⟨lS261,cap261,rest261,wr261,eS261,gS261⟩:=(s260.toL).isSl hlt261
    have ne262:Apart p5 lS261:=⟨fun e=>(show ApartL (S) p5 by assumption).ne ⟨0,_,_,_,by rw [e];exact eS261⟩⟩
    obtain⟨v261_0,v261_1,v261_2,hm261⟩:=qC ((qL.set hr37_0 (.cons kA (.cons kA (.cons kA .nil)))).get hlt261)
    have he261:(L37.set i37 [.int .i32 v201_0,.int .i32 v201_1,.int .i32 v201_2]).getD k200 []=[.int .i32 v261_0,.int .i32 v261_1,.int .i32 v261_2]:=by rw [<- hm261,List.getD_eq_getElem?_getD,List.getElem?_eq_getElem hlt261];rfl
    have q263:=q225.app (kL:KdsL [K2,K2,K2] [.int .i32 v261_0,.int .i32 v261_1,.int .i32 v261_2])
    refine rG vM 1 0 [(.ia 3 (n1 0) (nI 11),.ptr 0 0)] [⟨lS261,(k200 * 3),[n2 18,n2 19,n2 20],false⟩,⟨p5,0,[.nd 9 (.int .u64)],true⟩] [(51,n1 0),(54,nI 11),(64,.agg [n2 15,n2 16,n2 17]),(11,nI 7),(1,nI 1),(8,nI 4),(9,.ptr 1 0),(10,.nd 5 (.int .u64)),(0,n1 0)] q263 (.cons (qA (qL.set hr37_0 (.cons kA (.cons kA (.cons kA .nil)))) gS261 hlt261 rfl (by rw [hm261];exact(dL q263))) wA) (.cons (qD (k:=k200) (dE q263) eS261 (dE q263) hlt261 rfl) .nil) B12 ?_
    refine qM kr fun vs ls H264 E264 st hE=>?_
    have b265:=eo st hE 66 (.ptr lS261 ((k200 * 3)+0))
    have b266:=eo st hE 64 (.agg [.int .i32 v223_0,.int .i32 v223_1,.int .i32 v223_2])
    have B13:=es st hE [(64,.agg [.int .i32 v223_0,.int .i32 v223_1,.int .i32 v223_2]),(11,.int .i64 (i37:Int)),(1,.int .i64 (a:Int)),(8,.int .i64 w10),(9,.ptr p5 0),(10,.int .u64 (mm19:Int)),(0,S)]
    have g273:Grew H247 H264:=(gk st)
    have g274:OnlyS S H H264:=g258.grewR g273
    have r276:=g273.at r259
    have s277:=s260.grew g273
    refine qH (d:=none) (n:=3) (x:=.tmp 66) (y:=.tmp 64) kr (S:=S) (ms:=(L37.set i37 [.int .i32 v201_0,.int .i32 v201_1,.int .i32 v201_2])) (k:=k200) (m':=[.int .i32 v223_0,.int .i32 v223_1,.int .i32 v223_2]) (s277) eS261 b265 hlt261 (qL.set hr37_0 (.cons kA (.cons kA (.cons kA .nil)))).len (by show AV.cells (E264 64)=_;rw [b266];rfl) rfl rfl rfl ?_
    intro H278 s278 oo278
    have hln278:((L37.set i37 [.int .i32 v201_0,.int .i32 v201_1,.int .i32 v201_2]).set k200 [.int .i32 v223_0,.int .i32 v223_1,.int .i32 v223_2]).length=(L37.set i37 [.int .i32 v201_0,.int .i32 v201_1,.int .i32 v201_2]).length:=by simp
    have g279:OnlyS S H H278:=g274.trans oo278
    have r280:=oo278.at r276 am
    refine rG vM 0 0 [] [⟨p5,0,[.nd 9 (.int .u64)],true⟩] [(64,.agg [n2 15,n2 16,n2 17]),(11,nI 7),(1,nI 1),(8,nI 4),(9,.ptr 0 0),(10,.nd 5 (.int .u64)),(0,n1 0)] q263 wA .nil (sn B13) ?_
    refine qM kr fun vs ls H282 E282 st hE=>?_
    obtain⟨w283,hw283⟩:∃ z,z=(IntKind.wrap .i64 ((i37:Int)+1)):=⟨_,rfl⟩
    have b284:E282 11=.int .i64 w283:=by rw [hw283];exact eo st hE 11 _
    have b285:=eo st hE 1 (.int .i64 (a:Int))
    have b286:=eo st hE 8 (.int .i64 w10)
    have b287:=eo st hE 9 (.ptr p5 0)
    have b288:=eo st hE 10 (.int .u64 (mm19:Int))
    have b289:=eo st hE 0 S
    have g290:Grew H278 H282:=(gk st)
    have g291:OnlyS S H H282:=g279.grewR g290
    have r292:=g290.at r280
    have s293:=s278.grew g290
    have nw283:w283=((i37:Int)+1):=hw283.trans (wI _ om om)
    obtain⟨k294,hk294⟩:∃ k:Nat,w283=(k:Int):=⟨Int.toNat w283,by omega⟩
    have hsw9:((L37.set i37 [.int .i32 v201_0,.int .i32 v201_1,.int .i32 v201_2]).set k200 [.int .i32 v223_0,.int .i32 v223_1,.int .i32 v223_2])=swp L37 i37 k200:=by unfold swp;rw [he223,he201]
    have hm9:b - k294 < z37:=by omega
    exact qP kr ⟨b - k294,hm9,k294,((L37.set i37 [.int .i32 v201_0,.int .i32 v201_1,.int .i32 v201_2]).set k200 [.int .i32 v223_0,.int .i32 v223_1,.int .i32 v223_2]),w53,rfl,b285,b286,b287,b288,b289,(b284.trans (by rw [hk294])),g291,s293,(qL.set (qL.set hr37_0 (.cons kA (.cons kA (.cons kA .nil)))) (.cons kA (.cons kA (.cons kA .nil)))),r292,⟨⟨by omega,by omega⟩,by rw [hsw9];exact hstL37.trans (Pt2.swap om om om om om)⟩⟩
  ·intro vs ls H295 E295 st hE
   have f296:(IntKind.wrap .i64 ((IntKind.wrap .i64 ((a:Int)+(IntKind.wrap .i64 ((IntKind.wrap .i64 (Int.tdiv w10 4)) * 2))))+1)) < (i37:Int):=dt st 0
   rw [show Int.tdiv w10 4=w10 / 4 from Int.tdiv_eq_ediv_of_nonneg om] at f296
   rw [wI (w10 / 4) om om] at f296
   rw [wI ((w10 / 4) * 2) om om] at f296
   rw [wI ((a:Int)+((w10 / 4) * 2)) om om] at f296
   rw [wI (((a:Int)+((w10 / 4) * 2))+1) om om] at f296
   obtain⟨w301,hw301⟩:∃ z,z=(IntKind.wrap .i64 (Int.tdiv w10 4)):=⟨_,rfl⟩
   have b302:E295 31=.int .i64 w301:=by rw [hw301];exact eo st hE 31 _
   obtain⟨w304,hw304⟩:∃ z,z=(IntKind.wrap .i64 ((IntKind.wrap .i64 (Int.tdiv w10 4)) * 2)):=⟨_,rfl⟩
   have b305:E295 32=.int .i64 w304:=by rw [hw304];exact eo st hE 32 _
   obtain⟨w306,hw306⟩:∃ z,z=(IntKind.wrap .i64 ((a:Int)+(IntKind.wrap .i64 ((IntKind.wrap .i64 (Int.tdiv w10 4)) * 2)))):=⟨_,rfl⟩
   have b307:E295 33=.int .i64 w306:=by rw [hw306];exact eo st hE 33 _
   obtain⟨w309,hw309⟩:∃ z,z=(IntKind.wrap .i64 ((IntKind.wrap .i64 ((a:Int)+(IntKind.wrap .i64 ((IntKind.wrap .i64 (Int.tdiv w10 4)) * 2))))+1)):=⟨_,rfl⟩
   have b310:E295 34=.int .i64 w309:=by rw [hw309];exact eo st hE 34 _
   obtain⟨w311,hw311⟩:∃ z,z=(!(decide ((IntKind.wrap .i64 ((IntKind.wrap .i64 ((a:Int)+(IntKind.wrap .i64 ((IntKind.wrap .i64 (Int.tdiv w10 4)) * 2))))+1)) < (i37:Int)))):=⟨_,rfl⟩
   have b312:E295 35=.bool w311:=by rw [hw311];exact eo st hE 35 _
   have B14:=es st hE [(11,.int .i64 (i37:Int)),(1,.int .i64 (a:Int)),(8,.int .i64 w10),(30,.int .i64 w10),(29,.int .i64 (a:Int)),(28,.int .i64 (i37:Int)),(9,.ptr p5 0),(10,.int .u64 (mm19:Int)),(0,S)]
   have g316:Grew Hx37 H295:=(gk st)
   have g317:OnlyS S H H295:=gt37.grewR g316
   have r318:=g316.at rw37_0
   have s319:=so37_0.grew g316
   have nw301:w301=(w10 / 4):=by
    rw [hw301]
    rw [show Int.tdiv w10 4=w10 / 4 from Int.tdiv_eq_ediv_of_nonneg om]
    rw [wI (w10 / 4) om om]
   have nw304:w304=((w10 / 4) * 2):=by
    rw [hw304]
    rw [show Int.tdiv w10 4=w10 / 4 from Int.tdiv_eq_ediv_of_nonneg om]
    rw [wI (w10 / 4) om om]
    rw [wI ((w10 / 4) * 2) om om]
   have nw306:w306=((a:Int)+((w10 / 4) * 2)):=by
    rw [hw306]
    rw [show Int.tdiv w10 4=w10 / 4 from Int.tdiv_eq_ediv_of_nonneg om]
    rw [wI (w10 / 4) om om]
    rw [wI ((w10 / 4) * 2) om om]
    rw [wI ((a:Int)+((w10 / 4) * 2)) om om]
   have nw309:w309=(((a:Int)+((w10 / 4) * 2))+1):=by
    rw [hw309]
    rw [show Int.tdiv w10 4=w10 / 4 from Int.tdiv_eq_ediv_of_nonneg om]
    rw [wI (w10 / 4) om om]
    rw [wI ((w10 / 4) * 2) om om]
    rw [wI ((a:Int)+((w10 / 4) * 2)) om om]
    rw [wI (((a:Int)+((w10 / 4) * 2))+1) om om]
   refine qQ (id:=0) kr ?_
   have q320:=q38.app (kL:KdsL [KI,KI,KI,KI,.bool] [.int .i64 w301,.int .i64 w304,.int .i64 w306,.int .i64 w309,.bool w311])
   refine rG vM 1 0 [] [wf p5 [.nd 8 (.int .u64)]] [(11,nI 7),(1,nI 1),(8,nI 4),(30,nI 4),(29,nI 1),(28,nI 7),(9,.ptr 0 0),(10,.nd 5 (.int .u64)),(0,n1 0),(31,nI 9),(32,nI 10),(33,nI 11),(34,nI 12),(35,nB 13)] q320 wA .nil (sc B14 (.cons b302 (.cons b305 (.cons b307 (.cons b310 (.cons b312 .nil)))))) ?_
   refine qM kr fun vs ls H321 E321 st hE=>?_
   have gz:OnlyS S H H321:=(g317.grewR (gk st))
   exact zF kr (qS st.inn hE (.inl rfl) (a:=.tuple []) kr gz.next ⟨rfl,gz,_,(s319.grew (st.inn.kept.grew (Nat.le_refl _))),hr37_0,hstL37⟩)
 ·intro vs ls H322 E322 st hE
  have f323:(IntKind.wrap .i64 ((b:Int) - (a:Int))) < 8:=dt st 0
  rw [wI ((b:Int) - (a:Int)) om om] at f323
  have gz:OnlyS S H H322:=((OnlyS.of_grew (Grew.refl H)).grewR (gk st))
  exact zF kr (qS st.inn hE (.inl rfl) (a:=.tuple []) kr gz.next ⟨rfl,gz,_,(hS.grew (st.inn.kept.grew (Nat.le_refl _))),hr,.refl _ _ _⟩)
end Go.Proofs.Ytgjggkgafdnhcaa
