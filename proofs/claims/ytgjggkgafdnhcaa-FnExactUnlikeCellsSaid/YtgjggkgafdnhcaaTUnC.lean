/- Contracts: a quicksort of cells, by the library. -/
import Derived.Test.YtgjggkgafdnhcaaTSqF
import Derived.Test.YtgjggkgafdnhcaaTSqI
import Derived.Test.YtgjggkgafdnhcaaSxE
import Derived.Test.YtgjggkgafdnhcaaTPdqB
import Derived.Test.YtgjggkgafdnhcaaSxC
import Derived.Test.YtgjggkgafdnhcaaSxD
set_option linter.unusedVariables false
set_option linter.unusedSimpArgs false
namespace Go.Proofs.Ytgjggkgafdnhcaa
open Go.Ab
set_option maxRecDepth 100000
set_option maxHeartbeats 1000000
attribute [local irreducible] Res
def Fr.noLoop:Fr->Bool
 | .loop _=>false
 | _=>true
def qLW:Pt->Pt
 | .code (.block i a) fr=>.code a (.block i :: fr)
 | o=>o
theorem qHQ {P:Program} {Q:PK} {E:Env} {H:AHeap} {o:Pt} (h:Res P (qLW o) Q E H):Res P o Q E H:=by
 cases o with
 | code a fr =>
  cases a with
  | block i a=>unfold Res at h ⊢;exact h
  | _=>exact h
 | _=>exact h
theorem qDi {P:Program} {Q:PK} {E:Env} {H:AHeap}:∀ {fr:List Fr},fr.all Fr.noLoop=true->Q .ret E H->zI P fr Q .ret E H
 | [],_,q=>q
 | .seq c :: fr,h,q=>qDi (fr:=fr) (by simp only [List.all_cons,Bool.and_eq_true] at h;exact h.2) q
 | .block i :: fr,h,q=>qDi (fr:=fr) (by simp only [List.all_cons,Bool.and_eq_true] at h;exact h.2) q
 | .loop c :: fr,h,q=>by simp only [List.all_cons,Fr.noLoop,Bool.false_and] at h;cases h
theorem qFD {P:Program} {R:Env->AHeap->Prop} {X:Env->AHeap->Prop} {Q:PK} {E:Env} {H:AHeap} {fr fr2:List Fr} (h1:fr.all Fr.noLoop=true) (h2:fr2.all Fr.noLoop=true) (h:Q .ret E H):qKb R (zI P fr (tC X (zI P fr2 Q))) .ret E H:=qDi (Q:=tC X (zI P fr2 Q)) h1 (qDi (Q:=Q) h2 h)
def tbP:List (Nat × AFun):=tb.filter fun p=>!(p.1 == 36 || p.1 == 48 || p.1 == 49 || p.1 == 50 || p.1 == 51 || p.1 == 52 || p.1 == 53 || p.1 == 54 || p.1 == 55)
theorem vV:qAA Try.prog tbP:=fun f a h=>jR f a (List.mem_filter.1 h).1
def pmP (fl:Nat) (ru:List (RK × SV)) (un:Nat):Pm:=⟨fl,ru,tbP,ap,un⟩
def qLP (N:Nat):Prop:=∀ (H:AHeap) (κ:List AV->Int) (L0:LL) (hr:qL KC L0) (hκ:uM κ L0) (S:AV) (hS:SlF H 3 L0 S) (hmx:L0.length < 65536) (a b l:Nat) (_:a<=b) (_:b<=L0.length) (_:b - a < N) (_:Lo κ a b L0) (_:Uq κ L0) (_:l < 65536),qK Try.prog 36 [S,.int .i64 (a:Int),.int .i64 (b:Int),.int .i64 (l:Int),.func 22 [] []] H fun r H'=>r=.tuple []/\OnlyS S H H' /\ ∃ M,SlF H' 3 M S/\qL KC M/\Pt2 a b L0 M/\yM κ a b M
theorem qLh {N:Nat} (ih:qLP N):qLP (N+1):=by
 intro H κ L0 hr hκ S hS hmx a b l hab hb hN hlo huq hl
 refine qN xK (by simp) ?_
 have q1:KdsL [.one,KI,KI,KI] [S,.int .i64 (a:Int),.int .i64 (b:Int),.int .i64 (l:Int)]:=kL
 refine rG vV 0 0 [] [] [(0,n1 0),(1,nI 1),(2,nI 2),(3,nI 3),(4,.fn 22 [] [])] q1 .nil .nil (.cons (t:=0) rfl (.cons (t:=1) rfl (.cons (t:=2) rfl (.cons (t:=3) rfl (.cons (t:=4) rfl .nil))))) ?_
 refine qM kr fun vs ls H2 E2 st hE=>?_
 have b3:=eo st hE 2 (.int .i64 (b:Int))
 have b4:=eo st hE 1 (.int .i64 (a:Int))
 have b5:=eo st hE 0 S
 have b6:=eo st hE 4 (.func 22 [] [])
 have b7:=eo st hE 3 (.int .i64 (l:Int))
 have b8:=eo st hE 10 (.bool true)
 have b9:=eo st hE 11 (.bool true)
 have g10:Grew H H2:=(gk st)
 have g11:OnlyS S H H2:=(OnlyS.of_grew (Grew.refl H)).grewR g10
 have s12:=hS.grew g10
 refine zE kr (fun z E H'=>∃ (p13:Nat) (q13:Nat) (m13:Nat) (wb13:Bool) (wp13:Bool) (L13:LL),z=q13 - p13/\E 0=S/\E 4=.func 22 [] []/\E 1=.int .i64 (p13:Int)/\E 2=.int .i64 (q13:Int)/\E 3=.int .i64 (m13:Int)/\E 10=.bool wb13/\E 11=.bool wp13/\OnlyS S H H'/\SlF H' 3 L13 S/\qL KC L13/\m13<=l/\PdS κ a b L0 L13 p13 q13) (b - a) ⟨a,b,l,true,true,L0,rfl,b5,b6,b4,b3,b7,(b8.trans rfl),(b9.trans rfl),g11,s12,hr,⟨by omega,.start hab hlo⟩⟩ ?_
 rintro z13 E13 Hx13 ⟨p13,q13,m13,wb13,wp13,L13,hz13,c13_0,c13_4,cv13_1,cv13_2,cv13_3,cv13_10,cv13_11,gt13,so13_0,hr13_0,iv13⟩
 obtain⟨hmm13,pdL13⟩:=iv13
 have hlL13:=pdL13.st.len
 have haap13:=pdL13.aa
 have habp13:=pdL13.ab
 have hbbp13:=pdL13.bb
 refine qHQ ?_
 refine gI 6 (fun E H'=>∃ (n14:Nat) (v14:Nat) (m14:Nat) (L14:LL),E 0=S/\E 4=.func 22 [] []/\E 1=.int .i64 (p13:Int)/\E 2=.int .i64 (q13:Int)/\E 10=.bool wb13/\E 11=.bool wp13/\E 12=.int .i64 (n14:Int)/\E 13=.int .i64 (v14:Int)/\E 3=.int .i64 (m14:Int)/\OnlyS S H H'/\SlF H' 3 L14 S/\qL KC L14/\n14+p13=q13/\p13+12 < q13/\p13<=v14/\v14 < q13/\m14<=l/\PdS κ a b L0 L14 p13 q13) kr ?_ ?_
 ·have q15:=q1.app (kL:KdsL [KI,KI,KI,.bool,.bool] [.int .i64 (p13:Int),.int .i64 (q13:Int),.int .i64 (m13:Int),.bool wb13,.bool wp13])
  refine rG vV 0 0 [] [] [(0,n1 0),(4,.fn 22 [] []),(1,nI 4),(2,nI 5),(3,nI 6),(10,nB 7),(11,nB 8)] q15 .nil .nil (.cons c13_0 (.cons c13_4 (.cons cv13_1 (.cons cv13_2 (.cons cv13_3 (.cons cv13_10 (.cons cv13_11 .nil))))))) ?_
  refine qMm kr ?_ ?_ ?_ ?_
  ·intro vs ls H16 E16 st hE
   have f17:¬ (12 < (IntKind.wrap .i64 ((q13:Int) - (p13:Int)))):=df st 0
   rw [wI ((q13:Int) - (p13:Int)) om om] at f17
   have b18:=eo st hE 26 S
   have b19:=eo st hE 27 (.int .i64 (p13:Int))
   have b20:=eo st hE 28 (.int .i64 (q13:Int))
   have b21:=eo st hE 29 (.func 22 [] [])
   have B1:=es st hE [(26,S),(27,.int .i64 (p13:Int)),(28,.int .i64 (q13:Int)),(29,.func 22 [] []),(3,.int .i64 (m13:Int)),(0,S),(1,.int .i64 (p13:Int)),(2,.int .i64 (q13:Int)),(4,.func 22 [] []),(10,.bool wb13),(11,.bool wp13)]
   obtain⟨w29,hw29⟩:∃ z,z=(IntKind.wrap .i64 ((q13:Int) - (p13:Int))):=⟨_,rfl⟩
   have b30:E16 12=.int .i64 w29:=by rw [hw29];exact eo st hE 12 _
   have g31:Grew Hx13 H16:=(gk st)
   have g32:OnlyS S H H16:=gt13.grewR g31
   have s33:=so13_0.grew g31
   have nw29:w29=((q13:Int) - (p13:Int)):=hw29.trans (wI _ om om)
   refine qR (d:=(some 30)) (f:=48) (args:=[.tmp 26,.tmp 27,.tmp 28,.tmp 29]) kr (R:=fun z H'=>z=.tuple []/\OnlyS S H16 H' /\ ∃ M,SlF H' 3 M S/\qL KC M/\Pt2 p13 q13 L13 M/\yM κ p13 q13 M) ?_ ?_
   ·show qK _ _ [E16 26,E16 27,E16 28,E16 29] _ _
    rw [b18,b19,b20,b21]
    exact(qEN H16 κ L13 hr13_0 (hκ.pe pdL13.st.pe) S s33 om p13 q13 om om)
   rintro z H34 ⟨rfl,oo34,M34,s34,hr34,hp34⟩
   have g35:OnlyS S H H34:=g32.trans oo34
   have q36:=q15.app (kL:KdsL [KI] [.int .i64 w29])
   refine rG vV 0 0 [] [] [(26,n1 0),(27,nI 4),(28,nI 5),(29,.fn 22 [] []),(3,nI 6),(0,n1 0),(1,nI 4),(2,nI 5),(4,.fn 22 [] []),(10,nB 7),(11,nB 8),(12,nI 9),(30,.tup [])] q36 .nil .nil (sc (sp B1) (.cons (zL rfl b30) (.cons qJ .nil))) ?_
   refine qM kr fun vs ls H37 E37 st hE=>?_
   have gz:OnlyS S H H37:=(g35.grewR (gk st))
   exact zF kr (qFD kr kr (qS st.inn hE (.inr rfl) (a:=.tuple []) kr gz.next ⟨rfl,gz,_,(s34.grew (st.inn.kept.grew (Nat.le_refl _))),hr34,pdL13.fin hb hp34.1 hp34.2⟩))
  ·intro vs ls H38 E38 st hE
   have f39:(m13:Int)=0:=dt st 0
   have f40:12 < (IntKind.wrap .i64 ((q13:Int) - (p13:Int))):=dt st 1
   rw [wI ((q13:Int) - (p13:Int)) om om] at f40
   have b41:=eo st hE 33 S
   have b42:=eo st hE 34 (.int .i64 (p13:Int))
   have b43:=eo st hE 35 (.int .i64 (q13:Int))
   have b44:=eo st hE 36 (.func 22 [] [])
   have B2:=es st hE [(33,S),(34,.int .i64 (p13:Int)),(35,.int .i64 (q13:Int)),(36,.func 22 [] []),(10,.bool wb13),(0,S),(1,.int .i64 (p13:Int)),(2,.int .i64 (q13:Int)),(4,.func 22 [] []),(3,.int .i64 (m13:Int)),(11,.bool wp13)]
   obtain⟨w52,hw52⟩:∃ z,z=(IntKind.wrap .i64 ((q13:Int) - (p13:Int))):=⟨_,rfl⟩
   have b53:E38 12=.int .i64 w52:=by rw [hw52];exact eo st hE 12 _
   have g54:Grew Hx13 H38:=(gk st)
   have g55:OnlyS S H H38:=gt13.grewR g54
   have s56:=so13_0.grew g54
   have nw52:w52=((q13:Int) - (p13:Int)):=hw52.trans (wI _ om om)
   refine qR (d:=(some 37)) (f:=49) (args:=[.tmp 33,.tmp 34,.tmp 35,.tmp 36]) kr (R:=fun z H'=>z=.tuple []/\OnlyS S H38 H' /\ ∃ M,SlF H' 3 M S/\qL KC M/\Pt2 p13 q13 L13 M/\yM κ p13 q13 M) ?_ ?_
   ·show qK _ _ [E38 33,E38 34,E38 35,E38 36] _ _
    rw [b41,b42,b43,b44]
    exact(qDP H38 κ L13 hr13_0 (hκ.pe pdL13.st.pe) S s56 om p13 q13 om om)
   rintro z H57 ⟨rfl,oo57,M57,s57,hr57,hp57⟩
   have g58:OnlyS S H H57:=g55.trans oo57
   have q59:=q15.app (kL:KdsL [KI] [.int .i64 w52])
   refine rG vV 0 0 [] [] [(33,n1 0),(34,nI 4),(35,nI 5),(36,.fn 22 [] []),(10,nB 7),(0,n1 0),(1,nI 4),(2,nI 5),(4,.fn 22 [] []),(3,nI 6),(11,nB 8),(12,nI 9),(37,.tup [])] q59 .nil .nil (sc (sp B2) (.cons (zL rfl b53) (.cons qJ .nil))) ?_
   refine qM kr fun vs ls H60 E60 st hE=>?_
   have gz:OnlyS S H H60:=(g58.grewR (gk st))
   exact zF kr (qFD kr kr (qS st.inn hE (.inr rfl) (a:=.tuple []) kr gz.next ⟨rfl,gz,_,(s57.grew (st.inn.kept.grew (Nat.le_refl _))),hr57,pdL13.fin hb hp57.1 hp57.2⟩))
  ·intro vs ls H61 E61 st hE
   have f62:wb13=false:=bf st 0
   have f63:¬ ((m13:Int)=0):=df st 1
   have f64:12 < (IntKind.wrap .i64 ((q13:Int) - (p13:Int))):=dt st 2
   rw [wI ((q13:Int) - (p13:Int)) om om] at f64
   have b65:=eo st hE 40 S
   have b66:=eo st hE 41 (.int .i64 (p13:Int))
   have b67:=eo st hE 42 (.int .i64 (q13:Int))
   have b68:=eo st hE 43 (.func 22 [] [])
   have B3:=es st hE [(40,S),(41,.int .i64 (p13:Int)),(42,.int .i64 (q13:Int)),(43,.func 22 [] []),(3,.int .i64 (m13:Int)),(0,S),(1,.int .i64 (p13:Int)),(2,.int .i64 (q13:Int)),(4,.func 22 [] []),(10,.bool wb13),(11,.bool wp13)]
   obtain⟨w76,hw76⟩:∃ z,z=(IntKind.wrap .i64 ((q13:Int) - (p13:Int))):=⟨_,rfl⟩
   have b77:E61 12=.int .i64 w76:=by rw [hw76];exact eo st hE 12 _
   have g78:Grew Hx13 H61:=(gk st)
   have g79:OnlyS S H H61:=gt13.grewR g78
   have s80:=so13_0.grew g78
   have nw76:w76=((q13:Int) - (p13:Int)):=hw76.trans (wI _ om om)
   refine qR (d:=(some 44)) (f:=50) (args:=[.tmp 40,.tmp 41,.tmp 42,.tmp 43]) kr (R:=fun z H'=>z=.tuple []/\OnlyS S H61 H' /\ ∃ M,SlF H' 3 M S/\qL KC M/\Pt2 p13 q13 L13 M) ?_ ?_
   ·show qK _ _ [E61 40,E61 41,E61 42,E61 43] _ _
    rw [b65,b66,b67,b68]
    exact(qEM H61 κ L13 hr13_0 (hκ.pe pdL13.st.pe) S s80 om p13 q13 om om)
   rintro z H81 ⟨rfl,oo81,M81,s81,hr81,hp81⟩
   have g82:OnlyS S H H81:=g79.trans oo81
   have pdM81:=pdL13.pt hb hp81
   have hlM81:=pdM81.st.len
   have q83:=q15.app (kL:KdsL [KI] [.int .i64 w76])
   refine rG vV 0 0 [] [] [(40,n1 0),(41,nI 4),(42,nI 5),(43,.fn 22 [] []),(3,nI 6),(0,n1 0),(1,nI 4),(2,nI 5),(4,.fn 22 [] []),(10,nB 7),(11,nB 8),(12,nI 9),(44,.tup [])] q83 .nil .nil (sc (sp B3) (.cons (zL rfl b77) (.cons qJ .nil))) ?_
   refine qM kr fun vs ls H84 E84 st hE=>?_
   have b85:=eo st hE 48 S
   have b86:=eo st hE 49 (.int .i64 (p13:Int))
   have b87:=eo st hE 50 (.int .i64 (q13:Int))
   have b88:=eo st hE 51 (.func 22 [] [])
   have B4:=es st hE [(48,S),(49,.int .i64 (p13:Int)),(50,.int .i64 (q13:Int)),(51,.func 22 [] []),(0,S),(1,.int .i64 (p13:Int)),(2,.int .i64 (q13:Int)),(4,.func 22 [] []),(10,.bool wb13),(11,.bool wp13),(12,.int .i64 w76)]
   obtain⟨w96,hw96⟩:∃ z,z=(IntKind.wrap .i64 ((m13:Int) - 1)):=⟨_,rfl⟩
   have b97:E84 3=.int .i64 w96:=by rw [hw96];exact eo st hE 3 _
   have g98:Grew H81 H84:=(gk st)
   have g99:OnlyS S H H84:=g82.grewR g98
   have s100:=s81.grew g98
   have nw96:w96=((m13:Int) - 1):=hw96.trans (wI _ om om)
   refine qR (d:=(some 52)) (f:=51) (args:=[.tmp 48,.tmp 49,.tmp 50,.tmp 51]) kr (R:=fun z H'=>Grew H84 H' /\ ∃ (p h:Nat),z=.tuple [.int .i64 (p:Int),.int .i64 (h:Int)]/\p13<=p/\p < q13/\h<=2) ?_ ?_
   ·show qK _ _ [E84 48,E84 49,E84 50,E84 51] _ _
    rw [b85,b86,b87,b88]
    exact(qAq H84 M81 hr81 S s100 om p13 q13 om om)
   rintro z H101 ⟨g9101,pv101,ht101,rfl,hpa101,hpb101,hht101⟩
   have g102:OnlyS S H H101:=g99.grewR g9101
   have s103:=s100.grew g9101
   have q104:=q83.app (kL:KdsL [KI,KI,KI] [.int .i64 w96,.int .i64 (pv101:Int),.int .i64 (ht101:Int)])
   refine rG vV 0 0 [] [] [(48,n1 0),(49,nI 4),(50,nI 5),(51,.fn 22 [] []),(0,n1 0),(1,nI 4),(2,nI 5),(4,.fn 22 [] []),(10,nB 7),(11,nB 8),(12,nI 9),(3,nI 10),(52,.tup [nI 11,nI 12])] q104 .nil .nil (sc (sp B4) (.cons (zL rfl b97) (.cons qJ .nil))) ?_
   refine qLS kr ?_ ?_ ?_ ?_ ?_
   ·intro vs ls H105 E105 st hE
    have f106:(ht101:Int)=2:=dt st 0
    have b107:=eo st hE 57 S
    have b108:=eo st hE 58 (.int .i64 (p13:Int))
    have b109:=eo st hE 59 (.int .i64 (q13:Int))
    have b110:=eo st hE 60 (.func 22 [] [])
    have B5:=es st hE [(57,S),(58,.int .i64 (p13:Int)),(59,.int .i64 (q13:Int)),(60,.func 22 [] []),(2,.int .i64 (q13:Int)),(13,.int .i64 (pv101:Int)),(1,.int .i64 (p13:Int)),(10,.bool wb13),(11,.bool wp13),(14,.int .i64 (ht101:Int)),(0,S),(4,.func 22 [] []),(12,.int .i64 w76),(3,.int .i64 w96)]
    have g121:Grew H101 H105:=(gk st)
    have g122:OnlyS S H H105:=g102.grewR g121
    have s123:=s103.grew g121
    refine qR (d:=(some 61)) (f:=52) (args:=[.tmp 57,.tmp 58,.tmp 59,.tmp 60]) kr (R:=fun z H'=>z=.tuple []/\OnlyS S H105 H' /\ ∃ M,SlF H' 3 M S/\qL KC M/\Pt2 p13 q13 M81 M) ?_ ?_
    ·show qK _ _ [E105 57,E105 58,E105 59,E105 60] _ _
     rw [b107,b108,b109,b110]
     exact(pB H105 κ M81 hr81 (hκ.pe pdM81.st.pe) S s123 om p13 q13 om om)
    rintro z H124 ⟨rfl,oo124,M124,s124,hr124,hp124⟩
    have g125:OnlyS S H H124:=g122.trans oo124
    have pdM124:=pdM81.pt hb hp124
    have hlM124:=pdM124.st.len
    refine rG vV 0 0 [] [] [(57,n1 0),(58,nI 4),(59,nI 5),(60,.fn 22 [] []),(2,nI 5),(13,nI 11),(1,nI 4),(10,nB 7),(11,nB 8),(14,nI 12),(0,n1 0),(4,.fn 22 [] []),(12,nI 9),(3,nI 10),(61,.tup [])] q104 .nil .nil (sc (sp B5) (.cons qJ .nil)) ?_
    refine cJ kr ?_ ?_ ?_
    ·intro vs ls H127 E127 st hE
     have f128:wp13=true:=bf st 0
     have f129:wb13=true:=bf st 1
     obtain⟨w133,hw133⟩:∃ z,z=(IntKind.wrap .i64 ((IntKind.wrap .i64 ((q13:Int) - 1)) - (IntKind.wrap .i64 ((pv101:Int) - (p13:Int))))):=⟨_,rfl⟩
     have nw133:w133=(((q13:Int) - 1) - ((pv101:Int) - (p13:Int))):=by
      rw [hw133]
      rw [wI ((pv101:Int) - (p13:Int)) om om]
      rw [wI ((q13:Int) - 1) om om]
      rw [wI (((q13:Int) - 1) - ((pv101:Int) - (p13:Int))) om om]
     exact absurd (f62.symm.trans f129) (by decide)
    ·intro vs ls H143 E143 st hE
     have f144:wp13=false:=bf st 0
     have f145:wb13=true:=bf st 1
     have b146:=eo st hE 1 (.int .i64 (p13:Int))
     have b147:=eo st hE 4 (.func 22 [] [])
     have b148:=eo st hE 0 S
     obtain⟨w149,hw149⟩:∃ z,z=(IntKind.wrap .i64 ((IntKind.wrap .i64 ((q13:Int) - 1)) - (IntKind.wrap .i64 ((pv101:Int) - (p13:Int))))):=⟨_,rfl⟩
     have b150:E143 13=.int .i64 w149:=by rw [hw149];exact eo st hE 13 _
     have b151:=eo st hE 2 (.int .i64 (q13:Int))
     have b152:=eo st hE 12 (.int .i64 w76)
     have b153:=eo st hE 3 (.int .i64 w96)
     have b154:=eo st hE 10 (.bool wb13)
     have b155:=eo st hE 11 (.bool wp13)
     have g156:Grew H124 H143:=(gk st)
     have g157:OnlyS S H H143:=g125.grewR g156
     have s158:=s124.grew g156
     have nw149:w149=(((q13:Int) - 1) - ((pv101:Int) - (p13:Int))):=by
      rw [hw149]
      rw [wI ((pv101:Int) - (p13:Int)) om om]
      rw [wI ((q13:Int) - 1) om om]
      rw [wI (((q13:Int) - 1) - ((pv101:Int) - (p13:Int))) om om]
     obtain⟨k159,hk159⟩:∃ k:Nat,w76=(k:Int):=⟨Int.toNat w76,by omega⟩
     obtain⟨k160,hk160⟩:∃ k:Nat,w149=(k:Int):=⟨Int.toNat w149,by omega⟩
     obtain⟨k161,hk161⟩:∃ k:Nat,w96=(k:Int):=⟨Int.toNat w96,by omega⟩
     exact qZ kr ⟨k159,k160,k161,M124,b148,b147,b146,b151,b154,b155,(b152.trans (by rw [hk159])),(b150.trans (by rw [hk160])),(b153.trans (by rw [hk161])),g157,s158,hr124,⟨by omega,by omega,by omega,by omega,by omega,pdM124⟩⟩
    ·intro vs ls H162 E162 st hE
     have f163:wb13=false:=bf st 0
     have b164:=eo st hE 1 (.int .i64 (p13:Int))
     have b165:=eo st hE 4 (.func 22 [] [])
     have b166:=eo st hE 0 S
     obtain⟨w167,hw167⟩:∃ z,z=(IntKind.wrap .i64 ((IntKind.wrap .i64 ((q13:Int) - 1)) - (IntKind.wrap .i64 ((pv101:Int) - (p13:Int))))):=⟨_,rfl⟩
     have b168:E162 13=.int .i64 w167:=by rw [hw167];exact eo st hE 13 _
     have b169:=eo st hE 2 (.int .i64 (q13:Int))
     have b170:=eo st hE 12 (.int .i64 w76)
     have b171:=eo st hE 3 (.int .i64 w96)
     have b172:=eo st hE 10 (.bool wb13)
     have b173:=eo st hE 11 (.bool wp13)
     have g174:Grew H124 H162:=(gk st)
     have g175:OnlyS S H H162:=g125.grewR g174
     have s176:=s124.grew g174
     have nw167:w167=(((q13:Int) - 1) - ((pv101:Int) - (p13:Int))):=by
      rw [hw167]
      rw [wI ((pv101:Int) - (p13:Int)) om om]
      rw [wI ((q13:Int) - 1) om om]
      rw [wI (((q13:Int) - 1) - ((pv101:Int) - (p13:Int))) om om]
     obtain⟨k177,hk177⟩:∃ k:Nat,w76=(k:Int):=⟨Int.toNat w76,by omega⟩
     obtain⟨k178,hk178⟩:∃ k:Nat,w167=(k:Int):=⟨Int.toNat w167,by omega⟩
     obtain⟨k179,hk179⟩:∃ k:Nat,w96=(k:Int):=⟨Int.toNat w96,by omega⟩
     exact qZ kr ⟨k177,k178,k179,M124,b166,b165,b164,b169,b172,b173,(b170.trans (by rw [hk177])),(b168.trans (by rw [hk178])),(b171.trans (by rw [hk179])),g175,s176,hr124,⟨by omega,by omega,by omega,by omega,by omega,pdM124⟩⟩
   ·intro vs ls H180 E180 st hE
    have f181:(ht101:Int)=1:=dt st 0
    have f182:wp13=true:=bf st 1
    have f183:wb13=true:=bf st 2
    have f184:¬ ((ht101:Int)=2):=df st 3
    exact absurd (f62.symm.trans f183) (by decide)
   ·intro vs ls H197 E197 st hE
    have f198:¬ ((ht101:Int)=1):=df st 0
    have f199:wp13=true:=bf st 1
    have f200:wb13=true:=bf st 2
    have f201:¬ ((ht101:Int)=2):=df st 3
    have b202:=eo st hE 1 (.int .i64 (p13:Int))
    have b203:=eo st hE 4 (.func 22 [] [])
    have b204:=eo st hE 0 S
    have b205:=eo st hE 13 (.int .i64 (pv101:Int))
    have b206:=eo st hE 2 (.int .i64 (q13:Int))
    have b207:=eo st hE 12 (.int .i64 w76)
    have b208:=eo st hE 3 (.int .i64 w96)
    have b209:=eo st hE 10 (.bool wb13)
    have b210:=eo st hE 11 (.bool wp13)
    have g211:Grew H101 H197:=(gk st)
    have g212:OnlyS S H H197:=g102.grewR g211
    have s213:=s103.grew g211
    obtain⟨k214,hk214⟩:∃ k:Nat,w76=(k:Int):=⟨Int.toNat w76,by omega⟩
    obtain⟨k215,hk215⟩:∃ k:Nat,w96=(k:Int):=⟨Int.toNat w96,by omega⟩
    exact qZ kr ⟨k214,pv101,k215,M81,b204,b203,b202,b206,b209,b210,(b207.trans (by rw [hk214])),b205,(b208.trans (by rw [hk215])),g212,s213,hr81,⟨by omega,by omega,by omega,by omega,by omega,pdM81⟩⟩
   ·intro vs ls H216 E216 st hE
    have f217:wp13=false:=bf st 0
    have f218:wb13=true:=bf st 1
    have f219:¬ ((ht101:Int)=2):=df st 2
    have b220:=eo st hE 1 (.int .i64 (p13:Int))
    have b221:=eo st hE 4 (.func 22 [] [])
    have b222:=eo st hE 0 S
    have b223:=eo st hE 13 (.int .i64 (pv101:Int))
    have b224:=eo st hE 2 (.int .i64 (q13:Int))
    have b225:=eo st hE 12 (.int .i64 w76)
    have b226:=eo st hE 3 (.int .i64 w96)
    have b227:=eo st hE 10 (.bool wb13)
    have b228:=eo st hE 11 (.bool wp13)
    have g229:Grew H101 H216:=(gk st)
    have g230:OnlyS S H H216:=g102.grewR g229
    have s231:=s103.grew g229
    obtain⟨k232,hk232⟩:∃ k:Nat,w76=(k:Int):=⟨Int.toNat w76,by omega⟩
    obtain⟨k233,hk233⟩:∃ k:Nat,w96=(k:Int):=⟨Int.toNat w96,by omega⟩
    exact qZ kr ⟨k232,pv101,k233,M81,b222,b221,b220,b224,b227,b228,(b225.trans (by rw [hk232])),b223,(b226.trans (by rw [hk233])),g230,s231,hr81,⟨by omega,by omega,by omega,by omega,by omega,pdM81⟩⟩
   ·intro vs ls H234 E234 st hE
    have f235:wb13=false:=bf st 0
    have f236:¬ ((ht101:Int)=2):=df st 1
    have b237:=eo st hE 1 (.int .i64 (p13:Int))
    have b238:=eo st hE 4 (.func 22 [] [])
    have b239:=eo st hE 0 S
    have b240:=eo st hE 13 (.int .i64 (pv101:Int))
    have b241:=eo st hE 2 (.int .i64 (q13:Int))
    have b242:=eo st hE 12 (.int .i64 w76)
    have b243:=eo st hE 3 (.int .i64 w96)
    have b244:=eo st hE 10 (.bool wb13)
    have b245:=eo st hE 11 (.bool wp13)
    have g246:Grew H101 H234:=(gk st)
    have g247:OnlyS S H H234:=g102.grewR g246
    have s248:=s103.grew g246
    obtain⟨k249,hk249⟩:∃ k:Nat,w76=(k:Int):=⟨Int.toNat w76,by omega⟩
    obtain⟨k250,hk250⟩:∃ k:Nat,w96=(k:Int):=⟨Int.toNat w96,by omega⟩
    exact qZ kr ⟨k249,pv101,k250,M81,b239,b238,b237,b241,b244,b245,(b242.trans (by rw [hk249])),b240,(b243.trans (by rw [hk250])),g247,s248,hr81,⟨by omega,by omega,by omega,by omega,by omega,pdM81⟩⟩
  ·intro vs ls H251 E251 st hE
   have f252:wb13=true:=bf st 0
   have f253:¬ ((m13:Int)=0):=df st 1
   have f254:12 < (IntKind.wrap .i64 ((q13:Int) - (p13:Int))):=dt st 2
   rw [wI ((q13:Int) - (p13:Int)) om om] at f254
   have b255:=eo st hE 48 S
   have b256:=eo st hE 49 (.int .i64 (p13:Int))
   have b257:=eo st hE 50 (.int .i64 (q13:Int))
   have b258:=eo st hE 51 (.func 22 [] [])
   obtain⟨w265,hw265⟩:∃ z,z=(IntKind.wrap .i64 ((q13:Int) - (p13:Int))):=⟨_,rfl⟩
   have b266:E251 12=.int .i64 w265:=by rw [hw265];exact eo st hE 12 _
   have B6:=es st hE [(48,S),(49,.int .i64 (p13:Int)),(50,.int .i64 (q13:Int)),(51,.func 22 [] []),(0,S),(1,.int .i64 (p13:Int)),(2,.int .i64 (q13:Int)),(4,.func 22 [] []),(10,.bool wb13),(11,.bool wp13),(3,.int .i64 (m13:Int))]
   have g268:Grew Hx13 H251:=(gk st)
   have g269:OnlyS S H H251:=gt13.grewR g268
   have s270:=so13_0.grew g268
   have nw265:w265=((q13:Int) - (p13:Int)):=hw265.trans (wI _ om om)
   refine qR (d:=(some 52)) (f:=51) (args:=[.tmp 48,.tmp 49,.tmp 50,.tmp 51]) kr (R:=fun z H'=>Grew H251 H' /\ ∃ (p h:Nat),z=.tuple [.int .i64 (p:Int),.int .i64 (h:Int)]/\p13<=p/\p < q13/\h<=2) ?_ ?_
   ·show qK _ _ [E251 48,E251 49,E251 50,E251 51] _ _
    rw [b255,b256,b257,b258]
    exact(qAq H251 L13 hr13_0 S s270 om p13 q13 om om)
   rintro z H271 ⟨g9271,pv271,ht271,rfl,hpa271,hpb271,hht271⟩
   have g272:OnlyS S H H271:=g269.grewR g9271
   have s273:=s270.grew g9271
   have q274:=q15.app (kL:KdsL [KI,KI,KI] [.int .i64 w265,.int .i64 (pv271:Int),.int .i64 (ht271:Int)])
   refine rG vV 0 0 [] [] [(48,n1 0),(49,nI 4),(50,nI 5),(51,.fn 22 [] []),(0,n1 0),(1,nI 4),(2,nI 5),(4,.fn 22 [] []),(10,nB 7),(11,nB 8),(3,nI 6),(12,nI 9),(52,.tup [nI 10,nI 11])] q274 .nil .nil (sc (sp B6) (.cons (zL rfl b266) (.cons qJ .nil))) ?_
   refine qLS kr ?_ ?_ ?_ ?_ ?_
   ·intro vs ls H275 E275 st hE
    have f276:(ht271:Int)=2:=dt st 0
    have b277:=eo st hE 57 S
    have b278:=eo st hE 58 (.int .i64 (p13:Int))
    have b279:=eo st hE 59 (.int .i64 (q13:Int))
    have b280:=eo st hE 60 (.func 22 [] [])
    have B7:=es st hE [(57,S),(58,.int .i64 (p13:Int)),(59,.int .i64 (q13:Int)),(60,.func 22 [] []),(2,.int .i64 (q13:Int)),(13,.int .i64 (pv271:Int)),(1,.int .i64 (p13:Int)),(10,.bool wb13),(11,.bool wp13),(14,.int .i64 (ht271:Int)),(0,S),(4,.func 22 [] []),(12,.int .i64 w265),(3,.int .i64 (m13:Int))]
    have g291:Grew H271 H275:=(gk st)
    have g292:OnlyS S H H275:=g272.grewR g291
    have s293:=s273.grew g291
    refine qR (d:=(some 61)) (f:=52) (args:=[.tmp 57,.tmp 58,.tmp 59,.tmp 60]) kr (R:=fun z H'=>z=.tuple []/\OnlyS S H275 H' /\ ∃ M,SlF H' 3 M S/\qL KC M/\Pt2 p13 q13 L13 M) ?_ ?_
    ·show qK _ _ [E275 57,E275 58,E275 59,E275 60] _ _
     rw [b277,b278,b279,b280]
     exact(pB H275 κ L13 hr13_0 (hκ.pe pdL13.st.pe) S s293 om p13 q13 om om)
    rintro z H294 ⟨rfl,oo294,M294,s294,hr294,hp294⟩
    have g295:OnlyS S H H294:=g292.trans oo294
    have pdM294:=pdL13.pt hb hp294
    have hlM294:=pdM294.st.len
    refine rG vV 0 0 [] [] [(57,n1 0),(58,nI 4),(59,nI 5),(60,.fn 22 [] []),(2,nI 5),(13,nI 10),(1,nI 4),(10,nB 7),(11,nB 8),(14,nI 11),(0,n1 0),(4,.fn 22 [] []),(12,nI 9),(3,nI 6),(61,.tup [])] q274 .nil .nil (sc (sp B7) (.cons qJ .nil)) ?_
    refine cJ kr ?_ ?_ ?_
    ·intro vs ls H297 E297 st hE
     have f298:wp13=true:=bf st 0
     have f299:wb13=true:=bf st 1
     have b300:=eo st hE 76 S
     have b301:=eo st hE 77 (.int .i64 (p13:Int))
     have b302:=eo st hE 78 (.int .i64 (q13:Int))
     have b303:=eo st hE 79 (.func 22 [] [])
     obtain⟨w307,hw307⟩:∃ z,z=(IntKind.wrap .i64 ((IntKind.wrap .i64 ((q13:Int) - 1)) - (IntKind.wrap .i64 ((pv271:Int) - (p13:Int))))):=⟨_,rfl⟩
     have b308:E297 13=.int .i64 w307:=by rw [hw307];exact eo st hE 13 _
     have B8:=es st hE [(76,S),(77,.int .i64 (p13:Int)),(78,.int .i64 (q13:Int)),(79,.func 22 [] []),(1,.int .i64 (p13:Int)),(4,.func 22 [] []),(0,S),(2,.int .i64 (q13:Int)),(12,.int .i64 w265),(3,.int .i64 (m13:Int)),(10,.bool wb13),(11,.bool wp13)]
     have g314:Grew H294 H297:=(gk st)
     have g315:OnlyS S H H297:=g295.grewR g314
     have s316:=s294.grew g314
     have nw307:w307=(((q13:Int) - 1) - ((pv271:Int) - (p13:Int))):=by
      rw [hw307]
      rw [wI ((pv271:Int) - (p13:Int)) om om]
      rw [wI ((q13:Int) - 1) om om]
      rw [wI (((q13:Int) - 1) - ((pv271:Int) - (p13:Int))) om om]
     refine qR (d:=(some 80)) (f:=53) (args:=[.tmp 76,.tmp 77,.tmp 78,.tmp 79]) kr (R:=fun z H'=>OnlyS S H297 H' /\ ∃ M x,z=.bool x/\SlF H' 3 M S/\qL KC M/\Pt2 p13 q13 M294 M/\(x=true->yM κ p13 q13 M)) ?_ ?_
     ·show qK _ _ [E297 76,E297 77,E297 78,E297 79] _ _
      rw [b300,b301,b302,b303]
      exact(qAu H297 κ M294 hr294 (hκ.pe pdM294.st.pe) S s316 om p13 q13 om om pdM294.lo)
     rintro z H317 ⟨oo317,M317,bx317,rfl,s317,hr317,hp317⟩
     have g318:OnlyS S H H317:=g315.trans oo317
     have pdM317:=pdM294.pt hb hp317.1
     have hlM317:=pdM317.st.len
     have q319:=q274.app (kL:KdsL [KI,.bool] [.int .i64 w307,.bool bx317])
     refine rG vV 0 0 [] [] [(76,n1 0),(77,nI 4),(78,nI 5),(79,.fn 22 [] []),(1,nI 4),(4,.fn 22 [] []),(0,n1 0),(2,nI 5),(12,nI 9),(3,nI 6),(10,nB 7),(11,nB 8),(13,nI 12),(80,nB 13)] q319 .nil .nil (sc (sp B8) (.cons (zL rfl b308) (.cons qJ .nil))) ?_
     refine vI kr ?_ ?_
     ·intro vs ls H320 E320 st hE
      have f321:bx317=true:=bf st 0
      have gz:OnlyS S H H320:=(g318.grewR (gk st))
      exact zF kr (qFD kr kr (qS st.inn hE (.inr rfl) (a:=.tuple []) kr gz.next ⟨rfl,gz,_,(s317.grew (st.inn.kept.grew (Nat.le_refl _))),hr317,pdM317.fin hb (.refl _ _ _) (hp317.2 f321)⟩))
     ·intro vs ls H322 E322 st hE
      have f323:bx317=false:=bf st 0
      have b324:=eo st hE 1 (.int .i64 (p13:Int))
      have b325:=eo st hE 4 (.func 22 [] [])
      have b326:=eo st hE 0 S
      have b327:=eo st hE 13 (.int .i64 w307)
      have b328:=eo st hE 2 (.int .i64 (q13:Int))
      have b329:=eo st hE 12 (.int .i64 w265)
      have b330:=eo st hE 3 (.int .i64 (m13:Int))
      have b331:=eo st hE 10 (.bool wb13)
      have b332:=eo st hE 11 (.bool wp13)
      have g333:Grew H317 H322:=(gk st)
      have g334:OnlyS S H H322:=g318.grewR g333
      have s335:=s317.grew g333
      obtain⟨k336,hk336⟩:∃ k:Nat,w265=(k:Int):=⟨Int.toNat w265,by omega⟩
      obtain⟨k337,hk337⟩:∃ k:Nat,w307=(k:Int):=⟨Int.toNat w307,by omega⟩
      exact qZ kr ⟨k336,k337,m13,M317,b326,b325,b324,b328,b331,b332,(b329.trans (by rw [hk336])),(b327.trans (by rw [hk337])),b330,g334,s335,hr317,⟨by omega,by omega,by omega,by omega,by omega,pdM317⟩⟩
    ·intro vs ls H338 E338 st hE
     have f339:wp13=false:=bf st 0
     have f340:wb13=true:=bf st 1
     have b341:=eo st hE 1 (.int .i64 (p13:Int))
     have b342:=eo st hE 4 (.func 22 [] [])
     have b343:=eo st hE 0 S
     obtain⟨w344,hw344⟩:∃ z,z=(IntKind.wrap .i64 ((IntKind.wrap .i64 ((q13:Int) - 1)) - (IntKind.wrap .i64 ((pv271:Int) - (p13:Int))))):=⟨_,rfl⟩
     have b345:E338 13=.int .i64 w344:=by rw [hw344];exact eo st hE 13 _
     have b346:=eo st hE 2 (.int .i64 (q13:Int))
     have b347:=eo st hE 12 (.int .i64 w265)
     have b348:=eo st hE 3 (.int .i64 (m13:Int))
     have b349:=eo st hE 10 (.bool wb13)
     have b350:=eo st hE 11 (.bool wp13)
     have g351:Grew H294 H338:=(gk st)
     have g352:OnlyS S H H338:=g295.grewR g351
     have s353:=s294.grew g351
     have nw344:w344=(((q13:Int) - 1) - ((pv271:Int) - (p13:Int))):=by
      rw [hw344]
      rw [wI ((pv271:Int) - (p13:Int)) om om]
      rw [wI ((q13:Int) - 1) om om]
      rw [wI (((q13:Int) - 1) - ((pv271:Int) - (p13:Int))) om om]
     obtain⟨k354,hk354⟩:∃ k:Nat,w265=(k:Int):=⟨Int.toNat w265,by omega⟩
     obtain⟨k355,hk355⟩:∃ k:Nat,w344=(k:Int):=⟨Int.toNat w344,by omega⟩
     exact qZ kr ⟨k354,k355,m13,M294,b343,b342,b341,b346,b349,b350,(b347.trans (by rw [hk354])),(b345.trans (by rw [hk355])),b348,g352,s353,hr294,⟨by omega,by omega,by omega,by omega,by omega,pdM294⟩⟩
    ·intro vs ls H356 E356 st hE
     have f357:wb13=false:=bf st 0
     have b358:=eo st hE 1 (.int .i64 (p13:Int))
     have b359:=eo st hE 4 (.func 22 [] [])
     have b360:=eo st hE 0 S
     obtain⟨w361,hw361⟩:∃ z,z=(IntKind.wrap .i64 ((IntKind.wrap .i64 ((q13:Int) - 1)) - (IntKind.wrap .i64 ((pv271:Int) - (p13:Int))))):=⟨_,rfl⟩
     have b362:E356 13=.int .i64 w361:=by rw [hw361];exact eo st hE 13 _
     have b363:=eo st hE 2 (.int .i64 (q13:Int))
     have b364:=eo st hE 12 (.int .i64 w265)
     have b365:=eo st hE 3 (.int .i64 (m13:Int))
     have b366:=eo st hE 10 (.bool wb13)
     have b367:=eo st hE 11 (.bool wp13)
     have g368:Grew H294 H356:=(gk st)
     have g369:OnlyS S H H356:=g295.grewR g368
     have s370:=s294.grew g368
     have nw361:w361=(((q13:Int) - 1) - ((pv271:Int) - (p13:Int))):=by
      rw [hw361]
      rw [wI ((pv271:Int) - (p13:Int)) om om]
      rw [wI ((q13:Int) - 1) om om]
      rw [wI (((q13:Int) - 1) - ((pv271:Int) - (p13:Int))) om om]
     obtain⟨k371,hk371⟩:∃ k:Nat,w265=(k:Int):=⟨Int.toNat w265,by omega⟩
     obtain⟨k372,hk372⟩:∃ k:Nat,w361=(k:Int):=⟨Int.toNat w361,by omega⟩
     exact qZ kr ⟨k371,k372,m13,M294,b360,b359,b358,b363,b366,b367,(b364.trans (by rw [hk371])),(b362.trans (by rw [hk372])),b365,g369,s370,hr294,⟨by omega,by omega,by omega,by omega,by omega,pdM294⟩⟩
   ·intro vs ls H373 E373 st hE
    have f374:(ht271:Int)=1:=dt st 0
    have f375:wp13=true:=bf st 1
    have f376:wb13=true:=bf st 2
    have f377:¬ ((ht271:Int)=2):=df st 3
    have b378:=eo st hE 76 S
    have b379:=eo st hE 77 (.int .i64 (p13:Int))
    have b380:=eo st hE 78 (.int .i64 (q13:Int))
    have b381:=eo st hE 79 (.func 22 [] [])
    have B9:=es st hE [(76,S),(77,.int .i64 (p13:Int)),(78,.int .i64 (q13:Int)),(79,.func 22 [] []),(1,.int .i64 (p13:Int)),(4,.func 22 [] []),(0,S),(13,.int .i64 (pv271:Int)),(2,.int .i64 (q13:Int)),(12,.int .i64 w265),(3,.int .i64 (m13:Int)),(10,.bool wb13),(11,.bool wp13)]
    have g391:Grew H271 H373:=(gk st)
    have g392:OnlyS S H H373:=g272.grewR g391
    have s393:=s273.grew g391
    refine qR (d:=(some 80)) (f:=53) (args:=[.tmp 76,.tmp 77,.tmp 78,.tmp 79]) kr (R:=fun z H'=>OnlyS S H373 H' /\ ∃ M x,z=.bool x/\SlF H' 3 M S/\qL KC M/\Pt2 p13 q13 L13 M/\(x=true->yM κ p13 q13 M)) ?_ ?_
    ·show qK _ _ [E373 76,E373 77,E373 78,E373 79] _ _
     rw [b378,b379,b380,b381]
     exact(qAu H373 κ L13 hr13_0 (hκ.pe pdL13.st.pe) S s393 om p13 q13 om om pdL13.lo)
    rintro z H394 ⟨oo394,M394,bx394,rfl,s394,hr394,hp394⟩
    have g395:OnlyS S H H394:=g392.trans oo394
    have pdM394:=pdL13.pt hb hp394.1
    have hlM394:=pdM394.st.len
    have q396:=q274.app (kL:KdsL [.bool] [.bool bx394])
    refine rG vV 0 0 [] [] [(76,n1 0),(77,nI 4),(78,nI 5),(79,.fn 22 [] []),(1,nI 4),(4,.fn 22 [] []),(0,n1 0),(13,nI 10),(2,nI 5),(12,nI 9),(3,nI 6),(10,nB 7),(11,nB 8),(80,nB 12)] q396 .nil .nil (sc (sp B9) (.cons qJ .nil)) ?_
    refine vI kr ?_ ?_
    ·intro vs ls H397 E397 st hE
     have f398:bx394=true:=bf st 0
     have gz:OnlyS S H H397:=(g395.grewR (gk st))
     exact zF kr (qFD kr kr (qS st.inn hE (.inr rfl) (a:=.tuple []) kr gz.next ⟨rfl,gz,_,(s394.grew (st.inn.kept.grew (Nat.le_refl _))),hr394,pdM394.fin hb (.refl _ _ _) (hp394.2 f398)⟩))
    ·intro vs ls H399 E399 st hE
     have f400:bx394=false:=bf st 0
     have b401:=eo st hE 1 (.int .i64 (p13:Int))
     have b402:=eo st hE 4 (.func 22 [] [])
     have b403:=eo st hE 0 S
     have b404:=eo st hE 13 (.int .i64 (pv271:Int))
     have b405:=eo st hE 2 (.int .i64 (q13:Int))
     have b406:=eo st hE 12 (.int .i64 w265)
     have b407:=eo st hE 3 (.int .i64 (m13:Int))
     have b408:=eo st hE 10 (.bool wb13)
     have b409:=eo st hE 11 (.bool wp13)
     have g410:Grew H394 H399:=(gk st)
     have g411:OnlyS S H H399:=g395.grewR g410
     have s412:=s394.grew g410
     obtain⟨k413,hk413⟩:∃ k:Nat,w265=(k:Int):=⟨Int.toNat w265,by omega⟩
     exact qZ kr ⟨k413,pv271,m13,M394,b403,b402,b401,b405,b408,b409,(b406.trans (by rw [hk413])),b404,b407,g411,s412,hr394,⟨by omega,by omega,by omega,by omega,by omega,pdM394⟩⟩
   ·intro vs ls H414 E414 st hE
    have f415:¬ ((ht271:Int)=1):=df st 0
    have f416:wp13=true:=bf st 1
    have f417:wb13=true:=bf st 2
    have f418:¬ ((ht271:Int)=2):=df st 3
    have b419:=eo st hE 1 (.int .i64 (p13:Int))
    have b420:=eo st hE 4 (.func 22 [] [])
    have b421:=eo st hE 0 S
    have b422:=eo st hE 13 (.int .i64 (pv271:Int))
    have b423:=eo st hE 2 (.int .i64 (q13:Int))
    have b424:=eo st hE 12 (.int .i64 w265)
    have b425:=eo st hE 3 (.int .i64 (m13:Int))
    have b426:=eo st hE 10 (.bool wb13)
    have b427:=eo st hE 11 (.bool wp13)
    have g428:Grew H271 H414:=(gk st)
    have g429:OnlyS S H H414:=g272.grewR g428
    have s430:=s273.grew g428
    obtain⟨k431,hk431⟩:∃ k:Nat,w265=(k:Int):=⟨Int.toNat w265,by omega⟩
    exact qZ kr ⟨k431,pv271,m13,L13,b421,b420,b419,b423,b426,b427,(b424.trans (by rw [hk431])),b422,b425,g429,s430,hr13_0,⟨by omega,by omega,by omega,by omega,by omega,pdL13⟩⟩
   ·intro vs ls H432 E432 st hE
    have f433:wp13=false:=bf st 0
    have f434:wb13=true:=bf st 1
    have f435:¬ ((ht271:Int)=2):=df st 2
    have b436:=eo st hE 1 (.int .i64 (p13:Int))
    have b437:=eo st hE 4 (.func 22 [] [])
    have b438:=eo st hE 0 S
    have b439:=eo st hE 13 (.int .i64 (pv271:Int))
    have b440:=eo st hE 2 (.int .i64 (q13:Int))
    have b441:=eo st hE 12 (.int .i64 w265)
    have b442:=eo st hE 3 (.int .i64 (m13:Int))
    have b443:=eo st hE 10 (.bool wb13)
    have b444:=eo st hE 11 (.bool wp13)
    have g445:Grew H271 H432:=(gk st)
    have g446:OnlyS S H H432:=g272.grewR g445
    have s447:=s273.grew g445
    obtain⟨k448,hk448⟩:∃ k:Nat,w265=(k:Int):=⟨Int.toNat w265,by omega⟩
    exact qZ kr ⟨k448,pv271,m13,L13,b438,b437,b436,b440,b443,b444,(b441.trans (by rw [hk448])),b439,b442,g446,s447,hr13_0,⟨by omega,by omega,by omega,by omega,by omega,pdL13⟩⟩
   ·intro vs ls H449 E449 st hE
    have f450:wb13=false:=bf st 0
    have f451:¬ ((ht271:Int)=2):=df st 1
    have b452:=eo st hE 1 (.int .i64 (p13:Int))
    have b453:=eo st hE 4 (.func 22 [] [])
    have b454:=eo st hE 0 S
    have b455:=eo st hE 13 (.int .i64 (pv271:Int))
    have b456:=eo st hE 2 (.int .i64 (q13:Int))
    have b457:=eo st hE 12 (.int .i64 w265)
    have b458:=eo st hE 3 (.int .i64 (m13:Int))
    have b459:=eo st hE 10 (.bool wb13)
    have b460:=eo st hE 11 (.bool wp13)
    have g461:Grew H271 H449:=(gk st)
    have g462:OnlyS S H H449:=g272.grewR g461
    have s463:=s273.grew g461
    obtain⟨k464,hk464⟩:∃ k:Nat,w265=(k:Int):=⟨Int.toNat w265,by omega⟩
    exact qZ kr ⟨k464,pv271,m13,L13,b454,b453,b452,b456,b459,b460,(b457.trans (by rw [hk464])),b455,b458,g462,s463,hr13_0,⟨by omega,by omega,by omega,by omega,by omega,pdL13⟩⟩
 ·rintro E14 Hx14 ⟨n14,v14,m14,L14,c14_0,c14_4,c14_1,c14_2,c14_10,c14_11,cv14_12,cv14_13,cv14_3,gt14,so14_0,hr14_0,iv14⟩
  obtain⟨hnn14,h12n14,hvan14,hvbn14,hmln14,pdL14⟩:=iv14
  have hlL14:=pdL14.st.len
  have q465:=q1.app (kL:KdsL [KI,KI,KI,.bool,.bool,KI,KI,KI] [.int .i64 (p13:Int),.int .i64 (q13:Int),.int .i64 (m13:Int),.bool wb13,.bool wp13,.int .i64 (n14:Int),.int .i64 (v14:Int),.int .i64 (m14:Int)])
  refine rG vV 0 0 [] [] [(0,n1 0),(4,.fn 22 [] []),(1,nI 4),(2,nI 5),(10,nB 7),(11,nB 8),(12,nI 9),(13,nI 10),(3,nI 11)] q465 .nil .nil (.cons c14_0 (.cons c14_4 (.cons c14_1 (.cons c14_2 (.cons c14_10 (.cons c14_11 (.cons cv14_12 (.cons cv14_13 (.cons cv14_3 .nil))))))))) ?_
  refine vI kr ?_ ?_
  ·intro vs ls H466 E466 st hE
   have f467:0 < (p13:Int):=dt st 0
   obtain⟨w469,hw469⟩:∃ z,z=(IntKind.wrap .i64 ((p13:Int) - 1)):=⟨_,rfl⟩
   have b470:E466 87=.int .i64 w469:=by rw [hw469];exact eo st hE 87 _
   obtain⟨w474,hw474⟩:∃ z,z=(decide (0 < (p13:Int))):=⟨_,rfl⟩
   have b475:E466 83=.bool w474:=by rw [hw474];exact eo st hE 83 _
   have B10:=es st hE [(85,S),(0,S),(13,.int .i64 (v14:Int)),(84,.func 22 [] []),(1,.int .i64 (p13:Int)),(2,.int .i64 (q13:Int)),(4,.func 22 [] []),(12,.int .i64 (n14:Int)),(3,.int .i64 (m14:Int)),(10,.bool wb13),(11,.bool wp13)]
   have g483:Grew Hx14 H466:=(gk st)
   have g484:OnlyS S H H466:=gt14.grewR g483
   have s485:=so14_0.grew g483
   have nw469:w469=((p13:Int) - 1):=hw469.trans (wI _ om om)
   obtain⟨k486,rfl⟩:∃ k:Nat,w469=(k:Int):=⟨Int.toNat w469,by omega⟩
   have hlt487:k486 < L14.length:=by omega
   obtain⟨lS487,cap487,rest487,wr487,eS487,gS487⟩:=(s485.toL).isSl hlt487
   obtain⟨v487_0,v487_1,v487_2,hm487⟩:=qC (hr14_0.get hlt487)
   have he487:L14.getD k486 []=[.int .i32 v487_0,.int .i32 v487_1,.int .i32 v487_2]:=by rw [<- hm487,List.getD_eq_getElem?_getD,List.getElem?_eq_getElem hlt487];rfl
   have q488:=q465.app (kL:KdsL [KI,.bool,K2,K2,K2] [.int .i64 (k486:Int),.bool w474,.int .i32 v487_0,.int .i32 v487_1,.int .i32 v487_2])
   refine rG vV 1 0 [(.ia 3 (n1 0) (nI 12),.ptr 0 0)] [⟨lS487,(k486 * 3),[n2 14,n2 15,n2 16],false⟩] [(85,n1 0),(0,n1 0),(13,nI 10),(84,.fn 22 [] []),(1,nI 4),(2,nI 5),(4,.fn 22 [] []),(12,nI 9),(3,nI 11),(10,nB 7),(11,nB 8),(87,nI 12),(83,nB 13)] q488 (.cons (qA hr14_0 gS487 hlt487 rfl (by rw [hm487];exact(dL q488))) .nil) (.cons (qD (k:=k486) (dE q488) eS487 (dE q488) hlt487 rfl) .nil) (sc B10 (.cons b470 (.cons b475 .nil))) ?_
   refine vI kr ?_ ?_
   ·intro vs ls H489 E489 st hE
    have f490:w474=true:=bf st 0
    have B11:=es st hE [(90,S),(91,.int .i64 (v14:Int)),(84,.func 22 [] []),(89,.agg [.int .i32 v487_0,.int .i32 v487_1,.int .i32 v487_2]),(83,.bool w474),(0,S),(1,.int .i64 (p13:Int)),(2,.int .i64 (q13:Int)),(13,.int .i64 (v14:Int)),(4,.func 22 [] []),(12,.int .i64 (n14:Int)),(3,.int .i64 (m14:Int)),(10,.bool wb13),(11,.bool wp13)]
    have g505:Grew H466 H489:=(gk st)
    have g506:OnlyS S H H489:=g484.grewR g505
    have s508:=s485.grew g505
    have hlt509:v14 < L14.length:=by omega
    obtain⟨lS509,cap509,rest509,wr509,eS509,gS509⟩:=(s508.toL).isSl hlt509
    obtain⟨v509_0,v509_1,v509_2,hm509⟩:=qC (hr14_0.get hlt509)
    have he509:L14.getD v14 []=[.int .i32 v509_0,.int .i32 v509_1,.int .i32 v509_2]:=by rw [<- hm509,List.getD_eq_getElem?_getD,List.getElem?_eq_getElem hlt509];rfl
    have q510:=q488.app (kL:KdsL [K2,K2,K2,KI] [.int .i32 v509_0,.int .i32 v509_1,.int .i32 v509_2,.int .i64 (zD v487_0 v487_1 v487_2 v509_0 v509_1 v509_2)])
    refine rG vV 1 0 [(.ia 3 (n1 0) (nI 10),.ptr 0 0),(.call 22 [.agg [n2 14,n2 15,n2 16],.agg [n2 17,n2 18,n2 19]],nI 20)] [⟨lS509,(v14 * 3),[n2 17,n2 18,n2 19],false⟩] [(90,n1 0),(91,nI 10),(84,.fn 22 [] []),(89,.agg [n2 14,n2 15,n2 16]),(83,nB 13),(0,n1 0),(1,nI 4),(2,nI 5),(13,nI 10),(4,.fn 22 [] []),(12,nI 9),(3,nI 11),(10,nB 7),(11,nB 8)] q510 (.cons (qA hr14_0 gS509 hlt509 rfl (by rw [hm509];exact(dL q510))) .nil) (.cons (qD (k:=v14) (dE q510) eS509 (dE q510) hlt509 rfl) (.cons (qI (args:=[.agg [.int .i32 v487_0,.int .i32 v487_1,.int .i32 v487_2],.agg [.int .i32 v509_0,.int .i32 v509_1,.int .i32 v509_2]]) (dL q510) (dE q510) (fun H9 hk=>qO H9 v487_0 v487_1 v487_2 v509_0 v509_1 v509_2)) .nil)) B11 ?_
    refine cJ kr ?_ ?_ ?_
    ·intro vs ls H511 E511 st hE
     have f512:¬ ((zD v487_0 v487_1 v487_2 v509_0 v509_1 v509_2) < 0):=df st 0
     have f513:w474=true:=bf st 1
     have qf513:=of_decide_eq_true (hw474.symm.trans f513)
     have ct526:=xT hκ pdL14.st.pe hlt487 hlt509 he487 he509
     have un9:=(huq.pe pdL14.st.pe).ne (show k486 < v14 by omega) om
     rcases pdL14.lo with lo9 | lo9
     ·exact(show False by omega).elim
     ·have lo8:=lo9 v14 om om
      rw [show p13 - 1=k486 by omega] at lo8
      exact(show False by omega).elim
    ·intro vs ls H527 E527 st hE
     have f528:(zD v487_0 v487_1 v487_2 v509_0 v509_1 v509_2) < 0:=dt st 0
     have f529:w474=true:=bf st 1
     have b530:=eo st hE 106 S
     have b531:=eo st hE 107 (.int .i64 (p13:Int))
     have b532:=eo st hE 108 (.int .i64 (q13:Int))
     have b533:=eo st hE 109 (.int .i64 (v14:Int))
     have b534:=eo st hE 110 (.func 22 [] [])
     have B12:=es st hE [(106,S),(107,.int .i64 (p13:Int)),(108,.int .i64 (q13:Int)),(109,.int .i64 (v14:Int)),(110,.func 22 [] []),(1,.int .i64 (p13:Int)),(2,.int .i64 (q13:Int)),(12,.int .i64 (n14:Int)),(0,S),(3,.int .i64 (m14:Int)),(4,.func 22 [] []),(10,.bool wb13),(11,.bool wp13)]
     have g543:Grew H489 H527:=(gk st)
     have g544:OnlyS S H H527:=g506.grewR g543
     have s546:=s508.grew g543
     refine qR (d:=(some 111)) (f:=55) (args:=[.tmp 106,.tmp 107,.tmp 108,.tmp 109,.tmp 110]) kr (R:=fun z H'=>OnlyS S H527 H' /\ ∃ M j x,z=.tuple [.int .i64 ((j:Nat):Int),.bool x]/\SlF H' 3 M S/\qL KC M/\Pt2 p13 q13 L14 M/\Part κ p13 q13 j M) ?_ ?_
     ·show qK _ _ [E527 106,E527 107,E527 108,E527 109,E527 110] _ _
      rw [b530,b531,b532,b533,b534]
      exact(qAt H527 κ L14 hr14_0 (hκ.pe pdL14.st.pe) S s546 om p13 q13 v14 om om om)
     rintro z H547 ⟨oo547,M547,jx547,bx547,rfl,s547,hr547,hp547⟩
     have g548:OnlyS S H H547:=g544.trans oo547
     have pdM547:=pdL14.pt hb hp547.1
     have hlM547:=pdM547.st.len
     have paj9:=hp547.2.aj
     have pjb9:=hp547.2.jb
     have q549:=q510.app (kL:KdsL [KI,.bool] [.int .i64 (jx547:Int),.bool bx547])
     refine rG vV 0 0 [] [] [(106,n1 0),(107,nI 4),(108,nI 5),(109,nI 10),(110,.fn 22 [] []),(1,nI 4),(2,nI 5),(12,nI 9),(0,n1 0),(3,nI 11),(4,.fn 22 [] []),(10,nB 7),(11,nB 8),(111,.tup [nI 21,nB 22])] q549 .nil .nil (sc (sp B12) (.cons qJ .nil)) ?_
     refine vI kr ?_ ?_
     ·intro vs ls H550 E550 st hE
      have f551:(IntKind.wrap .i64 ((jx547:Int) - (p13:Int))) < (IntKind.wrap .i64 ((q13:Int) - (jx547:Int))):=dt st 0
      rw [wI ((q13:Int) - (jx547:Int)) om om] at f551
      rw [wI ((jx547:Int) - (p13:Int)) om om] at f551
      have b552:=eo st hE 129 S
      have b553:=eo st hE 130 (.int .i64 (p13:Int))
      have b554:=eo st hE 131 (.int .i64 (jx547:Int))
      have b555:=eo st hE 132 (.int .i64 (m14:Int))
      have b556:=eo st hE 133 (.func 22 [] [])
      obtain⟨w564,hw564⟩:∃ z,z=(!(decide ((IntKind.wrap .i64 ((jx547:Int) - (p13:Int))) < (IntKind.wrap .i64 (Int.tdiv (n14:Int) 8))))):=⟨_,rfl⟩
      have b565:E550 10=.bool w564:=by rw [hw564];exact eo st hE 10 _
      have B13:=es st hE [(129,S),(130,.int .i64 (p13:Int)),(131,.int .i64 (jx547:Int)),(132,.int .i64 (m14:Int)),(133,.func 22 [] []),(16,.int .i64 (jx547:Int)),(1,.int .i64 (p13:Int)),(0,S),(4,.func 22 [] []),(2,.int .i64 (q13:Int)),(3,.int .i64 (m14:Int)),(11,.bool bx547)]
      have g567:Grew H547 H550:=(gk st)
      have g568:OnlyS S H H550:=g548.grewR g567
      have s569:=s547.grew g567
      refine qR (d:=(some 134)) (f:=36) (args:=[.tmp 129,.tmp 130,.tmp 131,.tmp 132,.tmp 133]) kr (R:=fun z H'=>z=.tuple []/\OnlyS S H550 H' /\ ∃ M,SlF H' 3 M S/\qL KC M/\Pt2 p13 jx547 M547 M/\yM κ p13 jx547 M) ?_ ?_
      ·show qK _ _ [E550 129,E550 130,E550 131,E550 132,E550 133] _ _
       rw [b552,b553,b554,b555,b556]
       exact(ih H550 κ M547 hr547 (hκ.pe pdM547.st.pe) S s569 om p13 jx547 m14 om om om (pdM547.lo.sub om) (huq.pe pdM547.st.pe) om)
      rintro z H570 ⟨rfl,oo570,M570,s570,hr570,hp570⟩
      have g571:OnlyS S H H570:=g568.trans oo570
      have q572:=q549.app (kL:KdsL [.bool] [.bool w564])
      refine rG vV 0 0 [] [] [(129,n1 0),(130,nI 4),(131,nI 21),(132,nI 11),(133,.fn 22 [] []),(16,nI 21),(1,nI 4),(0,n1 0),(4,.fn 22 [] []),(2,nI 5),(3,nI 11),(11,nB 22),(10,nB 23),(134,.tup [])] q572 .nil .nil (sc (sp B13) (.cons (zL rfl b565) (.cons qJ .nil))) ?_
      refine qM kr fun vs ls H573 E573 st hE=>?_
      obtain⟨w574,hw574⟩:∃ z,z=(IntKind.wrap .i64 ((jx547:Int)+1)):=⟨_,rfl⟩
      have b575:E573 1=.int .i64 w574:=by rw [hw574];exact eo st hE 1 _
      have b576:=eo st hE 2 (.int .i64 (q13:Int))
      have b577:=eo st hE 3 (.int .i64 (m14:Int))
      have b578:=eo st hE 10 (.bool w564)
      have b579:=eo st hE 11 (.bool bx547)
      have b580:=eo st hE 0 S
      have b581:=eo st hE 4 (.func 22 [] [])
      have g582:Grew H570 H573:=(gk st)
      have g583:OnlyS S H H573:=g571.grewR g582
      have s584:=s570.grew g582
      have nw574:w574=((jx547:Int)+1):=hw574.trans (wI _ om om)
      obtain⟨k585,hk585⟩:∃ k:Nat,w574=(k:Int):=⟨Int.toNat w574,by omega⟩
      have hm9:q13 - k585 < z13:=by omega
      exact qP kr ⟨q13 - k585,hm9,k585,q13,m14,w564,bx547,M570,rfl,b580,b581,(b575.trans (by rw [hk585])),b576,b577,b578,b579,g583,s584,hr570,⟨by omega,by rw [show k585=jx547+1 by omega];exact pdM547.left hb hp547.2 hp570.1 hp570.2⟩⟩
     ·intro vs ls H586 E586 st hE
      have f587:¬ ((IntKind.wrap .i64 ((jx547:Int) - (p13:Int))) < (IntKind.wrap .i64 ((q13:Int) - (jx547:Int)))):=df st 0
      rw [wI ((q13:Int) - (jx547:Int)) om om] at f587
      rw [wI ((jx547:Int) - (p13:Int)) om om] at f587
      have b588:=eo st hE 140 S
      obtain⟨w589,hw589⟩:∃ z,z=(IntKind.wrap .i64 ((jx547:Int)+1)):=⟨_,rfl⟩
      have b590:E586 142=.int .i64 w589:=by rw [hw589];exact eo st hE 142 _
      have b591:=eo st hE 143 (.int .i64 (q13:Int))
      have b592:=eo st hE 144 (.int .i64 (m14:Int))
      have b593:=eo st hE 145 (.func 22 [] [])
      obtain⟨w601,hw601⟩:∃ z,z=(!(decide ((IntKind.wrap .i64 ((q13:Int) - (jx547:Int))) < (IntKind.wrap .i64 (Int.tdiv (n14:Int) 8))))):=⟨_,rfl⟩
      have b602:E586 10=.bool w601:=by rw [hw601];exact eo st hE 10 _
      have B14:=es st hE [(140,S),(143,.int .i64 (q13:Int)),(144,.int .i64 (m14:Int)),(145,.func 22 [] []),(16,.int .i64 (jx547:Int)),(1,.int .i64 (p13:Int)),(0,S),(4,.func 22 [] []),(2,.int .i64 (q13:Int)),(3,.int .i64 (m14:Int)),(11,.bool bx547)]
      have g604:Grew H547 H586:=(gk st)
      have g605:OnlyS S H H586:=g548.grewR g604
      have s606:=s547.grew g604
      have nw589:w589=((jx547:Int)+1):=hw589.trans (wI _ om om)
      obtain⟨k607,hk607⟩:∃ k:Nat,w589=(k:Int):=⟨Int.toNat w589,by omega⟩
      refine qR (d:=(some 146)) (f:=36) (args:=[.tmp 140,.tmp 142,.tmp 143,.tmp 144,.tmp 145]) kr (R:=fun z H'=>z=.tuple []/\OnlyS S H586 H' /\ ∃ M,SlF H' 3 M S/\qL KC M/\Pt2 k607 q13 M547 M/\yM κ k607 q13 M) ?_ ?_
      ·show qK _ _ [E586 140,E586 142,E586 143,E586 144,E586 145] _ _
       rw [b588,b590,b591,b592,b593]
       exact(by rw [hk607];exact ih H586 κ M547 hr547 (hκ.pe pdM547.st.pe) S s606 om k607 q13 m14 om om om (.inr fun q c1 c2=>by rw [show k607 - 1=jx547 by omega];exact hp547.2.hi q om c2) (huq.pe pdM547.st.pe) om)
      rintro z H608 ⟨rfl,oo608,M608,s608,hr608,hp608⟩
      have g609:OnlyS S H H608:=g605.trans oo608
      have q610:=q549.app (kL:KdsL [KI,.bool] [.int .i64 w589,.bool w601])
      refine rG vV 0 0 [] [] [(140,n1 0),(143,nI 5),(144,nI 11),(145,.fn 22 [] []),(16,nI 21),(1,nI 4),(0,n1 0),(4,.fn 22 [] []),(2,nI 5),(3,nI 11),(11,nB 22),(142,nI 23),(10,nB 24),(146,.tup [])] q610 .nil .nil (sc (sp B14) (.cons (zL rfl b590) (.cons (zL rfl b602) (.cons qJ .nil)))) ?_
      refine qM kr fun vs ls H611 E611 st hE=>?_
      have b612:=eo st hE 1 (.int .i64 (p13:Int))
      have b613:=eo st hE 2 (.int .i64 (jx547:Int))
      have b614:=eo st hE 3 (.int .i64 (m14:Int))
      have b615:=eo st hE 10 (.bool w601)
      have b616:=eo st hE 11 (.bool bx547)
      have b617:=eo st hE 0 S
      have b618:=eo st hE 4 (.func 22 [] [])
      have g619:Grew H608 H611:=(gk st)
      have g620:OnlyS S H H611:=g609.grewR g619
      have s621:=s608.grew g619
      have hm9:jx547 - p13 < z13:=by omega
      exact qP kr ⟨jx547 - p13,hm9,p13,jx547,m14,w601,bx547,M608,rfl,b617,b618,b612,b613,b614,b615,b616,g620,s621,hr608,⟨by omega,by rw [show k607=jx547+1 by omega] at hp608;exact pdM547.right hb hp547.2 hp608.1 hp608.2⟩⟩
    ·intro vs ls H622 E622 st hE
     have f623:w474=false:=bf st 0
     rw [hw474] at f623
     exact absurd f467 (of_decide_eq_false f623)
   ·intro vs ls H636 E636 st hE
    have f637:w474=false:=bf st 0
    rw [hw474] at f637
    exact absurd f467 (of_decide_eq_false f637)
  ·intro vs ls H650 E650 st hE
   have f651:¬ (0 < (p13:Int)):=df st 0
   have b652:=eo st hE 106 S
   have b653:=eo st hE 107 (.int .i64 (p13:Int))
   have b654:=eo st hE 108 (.int .i64 (q13:Int))
   have b655:=eo st hE 109 (.int .i64 (v14:Int))
   have b656:=eo st hE 110 (.func 22 [] [])
   have B15:=es st hE [(106,S),(107,.int .i64 (p13:Int)),(108,.int .i64 (q13:Int)),(109,.int .i64 (v14:Int)),(110,.func 22 [] []),(1,.int .i64 (p13:Int)),(2,.int .i64 (q13:Int)),(12,.int .i64 (n14:Int)),(0,S),(3,.int .i64 (m14:Int)),(4,.func 22 [] []),(10,.bool wb13),(11,.bool wp13)]
   have g665:Grew Hx14 H650:=(gk st)
   have g666:OnlyS S H H650:=gt14.grewR g665
   have s667:=so14_0.grew g665
   refine qR (d:=(some 111)) (f:=55) (args:=[.tmp 106,.tmp 107,.tmp 108,.tmp 109,.tmp 110]) kr (R:=fun z H'=>OnlyS S H650 H' /\ ∃ M j x,z=.tuple [.int .i64 ((j:Nat):Int),.bool x]/\SlF H' 3 M S/\qL KC M/\Pt2 p13 q13 L14 M/\Part κ p13 q13 j M) ?_ ?_
   ·show qK _ _ [E650 106,E650 107,E650 108,E650 109,E650 110] _ _
    rw [b652,b653,b654,b655,b656]
    exact(qAt H650 κ L14 hr14_0 (hκ.pe pdL14.st.pe) S s667 om p13 q13 v14 om om om)
   rintro z H668 ⟨oo668,M668,jx668,bx668,rfl,s668,hr668,hp668⟩
   have g669:OnlyS S H H668:=g666.trans oo668
   have pdM668:=pdL14.pt hb hp668.1
   have hlM668:=pdM668.st.len
   have paj9:=hp668.2.aj
   have pjb9:=hp668.2.jb
   have q670:=q465.app (kL:KdsL [KI,.bool] [.int .i64 (jx668:Int),.bool bx668])
   refine rG vV 0 0 [] [] [(106,n1 0),(107,nI 4),(108,nI 5),(109,nI 10),(110,.fn 22 [] []),(1,nI 4),(2,nI 5),(12,nI 9),(0,n1 0),(3,nI 11),(4,.fn 22 [] []),(10,nB 7),(11,nB 8),(111,.tup [nI 12,nB 13])] q670 .nil .nil (sc (sp B15) (.cons qJ .nil)) ?_
   refine vI kr ?_ ?_
   ·intro vs ls H671 E671 st hE
    have f672:(IntKind.wrap .i64 ((jx668:Int) - (p13:Int))) < (IntKind.wrap .i64 ((q13:Int) - (jx668:Int))):=dt st 0
    rw [wI ((q13:Int) - (jx668:Int)) om om] at f672
    rw [wI ((jx668:Int) - (p13:Int)) om om] at f672
    have b673:=eo st hE 129 S
    have b674:=eo st hE 130 (.int .i64 (p13:Int))
    have b675:=eo st hE 131 (.int .i64 (jx668:Int))
    have b676:=eo st hE 132 (.int .i64 (m14:Int))
    have b677:=eo st hE 133 (.func 22 [] [])
    obtain⟨w685,hw685⟩:∃ z,z=(!(decide ((IntKind.wrap .i64 ((jx668:Int) - (p13:Int))) < (IntKind.wrap .i64 (Int.tdiv (n14:Int) 8))))):=⟨_,rfl⟩
    have b686:E671 10=.bool w685:=by rw [hw685];exact eo st hE 10 _
    have B16:=es st hE [(129,S),(130,.int .i64 (p13:Int)),(131,.int .i64 (jx668:Int)),(132,.int .i64 (m14:Int)),(133,.func 22 [] []),(16,.int .i64 (jx668:Int)),(1,.int .i64 (p13:Int)),(0,S),(4,.func 22 [] []),(2,.int .i64 (q13:Int)),(3,.int .i64 (m14:Int)),(11,.bool bx668)]
    have g688:Grew H668 H671:=(gk st)
    have g689:OnlyS S H H671:=g669.grewR g688
    have s690:=s668.grew g688
    refine qR (d:=(some 134)) (f:=36) (args:=[.tmp 129,.tmp 130,.tmp 131,.tmp 132,.tmp 133]) kr (R:=fun z H'=>z=.tuple []/\OnlyS S H671 H' /\ ∃ M,SlF H' 3 M S/\qL KC M/\Pt2 p13 jx668 M668 M/\yM κ p13 jx668 M) ?_ ?_
    ·show qK _ _ [E671 129,E671 130,E671 131,E671 132,E671 133] _ _
     rw [b673,b674,b675,b676,b677]
     exact(ih H671 κ M668 hr668 (hκ.pe pdM668.st.pe) S s690 om p13 jx668 m14 om om om (pdM668.lo.sub om) (huq.pe pdM668.st.pe) om)
    rintro z H691 ⟨rfl,oo691,M691,s691,hr691,hp691⟩
    have g692:OnlyS S H H691:=g689.trans oo691
    have q693:=q670.app (kL:KdsL [.bool] [.bool w685])
    refine rG vV 0 0 [] [] [(129,n1 0),(130,nI 4),(131,nI 12),(132,nI 11),(133,.fn 22 [] []),(16,nI 12),(1,nI 4),(0,n1 0),(4,.fn 22 [] []),(2,nI 5),(3,nI 11),(11,nB 13),(10,nB 14),(134,.tup [])] q693 .nil .nil (sc (sp B16) (.cons (zL rfl b686) (.cons qJ .nil))) ?_
    refine qM kr fun vs ls H694 E694 st hE=>?_
    obtain⟨w695,hw695⟩:∃ z,z=(IntKind.wrap .i64 ((jx668:Int)+1)):=⟨_,rfl⟩
    have b696:E694 1=.int .i64 w695:=by rw [hw695];exact eo st hE 1 _
    have b697:=eo st hE 2 (.int .i64 (q13:Int))
    have b698:=eo st hE 3 (.int .i64 (m14:Int))
    have b699:=eo st hE 10 (.bool w685)
    have b700:=eo st hE 11 (.bool bx668)
    have b701:=eo st hE 0 S
    have b702:=eo st hE 4 (.func 22 [] [])
    have g703:Grew H691 H694:=(gk st)
    have g704:OnlyS S H H694:=g692.grewR g703
    have s705:=s691.grew g703
    have nw695:w695=((jx668:Int)+1):=hw695.trans (wI _ om om)
    obtain⟨k706,hk706⟩:∃ k:Nat,w695=(k:Int):=⟨Int.toNat w695,by omega⟩
    have hm9:q13 - k706 < z13:=by omega
    exact qP kr ⟨q13 - k706,hm9,k706,q13,m14,w685,bx668,M691,rfl,b701,b702,(b696.trans (by rw [hk706])),b697,b698,b699,b700,g704,s705,hr691,⟨by omega,by rw [show k706=jx668+1 by omega];exact pdM668.left hb hp668.2 hp691.1 hp691.2⟩⟩
   ·intro vs ls H707 E707 st hE
    have f708:¬ ((IntKind.wrap .i64 ((jx668:Int) - (p13:Int))) < (IntKind.wrap .i64 ((q13:Int) - (jx668:Int)))):=df st 0
    rw [wI ((q13:Int) - (jx668:Int)) om om] at f708
    rw [wI ((jx668:Int) - (p13:Int)) om om] at f708
    have b709:=eo st hE 140 S
    obtain⟨w710,hw710⟩:∃ z,z=(IntKind.wrap .i64 ((jx668:Int)+1)):=⟨_,rfl⟩
    have b711:E707 142=.int .i64 w710:=by rw [hw710];exact eo st hE 142 _
    have b712:=eo st hE 143 (.int .i64 (q13:Int))
    have b713:=eo st hE 144 (.int .i64 (m14:Int))
    have b714:=eo st hE 145 (.func 22 [] [])
    obtain⟨w722,hw722⟩:∃ z,z=(!(decide ((IntKind.wrap .i64 ((q13:Int) - (jx668:Int))) < (IntKind.wrap .i64 (Int.tdiv (n14:Int) 8))))):=⟨_,rfl⟩
    have b723:E707 10=.bool w722:=by rw [hw722];exact eo st hE 10 _
    have B17:=es st hE [(140,S),(143,.int .i64 (q13:Int)),(144,.int .i64 (m14:Int)),(145,.func 22 [] []),(16,.int .i64 (jx668:Int)),(1,.int .i64 (p13:Int)),(0,S),(4,.func 22 [] []),(2,.int .i64 (q13:Int)),(3,.int .i64 (m14:Int)),(11,.bool bx668)]
    have g725:Grew H668 H707:=(gk st)
    have g726:OnlyS S H H707:=g669.grewR g725
    have s727:=s668.grew g725
    have nw710:w710=((jx668:Int)+1):=hw710.trans (wI _ om om)
    obtain⟨k728,hk728⟩:∃ k:Nat,w710=(k:Int):=⟨Int.toNat w710,by omega⟩
    refine qR (d:=(some 146)) (f:=36) (args:=[.tmp 140,.tmp 142,.tmp 143,.tmp 144,.tmp 145]) kr (R:=fun z H'=>z=.tuple []/\OnlyS S H707 H' /\ ∃ M,SlF H' 3 M S/\qL KC M/\Pt2 k728 q13 M668 M/\yM κ k728 q13 M) ?_ ?_
    ·show qK _ _ [E707 140,E707 142,E707 143,E707 144,E707 145] _ _
     rw [b709,b711,b712,b713,b714]
     exact(by rw [hk728];exact ih H707 κ M668 hr668 (hκ.pe pdM668.st.pe) S s727 om k728 q13 m14 om om om (.inr fun q c1 c2=>by rw [show k728 - 1=jx668 by omega];exact hp668.2.hi q om c2) (huq.pe pdM668.st.pe) om)
    rintro z H729 ⟨rfl,oo729,M729,s729,hr729,hp729⟩
    have g730:OnlyS S H H729:=g726.trans oo729
    have q731:=q670.app (kL:KdsL [KI,.bool] [.int .i64 w710,.bool w722])
    refine rG vV 0 0 [] [] [(140,n1 0),(143,nI 5),(144,nI 11),(145,.fn 22 [] []),(16,nI 12),(1,nI 4),(0,n1 0),(4,.fn 22 [] []),(2,nI 5),(3,nI 11),(11,nB 13),(142,nI 14),(10,nB 15),(146,.tup [])] q731 .nil .nil (sc (sp B17) (.cons (zL rfl b711) (.cons (zL rfl b723) (.cons qJ .nil)))) ?_
    refine qM kr fun vs ls H732 E732 st hE=>?_
    have b733:=eo st hE 1 (.int .i64 (p13:Int))
    have b734:=eo st hE 2 (.int .i64 (jx668:Int))
    have b735:=eo st hE 3 (.int .i64 (m14:Int))
    have b736:=eo st hE 10 (.bool w722)
    have b737:=eo st hE 11 (.bool bx668)
    have b738:=eo st hE 0 S
    have b739:=eo st hE 4 (.func 22 [] [])
    have g740:Grew H729 H732:=(gk st)
    have g741:OnlyS S H H732:=g730.grewR g740
    have s742:=s729.grew g740
    have hm9:jx668 - p13 < z13:=by omega
    exact qP kr ⟨jx668 - p13,hm9,p13,jx668,m14,w722,bx668,M729,rfl,b738,b739,b733,b734,b735,b736,b737,g741,s742,hr729,⟨by omega,by rw [show k728=jx668+1 by omega] at hp729;exact pdM668.right hb hp668.2 hp729.1 hp729.2⟩⟩
theorem qJB:∀ N,qLP N
 | 0=>fun H κ L0 hr hκ S hS hmx a b l h1 h2 h3 _ _ _=>by omega
 | N+1=>qLh (qJB N)
def tbF:List (Nat × AFun):=tb.filter fun p=>!(p.1 == 36 || p.1 == 37)
theorem qIo:qAA Try.prog tbF:=fun f a h=>jR f a (List.mem_filter.1 h).1
def pmF (fl:Nat) (ru:List (RK × SV)) (un:Nat):Pm:=⟨fl,ru,tbF,ap,un⟩
theorem qDT (H:AHeap) (κ:List AV->Int) (L0:LL) (hr:qL KC L0) (hκ:uM κ L0) (S:AV) (hS:SlF H 3 L0 S) (hmx:L0.length < 65536) (huq:Uq κ L0):qK Try.prog 21 [S,.func 22 [] []] H fun r H'=>r=.tuple []/\OnlyS S H H' /\ ∃ M,SlF H' 3 M S/\qL KC M/\Pt2 0 L0.length L0 M/\yM κ 0 L0.length M:=by
 refine qN jO (by simp) ?_
 have q1:KdsL [.one,KI] [S,.int .i64 (L0.length:Int)]:=kL
 refine rG qIo 0 0 [(.len (n1 0),nI 1)] [] [(0,n1 0),(1,.fn 22 [] [])] q1 .nil (.cons (⟨_,_,(dE q1),(dE q1),gB (hS.toL)⟩) .nil) (.cons (t:=0) rfl (.cons (t:=1) rfl .nil)) ?_
 refine qM kr fun vs ls H2 E2 st hE=>?_
 obtain⟨w3,hw3⟩:∃ z,z=(IntKind.wrap .u64 (L0.length:Int)):=⟨_,rfl⟩
 have b4:E2 10=.int .u64 w3:=by rw [hw3];exact eo st hE 10 _
 have B1:=es st hE [(1,.func 22 [] []),(7,S),(8,.int .i64 (L0.length:Int))]
 have g8:Grew H H2:=(gk st)
 have g9:OnlyS S H H2:=(OnlyS.of_grew (Grew.refl H)).grewR g8
 have s10:=hS.grew g8
 have e911:w3=((L0.length:Nat):Int):=by rw [hw3];exact qLH om om
 refine qR (d:=(some 11)) (f:=37) (args:=[.tmp 10]) kr (R:=fun z H'=>Grew H2 H'/\z=.int .i64 ((qAQ L0.length:Nat):Int)) ?_ ?_
 ·show qK _ _ [E2 10] _ _
  rw [b4]
  exact(by rw [e911];exact qLg H2 L0.length hmx)
 rintro z H11 ⟨g911,rfl⟩
 have g12:OnlyS S H H11:=g9.grewR g911
 have s13:=s10.grew g911
 have t9:=(qEQ (x:=L0.length) hmx).1
 have q14:=q1.app (kL:KdsL [.int .u64,KI] [.int .u64 w3,.int .i64 ((qAQ L0.length:Nat):Int)])
 refine rG qIo 0 0 [] [] [(1,.fn 22 [] []),(7,n1 0),(8,nI 1),(10,.nd 2 (.int .u64)),(11,nI 3)] q14 .nil .nil (sc (sp B1) (.cons (zL rfl b4) (.cons qJ .nil))) ?_
 refine qM kr fun vs ls H15 E15 st hE=>?_
 have b16:=eo st hE 7 S
 have b17:=eo st hE 8 (.int .i64 (L0.length:Int))
 have b18:=eo st hE 11 (.int .i64 ((qAQ L0.length:Nat):Int))
 have b19:=eo st hE 12 (.func 22 [] [])
 have B2:=es st hE [(7,S),(8,.int .i64 (L0.length:Int)),(11,.int .i64 ((qAQ L0.length:Nat):Int)),(12,.func 22 [] [])]
 have g20:Grew H11 H15:=(gk st)
 have g21:OnlyS S H H15:=g12.grewR g20
 have s22:=s13.grew g20
 obtain⟨k23,hk23⟩:∃ k:Nat,((qAQ L0.length:Nat):Int)=(k:Int):=⟨Int.toNat ((qAQ L0.length:Nat):Int),by omega⟩
 refine qR (d:=(some 13)) (f:=36) (args:=[.tmp 7,.const (.int .i64 0),.tmp 8,.tmp 11,.tmp 12]) kr (R:=fun z H'=>z=.tuple []/\OnlyS S H15 H' /\ ∃ M,SlF H' 3 M S/\qL KC M/\Pt2 0 L0.length L0 M/\yM κ 0 L0.length M) ?_ ?_
 ·show qK _ _ [E15 7,.int .i64 0,E15 8,E15 11,E15 12] _ _
  rw [b16,b17,b18,b19]
  exact(by rw [hk23];exact qJB (L0.length+1) H15 κ L0 hr (hκ.pe (.refl _)) S s22 om 0 L0.length k23 om om om (.inl rfl) huq om)
 rintro z H24 ⟨rfl,oo24,M24,s24,hr24,hp24⟩
 have g25:OnlyS S H H24:=g21.trans oo24
 refine rG qIo 0 0 [] [] [(7,n1 0),(8,nI 1),(11,nI 3),(12,.fn 22 [] []),(13,.tup [])] q14 .nil .nil (sc (sp B2) (.cons qJ .nil)) ?_
 refine qM kr fun vs ls H27 E27 st hE=>?_
 have gz:OnlyS S H H27:=(g25.grewR (gk st))
 exact zF kr (qS st.inn hE (.inl rfl) (a:=.tuple []) kr gz.next ⟨rfl,gz,_,(s24.grew (st.inn.kept.grew (Nat.le_refl _))),hr24,hp24⟩)
def qDm (x:ON):Bool:=qJZ x && (dT .f32 (some 0) x == some .lt)
theorem qBF {x:ON} (h:qDm x=true):qJZ x=true/\(dT .f32 (some 0) x == some .lt)=true:=by
 unfold qDm at h;rw [Bool.and_eq_true] at h;exact h
theorem qIN (x:ON):(dT .f32 (fop .sub .f32 x x) (some 0) == some .eq)=qJZ x:=rfl
theorem qHj (x:ON) (hx:fOk .f32 x) (H:AHeap):zG Try.prog 45 [.flt .f32 x] H (.bool (qDm x)):=by
 refine qN gE (by simp) ?_
 have q1:KdsL [KF] [.flt .f32 x]:=kL
 refine rC 0 0 [] [(0,nF 0)] q1 (.cons (t:=0) rfl .nil) ?_
 refine vI kr ?_ ?_
 ·intro vs ls H2 E2 st hE
  have f3:(dT .f32 (fop .sub .f32 x x) (some 0) == some .eq)=false:=bf st 0
  refine rf st hE (.bool false) (Grew.trans (Grew.refl _) (gk st)) ?_
  simp only [qIN] at f3
  simp [qDm,qIN,f3]
 ·intro vs ls H4 E4 st hE
  have f5:(dT .f32 (fop .sub .f32 x x) (some 0) == some .eq)=true:=bf st 0
  refine rf st hE (.bool (dT .f32 (some 0) x == some .lt)) (Grew.trans (Grew.refl _) (gk st)) ?_
  simp only [qIN] at f5
  simp [qDm,qIN,f5]
theorem qCU (x y:ON) (hx:fOk .f32 x) (hy:fOk .f32 y) (sx:x.isSome=true) (sy:y.isSome=true) (H:AHeap):zG Try.prog 32 [.flt .f32 x,.flt .f32 y] H (.bool (decide (x=y))):=by
 obtain⟨u,rfl⟩:=Option.isSome_iff_exists.1 sx
 obtain⟨v,rfl⟩:=Option.isSome_iff_exists.1 sy
 refine qN dV (by simp) ?_
 have q1:KdsL [KF,KF] [.flt .f32 (some u),.flt .f32 (some v)]:=kL
 refine rC 0 10 [] [(0,nF 0),(1,nF 1)] q1 (.cons (t:=0) rfl (.cons (t:=1) rfl .nil)) ?_
 refine cJ kr ?_ ?_ ?_
 ·intro vs ls H2 E2 st hE
  have f3:(dT .f32 (some v) (some v) == some .eq)=false:=bf st 0
  have f4:(dT .f32 (some u) (some u) == some .eq)=false:=bf st 1
  exact absurd (qCK hy rfl) (by rw [f3];decide)
 ·intro vs ls H5 E5 st hE
  have f6:(dT .f32 (some v) (some v) == some .eq)=true:=bf st 0
  have f7:(dT .f32 (some u) (some u) == some .eq)=false:=bf st 1
  exact absurd (qCK hx rfl) (by rw [f7];decide)
 ·intro vs ls H8 E8 st hE
  have f9:(dT .f32 (some u) (some u) == some .eq)=true:=bf st 0
  refine rf st hE (.bool (decide ((u:Int)=(v:Int)))) (Grew.trans (Grew.refl _) (gk st)) ?_
  congr 1;exact decide_eq_decide.2 (by simp;omega)
theorem yR {x:ON} (hx:fOk .f32 x) {ms:LL} (h:xW x ms=true):qDm x=true:=by
 simp only [xW,Bool.and_eq_true] at h
 obtain⟨z,hz⟩:=qLj (μ:=fun _=>none) (show yH (.flt .f32) (.flt .f32 x) from ⟨_,rfl,hx⟩) (by decide)
 have e:=qMe gE kr ⟨[z],.cons hz RL.nil⟩ (qFt x hx) (qHj x hx)
 rw [<- e];exact h.1
theorem cA {x:ON} (h:qDm x=true):x.isSome=true:=(qEI (o:=.lt) (by simpa using (qBF h).2)).2
theorem qIe {x y:ON} (hx:fOk .f32 x) (hy:fOk .f32 y) (sx:qDm x=true) (sy:qDm y=true):(dT .f32 x y == some .eq)=decide (x=y):=by
 obtain⟨u,rfl⟩:=Option.isSome_iff_exists.1 (cA sx)
 obtain⟨v,rfl⟩:=Option.isSome_iff_exists.1 (cA sy)
 by_cases h:u=v
 ·subst h
  rw [qCK hx rfl,decide_eq_true rfl]
 ·rw [decide_eq_false (fun e=>h (Option.some.inj e))]
  cases hb:(dT .f32 (some u) (some v) == some .eq) with
  | false=>rfl
  | true =>
   have z1:=(qBF sx).2
   have z2:=(qBF sy).2
   rcases qIL hx hy hb with e | ⟨rfl,_⟩ | ⟨_,rfl⟩
   ·exact absurd e h
   ·exact absurd z1 (by decide +kernel)
   ·exact absurd z2 (by decide +kernel)
open Classical in
noncomputable def qAL (x:ON) (ms:LL) (y:ON) (ns:LL):Int:=
 if xW x ms=true then (if xW y ns=true then (if x=y then 0 else 4) else 1) else 1
theorem qIp {x y:ON} {ms ns:LL} (h:qAL x ms y ns=0):xW x ms=true/\xW y ns=true/\x=y:=by
 unfold qAL at h
 split at h
 ·split at h
  ·split at h
   ·exact⟨by assumption,by assumption,by assumption⟩
   ·cases h
  ·cases h
 ·cases h
theorem gA {x:ON} {ms:LL} (h:xW x ms=true):ms.length<=200:=by
 simp only [xW,Bool.and_eq_true,decide_eq_true_eq] at h
 exact h.2.1
def tbZ:List (Nat × AFun):=tb.filter fun p=>!(p.1 == 32 || p.1 == 27)
theorem qEs:qAA Try.prog tbZ:=fun f a h=>jR f a (List.mem_filter.1 h).1
def pmZ (fl:Nat) (ru:List (RK × SV)) (un:Nat):Pm:=⟨fl,ru,tbZ,ap,un⟩
theorem qDQ (H:AHeap) (x:ON) (hx:fOk .f32 x) (ms:LL) (hr:qL KM ms) (S:AV) (hS:SlL H 9 ms S) (mxms:ms.length<=1048576) (x2:ON) (hx2:fOk .f32 x2) (ms2:LL) (hr2:qL KM ms2) (S2:AV) (hS2:SlL H 9 ms2 S2) (mxms2:ms2.length<=1048576):zG Try.prog 18 [.agg [.flt .f32 x,S],.agg [.flt .f32 x2,S2]] H (.int .i64 (qAL x ms x2 ms2)):=by
 refine qN hB (by simp) ?_
 have q1:KdsL [KF,.one,KF,.one,.bool,.bool] [.flt .f32 x,S,.flt .f32 x2,S2,.bool (xW x ms),.bool (xW x2 ms2)]:=kL
 refine rG qEs 0 0 [(.call 31 [.agg [nF 0,n1 1]],nB 4),(.call 31 [.agg [nF 2,n1 3]],nB 5)] [] [(0,.agg [nF 0,n1 1]),(1,.agg [nF 2,n1 3])] q1 .nil (.cons (qI (args:=[.agg [.flt .f32 x,S]]) (dL q1) (dE q1) (fun H9 hk=>pA H9 x hx S ms hr (hS.grew (Grew.trans (Grew.refl _) (hk.grew (Nat.le_refl _)))) (qHE mxms))) (.cons (qI (args:=[.agg [.flt .f32 x2,S2]]) (dL q1) (dE q1) (fun H9 hk=>pA H9 x2 hx2 S2 ms2 hr2 (hS2.grew (Grew.trans (Grew.refl _) (hk.grew (Nat.le_refl _)))) (qHE mxms2))) .nil)) (.cons (t:=0) rfl (.cons (t:=1) rfl .nil)) ?_
 refine cJ kr ?_ ?_ ?_
 ·intro vs ls H2 E2 st hE
  have f3:(xW x ms)=false:=bf st 0
  refine rf st hE (.int .i64 1) (Grew.trans (Grew.refl _) (gk st)) ?_
  unfold qAL;rw [if_neg (by rw [f3];decide)]
 ·intro vs ls H4 E4 st hE
  have f5:(xW x2 ms2)=false:=bf st 0
  have f6:(xW x ms)=true:=bf st 1
  refine rf st hE (.int .i64 1) (Grew.trans (Grew.refl _) (gk st)) ?_
  unfold qAL;rw [if_pos f6,if_neg (by rw [f5];decide)]
 ·intro vs ls H7 E7 st hE
  have f8:(xW x2 ms2)=true:=bf st 0
  have f9:(xW x ms)=true:=bf st 1
  have b10:=eo st hE 16 (.flt .f32 x)
  have b11:=eo st hE 18 (.flt .f32 x2)
  have B1:=es st hE [(16,.flt .f32 x),(18,.flt .f32 x2)]
  have g12:Grew H H7:=(gk st)
  have g13:Grew H H7:=Grew.trans (Grew.refl _) g12
  refine qR (d:=(some 19)) (f:=32) (args:=[.tmp 16,.tmp 18]) kr (R:=fun z H'=>z=.bool (decide (x=x2))/\H'=H7) ?_ ?_
  ·show qK _ _ [E7 16,E7 18] _ _
   rw [b10,b11]
   exact qCU x x2 hx hx2 (cA (yR hx f9)) (cA (yR hx2 f8)) H7
  rintro z H7 ⟨rfl,rfl⟩
  have q14:=q1.app (kL:KdsL [.bool] [.bool (decide (x=x2))])
  refine rG qEs 0 0 [] [] [(16,nF 0),(18,nF 2),(19,nB 6)] q14 .nil .nil (sc (sp B1) (.cons qJ .nil)) ?_
  refine vI kr ?_ ?_
  ·intro vs ls H15 E15 st hE
   have f16:¬ (x=x2):=df st 0
   refine rf st hE (.int .i64 4) (Grew.trans g13 (gk st)) ?_
   unfold qAL;rw [if_pos f9,if_pos f8,if_neg f16]
  ·intro vs ls H17 E17 st hE
   have f18:x=x2:=dt st 0
   refine rf st hE (.int .i64 0) (Grew.trans g13 (gk st)) ?_
   unfold qAL;rw [if_pos f9,if_pos f8,if_pos f18]
theorem qGf (H:AHeap) (x:ON) (hx:fOk .f32 x) (ms:LL) (hr:qL KM ms) (S:AV) (hS:SlL H 9 ms S) (mxms:ms.length<=1048576) (x2:ON) (hx2:fOk .f32 x2) (ms2:LL) (hr2:qL KM ms2) (S2:AV) (hS2:SlL H 9 ms2 S2) (mxms2:ms2.length<=1048576) (p q:Nat) (hp:H.get p=some (.row [.flt .f32 x,S] true)) (hq:H.get q=some (.row [.flt .f32 x2,S2] true)):zG Try.prog 14 [.ptr p 0,.ptr q 0] H (.int .i64 (qAL x ms x2 ms2)):=by
 refine qN kI (by simp) ?_
 have q1:KdsL [KF,.one,KF,.one] [.flt .f32 x,S,.flt .f32 x2,S2]:=kL
 refine rG qEs 2 0 [] [wf p [nF 0,n1 1],wf q [nF 2,n1 3]] [(0,.ptr 0 0),(1,.ptr 1 0)] q1 wA .nil (.cons (t:=0) rfl (.cons (t:=1) rfl .nil)) ?_
 refine qM kr fun vs ls H2 E2 st hE=>?_
 have b3:=eo st hE 5 (.ptr p 0)
 have B1:=es st hE [(5,.ptr p 0),(1,.ptr q 0),(0,.ptr p 0)]
 have g6:Grew H H2:=(gk st)
 have g7:Grew H H2:=Grew.trans (Grew.refl _) g6
 have r8:=g6.at hp
 have r9:=g6.at hq
 refine qR (d:=(some 6)) (f:=27) (args:=[.tmp 5]) kr (R:=fun z H'=>z=.bool (xW x ms)/\H'=H2) ?_ ?_
 ·show qK _ _ [E2 5] _ _
  rw [b3]
  exact qHk H2 p x hx S true ms hr r8 (hS.grew g7) (qHE mxms)
 rintro z H2 ⟨rfl,rfl⟩
 have q10:=q1.app (kL:KdsL [.bool] [.bool (xW x ms)])
 refine rG qEs 2 0 [] [wf p [nF 0,n1 1],wf q [nF 2,n1 3]] [(5,.ptr 0 0),(1,.ptr 1 0),(0,.ptr 0 0),(6,nB 4)] q10 wA .nil (sc (sp B1) (.cons qJ .nil)) ?_
 refine vI kr ?_ ?_
 ·intro vs ls H11 E11 st hE
  have f12:(xW x ms)=false:=bf st 0
  refine rf st hE (.int .i64 1) (Grew.trans g7 (gk st)) ?_
  unfold qAL;rw [if_neg (by rw [f12];decide)]
 ·intro vs ls H13 E13 st hE
  have f14:(xW x ms)=true:=bf st 0
  have b15:=eo st hE 9 (.ptr q 0)
  obtain⟨w16,hw16⟩:∃ z,z=(!(xW x ms)):=⟨_,rfl⟩
  have b17:E13 8=.bool w16:=by rw [hw16];exact eo st hE 8 _
  have B2:=es st hE [(9,.ptr q 0),(0,.ptr p 0),(1,.ptr q 0)]
  have g20:Grew H2 H13:=(gk st)
  have g21:=Grew.trans g7 g20
  have r22:=g20.at r8
  have r23:=g20.at r9
  have gd24:E13 8=.bool false:=by rw [b17];rw [hw16];simp only [f14,Bool.not_true,Bool.not_false]
  refine qHP (d:=(some 10)) (f:=27) (args:=[.tmp 9]) (g:=8) (b:=false) (r:=.bool (xW x2 ms2)) kr gd24 ?_ ?_
  ·show qK _ _ [E13 9] _ _
   rw [b15]
   exact qHk H13 q x2 hx2 S2 true ms2 hr2 r23 (hS2.grew g21) (qHE mxms2)
  have q25:=q10.app (kL:KdsL [.bool,.bool] [.bool w16,.bool (xW x2 ms2)])
  refine rG qEs 2 0 [] [wf p [nF 0,n1 1],wf q [nF 2,n1 3]] [(9,.ptr 1 0),(0,.ptr 0 0),(1,.ptr 1 0),(8,.lit (.bool false)),(10,nB 6)] q25 wA .nil (sc (sp B2) (.cons (zL rfl gd24) (.cons qJ .nil))) ?_
  refine cJ kr ?_ ?_ ?_
  ·intro vs ls H26 E26 st hE
   have f27:(xW x2 ms2)=false:=bf st 0
   refine rf st hE (.int .i64 1) (Grew.trans g21 (gk st)) ?_
   unfold qAL;rw [if_pos f14,if_neg (by rw [f27];decide)]
  ·intro vs ls H28 E28 st hE
   have f29:(dT .f32 x x2 == some .eq)=false:=bf st 0
   have f30:(xW x2 ms2)=true:=bf st 1
   refine rf st hE (.int .i64 4) (Grew.trans g21 (gk st)) ?_
   have he9:=qIe hx hx2 (yR hx f14) (yR hx2 f30)
   rw [f29] at he9
   unfold qAL;rw [if_pos f14,if_pos f30,if_neg (of_decide_eq_false he9.symm)]
  ·intro vs ls H31 E31 st hE
   have f32:(dT .f32 x x2 == some .eq)=true:=bf st 0
   have f33:(xW x2 ms2)=true:=bf st 1
   refine rf st hE (.int .i64 0) (Grew.trans g21 (gk st)) ?_
   have he9:=qIe hx hx2 (yR hx f14) (yR hx2 f33)
   rw [f32] at he9
   unfold qAL;rw [if_pos f14,if_pos f33,if_pos (of_decide_eq_true he9.symm)]
end Go.Proofs.Ytgjggkgafdnhcaa
namespace Go.Proofs.Ytgjggkgafdnhcaa
open Go.Ab
set_option maxRecDepth 100000
def cel (ms:LL) (i:Nat):List AV:=(ms.getD i []).take 3
def ltC (c d:List AV):Prop:=qAC c d < 0
def IsC (c:List AV):Prop:=∃ x y z:Int,c=plc x y z
theorem mT {ms:LL} (hr:qL KM ms) {i:Nat} (h:i < ms.length):∃ (x y z:Int) (r:List AV),ms.getD i []=.int .i32 x :: .int .i32 y :: .int .i32 z :: r/\cel ms i=plc x y z:=by
 obtain⟨v0,v1,v2,v3,v4,v5,v6,v7,v8,hm,_⟩:=zR (hr.get h)
 have e:ms.getD i []=ms[i]'h:=by rw [List.getD_eq_getElem?_getD,List.getElem?_eq_getElem h];rfl
 exact⟨v0,v1,v2,_,by rw [e,hm],by unfold cel;rw [e,hm];rfl⟩
theorem zT {ms:LL} (hr:qL KM ms) {i:Nat} (h:i < ms.length):IsC (cel ms i):=by
 obtain⟨x,y,z,r,_,e⟩:=mT hr h
 exact⟨x,y,z,e⟩
theorem hY {c d e:List AV} (hc:IsC c) (hd:IsC d) (he:IsC e) (h:ltC c d) (k:ltC d e):ltC c e:=by
 obtain⟨a1,a2,a3,rfl⟩:=hc
 obtain⟨b1,b2,b3,rfl⟩:=hd
 obtain⟨d1,d2,d3,rfl⟩:=he
 exact qCj (show zD a1 a2 a3 b1 b2 b3 < 0 from h) (show zD b1 b2 b3 d1 d2 d3 < 0 from k)
theorem qFi (a b c a' b' c' : Int):zD a b c a' b' c' = - zD a' b' c' a b c:=by
 unfold zD qBg
 (repeat' split) <;> omega
theorem yD {c:List AV} (hc:IsC c):¬ ltC c c:=by
 obtain⟨a1,a2,a3,rfl⟩:=hc
 intro h
 have h:zD a1 a2 a3 a1 a2 a3 < 0:=h
 rw [dR.2 ⟨rfl,rfl,rfl⟩] at h
 omega
theorem cY {c d:List AV} (hc:IsC c) (hd:IsC d):ltC c d \/ c=d \/ ltC d c:=by
 obtain⟨a1,a2,a3,rfl⟩:=hc
 obtain⟨b1,b2,b3,rfl⟩:=hd
 have h:=qFi a1 a2 a3 b1 b2 b3
 by_cases c1:zD a1 a2 a3 b1 b2 b3=0
 ·obtain⟨rfl,rfl,rfl⟩:=dR.1 c1
  exact .inr (.inl rfl)
 ·by_cases c2:zD a1 a2 a3 b1 b2 b3 < 0
  ·exact .inl c2
  ·exact .inr (.inr (show zD b1 b2 b3 a1 a2 a3 < 0 by omega))
theorem qJD {c d:List AV} (hc:IsC c) (h:ltC c d):c ≠ d:=fun e=>yD hc (by rw [<- e] at h;exact h)
theorem gY {ms:LL} (hr:qL KM ms) (hs:mK ms) {j:Nat} (hj:j < ms.length):∀ i,i < j->ltC (cel ms i) (cel ms j):=by
 have step:∀ t,t+1 < ms.length->ltC (cel ms t) (cel ms (t+1)):=fun t ht=>by
  have h:=hs t ht
  obtain⟨x,y,z,r,e1,e2⟩:=mT hr (show t < ms.length by omega)
  obtain⟨x',y',z',r',e3,e4⟩:=mT hr ht
  rw [e1,e3] at h
  rw [e2,e4]
  exact h
 intro i hij
 induction j with
 | zero=>omega
 | succ j ih =>
  by_cases c:i=j
  ·rw [c];exact step j hj
  ·exact hY (zT hr om) (zT hr om) (zT hr hj) (ih om om) (step j hj)
theorem qHb {ms:LL} (hr:qL KM ms) (hs:mK ms) {q:Nat} (hq:q < ms.length) {a b c:Int} (e:cel ms q=plc a b c):lin ms a b c=q/\fnd ms a b c=true:=by
 have cm:∀ t,t < ms.length->qAC (ms.getD t []) (plc a b c)=qAC (cel ms t) (plc a b c):=fun t ht=>by
  obtain⟨x,y,z,r,e1,e2⟩:=mT hr ht
  rw [e1,e2];rfl
 have z0:qAC (ms.getD q []) (plc a b c)=0:=by rw [cm q hq,e];exact dR.2 ⟨rfl,rfl,rfl⟩
 have hl:lin ms a b c=q:=qHv om (fun j hj=>by rw [cm j om,<- e];exact gY hr hs hq j hj) (fun _=>by rw [z0];omega)
 refine⟨hl,?_⟩
 unfold fnd
 rw [hl,z0,decide_eq_true hq];rfl
theorem qFn {ms:LL} (hr:qL KM ms) {a b c:Int} (h:fnd ms a b c=true):∃ q,q < ms.length/\cel ms q=plc a b c:=by
 simp only [fnd,Bool.and_eq_true,decide_eq_true_eq] at h
 obtain⟨x,y,z,r,e1,e2⟩:=mT hr h.1
 rw [e1] at h
 obtain⟨rfl,rfl,rfl⟩:=dR.1 (show zD x y z a b c=0 from h.2)
 exact⟨_,h.1,e2⟩
theorem qHc {ms:LL} {a b c:Int} (h:fnd ms a b c=true):lin ms a b c < ms.length:=by
 simp only [fnd,Bool.and_eq_true,decide_eq_true_eq] at h
 exact h.1
noncomputable def unA (ms2:LL):List AV->Bool
 | .int k a :: .int k2 b :: .int k3 c :: r=>!(fnd ms2 a b c) || !(pH (.int k a :: .int k2 b :: .int k3 c :: r) (ms2.getD (lin ms2 a b c) []))
 | _=>false
def unB (ms:LL):List AV->Bool
 | .int _ a :: .int _ b :: .int _ c :: _=>!(fnd ms a b c)
 | _=>false
def InA (ms ms2:LL) (n:Nat) (c:List AV):Prop:=∃ p,p < n/\c=cel ms p/\unA ms2 (ms.getD p [])=true
def InB (ms ms2:LL) (n:Nat) (c:List AV):Prop:=∃ p,p < n/\c=cel ms2 p/\unB ms (ms2.getD p [])=true
structure IsU (ms ms2 L:LL):Prop where
  pw:L.Pairwise ltC
  mem:∀ c,c ∈ L ↔ InA ms ms2 ms.length c \/ InB ms ms2 ms2.length c
theorem qJH:∀ {L M:LL},(∀ c ∈ L,IsC c)->L.Pairwise ltC->M.Pairwise ltC->(∀ c,c ∈ L ↔ c ∈ M)->L=M
 | [],[],_,_,_,_=>rfl
 | [],m :: M,_,_,_,h=>absurd ((h m).2 (List.mem_cons_self ..)) (by simp)
 | l :: L,[],_,_,_,h=>absurd ((h l).1 (List.mem_cons_self ..)) (by simp)
 | l :: L,m :: M,hc,hL,hM,h=>by
  have hcM:∀ c ∈ m :: M,IsC c:=fun c hx=>hc c ((h c).2 hx)
  rw [List.pairwise_cons] at hL hM
  have e:l=m:=by
   rcases List.mem_cons.1 ((h l).1 (List.mem_cons_self ..)) with e | e
   ·exact e
   ·rcases List.mem_cons.1 ((h m).2 (List.mem_cons_self ..)) with e2 | e2
    ·exact e2.symm
    ·exact absurd (hY (hc l (List.mem_cons_self ..)) (hcM m (List.mem_cons_self ..)) (hc l (List.mem_cons_self ..)) (hL.1 m e2) (hM.1 l e)) (yD (hc l (List.mem_cons_self ..)))
  subst e
  rw [qJH (fun c hx=>hc c (List.mem_cons_of_mem _ hx)) hL.2 hM.2 fun c=>?_]
  have hl:=hc l (List.mem_cons_self ..)
  constructor
  ·intro hx
   rcases List.mem_cons.1 ((h c).1 (List.mem_cons_of_mem _ hx)) with e | e
   ·exact absurd (hL.1 c hx) (by rw [e];exact yD hl)
   ·exact e
  ·intro hx
   rcases List.mem_cons.1 ((h c).2 (List.mem_cons_of_mem _ hx)) with e | e
   ·exact absurd (hM.1 c hx) (by rw [e];exact yD hl)
   ·exact e
theorem InA.cell {ms ms2:LL} (hr:qL KM ms) {n:Nat} (hn:n<=ms.length) {c:List AV} (h:InA ms ms2 n c):IsC c:=by
 obtain⟨p,hp,rfl,_⟩:=h;exact zT hr om
theorem InB.cell {ms ms2:LL} (hr:qL KM ms2) {n:Nat} (hn:n<=ms2.length) {c:List AV} (h:InB ms ms2 n c):IsC c:=by
 obtain⟨p,hp,rfl,_⟩:=h;exact zT hr om
open Classical in
noncomputable def unl (ms ms2:LL):LL:=if h:∃ L,IsU ms ms2 L then Classical.choose h else []
theorem qFO {ms ms2 L:LL} (hr:qL KM ms) (hr2:qL KM ms2) (h:IsU ms ms2 L):unl ms ms2=L:=by
 classical
 unfold unl
 rw [dif_pos ⟨L,h⟩]
 have k:=Classical.choose_spec (⟨L,h⟩:∃ L,IsU ms ms2 L)
 refine(qJH (fun c hc=>?_) h.pw k.pw fun c=>(h.mem c).trans (k.mem c).symm).symm
 rcases(h.mem c).1 hc with x | x
 ·exact x.cell hr (Nat.le_refl _)
 ·exact x.cell hr2 (Nat.le_refl _)
theorem IsC.recs {c:List AV} (h:IsC c):KdsL KC c:=by
 obtain⟨x,y,z,rfl⟩:=h
 exact .cons kA (.cons kA (.cons kA .nil))
structure MI (ms ms2:LL) (i k:Nat) (L:LL):Prop where
  ii:i<=ms.length
  kk:k<=ms2.length
  len:L.length<=i+k
  pw:L.Pairwise ltC
  mem:∀ c,c ∈ L ↔ InA ms ms2 i c \/ InB ms ms2 k c
  ab:∀ p,p < i->k < ms2.length->ltC (cel ms p) (cel ms2 k)
  ba:∀ q,q < k->i < ms.length->ltC (cel ms2 q) (cel ms i)
theorem InA.succ {ms ms2:LL} {i:Nat} {c:List AV}:InA ms ms2 (i+1) c ↔ InA ms ms2 i c \/ (c=cel ms i/\unA ms2 (ms.getD i [])=true):=by
 constructor
 ·rintro⟨p,hp,e,u⟩
  by_cases h:p=i
  ·subst h;exact .inr ⟨e,u⟩
  ·exact .inl ⟨p,by omega,e,u⟩
 ·rintro(⟨p,hp,e,u⟩ | ⟨e,u⟩)
  ·exact⟨p,by omega,e,u⟩
  ·exact⟨i,by omega,e,u⟩
theorem InB.succ {ms ms2:LL} {i:Nat} {c:List AV}:InB ms ms2 (i+1) c ↔ InB ms ms2 i c \/ (c=cel ms2 i/\unB ms (ms2.getD i [])=true):=by
 constructor
 ·rintro⟨p,hp,e,u⟩
  by_cases h:p=i
  ·subst h;exact .inr ⟨e,u⟩
  ·exact .inl ⟨p,by omega,e,u⟩
 ·rintro(⟨p,hp,e,u⟩ | ⟨e,u⟩)
  ·exact⟨p,by omega,e,u⟩
  ·exact⟨i,by omega,e,u⟩
theorem qEu {ms ms2:LL} (hr:qL KM ms) {i:Nat} (h:i < ms.length) {a b c:Int} (e:cel ms i=plc a b c):unA ms2 (ms.getD i [])=(!(fnd ms2 a b c) || !(pH (ms.getD i []) (ms2.getD (lin ms2 a b c) []))):=by
 obtain⟨x,y,z,r,e1,e2⟩:=mT hr h
 rw [e2] at e;cases e
 rw [e1];rfl
theorem qEv {ms ms2:LL} (hr:qL KM ms2) {i:Nat} (h:i < ms2.length) {a b c:Int} (e:cel ms2 i=plc a b c):unB ms (ms2.getD i []) = !(fnd ms a b c):=by
 obtain⟨x,y,z,r,e1,e2⟩:=mT hr h
 rw [e2] at e;cases e
 rw [e1];rfl
theorem qEV {L:LL} {c:List AV} (h:L.Pairwise ltC) (k:∀ d ∈ L,ltC d c):(L ++ [c]).Pairwise ltC:=by
 rw [List.pairwise_append]
 exact⟨h,List.pairwise_singleton _ _,fun a ha b hb=>by rw [List.mem_singleton.1 hb];exact k a ha⟩
section
variable {ms ms2 L:LL} {i k:Nat} (hr:qL KM ms) (hr2:qL KM ms2) (hs:mK ms) (hs2:mK ms2)
theorem MI.start:MI ms ms2 0 0 []:=⟨Nat.zero_le _,Nat.zero_le _,Nat.zero_le _,.nil,fun c=>⟨fun h=>by simp at h,fun h=>by rcases h with ⟨p,h,_⟩ | ⟨p,h,_⟩ <;> omega⟩,fun p h=>by omega,fun p h=>by omega⟩
include hr hr2 hs hs2
theorem MI.less (h:MI ms ms2 i k L) (hi:i < ms.length) (hl:k < ms2.length->ltC (cel ms i) (cel ms2 k)):MI ms ms2 (i+1) k (L ++ [cel ms i]):=by
 obtain⟨ii,kk,len,pw,mem,ab,ba⟩:=h
 have hc:=zT hr hi
 have hu:unA ms2 (ms.getD i [])=true:=by
  obtain⟨x,y,z,r,e1,e2⟩:=mT hr hi
  rw [qEu hr hi e2]
  cases hf:fnd ms2 x y z with
  | false=>rfl
  | true =>
   obtain⟨q,hq,e⟩:=qFn hr2 hf
   rw [<- e2] at e
   by_cases c:q < k
   ·have:=ba q c hi
    rw [e] at this;exact absurd this (yD hc)
   ·have h1:=hl om
    by_cases c2:q=k
    ·rw [<- c2,e] at h1;exact absurd h1 (yD hc)
    ·have h2:=gY hr2 hs2 hq k om
     rw [e] at h2
     exact absurd (hY hc (zT hr2 om) hc h1 h2) (yD hc)
 refine⟨hi,kk,by simp;omega,qEV pw fun d hd=>?_,fun c=>?_,fun p hp hk=>?_,fun q hq hi2=>?_⟩
 ·rcases(mem d).1 hd with ⟨p,hp,rfl,_⟩ | ⟨p,hp,rfl,_⟩
  ·exact gY hr hs hi p hp
  ·exact ba p hp hi
 ·rw [List.mem_append,List.mem_singleton,mem,InA.succ]
  constructor
  ·rintro((h | h) | h)
   ·exact .inl (.inl h)
   ·exact .inr h
   ·exact .inl (.inr ⟨h,hu⟩)
  ·rintro((h | h) | h)
   ·exact .inl (.inl h)
   ·exact .inr h.1
   ·exact .inl (.inr h)
 ·by_cases c:p=i
  ·rw [c];exact hl hk
  ·exact ab p om hk
 ·exact hY (zT hr2 om) hc (zT hr hi2) (ba q hq hi) (gY hr hs hi2 i om)
theorem MI.more (h:MI ms ms2 i k L) (hk:k < ms2.length) (hl:i < ms.length->ltC (cel ms2 k) (cel ms i)):MI ms ms2 i (k+1) (L ++ [cel ms2 k]):=by
 obtain⟨ii,kk,len,pw,mem,ab,ba⟩:=h
 have hc:=zT hr2 hk
 have hu:unB ms (ms2.getD k [])=true:=by
  obtain⟨x,y,z,r,e1,e2⟩:=mT hr2 hk
  rw [qEv hr2 hk e2]
  cases hf:fnd ms x y z with
  | false=>rfl
  | true =>
   obtain⟨q,hq,e⟩:=qFn hr hf
   rw [<- e2] at e
   by_cases c:q < i
   ·have:=ab q c hk
    rw [e] at this;exact absurd this (yD hc)
   ·have h1:=hl om
    by_cases c2:q=i
    ·rw [<- c2,e] at h1;exact absurd h1 (yD hc)
    ·have h2:=gY hr hs hq i om
     rw [e] at h2
     exact absurd (hY hc (zT hr om) hc h1 h2) (yD hc)
 refine⟨ii,hk,by simp;omega,qEV pw fun d hd=>?_,fun c=>?_,fun p hp hk2=>?_,fun q hq hi2=>?_⟩
 ·rcases(mem d).1 hd with ⟨p,hp,rfl,_⟩ | ⟨p,hp,rfl,_⟩
  ·exact ab p hp hk
  ·exact gY hr2 hs2 hk p hp
 ·rw [List.mem_append,List.mem_singleton,mem,InB.succ]
  constructor
  ·rintro((h | h) | h)
   ·exact .inl h
   ·exact .inr (.inl h)
   ·exact .inr (.inr ⟨h,hu⟩)
  ·rintro(h | (h | h))
   ·exact .inl (.inl h)
   ·exact .inl (.inr h)
   ·exact .inr h.1
 ·exact hY (zT hr om) hc (zT hr2 hk2) (ab p hp hk) (gY hr2 hs2 hk2 k om)
 ·by_cases c:q=k
  ·rw [c];exact hl hi2
  ·exact ba q om hi2
theorem MI.same (h:MI ms ms2 i k L) (hi:i < ms.length) (hk:k < ms2.length) (e:cel ms i=cel ms2 k) {L' : LL} (hL:(pH (ms.getD i []) (ms2.getD k [])=true/\L'=L) \/ (pH (ms.getD i []) (ms2.getD k [])=false/\L'=L ++ [cel ms i])):MI ms ms2 (i+1) (k+1) L':=by
 obtain⟨ii,kk,len,pw,mem,ab,ba⟩:=h
 have hc:=zT hr hi
 obtain⟨x,y,z,r,e1,e2⟩:=mT hr hi
 have f1:=qHb hr2 hs2 hk (e.symm.trans e2)
 have f2:=qHb hr hs hi e2
 have hu:unA ms2 (ms.getD i []) = !(pH (ms.getD i []) (ms2.getD k [])):=by rw [qEu hr hi e2,f1.2,f1.1];rfl
 have hb:unB ms (ms2.getD k [])=false:=by rw [qEv hr2 hk (e.symm.trans e2),f2.2];rfl
 have hmB:∀ c,InB ms ms2 (k+1) c ↔ InB ms ms2 k c:=fun c=>by
  rw [InB.succ]
  exact⟨fun h=>h.elim id (fun h=>by rw [hb] at h;cases h.2),.inl⟩
 have lt1:∀ d ∈ L,ltC d (cel ms i):=fun d hd=>by
  rcases(mem d).1 hd with ⟨p,hp,rfl,_⟩ | ⟨p,hp,rfl,_⟩
  ·exact gY hr hs hi p hp
  ·exact ba p hp hi
 have al1:∀ p,p < i+1->k+1 < ms2.length->ltC (cel ms p) (cel ms2 (k+1)):=fun p hp h2=>by
  have h3:=gY hr2 hs2 h2 k om
  by_cases c:p=i
  ·rw [c,e];exact h3
  ·exact hY (zT hr om) (zT hr2 hk) (zT hr2 h2) (ab p om hk) h3
 have al2:∀ q,q < k+1->i+1 < ms.length->ltC (cel ms2 q) (cel ms (i+1)):=fun q hq h2=>by
  have h3:=gY hr hs h2 i om
  by_cases c:q=k
  ·rw [c,<- e];exact h3
  ·exact hY (zT hr2 om) hc (zT hr h2) (ba q om hi) h3
 rcases hL with ⟨hsm,rfl⟩ | ⟨hsm,rfl⟩
 ·rw [hsm] at hu
  refine⟨hi,hk,by omega,pw,fun c=>?_,al1,al2⟩
  rw [mem,hmB,InA.succ]
  exact⟨fun h=>h.imp .inl id,fun h=>h.imp (fun h=>h.elim id fun h=>by rw [hu] at h;cases h.2) id⟩
 ·rw [hsm] at hu
  refine⟨hi,hk,by simp;omega,qEV pw lt1,fun c=>?_,al1,al2⟩
  rw [List.mem_append,List.mem_singleton,mem,hmB,InA.succ]
  constructor
  ·rintro((h | h) | h)
   ·exact .inl (.inl h)
   ·exact .inr h
   ·exact .inl (.inr ⟨h,hu⟩)
  ·rintro((h | h) | h)
   ·exact .inl (.inl h)
   ·exact .inr h.1
   ·exact .inl (.inr h)
end
theorem MI.fin {ms ms2 L:LL} (h:MI ms ms2 ms.length ms2.length L):IsU ms ms2 L:=⟨h.pw,h.mem⟩
noncomputable def bJ (ms ms2:LL):Nat->LL
 | 0=>[]
 | i+1=>bJ ms ms2 i ++ (if unA ms2 (ms.getD i [])=true then [cel ms i] else [])
noncomputable def qAH (ms ms2:LL) (L:LL):Nat->LL
 | 0=>L
 | i+1=>qAH ms ms2 L i ++ (if unB ms (ms2.getD i [])=true then [cel ms2 i] else [])
theorem pU {ms ms2:LL} {c:List AV}:∀ {i:Nat},c ∈ bJ ms ms2 i ↔ InA ms ms2 i c
 | 0=>⟨fun h=>by simp [bJ] at h,fun ⟨p,h,_⟩=>by omega⟩
 | i+1=>by
  rw [bJ,List.mem_append,pU,InA.succ]
  split
  ·rename_i h;rw [List.mem_singleton];exact⟨fun x=>x.imp id fun x=>⟨x,h⟩,fun x=>x.imp id And.left⟩
  ·rename_i h;exact⟨fun x=>x.imp id fun x=>by simp at x,fun x=>x.imp id fun x=>absurd x.2 h⟩
theorem kU {ms ms2 L:LL} {c:List AV}:∀ {i:Nat},c ∈ qAH ms ms2 L i ↔ c ∈ L \/ InB ms ms2 i c
 | 0=>⟨fun h=>.inl h,fun h=>h.elim id fun ⟨p,h,_⟩=>by omega⟩
 | i+1=>by
  rw [qAH,List.mem_append,kU,InB.succ,or_assoc]
  split
  ·rename_i h;rw [List.mem_singleton];exact⟨fun x=>x.imp id fun x=>x.imp id fun x=>⟨x,h⟩,fun x=>x.imp id fun x=>x.imp id And.left⟩
  ·rename_i h;exact⟨fun x=>x.imp id fun x=>x.imp id fun x=>by simp at x,fun x=>x.imp id fun x=>x.imp id fun x=>absurd x.2 h⟩
theorem qAU (ms ms2:LL):∀ i,(bJ ms ms2 i).length<=i
 | 0=>Nat.le_refl _
 | i+1=>by
  have:=qAU ms ms2 i
  rw [bJ,List.length_append]
  split <;> simp <;> omega
theorem qDc (ms ms2 L:LL):∀ i,(qAH ms ms2 L i).length<=L.length+i
 | 0=>Nat.le_refl _
 | i+1=>by
  have:=qDc ms ms2 L i
  rw [qAH,List.length_append]
  split <;> simp <;> omega
theorem kT {ms ms2:LL} (hr:qL KM ms) {i:Nat} (hi:i<=ms.length):qL KC (bJ ms ms2 i):=fun c hc=>((pU.1 hc).cell hr hi).recs
theorem qEj {ms ms2 L:LL} (hL:qL KC L) (hr:qL KM ms2) {i:Nat} (hi:i<=ms2.length):qL KC (qAH ms ms2 L i):=fun c hc=>(kU.1 hc).elim (hL c) fun h=>(h.cell hr hi).recs
theorem qHG {L:LL} {c:List AV} (h:L.Nodup) (k:c ∉ L):(L ++ [c]).Nodup:=by
 rw [List.nodup_append]
 exact⟨h,by simp,fun a ha b hb=>by rw [List.mem_singleton.1 hb];intro e;exact k (e ▸ ha)⟩
theorem qES {ms ms2:LL} (hr:qL KM ms) (hs:mK ms):∀ {i:Nat},i<=ms.length->(bJ ms ms2 i).Nodup
 | 0,_=>List.nodup_nil
 | i+1,hi=>by
  rw [bJ]
  split
  ·refine qHG (qES hr hs om) fun h=>?_
   obtain⟨p,hp,e,_⟩:=pU.1 h
   exact qJD (zT hr om) (gY hr hs hi p hp) e.symm
  ·rw [List.append_nil];exact qES hr hs om
theorem qDd {ms ms2:LL} (hr:qL KM ms) (hr2:qL KM ms2) (hs:mK ms) (hs2:mK ms2):∀ {i:Nat},i<=ms2.length->(qAH ms ms2 (bJ ms ms2 ms.length) i).Nodup
 | 0,_=>qES hr hs (Nat.le_refl _)
 | i+1,hi=>by
  rw [qAH]
  split
  ·rename_i hu
   refine qHG (qDd hr hr2 hs hs2 om) fun h=>?_
   rcases kU.1 h with h | ⟨p,hp,e,_⟩
   ·obtain⟨p,hp,e,_⟩:=pU.1 h
    obtain⟨x,y,z,r,e1,e2⟩:=mT hr2 (show i < ms2.length by omega)
    rw [qEv hr2 hi e2,(qHb hr hs hp (e.symm.trans e2)).2] at hu
    cases hu
   ·exact qJD (zT hr2 om) (gY hr2 hs2 hi p hp) e.symm
  ·rw [List.append_nil];exact qDd hr hr2 hs hs2 om
theorem qFE {lt:List AV->List AV->Prop} {U:LL} (irr:∀ x ∈ U,¬ lt x x) (tr:∀ x ∈ U,∀ y ∈ U,∀ z ∈ U,lt x y->lt y z->lt x z) (tot:∀ x ∈ U,∀ y ∈ U,lt x y \/ x=y \/ lt y x) {x y:List AV} (hx:x ∈ U) (hy:y ∈ U):lt x y ↔ rkU lt U x < rkU lt U y:=by
 classical
 have key:∀ {x y:List AV},x ∈ U->y ∈ U->lt x y->rkU lt U x < rkU lt U y:=fun {x y} hx hy h=>by
  unfold rkU
  have:=qDE (p:=fun z=>decide (lt z x)) (q:=fun z=>decide (lt z y)) (L:=U) (fun z hm hz=>by simpa using tr z hm x hx y hy (by simpa using hz) h) hx (by simpa using h) (by simpa using irr x hx)
  omega
 constructor
 ·exact key hx hy
 ·intro h
  rcases tot x hx y hy with h1 | h1 | h1
  ·exact h1
  ·subst h1;omega
  ·have:=key hy hx h1;omega
theorem qLE {κ:List AV->Int}:∀ {L:LL},L.Nodup->(∀ x ∈ L,∀ y ∈ L,κ x=κ y->x=y)->Uq κ L
 | [],_,_=>fun v=>by simp
 | x :: L,h,k=>fun v=>by
  rw [List.nodup_cons] at h
  have ih:=qLE h.2 (fun a ha b hb=>k a (List.mem_cons_of_mem _ ha) b (List.mem_cons_of_mem _ hb)) v
  rw [List.countP_cons]
  by_cases c:κ x=v
  ·rw [if_pos (decide_eq_true c)]
   have:L.countP (fun y=>decide (κ y=v))=0:=by
    rw [List.countP_eq_zero]
    intro y hy e
    exact h.1 (k x (List.mem_cons_self ..) y (List.mem_cons_of_mem _ hy) (c.trans (of_decide_eq_true e).symm) ▸ hy)
   omega
  ·rw [if_neg (by simpa using c)];omega
section
variable {U:LL} (hC:∀ c ∈ U,IsC c)
include hC
theorem qLu:uM (rkU ltC U) U:=fun a b c a' b' c' h1 h2=>(qFE (lt:=ltC) (fun x hx=>yD (hC x hx)) (fun x hx y hy z hz=>hY (hC x hx) (hC y hy) (hC z hz)) (fun x hx y hy=>cY (hC x hx) (hC y hy)) h1 h2)
theorem qLw (hn:U.Nodup):Uq (rkU ltC U) U:=qLE hn fun x hx y hy e=>by
 have l1:=qFE (lt:=ltC) (fun x hx=>yD (hC x hx)) (fun x hx y hy z hz=>hY (hC x hx) (hC y hy) (hC z hz)) (fun x hx y hy=>cY (hC x hx) (hC y hy)) hx hy
 have l2:=qFE (lt:=ltC) (fun x hx=>yD (hC x hx)) (fun x hx y hy z hz=>hY (hC x hx) (hC y hy) (hC z hz)) (fun x hx y hy=>cY (hC x hx) (hC y hy)) hy hx
 rcases cY (hC x hx) (hC y hy) with h | h | h
 ·have:=l1.1 h;omega
 ·exact h
 ·have:=l2.1 h;omega
theorem qLv (hn:U.Nodup) {M:LL} (h:Pt2 0 U.length U M) (s:yM (rkU ltC U) 0 U.length M):M.Pairwise ltC /\ ∀ c,c ∈ M ↔ c ∈ U:=by
 refine⟨?_,fun c=>⟨fun k=>h.pe.mem k,fun k=>h.pe.symm.mem k⟩⟩
 rw [List.pairwise_iff_getElem]
 intro p q hp hq hpq
 have e1:M.getD p []=M[p]:=by rw [List.getD_eq_getElem?_getD,List.getElem?_eq_getElem hp];rfl
 have e2:M.getD q []=M[q]:=by rw [List.getD_eq_getElem?_getD,List.getElem?_eq_getElem hq];rfl
 have h1:=s p q (Nat.zero_le _) hpq (by rw [<- h.len];exact hq)
 have h2:=((qLw hC hn).pe h.pe).ne hpq hq
 have h3:tmK (rkU ltC U) M p < tmK (rkU ltC U) M q:=by omega
 unfold tmK at h3
 rw [e1,e2] at h3
 exact(qFE (lt:=ltC) (fun x hx=>yD (hC x hx)) (fun x hx y hy z hz=>hY (hC x hx) (hC y hy) (hC z hz)) (fun x hx y hy=>cY (hC x hx) (hC y hy)) (h.pe.mem (List.getElem_mem hp)) (h.pe.mem (List.getElem_mem hq))).2 h3
end
theorem qBC {ms ms2:LL} (hr:qL KM ms) (hr2:qL KM ms2):∀ c ∈ qAH ms ms2 (bJ ms ms2 ms.length) ms2.length,IsC c:=fun c hc=>(kU.1 hc).elim (fun h=>(pU.1 h).cell hr (Nat.le_refl _)) fun h=>h.cell hr2 (Nat.le_refl _)
theorem qJu {ms ms2 M:LL} (hr:qL KM ms) (hr2:qL KM ms2) (hs:mK ms) (hs2:mK ms2) (h:Pt2 0 (qAH ms ms2 (bJ ms ms2 ms.length) ms2.length).length (qAH ms ms2 (bJ ms ms2 ms.length) ms2.length) M) (s:yM (rkU ltC (qAH ms ms2 (bJ ms ms2 ms.length) ms2.length)) 0 (qAH ms ms2 (bJ ms ms2 ms.length) ms2.length).length M):unl ms ms2=M:=by
 have k:=qLv (qBC hr hr2) (qDd hr hr2 hs hs2 (Nat.le_refl _)) h s
 refine qFO hr hr2 ⟨k.1,fun c=>?_⟩
 rw [k.2,kU,pU]
theorem qJt {ms ms2:LL} (hr:qL KM ms) (hr2:qL KM ms2):qL KC (unl ms ms2):=by
 classical
 unfold unl
 split
 ·rename_i h
  intro c hc
  rcases((Classical.choose_spec h).mem c).1 hc with x | x
  ·exact(x.cell hr (Nat.le_refl _)).recs
  ·exact(x.cell hr2 (Nat.le_refl _)).recs
 ·intro c hc;simp at hc
end Go.Proofs.Ytgjggkgafdnhcaa
namespace Go.Proofs.Ytgjggkgafdnhcaa
open Go.Ab
set_option maxRecDepth 100000
set_option maxHeartbeats 1000000
attribute [local irreducible] Res
theorem qHi (H:AHeap) (x:ON) (hx:fOk .f32 x) (ms:LL) (hr:qL KM ms) (hsort:mK ms) (S:AV) (hS:SlL H 9 ms S) (a b c:Int) (p:Nat) (fd:Bool) (hp:lin ms a b c=p) (hfd:fnd ms a b c=fd) (hmax:ms.length < 2^40):zG Try.prog 19 [.agg [.flt .f32 x,S],.agg [.int .i32 a,.int .i32 b,.int .i32 c]] H (.tuple [.int .i64 (p:Int),.bool fd]):=by
 subst hp
 subst hfd
 exact qLf H x hx ms hr hsort S hS a b c hmax
open Classical in
noncomputable def vQ (x:ON) (ms:LL) (x2:ON) (ms2:LL):LL × Int:=
 if qAL x ms x2 ms2=0 then (unl ms ms2,0) else ([],qAL x ms x2 ms2)
def tbU:List (Nat × AFun):=tb.filter fun p=>!(p.1 == 21 || p.1 == 19 || p.1 == 20 || p.1 == 18)
theorem mB:qAA Try.prog tbU:=fun f a h=>jR f a (List.mem_filter.1 h).1
def pmU (fl:Nat) (ru:List (RK × SV)) (un:Nat):Pm:=⟨fl,ru,tbU,ap,un⟩
theorem kJ (H:AHeap) (x:ON) (hx:fOk .f32 x) (ms:LL) (hr:qL KM ms) (S:AV) (hS:SlL H 9 ms S) (mxms:ms.length<=1048576) (x2:ON) (hx2:fOk .f32 x2) (ms2:LL) (hr2:qL KM ms2) (S2:AV) (hS2:SlL H 9 ms2 S2) (mxms2:ms2.length<=1048576):qK Try.prog 7 [.agg [.flt .f32 x,S],.agg [.flt .f32 x2,S2]] H fun r H'=>Grew H H' /\ ∃ S',r=.tuple [S',.int .i64 (vQ x ms x2 ms2).2]/\SlF H' 3 (vQ x ms x2 ms2).1 S'/\FreshS H.next S':=by
 refine qN bR (by simp) ?_
 have q1:KdsL [KF,.one,KF,.one,KI,KI] [.flt .f32 x,S,.flt .f32 x2,S2,.int .i64 (qAL x ms x2 ms2),.int .i64 (ms.length:Int)]:=kL
 refine rG mB 0 0 [(.call 18 [.agg [nF 0,n1 1],.agg [nF 2,n1 3]],nI 4),(.len (n1 1),nI 5)] [] [(0,.agg [nF 0,n1 1]),(1,.agg [nF 2,n1 3])] q1 .nil (.cons (qI (args:=[.agg [.flt .f32 x,S],.agg [.flt .f32 x2,S2]]) (dL q1) (dE q1) (fun H9 hk=>qDQ H9 x hx ms hr S (hS.grew (Grew.trans (Grew.refl _) (hk.grew (Nat.le_refl _)))) mxms x2 hx2 ms2 hr2 S2 (hS2.grew (Grew.trans (Grew.refl _) (hk.grew (Nat.le_refl _)))) mxms2)) (.cons (⟨_,_,(dE q1),(dE q1),gB hS⟩) .nil)) (.cons (t:=0) rfl (.cons (t:=1) rfl .nil)) ?_
 refine vI kr ?_ ?_
 ·intro vs ls H2 E2 st hE
  have f3:¬ ((qAL x ms x2 ms2)=0):=df st 0
  have gz:Grew H H2:=(Grew.trans (Grew.refl _) (gk st))
  have hc:vQ x ms x2 ms2=([],(qAL x ms x2 ms2)):=by unfold vQ;rw [if_neg f3]
  exact re st hE (.tuple [.nilslice,.int .i64 (qAL x ms x2 ms2)]) gz.next (by rw [hc];exact⟨gz,_,rfl,(.nil rfl),FreshS.nil⟩)
 ·intro vs ls H4 E4 st hE
  have f5:(qAL x ms x2 ms2)=0:=dt st 0
  have ht:=qIp f5
  have hs:=wU ht.1
  have hs2:=wU ht.2.1
  have hl200:=gA ht.1
  have hl2002:=gA ht.2.1
  obtain⟨p6,e7,r8,n9⟩:=pO st hE 3 1 [.flt .f32 x2,S2]
  have op6:H.next<=p6:=Nat.le_trans (Nat.le_refl _) (oM n9)
  obtain⟨p10,e11,r12,n13⟩:=qBG st.inn hE 7 2 0 0 3 kr (ds:=[]) kr
  have op10:H.next<=p10:=Nat.le_trans (Nat.le_refl _) (oM n13)
  obtain⟨p14,e15,r16,n17⟩:=pO st hE 2 0 [.flt .f32 x,S]
  have op14:H.next<=p14:=Nat.le_trans (Nat.le_refl _) (oM n17)
  have ne18:Apart p6 p10:=⟨qJI st.inn hE 3 7 1 2 (v:=.ptr 1 0) (v':=.sl 2 0 0 0 3) kr kr rfl rfl (cs:=[.nd 2 (.flt .f32),.nd 3 .one]) kr (by decide) e7 e11 rfl rfl⟩
  have ne19:=pn st hE 3 1 2 0 [.nd 2 (.flt .f32),.nd 3 .one] e7 e15
  have ne20:Apart p10 p14:=⟨qJI st.inn hE 7 2 2 0 (v:=.sl 2 0 0 0 3) (v':=.ptr 0 0) kr kr rfl rfl (cs:=[]) kr (by decide) e11 e15 rfl rfl⟩
  have b21:=eo st hE 26 (.int .i64 0)
  have b22:=eo st hE 25 (.int .i64 (ms.length:Int))
  have b23:=eo st hE 24 S
  have g24:Grew H H4:=(gk st)
  have g25:Grew H H4:=Grew.trans (Grew.refl _) g24
  refine zE kr (fun z E H'=>∃ (i:Nat) (acc26_0:AV),z+i=ms.length/\E 25=.int .i64 (ms.length:Int)/\E 24=S/\E 3=.ptr p6 0/\E 2=.ptr p14 0/\E 26=.int .i64 (i:Int)/\E 7=acc26_0/\Grew H H'/\H'.get p6=some (.row [.flt .f32 x2,S2] true)/\H'.get p14=some (.row [.flt .f32 x,S] true)/\SlF H' 3 (bJ ms ms2 i) acc26_0/\FreshS H.next acc26_0/\ApartL acc26_0 p6/\ApartL acc26_0 p14) (ms.length) ⟨0,.slice p10 0 0 0 3,by omega,b22,b23,e7,e15,b21,e11,g25,r8,r16,(.sl (by simpa [bJ] using r12) rfl (Nat.le_refl _)),(FreshS.of_le op10),(ApartL.of aS),(ApartL.of aS)⟩ ?_
  rintro z26 Ei26 Hi26 ⟨i26,acc26_0,hz26,c26_25,c26_24,c26_3,c26_2,ci26,ca26_0,gt26,r26_0,r26_2,s26_0,f26_0,ap26_0_0,ap26_0_2⟩
  have hln9i26:=qAU ms ms2 i26
  have q27:=q1.app (kL:KdsL [KI,.one] [.int .i64 (i26:Int),acc26_0])
  refine rG mB 2 0 [] [wf p6 [nF 2,n1 3],wf p14 [nF 0,n1 1]] [(25,nI 5),(24,n1 1),(3,.ptr 0 0),(2,.ptr 1 0),(26,nI 6),(7,n1 7)] q27 wA .nil (.cons c26_25 (.cons c26_24 (.cons c26_3 (.cons c26_2 (.cons ci26 (.cons ca26_0 .nil)))))) ?_
  refine vI kr ?_ ?_
  ·intro vs ls H28 E28 st hE
   have f29:(i26:Int) < (ms.length:Int):=dt st 0
   have B1:=es st hE [(24,S),(26,.int .i64 (i26:Int)),(3,.ptr p6 0),(7,acc26_0),(25,.int .i64 (ms.length:Int)),(2,.ptr p14 0)]
   have g36:Grew Hi26 H28:=(gk st)
   have g37:=Grew.trans gt26 g36
   have r38:=g36.at r26_0
   have r39:=g36.at r26_2
   have s40:=s26_0.grew g36
   have hlt41:i26 < ms.length:=by omega
   obtain⟨lS41,cap41,rest41,wr41,eS41,gB41⟩:=hS.isSl hlt41
   have gS41:=g37.at gB41
   have ne42:=apn gB41 op6
   have ne43:=apn gB41 op14
   obtain⟨v41_0,v41_1,v41_2,v41_3,v41_4,v41_5,v41_6,v41_7,v41_8,hm41,ho41_3,ho41_4,ho41_5,ho41_6⟩:=zR (hr.get hlt41)
   have he41:ms.getD i26 []=[.int .i32 v41_0,.int .i32 v41_1,.int .i32 v41_2,.flt .f32 v41_3,.flt .f32 v41_4,.flt .f32 v41_5,.flt .f32 v41_6,.int .i64 v41_7,.int .i64 v41_8]:=by rw [<- hm41,List.getD_eq_getElem?_getD,List.getElem?_eq_getElem hlt41];rfl
   obtain⟨p44,hp44⟩:∃ p,lin ms2 v41_0 v41_1 v41_2=p:=⟨_,rfl⟩
   obtain⟨fd44,hfd44⟩:∃ p,fnd ms2 v41_0 v41_1 v41_2=p:=⟨_,rfl⟩
   have hpl44:fd44=true->p44 < ms2.length:=fun h=>by rw [<- hp44];exact qHc (hfd44.trans h)
   have q45:=q27.app (kL:KdsL [K2,K2,K2,KF,KF,KF,KF,KI,KI,KI,.bool] [.int .i32 v41_0,.int .i32 v41_1,.int .i32 v41_2,.flt .f32 v41_3,.flt .f32 v41_4,.flt .f32 v41_5,.flt .f32 v41_6,.int .i64 v41_7,.int .i64 v41_8,.int .i64 (p44:Int),.bool fd44])
   refine rG mB 3 0 [(.ia 9 (n1 1) (nI 6),.ptr 2 0),(.call 19 [.agg [nF 2,n1 3],.agg [n2 8,n2 9,n2 10]],.tup [nI 17,nB 18])] [wf p6 [nF 2,n1 3],wf p14 [nF 0,n1 1],⟨lS41,(i26 * 9),[n2 8,n2 9,n2 10,nF 11,nF 12,nF 13,nF 14,nI 15,nI 16],false⟩] [(24,n1 1),(26,nI 6),(3,.ptr 0 0),(7,n1 7),(25,nI 5),(2,.ptr 1 0)] q45 (.cons (wR r38 q45) (.cons (wR r39 q45) (.cons (qA hr gS41 hlt41 rfl (by rw [hm41];exact(dL q45))) .nil))) (.cons (qD (k:=i26) (dE q45) eS41 (dE q45) hlt41 rfl) (.cons (qI (args:=[.agg [.flt .f32 x2,S2],.agg [.int .i32 v41_0,.int .i32 v41_1,.int .i32 v41_2]]) (dL q45) (dE q45) (fun H9 hk=>qHi H9 x2 hx2 ms2 hr2 hs2 S2 (hS2.grew (Grew.trans g37 (hk.grew (Nat.le_refl _)))) v41_0 v41_1 v41_2 p44 fd44 hp44 hfd44 (qHE mxms2))) .nil)) B1 ?_
   refine vI kr ?_ ?_
   ·intro vs ls H46 E46 st hE
    have f47:fd44=false:=bf st 0
    obtain⟨p48,e49,r50,n51⟩:=qBG st.inn hE 52 4 1 1 3 kr (ds:=[.int .i32 v41_0,.int .i32 v41_1,.int .i32 v41_2]) kr
    have op48:H.next<=p48:=Nat.le_trans g37.next (oM n51)
    have ne52:=apn r38 (oM n51)
    have ne53:=apn r39 (oM n51)
    have ne54:=apn gS41 (oM n51)
    have ne55:ApartL (acc26_0) p48:=s40.apart_new (oM n51)
    have b56:=eo st hE 49 acc26_0
    have B2:=es st hE [(49,acc26_0),(26,.int .i64 (i26:Int)),(25,.int .i64 (ms.length:Int)),(24,S),(3,.ptr p6 0),(2,.ptr p14 0),(7,acc26_0)]
    have g63:Grew H28 H46:=(gk st)
    have g64:=Grew.trans g37 g63
    have r65:=g63.at r38
    have r66:=g63.at r39
    have s68:=s40.grew g63
    refine vU (d:=(some 53)) (sz:=3) (bytes:=12) (x:=.tmp 49) (y:=.tmp 52) kr (S:=acc26_0) (ms:=(bJ ms ms2 i26)) (ys:=[[.int .i32 v41_0,.int .i32 v41_1,.int .i32 v41_2]]) (by show E46 49=_;exact b56) s68 (kT hr om).len (by show jX _ _ (E46 52)=_;rw [e49];exact pI r50 rfl) (bW (ks:=KC) (qL.one (ks:=KC) (.cons kA (.cons kA (.cons kA .nil)))) rfl) (by show (2 * ((bJ ms ms2 i26).length+1)+192) * 12<=281474976710656;omega) ?_
    intro S69 H70 sS69 fS69 oS69
    have ne71:=aL fS69 r65 am
    have ne72:=aL fS69 r66 am
    have ne73:=aL fS69 r50 am
    have fr74:FreshS H.next (S69):=fS69.fresh f26_0 g64.next
    have g75:Grew H H70:=OnlyS.own g64 f26_0 oS69
    have r76:=oS69.at r65 am
    have r77:=oS69.at r66 am
    have r78:=oS69.at r50 am
    have q79:=q45.app (kL:KdsL [.one] [S69])
    refine rG mB 3 0 [] [wf p6 [nF 2,n1 3],wf p14 [nF 0,n1 1],wf p48 [n2 8,n2 9,n2 10]] [(49,n1 7),(26,nI 6),(25,nI 5),(24,n1 1),(3,.ptr 0 0),(2,.ptr 1 0),(7,n1 7),(52,.sl 2 0 1 1 3),(53,n1 19)] q79 wA .nil (sc (sp B2) (.cons (zL rfl e49) (.cons qJ .nil))) ?_
    refine qM kr fun vs ls H80 E80 st hE=>?_
    obtain⟨w81,hw81⟩:∃ z,z=(IntKind.wrap .i64 ((i26:Int)+1)):=⟨_,rfl⟩
    have b82:E80 26=.int .i64 w81:=by rw [hw81];exact eo st hE 26 _
    have b83:=eo st hE 25 (.int .i64 (ms.length:Int))
    have b84:=eo st hE 24 S
    have b85:=eo st hE 3 (.ptr p6 0)
    have b86:=eo st hE 2 (.ptr p14 0)
    have b87:=eo st hE 7 S69
    have g88:Grew H70 H80:=(gk st)
    have g89:=Grew.trans g75 g88
    have r90:=g88.at r76
    have r91:=g88.at r77
    have s93:=sS69.grew g88
    have hz9:z26 - 1 < z26:=by omega
    have hy9:z26 - 1+(i26+1)=ms.length:=by omega
    have hi9:E80 26=.int .i64 ((i26+1:Nat):Int):=by rw [b82,hw81,wrap64 om]
    have ce9:cel ms i26=plc v41_0 v41_1 v41_2:=by unfold cel;rw [he41];rfl
    have un9:unA ms2 (ms.getD i26 [])=true:=by
     rw [qEu hr om ce9,hfd44,hp44,f47]
     rfl
    have hq9:(bJ ms ms2 (i26+1))=((bJ ms ms2 i26) ++ [[.int .i32 v41_0,.int .i32 v41_1,.int .i32 v41_2]]):=by
     show (bJ ms ms2 i26) ++ (if unA ms2 (ms.getD i26 [])=true then [cel ms i26] else [])=_
     rw [if_pos un9,ce9];rfl
    exact qP kr ⟨z26 - 1,hz9,i26+1,S69,hy9,b83,b84,b85,b86,hi9,b87,g89,r90,r91,(by rw [hq9];exact s93),fr74,am,am⟩
   ·intro vs ls H94 E94 st hE
    have f95:fd44=true:=bf st 0
    have hpt44:=hpl44 f95
    obtain⟨p96,e97,r98,n99⟩:=pO st hE 9 3 [.int .i32 v41_0,.int .i32 v41_1,.int .i32 v41_2,.flt .f32 v41_3,.flt .f32 v41_4,.flt .f32 v41_5,.flt .f32 v41_6,.int .i64 v41_7,.int .i64 v41_8]
    have op96:H.next<=p96:=Nat.le_trans g37.next (oM n99)
    have ne100:=apn r38 (oM n99)
    have ne101:=apn r39 (oM n99)
    have ne102:=apn gS41 (oM n99)
    have ne103:ApartL (acc26_0) p96:=s40.apart_new (oM n99)
    obtain⟨w107,hw107⟩:∃ z,z=(!fd44):=⟨_,rfl⟩
    have b108:E94 39=.bool w107:=by rw [hw107];exact eo st hE 39 _
    have B3:=es st hE [(42,S2),(43,.int .i64 (p44:Int)),(40,.agg [.int .i32 v41_0,.int .i32 v41_1,.int .i32 v41_2,.flt .f32 v41_3,.flt .f32 v41_4,.flt .f32 v41_5,.flt .f32 v41_6,.int .i64 v41_7,.int .i64 v41_8]),(7,acc26_0),(26,.int .i64 (i26:Int)),(25,.int .i64 (ms.length:Int)),(24,S),(3,.ptr p6 0),(2,.ptr p14 0)]
    have g115:Grew H28 H94:=(gk st)
    have g116:=Grew.trans g37 g115
    have r117:=g115.at r38
    have r118:=g115.at r39
    have s120:=s40.grew g115
    have hlt121:p44 < ms2.length:=by omega
    obtain⟨lS121,cap121,rest121,wr121,eS121,gB121⟩:=hS2.isSl hlt121
    have gS121:=g116.at gB121
    have ne122:=apn gB121 op6
    have ne123:=apn gB121 op14
    have ne124:=apn gB121 op96
    obtain⟨v121_0,v121_1,v121_2,v121_3,v121_4,v121_5,v121_6,v121_7,v121_8,hm121,ho121_3,ho121_4,ho121_5,ho121_6⟩:=zR (hr2.get hlt121)
    have he121:ms2.getD p44 []=[.int .i32 v121_0,.int .i32 v121_1,.int .i32 v121_2,.flt .f32 v121_3,.flt .f32 v121_4,.flt .f32 v121_5,.flt .f32 v121_6,.int .i64 v121_7,.int .i64 v121_8]:=by rw [<- hm121,List.getD_eq_getElem?_getD,List.getElem?_eq_getElem hlt121];rfl
    have q125:=q45.app (kL:KdsL [.bool,K2,K2,K2,KF,KF,KF,KF,KI,KI,.bool] [.bool w107,.int .i32 v121_0,.int .i32 v121_1,.int .i32 v121_2,.flt .f32 v121_3,.flt .f32 v121_4,.flt .f32 v121_5,.flt .f32 v121_6,.int .i64 v121_7,.int .i64 v121_8,.bool (pH [.int .i32 v41_0,.int .i32 v41_1,.int .i32 v41_2,.flt .f32 v41_3,.flt .f32 v41_4,.flt .f32 v41_5,.flt .f32 v41_6,.int .i64 v41_7,.int .i64 v41_8] [.int .i32 v121_0,.int .i32 v121_1,.int .i32 v121_2,.flt .f32 v121_3,.flt .f32 v121_4,.flt .f32 v121_5,.flt .f32 v121_6,.int .i64 v121_7,.int .i64 v121_8])])
    refine rG mB 4 0 [(.ia 9 (n1 3) (nI 17),.ptr 3 0),(.call 20 [.agg [n2 8,n2 9,n2 10,nF 11,nF 12,nF 13,nF 14,nI 15,nI 16],.agg [n2 20,n2 21,n2 22,nF 23,nF 24,nF 25,nF 26,nI 27,nI 28]],nB 29)] [wf p6 [nF 2,n1 3],wf p14 [nF 0,n1 1],wf p96 [n2 8,n2 9,n2 10,nF 11,nF 12,nF 13,nF 14,nI 15,nI 16],⟨lS121,(p44 * 9),[n2 20,n2 21,n2 22,nF 23,nF 24,nF 25,nF 26,nI 27,nI 28],false⟩] [(42,n1 3),(43,nI 17),(40,.agg [n2 8,n2 9,n2 10,nF 11,nF 12,nF 13,nF 14,nI 15,nI 16]),(7,n1 7),(26,nI 6),(25,nI 5),(24,n1 1),(3,.ptr 0 0),(2,.ptr 1 0),(39,nB 19),(9,.ptr 2 0)] q125 (.cons (wR r117 q125) (.cons (wR r118 q125) (.cons (wR r98 q125) (.cons (qA hr2 gS121 hlt121 rfl (by rw [hm121];exact(dL q125))) .nil)))) (.cons (qD (k:=p44) (dE q125) eS121 (dE q125) hlt121 rfl) (.cons (qI (args:=[.agg [.int .i32 v41_0,.int .i32 v41_1,.int .i32 v41_2,.flt .f32 v41_3,.flt .f32 v41_4,.flt .f32 v41_5,.flt .f32 v41_6,.int .i64 v41_7,.int .i64 v41_8],.agg [.int .i32 v121_0,.int .i32 v121_1,.int .i32 v121_2,.flt .f32 v121_3,.flt .f32 v121_4,.flt .f32 v121_5,.flt .f32 v121_6,.int .i64 v121_7,.int .i64 v121_8]]) (dL q125) (dE q125) (fun H9 hk=>qGe _ _ (.cons kA (.cons kA (.cons kA (.cons (kF ho41_3) (.cons (kF ho41_4) (.cons (kF ho41_5) (.cons (kF ho41_6) (.cons kA (.cons kA .nil))))))))) (.cons kA (.cons kA (.cons kA (.cons (kF ho121_3) (.cons (kF ho121_4) (.cons (kF ho121_5) (.cons (kF ho121_6) (.cons kA (.cons kA .nil))))))))) H9)) .nil)) (sc B3 (.cons b108 (.cons e97 .nil))) ?_
    refine cJ kr ?_ ?_ ?_
    ·intro vs ls H126 E126 st hE
     have f127:w107=true:=bf st 0
     rw [hw107,f95] at f127
     exact absurd f127 (by decide)
    ·intro vs ls H141 E141 st hE
     have f142:(pH [.int .i32 v41_0,.int .i32 v41_1,.int .i32 v41_2,.flt .f32 v41_3,.flt .f32 v41_4,.flt .f32 v41_5,.flt .f32 v41_6,.int .i64 v41_7,.int .i64 v41_8] [.int .i32 v121_0,.int .i32 v121_1,.int .i32 v121_2,.flt .f32 v121_3,.flt .f32 v121_4,.flt .f32 v121_5,.flt .f32 v121_6,.int .i64 v121_7,.int .i64 v121_8])=false:=bf st 0
     have f143:w107=false:=bf st 1
     obtain⟨p144,e145,r146,n147⟩:=qBG st.inn hE 52 4 1 1 3 kr (ds:=[.int .i32 v41_0,.int .i32 v41_1,.int .i32 v41_2]) kr
     have op144:H.next<=p144:=Nat.le_trans g116.next (oM n147)
     have ne148:=apn r117 (oM n147)
     have ne149:=apn r118 (oM n147)
     have ne150:=apn r98 (oM n147)
     have ne151:=apn gS121 (oM n147)
     have ne152:ApartL (acc26_0) p144:=s120.apart_new (oM n147)
     have b153:=eo st hE 49 acc26_0
     have B4:=es st hE [(49,acc26_0),(26,.int .i64 (i26:Int)),(25,.int .i64 (ms.length:Int)),(24,S),(3,.ptr p6 0),(2,.ptr p14 0),(7,acc26_0)]
     have g160:Grew H94 H141:=(gk st)
     have g161:=Grew.trans g116 g160
     have r162:=g160.at r117
     have r163:=g160.at r118
     have s166:=s120.grew g160
     refine vU (d:=(some 53)) (sz:=3) (bytes:=12) (x:=.tmp 49) (y:=.tmp 52) kr (S:=acc26_0) (ms:=(bJ ms ms2 i26)) (ys:=[[.int .i32 v41_0,.int .i32 v41_1,.int .i32 v41_2]]) (by show E141 49=_;exact b153) s166 (kT hr om).len (by show jX _ _ (E141 52)=_;rw [e145];exact pI r146 rfl) (bW (ks:=KC) (qL.one (ks:=KC) (.cons kA (.cons kA (.cons kA .nil)))) rfl) (by show (2 * ((bJ ms ms2 i26).length+1)+192) * 12<=281474976710656;omega) ?_
     intro S167 H168 sS167 fS167 oS167
     have ne169:=aL fS167 r162 am
     have ne170:=aL fS167 r163 am
     have ne171:=aL fS167 r146 am
     have fr172:FreshS H.next (S167):=fS167.fresh f26_0 g161.next
     have g173:Grew H H168:=OnlyS.own g161 f26_0 oS167
     have r174:=oS167.at r162 am
     have r175:=oS167.at r163 am
     have r176:=oS167.at r146 am
     have q177:=q125.app (kL:KdsL [.one] [S167])
     refine rG mB 3 0 [] [wf p6 [nF 2,n1 3],wf p14 [nF 0,n1 1],wf p144 [n2 8,n2 9,n2 10]] [(49,n1 7),(26,nI 6),(25,nI 5),(24,n1 1),(3,.ptr 0 0),(2,.ptr 1 0),(7,n1 7),(52,.sl 2 0 1 1 3),(53,n1 30)] q177 wA .nil (sc (sp B4) (.cons (zL rfl e145) (.cons qJ .nil))) ?_
     refine qM kr fun vs ls H178 E178 st hE=>?_
     obtain⟨w179,hw179⟩:∃ z,z=(IntKind.wrap .i64 ((i26:Int)+1)):=⟨_,rfl⟩
     have b180:E178 26=.int .i64 w179:=by rw [hw179];exact eo st hE 26 _
     have b181:=eo st hE 25 (.int .i64 (ms.length:Int))
     have b182:=eo st hE 24 S
     have b183:=eo st hE 3 (.ptr p6 0)
     have b184:=eo st hE 2 (.ptr p14 0)
     have b185:=eo st hE 7 S167
     have g186:Grew H168 H178:=(gk st)
     have g187:=Grew.trans g173 g186
     have r188:=g186.at r174
     have r189:=g186.at r175
     have s191:=sS167.grew g186
     have hz9:z26 - 1 < z26:=by omega
     have hy9:z26 - 1+(i26+1)=ms.length:=by omega
     have hi9:E178 26=.int .i64 ((i26+1:Nat):Int):=by rw [b180,hw179,wrap64 om]
     have ce9:cel ms i26=plc v41_0 v41_1 v41_2:=by unfold cel;rw [he41];rfl
     have un9:unA ms2 (ms.getD i26 [])=true:=by
      rw [qEu hr om ce9,hfd44,hp44,f95]
      rw [he41,he121,f142]
      rfl
     have hq9:(bJ ms ms2 (i26+1))=((bJ ms ms2 i26) ++ [[.int .i32 v41_0,.int .i32 v41_1,.int .i32 v41_2]]):=by
      show (bJ ms ms2 i26) ++ (if unA ms2 (ms.getD i26 [])=true then [cel ms i26] else [])=_
      rw [if_pos un9,ce9];rfl
     exact qP kr ⟨z26 - 1,hz9,i26+1,S167,hy9,b181,b182,b183,b184,hi9,b185,g187,r188,r189,(by rw [hq9];exact s191),fr172,am,am⟩
    ·intro vs ls H192 E192 st hE
     have f193:(pH [.int .i32 v41_0,.int .i32 v41_1,.int .i32 v41_2,.flt .f32 v41_3,.flt .f32 v41_4,.flt .f32 v41_5,.flt .f32 v41_6,.int .i64 v41_7,.int .i64 v41_8] [.int .i32 v121_0,.int .i32 v121_1,.int .i32 v121_2,.flt .f32 v121_3,.flt .f32 v121_4,.flt .f32 v121_5,.flt .f32 v121_6,.int .i64 v121_7,.int .i64 v121_8])=true:=bf st 0
     have f194:w107=false:=bf st 1
     obtain⟨w195,hw195⟩:∃ z,z=(IntKind.wrap .i64 ((i26:Int)+1)):=⟨_,rfl⟩
     have b196:E192 26=.int .i64 w195:=by rw [hw195];exact eo st hE 26 _
     have b197:=eo st hE 25 (.int .i64 (ms.length:Int))
     have b198:=eo st hE 24 S
     have b199:=eo st hE 3 (.ptr p6 0)
     have b200:=eo st hE 2 (.ptr p14 0)
     have b201:=eo st hE 7 acc26_0
     have g202:Grew H94 H192:=(gk st)
     have g203:=Grew.trans g116 g202
     have r204:=g202.at r117
     have r205:=g202.at r118
     have s208:=s120.grew g202
     have hz9:z26 - 1 < z26:=by omega
     have hy9:z26 - 1+(i26+1)=ms.length:=by omega
     have hi9:E192 26=.int .i64 ((i26+1:Nat):Int):=by rw [b196,hw195,wrap64 om]
     have ce9:cel ms i26=plc v41_0 v41_1 v41_2:=by unfold cel;rw [he41];rfl
     have un9:unA ms2 (ms.getD i26 [])=false:=by
      rw [qEu hr om ce9,hfd44,hp44,f95]
      rw [he41,he121,f193]
      rfl
     have hq9:(bJ ms ms2 (i26+1))=(bJ ms ms2 i26):=by
      show (bJ ms ms2 i26) ++ (if unA ms2 (ms.getD i26 [])=true then [cel ms i26] else [])=_
      rw [if_neg (by rw [un9];decide),List.append_nil]
     exact qP kr ⟨z26 - 1,hz9,i26+1,acc26_0,hy9,b197,b198,b199,b200,hi9,b201,g203,r204,r205,(by rw [hq9];exact s208),f26_0,am,am⟩
  ·intro vs ls H209 E209 st hE
   have f210:¬ ((i26:Int) < (ms.length:Int)):=df st 0
   obtain⟨w213,hw213⟩:∃ z,z=(decide ((i26:Int) < (ms.length:Int))):=⟨_,rfl⟩
   have b214:E209 27=.bool w213:=by rw [hw213];exact eo st hE 27 _
   have B5:=es st hE [(26,.int .i64 (i26:Int)),(25,.int .i64 (ms.length:Int)),(24,S),(3,.ptr p6 0),(7,acc26_0),(2,.ptr p14 0)]
   have g219:Grew Hi26 H209:=(gk st)
   have g220:=Grew.trans gt26 g219
   have r221:=g219.at r26_0
   have r222:=g219.at r26_2
   have s223:=s26_0.grew g219
   refine qQ (id:=0) kr ?_
   have q224:=q27.app (kL:KdsL [.bool,KI] [.bool w213,.int .i64 (ms2.length:Int)])
   refine rG mB 2 0 [(.len (n1 3),nI 9)] [wf p6 [nF 2,n1 3],wf p14 [nF 0,n1 1]] [(26,nI 6),(25,nI 5),(24,n1 1),(3,.ptr 0 0),(7,n1 7),(2,.ptr 1 0),(27,nB 8)] q224 wA (.cons (⟨_,_,(dE q224),(dE q224),gB hS2⟩) .nil) (sc B5 (.cons b214 .nil)) ?_
   refine qM kr fun vs ls H225 E225 st hE=>?_
   have b226:=eo st hE 58 (.int .i64 0)
   have b227:=eo st hE 57 (.int .i64 (ms2.length:Int))
   have b228:=eo st hE 56 S2
   have b229:=eo st hE 2 (.ptr p14 0)
   have b230:=eo st hE 7 acc26_0
   have g231:Grew H209 H225:=(gk st)
   have g232:=Grew.trans g220 g231
   have r234:=g231.at r222
   have s235:=s223.grew g231
   refine zE kr (fun z E H'=>∃ (i:Nat) (acc236_0:AV),z+i=ms2.length/\E 57=.int .i64 (ms2.length:Int)/\E 56=S2/\E 2=.ptr p14 0/\E 58=.int .i64 (i:Int)/\E 7=acc236_0/\Grew H H'/\H'.get p14=some (.row [.flt .f32 x,S] true)/\SlF H' 3 (qAH ms ms2 (bJ ms ms2 ms.length) i) acc236_0/\FreshS H.next acc236_0/\ApartL acc236_0 p14) (ms2.length) ⟨0,acc26_0,by omega,b227,b228,b229,b226,b230,g232,r234,(by rw [show qAH ms ms2 (bJ ms ms2 ms.length) 0=bJ ms ms2 i26 from by rw [show i26=ms.length by omega];rfl];exact s235),f26_0,am⟩ ?_
   rintro z236 Ei236 Hi236 ⟨i236,acc236_0,hz236,c236_57,c236_56,c236_2,ci236,ca236_0,gt236,r236_0,s236_0,f236_0,ap236_0_0⟩
   have hln8i236:=qAU ms ms2 ms.length
   have hln9i236:=qDc ms ms2 (bJ ms ms2 ms.length) i236
   have q237:=q224.app (kL:KdsL [KI,.one] [.int .i64 (i236:Int),acc236_0])
   refine rG mB 1 0 [] [wf p14 [nF 0,n1 1]] [(57,nI 9),(56,n1 3),(2,.ptr 0 0),(58,nI 10),(7,n1 11)] q237 wA .nil (.cons c236_57 (.cons c236_56 (.cons c236_2 (.cons ci236 (.cons ca236_0 .nil))))) ?_
   refine vI kr ?_ ?_
   ·intro vs ls H238 E238 st hE
    have f239:(i236:Int) < (ms2.length:Int):=dt st 0
    have B6:=es st hE [(56,S2),(58,.int .i64 (i236:Int)),(2,.ptr p14 0),(7,acc236_0),(57,.int .i64 (ms2.length:Int))]
    have g245:Grew Hi236 H238:=(gk st)
    have g246:=Grew.trans gt236 g245
    have r247:=g245.at r236_0
    have s248:=s236_0.grew g245
    have hlt249:i236 < ms2.length:=by omega
    obtain⟨lS249,cap249,rest249,wr249,eS249,gB249⟩:=hS2.isSl hlt249
    have gS249:=g246.at gB249
    have ne250:=apn gB249 op14
    obtain⟨v249_0,v249_1,v249_2,v249_3,v249_4,v249_5,v249_6,v249_7,v249_8,hm249,ho249_3,ho249_4,ho249_5,ho249_6⟩:=zR (hr2.get hlt249)
    have he249:ms2.getD i236 []=[.int .i32 v249_0,.int .i32 v249_1,.int .i32 v249_2,.flt .f32 v249_3,.flt .f32 v249_4,.flt .f32 v249_5,.flt .f32 v249_6,.int .i64 v249_7,.int .i64 v249_8]:=by rw [<- hm249,List.getD_eq_getElem?_getD,List.getElem?_eq_getElem hlt249];rfl
    obtain⟨p251,hp251⟩:∃ p,lin ms v249_0 v249_1 v249_2=p:=⟨_,rfl⟩
    obtain⟨fd251,hfd251⟩:∃ p,fnd ms v249_0 v249_1 v249_2=p:=⟨_,rfl⟩
    have hpl251:fd251=true->p251 < ms.length:=fun h=>by rw [<- hp251];exact qHc (hfd251.trans h)
    have q252:=q237.app (kL:KdsL [K2,K2,K2,KF,KF,KF,KF,KI,KI,KI,.bool] [.int .i32 v249_0,.int .i32 v249_1,.int .i32 v249_2,.flt .f32 v249_3,.flt .f32 v249_4,.flt .f32 v249_5,.flt .f32 v249_6,.int .i64 v249_7,.int .i64 v249_8,.int .i64 (p251:Int),.bool fd251])
    refine rG mB 2 0 [(.ia 9 (n1 3) (nI 10),.ptr 1 0),(.call 19 [.agg [nF 0,n1 1],.agg [n2 12,n2 13,n2 14]],.tup [nI 21,nB 22])] [wf p14 [nF 0,n1 1],⟨lS249,(i236 * 9),[n2 12,n2 13,n2 14,nF 15,nF 16,nF 17,nF 18,nI 19,nI 20],false⟩] [(56,n1 3),(58,nI 10),(2,.ptr 0 0),(7,n1 11),(57,nI 9)] q252 (.cons (wR r247 q252) (.cons (qA hr2 gS249 hlt249 rfl (by rw [hm249];exact(dL q252))) .nil)) (.cons (qD (k:=i236) (dE q252) eS249 (dE q252) hlt249 rfl) (.cons (qI (args:=[.agg [.flt .f32 x,S],.agg [.int .i32 v249_0,.int .i32 v249_1,.int .i32 v249_2]]) (dL q252) (dE q252) (fun H9 hk=>qHi H9 x hx ms hr hs S (hS.grew (Grew.trans g246 (hk.grew (Nat.le_refl _)))) v249_0 v249_1 v249_2 p251 fd251 hp251 hfd251 (qHE mxms))) .nil)) B6 ?_
    refine vI kr ?_ ?_
    ·intro vs ls H253 E253 st hE
     have f254:fd251=false:=bf st 0
     obtain⟨p255,e256,r257,n258⟩:=qBG st.inn hE 74 3 1 1 3 kr (ds:=[.int .i32 v249_0,.int .i32 v249_1,.int .i32 v249_2]) kr
     have op255:H.next<=p255:=Nat.le_trans g246.next (oM n258)
     have ne259:=apn r247 (oM n258)
     have ne260:=apn gS249 (oM n258)
     have ne261:ApartL (acc236_0) p255:=s248.apart_new (oM n258)
     have b262:=eo st hE 71 acc236_0
     have B7:=es st hE [(71,acc236_0),(58,.int .i64 (i236:Int)),(57,.int .i64 (ms2.length:Int)),(56,S2),(2,.ptr p14 0),(7,acc236_0)]
     have g268:Grew H238 H253:=(gk st)
     have g269:=Grew.trans g246 g268
     have r270:=g268.at r247
     have s272:=s248.grew g268
     refine vU (d:=(some 75)) (sz:=3) (bytes:=12) (x:=.tmp 71) (y:=.tmp 74) kr (S:=acc236_0) (ms:=(qAH ms ms2 (bJ ms ms2 ms.length) i236)) (ys:=[[.int .i32 v249_0,.int .i32 v249_1,.int .i32 v249_2]]) (by show E253 71=_;exact b262) s272 (qEj (kT hr (Nat.le_refl _)) hr2 om).len (by show jX _ _ (E253 74)=_;rw [e256];exact pI r257 rfl) (bW (ks:=KC) (qL.one (ks:=KC) (.cons kA (.cons kA (.cons kA .nil)))) rfl) (by show (2 * ((qAH ms ms2 (bJ ms ms2 ms.length) i236).length+1)+192) * 12<=281474976710656;omega) ?_
     intro S273 H274 sS273 fS273 oS273
     have ne275:=aL fS273 r270 am
     have ne276:=aL fS273 r257 am
     have fr277:FreshS H.next (S273):=fS273.fresh f236_0 g269.next
     have g278:Grew H H274:=OnlyS.own g269 f236_0 oS273
     have r279:=oS273.at r270 am
     have r280:=oS273.at r257 am
     have q281:=q252.app (kL:KdsL [.one] [S273])
     refine rG mB 2 0 [] [wf p14 [nF 0,n1 1],wf p255 [n2 12,n2 13,n2 14]] [(71,n1 11),(58,nI 10),(57,nI 9),(56,n1 3),(2,.ptr 0 0),(7,n1 11),(74,.sl 1 0 1 1 3),(75,n1 23)] q281 wA .nil (sc (sp B7) (.cons (zL rfl e256) (.cons qJ .nil))) ?_
     refine qM kr fun vs ls H282 E282 st hE=>?_
     obtain⟨w283,hw283⟩:∃ z,z=(IntKind.wrap .i64 ((i236:Int)+1)):=⟨_,rfl⟩
     have b284:E282 58=.int .i64 w283:=by rw [hw283];exact eo st hE 58 _
     have b285:=eo st hE 57 (.int .i64 (ms2.length:Int))
     have b286:=eo st hE 56 S2
     have b287:=eo st hE 2 (.ptr p14 0)
     have b288:=eo st hE 7 S273
     have g289:Grew H274 H282:=(gk st)
     have g290:=Grew.trans g278 g289
     have r291:=g289.at r279
     have s293:=sS273.grew g289
     have hz9:z236 - 1 < z236:=by omega
     have hy9:z236 - 1+(i236+1)=ms2.length:=by omega
     have hi9:E282 58=.int .i64 ((i236+1:Nat):Int):=by rw [b284,hw283,wrap64 om]
     have ce9:cel ms2 i236=plc v249_0 v249_1 v249_2:=by unfold cel;rw [he249];rfl
     have un9:unB ms (ms2.getD i236 [])=true:=by rw [qEv hr2 om ce9,hfd251,f254];rfl
     have hq9:(qAH ms ms2 (bJ ms ms2 ms.length) (i236+1))=((qAH ms ms2 (bJ ms ms2 ms.length) i236) ++ [[.int .i32 v249_0,.int .i32 v249_1,.int .i32 v249_2]]):=by
      show (qAH ms ms2 (bJ ms ms2 ms.length) i236) ++ (if unB ms (ms2.getD i236 [])=true then [cel ms2 i236] else [])=_
      rw [if_pos un9,ce9];rfl
     exact qP kr ⟨z236 - 1,hz9,i236+1,S273,hy9,b285,b286,b287,hi9,b288,g290,r291,(by rw [hq9];exact s293),fr277,am⟩
    ·intro vs ls H294 E294 st hE
     have f295:fd251=true:=bf st 0
     have hpt251:=hpl251 f295
     obtain⟨w296,hw296⟩:∃ z,z=(IntKind.wrap .i64 ((i236:Int)+1)):=⟨_,rfl⟩
     have b297:E294 58=.int .i64 w296:=by rw [hw296];exact eo st hE 58 _
     have b298:=eo st hE 57 (.int .i64 (ms2.length:Int))
     have b299:=eo st hE 56 S2
     have b300:=eo st hE 2 (.ptr p14 0)
     have b301:=eo st hE 7 acc236_0
     have g302:Grew H238 H294:=(gk st)
     have g303:=Grew.trans g246 g302
     have r304:=g302.at r247
     have s306:=s248.grew g302
     have hz9:z236 - 1 < z236:=by omega
     have hy9:z236 - 1+(i236+1)=ms2.length:=by omega
     have hi9:E294 58=.int .i64 ((i236+1:Nat):Int):=by rw [b297,hw296,wrap64 om]
     have ce9:cel ms2 i236=plc v249_0 v249_1 v249_2:=by unfold cel;rw [he249];rfl
     have un9:unB ms (ms2.getD i236 [])=false:=by rw [qEv hr2 om ce9,hfd251,f295];rfl
     have hq9:(qAH ms ms2 (bJ ms ms2 ms.length) (i236+1))=(qAH ms ms2 (bJ ms ms2 ms.length) i236):=by
      show (qAH ms ms2 (bJ ms ms2 ms.length) i236) ++ (if unB ms (ms2.getD i236 [])=true then [cel ms2 i236] else [])=_
      rw [if_neg (by rw [un9];decide),List.append_nil]
     exact qP kr ⟨z236 - 1,hz9,i236+1,acc236_0,hy9,b298,b299,b300,hi9,b301,g303,r304,(by rw [hq9];exact s306),f236_0,am⟩
   ·intro vs ls H307 E307 st hE
    have f308:¬ ((i236:Int) < (ms2.length:Int)):=df st 0
    obtain⟨w311,hw311⟩:∃ z,z=(decide ((i236:Int) < (ms2.length:Int))):=⟨_,rfl⟩
    have b312:E307 59=.bool w311:=by rw [hw311];exact eo st hE 59 _
    have B8:=es st hE [(58,.int .i64 (i236:Int)),(57,.int .i64 (ms2.length:Int)),(56,S2),(2,.ptr p14 0),(7,acc236_0)]
    have g316:Grew Hi236 H307:=(gk st)
    have g317:=Grew.trans gt236 g316
    have r318:=g316.at r236_0
    have s319:=s236_0.grew g316
    refine qQ (id:=2) kr ?_
    have q320:=q237.app (kL:KdsL [.bool] [.bool w311])
    refine rG mB 1 0 [] [wf p14 [nF 0,n1 1]] [(58,nI 10),(57,nI 9),(56,n1 3),(2,.ptr 0 0),(7,n1 11),(59,nB 12)] q320 wA .nil (sc B8 (.cons b312 .nil)) ?_
    refine qM kr fun vs ls H321 E321 st hE=>?_
    have b322:=eo st hE 77 acc236_0
    have B9:=es st hE [(77,acc236_0),(7,acc236_0)]
    have g324:Grew H307 H321:=(gk st)
    have g325:=Grew.trans g317 g324
    have s327:=s319.grew g324
    have sU328:=s327
    rw [show i236=ms2.length by omega] at sU328
    have hU1328:=qAU ms ms2 ms.length
    have hU2328:=qDc ms ms2 (bJ ms ms2 ms.length) ms2.length
    refine qR (d:=(some 78)) (f:=21) (args:=[.tmp 77,.const (.func 22 [] [])]) kr (R:=fun z H'=>z=.tuple []/\OnlyS (acc236_0) H321 H'/\SlF H' 3 (unl ms ms2) (acc236_0)) ?_ ?_
    ·show qK _ _ [E321 77,.func 22 [] []] _ _
     rw [b322]
     exact((qDT H321 (rkU ltC (qAH ms ms2 (bJ ms ms2 ms.length) ms2.length)) (qAH ms ms2 (bJ ms ms2 ms.length) ms2.length) (qEj (kT hr (Nat.le_refl _)) hr2 (Nat.le_refl _)) (qLu (qBC hr hr2)) (acc236_0) sU328 om (qLw (qBC hr hr2) (qDd hr hr2 hs hs2 (Nat.le_refl _)))).mono (by rintro r H' ⟨e,oo,M,s,rc,h1,h2⟩;exact⟨e,oo,by rw [qJu hr hr2 hs hs2 h1 h2];exact s⟩))
    rintro z H328 ⟨rfl,oo328,s9328⟩
    have g329:Grew H H328:=OnlyS.own g325 f236_0 oo328
    refine rG mB 0 0 [] [] [(77,n1 11),(7,n1 11),(78,.tup [])] q320 .nil .nil (sc (sp B9) (.cons qJ .nil)) ?_
    refine qM kr fun vs ls H331 E331 st hE=>?_
    have gz:Grew H H331:=(Grew.trans g329 (gk st))
    have hc:vQ x ms x2 ms2=((unl ms ms2),0):=by unfold vQ;rw [if_pos f5]
    exact re st hE (.tuple [acc236_0,.int .i64 0]) gz.next (by rw [hc];exact⟨gz,_,rfl,(s9328.grew (st.inn.kept.grew (Nat.le_refl _))),f236_0⟩)
def tbV:List (Nat × AFun):=tb.filter fun p=>!(p.1 == 14 || p.1 == 15 || p.1 == 16)
theorem wC:qAA Try.prog tbV:=fun f a h=>jR f a (List.mem_filter.1 h).1
def pmV (fl:Nat) (ru:List (RK × SV)) (un:Nat):Pm:=⟨fl,ru,tbV,ap,un⟩
theorem qCW (H:AHeap) (x:ON) (hx:fOk .f32 x) (ms:LL) (hr:qL KM ms) (S:AV) (hS:SlL H 9 ms S) (mxms:ms.length<=1048576) (x2:ON) (hx2:fOk .f32 x2) (ms2:LL) (hr2:qL KM ms2) (S2:AV) (hS2:SlL H 9 ms2 S2) (mxms2:ms2.length<=1048576):qK Try.prog 5 [.agg [.flt .f32 x,S],.agg [.flt .f32 x2,S2]] H fun r H'=>Grew H H' /\ ∃ S',r=.tuple [S',.int .i64 (vQ x ms x2 ms2).2]/\SlF H' 3 (vQ x ms x2 ms2).1 S'/\FreshS H.next S':=by
 refine qN bT (by simp) ?_
 have q1:KdsL [KF,.one,KF,.one] [.flt .f32 x,S,.flt .f32 x2,S2]:=kL
 refine rG wC 0 0 [] [] [(0,.agg [nF 0,n1 1]),(1,.agg [nF 2,n1 3])] q1 .nil .nil (.cons (t:=0) rfl (.cons (t:=1) rfl .nil)) ?_
 refine qM kr fun vs ls H2 E2 st hE=>?_
 obtain⟨p3,e4,r5,n6⟩:=pO st hE 2 0 [.flt .f32 x,S]
 have op3:H.next<=p3:=Nat.le_trans (Nat.le_refl _) (oM n6)
 obtain⟨p7,e8,r9,n10⟩:=pO st hE 3 1 [.flt .f32 x2,S2]
 have op7:H.next<=p7:=Nat.le_trans (Nat.le_refl _) (oM n10)
 have ne11:=pn st hE 2 0 3 1 [.nd 0 (.flt .f32),.nd 1 .one] e4 e8
 have g12:Grew H H2:=(gk st)
 have g13:Grew H H2:=Grew.trans (Grew.refl _) g12
 refine qR (d:=(some 11)) (f:=14) (args:=[.tmp 2,.tmp 3]) kr (R:=fun z H'=>z=.int .i64 (qAL x ms x2 ms2)/\H'=H2) ?_ ?_
 ·show qK _ _ [E2 2,E2 3] _ _
  rw [e4,e8]
  exact qGf H2 x hx ms hr S (hS.grew g13) mxms x2 hx2 ms2 hr2 S2 (hS2.grew g13) mxms2 p3 p7 r5 r9
 rintro z H2 ⟨rfl,rfl⟩
 have q14:=q1.app (kL:KdsL [KI] [.int .i64 (qAL x ms x2 ms2)])
 refine rG wC 2 0 [] [wf p3 [nF 0,n1 1],wf p7 [nF 2,n1 3]] [(2,.ptr 0 0),(3,.ptr 1 0),(11,nI 4)] q14 wA .nil (.cons (zL rfl e4) (.cons (zL rfl e8) (.cons qJ .nil))) ?_
 refine vI kr ?_ ?_
 ·intro vs ls H15 E15 st hE
  have f16:¬ ((qAL x ms x2 ms2)=0):=df st 0
  have gz:Grew H H15:=(Grew.trans g13 (gk st))
  have hc:vQ x ms x2 ms2=([],(qAL x ms x2 ms2)):=by unfold vQ;rw [if_neg f16]
  obtain⟨pz,ez,rz,nz⟩:=qBG st.inn hE 4 2 0 0 3 kr (ds:=[]) kr
  have oz:H.next<=pz:=Nat.le_trans g13.next (nz (Nat.le_of_ble_eq_true rfl))
  have e7:E15 5=.int .i64 (qAL x ms x2 ms2):=qW st.inn hE 5 kr
  exact zF kr (qIH (.inr rfl) ez e7 gz.next (by rw [hc];exact⟨gz,_,rfl,.sl (by simpa using rz) rfl (Nat.le_refl _),.of_le oz⟩))
 ·intro vs ls H17 E17 st hE
  have f18:(qAL x ms x2 ms2)=0:=dt st 0
  have ht:=qIp f18
  have hs:=wU ht.1
  have hs2:=wU ht.2.1
  have hl200:=gA ht.1
  have hl2002:=gA ht.2.1
  obtain⟨p19,e20,r21,n22⟩:=qBG st.inn hE 7 2 0 0 3 kr (ds:=[]) kr
  have op19:H.next<=p19:=Nat.le_trans g13.next (oM n22)
  have ne23:=apn r5 (oM n22)
  have ne24:=apn r9 (oM n22)
  have b25:=eo st hE 8 (.int .i64 0)
  have b26:=eo st hE 2 (.ptr p3 0)
  have b27:=eo st hE 9 (.int .i64 0)
  have b28:=eo st hE 3 (.ptr p7 0)
  have g29:Grew H2 H17:=(gk st)
  have g30:=Grew.trans g13 g29
  have r31:=g29.at r5
  have r32:=g29.at r9
  refine zE kr (fun z E H'=>∃ (i33:Nat) (k33:Nat) (L33:LL) (sa33:AV),z=(ms.length - i33)+(ms2.length - k33)/\E 2=.ptr p3 0/\E 3=.ptr p7 0/\E 8=.int .i64 (i33:Int)/\E 9=.int .i64 (k33:Int)/\Grew H H'/\E 7=sa33/\SlF H' 3 L33 sa33/\qL KC L33/\FreshS H.next sa33/\ApartL sa33 p3/\ApartL sa33 p7/\H'.get p3=some (.row [.flt .f32 x,S] true)/\H'.get p7=some (.row [.flt .f32 x2,S2] true)/\MI ms ms2 i33 k33 L33) ((ms.length - 0)+(ms2.length - 0)) ⟨0,0,[],.slice p19 0 0 0 3,rfl,b26,b28,(b25.trans rfl),(b27.trans rfl),g30,e20,(.sl (by simpa using r21) rfl (Nat.le_refl _)),(fun _ h=>by simp at h),(FreshS.of_le op19),(ApartL.of aS),(ApartL.of aS),r31,r32,MI.start⟩ ?_
  rintro z33 E33 Hx33 ⟨i33,k33,L33,sa33,hz33,c33_2,c33_3,cv33_8,cv33_9,gt33,ca33,s33,hra33,f33,apl33_0,apl33_1,rw33_0,rw33_1,iv33⟩
  have hiii33:=iv33.ii
  have hkki33:=iv33.kk
  have hlni33:=iv33.len
  have q34:=q14.app (kL:KdsL [KI,KI,.one,KI,KI] [.int .i64 (i33:Int),.int .i64 (k33:Int),sa33,.int .i64 (ms.length:Int),.int .i64 (ms2.length:Int)])
  refine rG wC 2 0 [(.len (n1 1),nI 8),(.len (n1 3),nI 9)] [wf p3 [nF 0,n1 1],wf p7 [nF 2,n1 3]] [(2,.ptr 0 0),(3,.ptr 1 0),(8,nI 5),(9,nI 6),(7,n1 7)] q34 wA (.cons (⟨_,_,(dE q34),(dE q34),gB hS⟩) (.cons (⟨_,_,(dE q34),(dE q34),gB hS2⟩) .nil)) (.cons c33_2 (.cons c33_3 (.cons cv33_8 (.cons cv33_9 (.cons ca33 .nil))))) ?_
  refine qMn kr ?_ ?_ ?_ ?_ ?_ ?_
  ·intro vs ls H35 E35 st hE
   have f36:(i33:Int)=(ms.length:Int):=dt st 0
   have f37:(i33:Int) < (ms.length:Int):=dt st 1
   exact(show False by omega).elim
  ·intro vs ls H49 E49 st hE
   have f50:(k33:Int) < (ms2.length:Int):=dt st 0
   have f51:¬ ((i33:Int)=(ms.length:Int)):=df st 1
   have f52:(i33:Int) < (ms.length:Int):=dt st 2
   have B1:=es st hE [(40,S),(41,.int .i64 (i33:Int)),(3,.ptr p7 0),(9,.int .i64 (k33:Int)),(10,.int .i64 (-1)),(7,sa33),(2,.ptr p3 0),(8,.int .i64 (i33:Int))]
   have g61:Grew Hx33 H49:=(gk st)
   have g62:=Grew.trans gt33 g61
   have r63:=g61.at rw33_0
   have r64:=g61.at rw33_1
   have s65:=s33.grew g61
   have hlt66:i33 < ms.length:=by omega
   obtain⟨lS66,cap66,rest66,wr66,eS66,gB66⟩:=hS.isSl hlt66
   have gS66:=g62.at gB66
   have ne67:=apn gB66 op3
   have ne68:=apn gB66 op7
   obtain⟨v66_0,v66_1,v66_2,v66_3,v66_4,v66_5,v66_6,v66_7,v66_8,hm66,ho66_3,ho66_4,ho66_5,ho66_6⟩:=zR (hr.get hlt66)
   have he66:ms.getD i33 []=[.int .i32 v66_0,.int .i32 v66_1,.int .i32 v66_2,.flt .f32 v66_3,.flt .f32 v66_4,.flt .f32 v66_5,.flt .f32 v66_6,.int .i64 v66_7,.int .i64 v66_8]:=by rw [<- hm66,List.getD_eq_getElem?_getD,List.getElem?_eq_getElem hlt66];rfl
   have q69:=q34.app (kL:KdsL [K2,K2,K2,KF,KF,KF,KF,KI,KI] [.int .i32 v66_0,.int .i32 v66_1,.int .i32 v66_2,.flt .f32 v66_3,.flt .f32 v66_4,.flt .f32 v66_5,.flt .f32 v66_6,.int .i64 v66_7,.int .i64 v66_8])
   refine rG wC 3 0 [(.ia 9 (n1 1) (nI 5),.ptr 2 0)] [wf p3 [nF 0,n1 1],wf p7 [nF 2,n1 3],⟨lS66,(i33 * 9),[n2 10,n2 11,n2 12,nF 13,nF 14,nF 15,nF 16,nI 17,nI 18],false⟩] [(40,n1 1),(41,nI 5),(3,.ptr 1 0),(9,nI 6),(10,.lit (.int .i64 (-1))),(7,n1 7),(2,.ptr 0 0),(8,nI 5)] q69 (.cons (wR r63 q69) (.cons (wR r64 q69) (.cons (qA hr gS66 hlt66 rfl (by rw [hm66];exact(dL q69))) .nil))) (.cons (qD (k:=i33) (dE q69) eS66 (dE q69) hlt66 rfl) .nil) B1 ?_
   refine qM kr fun vs ls H70 E70 st hE=>?_
   have B2:=es st hE [(46,S2),(47,.int .i64 (k33:Int)),(44,.agg [.int .i32 v66_0,.int .i32 v66_1,.int .i32 v66_2]),(10,.int .i64 (-1)),(7,sa33),(2,.ptr p3 0),(8,.int .i64 (i33:Int)),(3,.ptr p7 0),(9,.int .i64 (k33:Int))]
   have g80:Grew H49 H70:=(gk st)
   have g81:=Grew.trans g62 g80
   have r82:=g80.at r63
   have r83:=g80.at r64
   have s85:=s65.grew g80
   have hlt86:k33 < ms2.length:=by omega
   obtain⟨lS86,cap86,rest86,wr86,eS86,gB86⟩:=hS2.isSl hlt86
   have gS86:=g81.at gB86
   have ne87:=apn gB86 op3
   have ne88:=apn gB86 op7
   obtain⟨v86_0,v86_1,v86_2,v86_3,v86_4,v86_5,v86_6,v86_7,v86_8,hm86,ho86_3,ho86_4,ho86_5,ho86_6⟩:=zR (hr2.get hlt86)
   have he86:ms2.getD k33 []=[.int .i32 v86_0,.int .i32 v86_1,.int .i32 v86_2,.flt .f32 v86_3,.flt .f32 v86_4,.flt .f32 v86_5,.flt .f32 v86_6,.int .i64 v86_7,.int .i64 v86_8]:=by rw [<- hm86,List.getD_eq_getElem?_getD,List.getElem?_eq_getElem hlt86];rfl
   have q89:=q69.app (kL:KdsL [K2,K2,K2,KF,KF,KF,KF,KI,KI,KI] [.int .i32 v86_0,.int .i32 v86_1,.int .i32 v86_2,.flt .f32 v86_3,.flt .f32 v86_4,.flt .f32 v86_5,.flt .f32 v86_6,.int .i64 v86_7,.int .i64 v86_8,.int .i64 (zD v66_0 v66_1 v66_2 v86_0 v86_1 v86_2)])
   refine rG wC 3 0 [(.ia 9 (n1 3) (nI 6),.ptr 2 0),(.call 15 [.agg [n2 10,n2 11,n2 12],.agg [n2 19,n2 20,n2 21]],nI 28)] [wf p3 [nF 0,n1 1],wf p7 [nF 2,n1 3],⟨lS86,(k33 * 9),[n2 19,n2 20,n2 21,nF 22,nF 23,nF 24,nF 25,nI 26,nI 27],false⟩] [(46,n1 3),(47,nI 6),(44,.agg [n2 10,n2 11,n2 12]),(10,.lit (.int .i64 (-1))),(7,n1 7),(2,.ptr 0 0),(8,nI 5),(3,.ptr 1 0),(9,nI 6)] q89 (.cons (wR r82 q89) (.cons (wR r83 q89) (.cons (qA hr2 gS86 hlt86 rfl (by rw [hm86];exact(dL q89))) .nil))) (.cons (qD (k:=k33) (dE q89) eS86 (dE q89) hlt86 rfl) (.cons (qI (args:=[.agg [.int .i32 v66_0,.int .i32 v66_1,.int .i32 v66_2],.agg [.int .i32 v86_0,.int .i32 v86_1,.int .i32 v86_2]]) (dL q89) (dE q89) (fun H9 hk=>qAs H9 v66_0 v66_1 v66_2 v86_0 v86_1 v86_2)) .nil)) B2 ?_
   refine cJ kr ?_ ?_ ?_
   ·intro vs ls H90 E90 st hE
    have f91:(zD v66_0 v66_1 v66_2 v86_0 v86_1 v86_2) < 0:=dt st 0
    have B3:=es st hE [(80,S),(81,.int .i64 (i33:Int)),(78,sa33),(8,.int .i64 (i33:Int)),(2,.ptr p3 0),(3,.ptr p7 0),(9,.int .i64 (k33:Int)),(7,sa33)]
    have g100:Grew H70 H90:=(gk st)
    have g101:=Grew.trans g81 g100
    have r102:=g100.at r82
    have r103:=g100.at r83
    have s105:=s85.grew g100
    have hlt106:i33 < ms.length:=by omega
    obtain⟨lS106,cap106,rest106,wr106,eS106,gB106⟩:=hS.isSl hlt106
    have gS106:=g101.at gB106
    have ne107:=apn gB106 op3
    have ne108:=apn gB106 op7
    obtain⟨v106_0,v106_1,v106_2,v106_3,v106_4,v106_5,v106_6,v106_7,v106_8,hm106,ho106_3,ho106_4,ho106_5,ho106_6⟩:=zR (hr.get hlt106)
    have he106:ms.getD i33 []=[.int .i32 v106_0,.int .i32 v106_1,.int .i32 v106_2,.flt .f32 v106_3,.flt .f32 v106_4,.flt .f32 v106_5,.flt .f32 v106_6,.int .i64 v106_7,.int .i64 v106_8]:=by rw [<- hm106,List.getD_eq_getElem?_getD,List.getElem?_eq_getElem hlt106];rfl
    have hq106:=he66.symm.trans he106
    simp only [List.cons.injEq,AV.flt.injEq,AV.int.injEq,Int.natCast_inj,true_and,and_true] at hq106
    obtain⟨rfl,rfl,rfl,rfl,rfl,rfl,rfl,rfl,rfl⟩:=hq106
    have q109:=q89.app (kL:KdsL [K2,K2,K2,KF,KF,KF,KF,KI,KI] [.int .i32 v66_0,.int .i32 v66_1,.int .i32 v66_2,.flt .f32 v66_3,.flt .f32 v66_4,.flt .f32 v66_5,.flt .f32 v66_6,.int .i64 v66_7,.int .i64 v66_8])
    refine rG wC 3 0 [(.ia 9 (n1 1) (nI 5),.ptr 2 0)] [wf p3 [nF 0,n1 1],wf p7 [nF 2,n1 3],⟨lS106,(i33 * 9),[n2 29,n2 30,n2 31,nF 32,nF 33,nF 34,nF 35,nI 36,nI 37],false⟩] [(80,n1 1),(81,nI 5),(78,n1 7),(8,nI 5),(2,.ptr 0 0),(3,.ptr 1 0),(9,nI 6),(7,n1 7)] q109 (.cons (wR r102 q109) (.cons (wR r103 q109) (.cons (qA hr gS106 hlt106 rfl (by rw [hm106];exact(dL q109))) .nil))) (.cons (qD (k:=i33) (dE q109) eS106 (dE q109) hlt106 rfl) .nil) B3 ?_
    refine qM kr fun vs ls H110 E110 st hE=>?_
    obtain⟨p111,e112,r113,n114⟩:=qBG st.inn hE 85 3 1 1 3 kr (ds:=[.int .i32 v66_0,.int .i32 v66_1,.int .i32 v66_2]) kr
    have op111:H.next<=p111:=Nat.le_trans g101.next (oM n114)
    have ne115:=apn r102 (oM n114)
    have ne116:=apn r103 (oM n114)
    have ne117:=apn gS106 (oM n114)
    have ne118:ApartL (sa33) p111:=s105.apart_new (oM n114)
    have b119:=eo st hE 78 sa33
    have B4:=es st hE [(78,sa33),(8,.int .i64 (i33:Int)),(2,.ptr p3 0),(3,.ptr p7 0),(9,.int .i64 (k33:Int)),(7,sa33)]
    have g125:Grew H90 H110:=(gk st)
    have g126:=Grew.trans g101 g125
    have r127:=g125.at r102
    have r128:=g125.at r103
    have s130:=s105.grew g125
    refine vU (d:=(some 86)) (sz:=3) (bytes:=12) (x:=.tmp 78) (y:=.tmp 85) kr (S:=sa33) (ms:=L33) (ys:=[[.int .i32 v66_0,.int .i32 v66_1,.int .i32 v66_2]]) (by show E110 78=_;exact b119) s130 hra33.len (by show jX _ _ (E110 85)=_;rw [e112];exact pI r113 rfl) (bW (ks:=KC) (qL.one (ks:=KC) (.cons kA (.cons kA (.cons kA .nil)))) rfl) (by show (2 * (L33.length+1)+192) * 12<=281474976710656;omega) ?_
    intro S131 H132 sS131 fS131 oS131
    have ne133:=aL fS131 r127 am
    have ne134:=aL fS131 r128 am
    have ne135:=aL fS131 r113 am
    have fr136:FreshS H.next (S131):=fS131.fresh f33 g126.next
    have g137:Grew H H132:=OnlyS.own g126 f33 oS131
    have r138:=oS131.at r127 am
    have r139:=oS131.at r128 am
    have r140:=oS131.at r113 am
    have q141:=q109.app (kL:KdsL [.one] [S131])
    refine rG wC 3 0 [] [wf p3 [nF 0,n1 1],wf p7 [nF 2,n1 3],wf p111 [n2 29,n2 30,n2 31]] [(78,n1 7),(8,nI 5),(2,.ptr 0 0),(3,.ptr 1 0),(9,nI 6),(7,n1 7),(85,.sl 2 0 1 1 3),(86,n1 38)] q141 wA .nil (sc (sp B4) (.cons (zL rfl e112) (.cons qJ .nil))) ?_
    refine qM kr fun vs ls H142 E142 st hE=>?_
    obtain⟨w143,hw143⟩:∃ z,z=(IntKind.wrap .i64 ((i33:Int)+1)):=⟨_,rfl⟩
    have b144:E142 8=.int .i64 w143:=by rw [hw143];exact eo st hE 8 _
    have b145:=eo st hE 9 (.int .i64 (k33:Int))
    have b146:=eo st hE 2 (.ptr p3 0)
    have b147:=eo st hE 3 (.ptr p7 0)
    have b148:=eo st hE 7 S131
    have g149:Grew H132 H142:=(gk st)
    have g150:=Grew.trans g137 g149
    have r151:=g149.at r138
    have r152:=g149.at r139
    have s154:=sS131.grew g149
    have nw143:w143=((i33:Int)+1):=hw143.trans (wI _ om om)
    obtain⟨k155,hk155⟩:∃ k:Nat,w143=(k:Int):=⟨Int.toNat w143,by omega⟩
    have ce156:cel ms i33=plc v66_0 v66_1 v66_2:=by unfold cel;rw [he106];rfl
    have ce157:cel ms2 k33=plc v86_0 v86_1 v86_2:=by unfold cel;rw [he86];rfl
    have hL9:(L33 ++ [[.int .i32 v66_0,.int .i32 v66_1,.int .i32 v66_2]])=L33 ++ [cel ms i33]:=by rw [ce156];rfl
    have hm9:(ms.length - k155)+(ms2.length - k33) < z33:=by omega
    exact qP kr ⟨(ms.length - k155)+(ms2.length - k33),hm9,k155,k33,(L33 ++ [[.int .i32 v66_0,.int .i32 v66_1,.int .i32 v66_2]]),S131,rfl,b146,b147,(b144.trans (by rw [hk155])),b145,g150,b148,s154,(qL.append hra33 (qL.one (ks:=KC) (.cons kA (.cons kA (.cons kA .nil))))),fr136,am,am,r151,r152,(by rw [hL9,show k155=i33+1 by omega];exact MI.less hr hr2 hs hs2 iv33 om (fun _=>by rw [ce156,ce157];exact f91))⟩
   ·intro vs ls H158 E158 st hE
    have f159:0 < (zD v66_0 v66_1 v66_2 v86_0 v86_1 v86_2):=dt st 0
    have f160:¬ ((zD v66_0 v66_1 v66_2 v86_0 v86_1 v86_2) < 0):=df st 1
    obtain⟨p161,e162,r163,n164⟩:=qBG st.inn hE 99 3 1 1 3 kr (ds:=[.int .i32 v86_0,.int .i32 v86_1,.int .i32 v86_2]) kr
    have op161:H.next<=p161:=Nat.le_trans g81.next (oM n164)
    have ne165:=apn r82 (oM n164)
    have ne166:=apn r83 (oM n164)
    have ne167:=apn gS86 (oM n164)
    have ne168:ApartL (sa33) p161:=s85.apart_new (oM n164)
    have b169:=eo st hE 92 sa33
    have B5:=es st hE [(92,sa33),(9,.int .i64 (k33:Int)),(8,.int .i64 (i33:Int)),(2,.ptr p3 0),(3,.ptr p7 0),(7,sa33)]
    have g176:Grew H70 H158:=(gk st)
    have g177:=Grew.trans g81 g176
    have r178:=g176.at r82
    have r179:=g176.at r83
    have s181:=s85.grew g176
    refine vU (d:=(some 100)) (sz:=3) (bytes:=12) (x:=.tmp 92) (y:=.tmp 99) kr (S:=sa33) (ms:=L33) (ys:=[[.int .i32 v86_0,.int .i32 v86_1,.int .i32 v86_2]]) (by show E158 92=_;exact b169) s181 hra33.len (by show jX _ _ (E158 99)=_;rw [e162];exact pI r163 rfl) (bW (ks:=KC) (qL.one (ks:=KC) (.cons kA (.cons kA (.cons kA .nil)))) rfl) (by show (2 * (L33.length+1)+192) * 12<=281474976710656;omega) ?_
    intro S182 H183 sS182 fS182 oS182
    have ne184:=aL fS182 r178 am
    have ne185:=aL fS182 r179 am
    have ne186:=aL fS182 r163 am
    have fr187:FreshS H.next (S182):=fS182.fresh f33 g177.next
    have g188:Grew H H183:=OnlyS.own g177 f33 oS182
    have r189:=oS182.at r178 am
    have r190:=oS182.at r179 am
    have r191:=oS182.at r163 am
    have q192:=q89.app (kL:KdsL [.one] [S182])
    refine rG wC 3 0 [] [wf p3 [nF 0,n1 1],wf p7 [nF 2,n1 3],wf p161 [n2 19,n2 20,n2 21]] [(92,n1 7),(9,nI 6),(8,nI 5),(2,.ptr 0 0),(3,.ptr 1 0),(7,n1 7),(99,.sl 2 0 1 1 3),(100,n1 29)] q192 wA .nil (sc (sp B5) (.cons (zL rfl e162) (.cons qJ .nil))) ?_
    refine qM kr fun vs ls H193 E193 st hE=>?_
    have b194:=eo st hE 8 (.int .i64 (i33:Int))
    obtain⟨w195,hw195⟩:∃ z,z=(IntKind.wrap .i64 ((k33:Int)+1)):=⟨_,rfl⟩
    have b196:E193 9=.int .i64 w195:=by rw [hw195];exact eo st hE 9 _
    have b197:=eo st hE 2 (.ptr p3 0)
    have b198:=eo st hE 3 (.ptr p7 0)
    have b199:=eo st hE 7 S182
    have g200:Grew H183 H193:=(gk st)
    have g201:=Grew.trans g188 g200
    have r202:=g200.at r189
    have r203:=g200.at r190
    have s205:=sS182.grew g200
    have nw195:w195=((k33:Int)+1):=hw195.trans (wI _ om om)
    obtain⟨k206,hk206⟩:∃ k:Nat,w195=(k:Int):=⟨Int.toNat w195,by omega⟩
    have ce207:cel ms i33=plc v66_0 v66_1 v66_2:=by unfold cel;rw [he66];rfl
    have ce208:cel ms2 k33=plc v86_0 v86_1 v86_2:=by unfold cel;rw [he86];rfl
    have ng9:=qFi v66_0 v66_1 v66_2 v86_0 v86_1 v86_2
    have ng8:zD v86_0 v86_1 v86_2 v66_0 v66_1 v66_2 < 0:=by omega
    have hL9:(L33 ++ [[.int .i32 v86_0,.int .i32 v86_1,.int .i32 v86_2]])=L33 ++ [cel ms2 k33]:=by rw [ce208];rfl
    have hm9:(ms.length - i33)+(ms2.length - k206) < z33:=by omega
    exact qP kr ⟨(ms.length - i33)+(ms2.length - k206),hm9,i33,k206,(L33 ++ [[.int .i32 v86_0,.int .i32 v86_1,.int .i32 v86_2]]),S182,rfl,b197,b198,b194,(b196.trans (by rw [hk206])),g201,b199,s205,(qL.append hra33 (qL.one (ks:=KC) (.cons kA (.cons kA (.cons kA .nil))))),fr187,am,am,r202,r203,(by rw [hL9,show k206=k33+1 by omega];exact MI.more hr hr2 hs hs2 iv33 om (fun _=>by rw [ce207,ce208];exact ng8))⟩
   ·intro vs ls H209 E209 st hE
    have f210:¬ (0 < (zD v66_0 v66_1 v66_2 v86_0 v86_1 v86_2)):=df st 0
    have f211:¬ ((zD v66_0 v66_1 v66_2 v86_0 v86_1 v86_2) < 0):=df st 1
    have B6:=es st hE [(53,S),(54,.int .i64 (i33:Int)),(3,.ptr p7 0),(9,.int .i64 (k33:Int)),(7,sa33),(2,.ptr p3 0),(8,.int .i64 (i33:Int))]
    have g219:Grew H70 H209:=(gk st)
    have g220:=Grew.trans g81 g219
    have r221:=g219.at r82
    have r222:=g219.at r83
    have s224:=s85.grew g219
    have hlt225:i33 < ms.length:=by omega
    obtain⟨lS225,cap225,rest225,wr225,eS225,gB225⟩:=hS.isSl hlt225
    have gS225:=g220.at gB225
    have ne226:=apn gB225 op3
    have ne227:=apn gB225 op7
    obtain⟨v225_0,v225_1,v225_2,v225_3,v225_4,v225_5,v225_6,v225_7,v225_8,hm225,ho225_3,ho225_4,ho225_5,ho225_6⟩:=zR (hr.get hlt225)
    have he225:ms.getD i33 []=[.int .i32 v225_0,.int .i32 v225_1,.int .i32 v225_2,.flt .f32 v225_3,.flt .f32 v225_4,.flt .f32 v225_5,.flt .f32 v225_6,.int .i64 v225_7,.int .i64 v225_8]:=by rw [<- hm225,List.getD_eq_getElem?_getD,List.getElem?_eq_getElem hlt225];rfl
    have hq225:=he66.symm.trans he225
    simp only [List.cons.injEq,AV.flt.injEq,AV.int.injEq,Int.natCast_inj,true_and,and_true] at hq225
    obtain⟨rfl,rfl,rfl,rfl,rfl,rfl,rfl,rfl,rfl⟩:=hq225
    have q228:=q89.app (kL:KdsL [K2,K2,K2,KF,KF,KF,KF,KI,KI] [.int .i32 v66_0,.int .i32 v66_1,.int .i32 v66_2,.flt .f32 v66_3,.flt .f32 v66_4,.flt .f32 v66_5,.flt .f32 v66_6,.int .i64 v66_7,.int .i64 v66_8])
    refine rG wC 3 0 [(.ia 9 (n1 1) (nI 5),.ptr 2 0)] [wf p3 [nF 0,n1 1],wf p7 [nF 2,n1 3],⟨lS225,(i33 * 9),[n2 29,n2 30,n2 31,nF 32,nF 33,nF 34,nF 35,nI 36,nI 37],false⟩] [(53,n1 1),(54,nI 5),(3,.ptr 1 0),(9,nI 6),(7,n1 7),(2,.ptr 0 0),(8,nI 5)] q228 (.cons (wR r221 q228) (.cons (wR r222 q228) (.cons (qA hr gS225 hlt225 rfl (by rw [hm225];exact(dL q228))) .nil))) (.cons (qD (k:=i33) (dE q228) eS225 (dE q228) hlt225 rfl) .nil) B6 ?_
    refine qM kr fun vs ls H229 E229 st hE=>?_
    have B7:=es st hE [(57,S2),(58,.int .i64 (k33:Int)),(55,.ptr lS225 ((i33 * 9)+0)),(7,sa33),(2,.ptr p3 0),(8,.int .i64 (i33:Int)),(9,.int .i64 (k33:Int)),(3,.ptr p7 0)]
    have g238:Grew H209 H229:=(gk st)
    have g239:=Grew.trans g220 g238
    have r240:=g238.at r221
    have r241:=g238.at r222
    have r242:=g238.at gS225
    have s243:=s224.grew g238
    have hlt244:k33 < ms2.length:=by omega
    obtain⟨lS244,cap244,rest244,wr244,eS244,gB244⟩:=hS2.isSl hlt244
    have gS244:=g239.at gB244
    have ne245:=apn gB244 op3
    have ne246:=apn gB244 op7
    obtain⟨v244_0,v244_1,v244_2,v244_3,v244_4,v244_5,v244_6,v244_7,v244_8,hm244,ho244_3,ho244_4,ho244_5,ho244_6⟩:=zR (hr2.get hlt244)
    have he244:ms2.getD k33 []=[.int .i32 v244_0,.int .i32 v244_1,.int .i32 v244_2,.flt .f32 v244_3,.flt .f32 v244_4,.flt .f32 v244_5,.flt .f32 v244_6,.int .i64 v244_7,.int .i64 v244_8]:=by rw [<- hm244,List.getD_eq_getElem?_getD,List.getElem?_eq_getElem hlt244];rfl
    have hq244:=he86.symm.trans he244
    simp only [List.cons.injEq,AV.flt.injEq,AV.int.injEq,Int.natCast_inj,true_and,and_true] at hq244
    obtain⟨rfl,rfl,rfl,rfl,rfl,rfl,rfl,rfl,rfl⟩:=hq244
    have q247:=q228.app (kL:KdsL [K2,K2,K2,KF,KF,KF,KF,KI,KI,.bool] [.int .i32 v86_0,.int .i32 v86_1,.int .i32 v86_2,.flt .f32 v86_3,.flt .f32 v86_4,.flt .f32 v86_5,.flt .f32 v86_6,.int .i64 v86_7,.int .i64 v86_8,.bool (pH [.int .i32 v66_0,.int .i32 v66_1,.int .i32 v66_2,.flt .f32 v66_3,.flt .f32 v66_4,.flt .f32 v66_5,.flt .f32 v66_6,.int .i64 v66_7,.int .i64 v66_8] [.int .i32 v86_0,.int .i32 v86_1,.int .i32 v86_2,.flt .f32 v86_3,.flt .f32 v86_4,.flt .f32 v86_5,.flt .f32 v86_6,.int .i64 v86_7,.int .i64 v86_8])])
    refine rG wC 4 0 [(.ia 9 (n1 3) (nI 6),.ptr 3 0),(.call 16 [.ptr 2 0,.ptr 3 0],nB 47)] [wf p3 [nF 0,n1 1],wf p7 [nF 2,n1 3],⟨lS225,(i33 * 9),[n2 29,n2 30,n2 31,nF 32,nF 33,nF 34,nF 35,nI 36,nI 37],false⟩,⟨lS244,(k33 * 9),[n2 38,n2 39,n2 40,nF 41,nF 42,nF 43,nF 44,nI 45,nI 46],false⟩] [(57,n1 3),(58,nI 6),(55,.ptr 2 0),(7,n1 7),(2,.ptr 0 0),(8,nI 5),(9,nI 6),(3,.ptr 1 0)] q247 (.cons (wR r240 q247) (.cons (wR r241 q247) (.cons (qA hr r242 hlt225 rfl (by rw [hm225];exact(dL q247))) (.cons (qA hr2 gS244 hlt244 rfl (by rw [hm244];exact(dL q247))) .nil)))) (.cons (qD (k:=k33) (dE q247) eS244 (dE q247) hlt244 rfl) (.cons (qI (args:=[.ptr lS225 ((i33 * 9)+0),.ptr lS244 ((k33 * 9)+0)]) (r:=.bool (pH [.int .i32 v66_0,.int .i32 v66_1,.int .i32 v66_2,.flt .f32 v66_3,.flt .f32 v66_4,.flt .f32 v66_5,.flt .f32 v66_6,.int .i64 v66_7,.int .i64 v66_8] [.int .i32 v86_0,.int .i32 v86_1,.int .i32 v86_2,.flt .f32 v86_3,.flt .f32 v86_4,.flt .f32 v86_5,.flt .f32 v86_6,.int .i64 v86_7,.int .i64 v86_8])) (dL q247) (dE q247) (fun H9 hk=>(by obtain⟨pre,post,g1,g2⟩:=yP hr.len hlt225 rest225;obtain⟨pre',post',g1',g2'⟩:=yP hr2.len hlt244 rest244;exact qCV [.int .i32 v66_0,.int .i32 v66_1,.int .i32 v66_2,.flt .f32 v66_3,.flt .f32 v66_4,.flt .f32 v66_5,.flt .f32 v66_6,.int .i64 v66_7,.int .i64 v66_8] [.int .i32 v86_0,.int .i32 v86_1,.int .i32 v86_2,.flt .f32 v86_3,.flt .f32 v86_4,.flt .f32 v86_5,.flt .f32 v86_6,.int .i64 v86_7,.int .i64 v86_8] (.cons kA (.cons kA (.cons kA (.cons (kF ho225_3) (.cons (kF ho225_4) (.cons (kF ho225_5) (.cons (kF ho225_6) (.cons kA (.cons kA .nil))))))))) (.cons kA (.cons kA (.cons kA (.cons (kF ho244_3) (.cons (kF ho244_4) (.cons (kF ho244_5) (.cons (kF ho244_6) (.cons kA (.cons kA .nil))))))))) (by rw [((hk.grew (Nat.le_refl _)).at r242),g1,hm225]) g2 (by rw [((hk.grew (Nat.le_refl _)).at gS244),g1',hm244]) g2'))) .nil)) B7 ?_
    refine vI kr ?_ ?_
    ·intro vs ls H248 E248 st hE
     have f249:(pH [.int .i32 v66_0,.int .i32 v66_1,.int .i32 v66_2,.flt .f32 v66_3,.flt .f32 v66_4,.flt .f32 v66_5,.flt .f32 v66_6,.int .i64 v66_7,.int .i64 v66_8] [.int .i32 v86_0,.int .i32 v86_1,.int .i32 v86_2,.flt .f32 v86_3,.flt .f32 v86_4,.flt .f32 v86_5,.flt .f32 v86_6,.int .i64 v86_7,.int .i64 v86_8])=false:=bf st 0
     have B8:=es st hE [(64,S),(65,.int .i64 (i33:Int)),(62,sa33),(8,.int .i64 (i33:Int)),(9,.int .i64 (k33:Int)),(2,.ptr p3 0),(3,.ptr p7 0),(7,sa33)]
     have g258:Grew H229 H248:=(gk st)
     have g259:=Grew.trans g239 g258
     have r260:=g258.at r240
     have r261:=g258.at r241
     have s264:=s243.grew g258
     have hlt265:i33 < ms.length:=by omega
     obtain⟨lS265,cap265,rest265,wr265,eS265,gB265⟩:=hS.isSl hlt265
     have gS265:=g259.at gB265
     have ne266:=apn gB265 op3
     have ne267:=apn gB265 op7
     obtain⟨v265_0,v265_1,v265_2,v265_3,v265_4,v265_5,v265_6,v265_7,v265_8,hm265,ho265_3,ho265_4,ho265_5,ho265_6⟩:=zR (hr.get hlt265)
     have he265:ms.getD i33 []=[.int .i32 v265_0,.int .i32 v265_1,.int .i32 v265_2,.flt .f32 v265_3,.flt .f32 v265_4,.flt .f32 v265_5,.flt .f32 v265_6,.int .i64 v265_7,.int .i64 v265_8]:=by rw [<- hm265,List.getD_eq_getElem?_getD,List.getElem?_eq_getElem hlt265];rfl
     have hq265:=he225.symm.trans he265
     simp only [List.cons.injEq,AV.flt.injEq,AV.int.injEq,Int.natCast_inj,true_and,and_true] at hq265
     obtain⟨rfl,rfl,rfl,rfl,rfl,rfl,rfl,rfl,rfl⟩:=hq265
     have q268:=q247.app (kL:KdsL [K2,K2,K2,KF,KF,KF,KF,KI,KI] [.int .i32 v66_0,.int .i32 v66_1,.int .i32 v66_2,.flt .f32 v66_3,.flt .f32 v66_4,.flt .f32 v66_5,.flt .f32 v66_6,.int .i64 v66_7,.int .i64 v66_8])
     refine rG wC 3 0 [(.ia 9 (n1 1) (nI 5),.ptr 2 0)] [wf p3 [nF 0,n1 1],wf p7 [nF 2,n1 3],⟨lS265,(i33 * 9),[n2 48,n2 49,n2 50,nF 51,nF 52,nF 53,nF 54,nI 55,nI 56],false⟩] [(64,n1 1),(65,nI 5),(62,n1 7),(8,nI 5),(9,nI 6),(2,.ptr 0 0),(3,.ptr 1 0),(7,n1 7)] q268 (.cons (wR r260 q268) (.cons (wR r261 q268) (.cons (qA hr gS265 hlt265 rfl (by rw [hm265];exact(dL q268))) .nil))) (.cons (qD (k:=i33) (dE q268) eS265 (dE q268) hlt265 rfl) .nil) B8 ?_
     refine qM kr fun vs ls H269 E269 st hE=>?_
     obtain⟨p270,e271,r272,n273⟩:=qBG st.inn hE 69 3 1 1 3 kr (ds:=[.int .i32 v66_0,.int .i32 v66_1,.int .i32 v66_2]) kr
     have op270:H.next<=p270:=Nat.le_trans g259.next (oM n273)
     have ne274:=apn r260 (oM n273)
     have ne275:=apn r261 (oM n273)
     have ne276:=apn gS265 (oM n273)
     have ne277:ApartL (sa33) p270:=s264.apart_new (oM n273)
     have b278:=eo st hE 62 sa33
     have B9:=es st hE [(62,sa33),(8,.int .i64 (i33:Int)),(9,.int .i64 (k33:Int)),(2,.ptr p3 0),(3,.ptr p7 0),(7,sa33)]
     have g284:Grew H248 H269:=(gk st)
     have g285:=Grew.trans g259 g284
     have r286:=g284.at r260
     have r287:=g284.at r261
     have s289:=s264.grew g284
     refine vU (d:=(some 70)) (sz:=3) (bytes:=12) (x:=.tmp 62) (y:=.tmp 69) kr (S:=sa33) (ms:=L33) (ys:=[[.int .i32 v66_0,.int .i32 v66_1,.int .i32 v66_2]]) (by show E269 62=_;exact b278) s289 hra33.len (by show jX _ _ (E269 69)=_;rw [e271];exact pI r272 rfl) (bW (ks:=KC) (qL.one (ks:=KC) (.cons kA (.cons kA (.cons kA .nil)))) rfl) (by show (2 * (L33.length+1)+192) * 12<=281474976710656;omega) ?_
     intro S290 H291 sS290 fS290 oS290
     have ne292:=aL fS290 r286 am
     have ne293:=aL fS290 r287 am
     have ne294:=aL fS290 r272 am
     have fr295:FreshS H.next (S290):=fS290.fresh f33 g285.next
     have g296:Grew H H291:=OnlyS.own g285 f33 oS290
     have r297:=oS290.at r286 am
     have r298:=oS290.at r287 am
     have r299:=oS290.at r272 am
     have q300:=q268.app (kL:KdsL [.one] [S290])
     refine rG wC 3 0 [] [wf p3 [nF 0,n1 1],wf p7 [nF 2,n1 3],wf p270 [n2 48,n2 49,n2 50]] [(62,n1 7),(8,nI 5),(9,nI 6),(2,.ptr 0 0),(3,.ptr 1 0),(7,n1 7),(69,.sl 2 0 1 1 3),(70,n1 57)] q300 wA .nil (sc (sp B9) (.cons (zL rfl e271) (.cons qJ .nil))) ?_
     refine qM kr fun vs ls H301 E301 st hE=>?_
     obtain⟨w302,hw302⟩:∃ z,z=(IntKind.wrap .i64 ((i33:Int)+1)):=⟨_,rfl⟩
     have b303:E301 8=.int .i64 w302:=by rw [hw302];exact eo st hE 8 _
     obtain⟨w304,hw304⟩:∃ z,z=(IntKind.wrap .i64 ((k33:Int)+1)):=⟨_,rfl⟩
     have b305:E301 9=.int .i64 w304:=by rw [hw304];exact eo st hE 9 _
     have b306:=eo st hE 2 (.ptr p3 0)
     have b307:=eo st hE 3 (.ptr p7 0)
     have b308:=eo st hE 7 S290
     have g309:Grew H291 H301:=(gk st)
     have g310:=Grew.trans g296 g309
     have r311:=g309.at r297
     have r312:=g309.at r298
     have s314:=sS290.grew g309
     have nw302:w302=((i33:Int)+1):=hw302.trans (wI _ om om)
     have nw304:w304=((k33:Int)+1):=hw304.trans (wI _ om om)
     obtain⟨k315,hk315⟩:∃ k:Nat,w302=(k:Int):=⟨Int.toNat w302,by omega⟩
     obtain⟨k316,hk316⟩:∃ k:Nat,w304=(k:Int):=⟨Int.toNat w304,by omega⟩
     have ce317:cel ms i33=plc v66_0 v66_1 v66_2:=by unfold cel;rw [he265];rfl
     have ce318:cel ms2 k33=plc v86_0 v86_1 v86_2:=by unfold cel;rw [he244];rfl
     have z9:zD v66_0 v66_1 v66_2 v86_0 v86_1 v86_2=0:=by omega
     have ec9:cel ms i33=cel ms2 k33:=by obtain⟨e1,e2,e3⟩:=dR.1 z9;rw [ce317,ce318,e1,e2,e3]
     have hm9:(ms.length - k315)+(ms2.length - k316) < z33:=by omega
     exact qP kr ⟨(ms.length - k315)+(ms2.length - k316),hm9,k315,k316,(L33 ++ [[.int .i32 v66_0,.int .i32 v66_1,.int .i32 v66_2]]),S290,rfl,b306,b307,(b303.trans (by rw [hk315])),(b305.trans (by rw [hk316])),g310,b308,s314,(qL.append hra33 (qL.one (ks:=KC) (.cons kA (.cons kA (.cons kA .nil))))),fr295,am,am,r311,r312,(by rw [show k315=i33+1 by omega,show k316=k33+1 by omega];exact MI.same hr hr2 hs hs2 iv33 om om ec9 (.inr ⟨by rw [he265,he244];exact f249,by rw [ce317];rfl⟩))⟩
    ·intro vs ls H319 E319 st hE
     have f320:(pH [.int .i32 v66_0,.int .i32 v66_1,.int .i32 v66_2,.flt .f32 v66_3,.flt .f32 v66_4,.flt .f32 v66_5,.flt .f32 v66_6,.int .i64 v66_7,.int .i64 v66_8] [.int .i32 v86_0,.int .i32 v86_1,.int .i32 v86_2,.flt .f32 v86_3,.flt .f32 v86_4,.flt .f32 v86_5,.flt .f32 v86_6,.int .i64 v86_7,.int .i64 v86_8])=true:=bf st 0
     obtain⟨w321,hw321⟩:∃ z,z=(IntKind.wrap .i64 ((i33:Int)+1)):=⟨_,rfl⟩
     have b322:E319 8=.int .i64 w321:=by rw [hw321];exact eo st hE 8 _
     obtain⟨w323,hw323⟩:∃ z,z=(IntKind.wrap .i64 ((k33:Int)+1)):=⟨_,rfl⟩
     have b324:E319 9=.int .i64 w323:=by rw [hw323];exact eo st hE 9 _
     have b325:=eo st hE 2 (.ptr p3 0)
     have b326:=eo st hE 3 (.ptr p7 0)
     have b327:=eo st hE 7 sa33
     have g328:Grew H229 H319:=(gk st)
     have g329:=Grew.trans g239 g328
     have r330:=g328.at r240
     have r331:=g328.at r241
     have s334:=s243.grew g328
     have nw321:w321=((i33:Int)+1):=hw321.trans (wI _ om om)
     have nw323:w323=((k33:Int)+1):=hw323.trans (wI _ om om)
     obtain⟨k335,hk335⟩:∃ k:Nat,w321=(k:Int):=⟨Int.toNat w321,by omega⟩
     obtain⟨k336,hk336⟩:∃ k:Nat,w323=(k:Int):=⟨Int.toNat w323,by omega⟩
     have ce337:cel ms i33=plc v66_0 v66_1 v66_2:=by unfold cel;rw [he225];rfl
     have ce338:cel ms2 k33=plc v86_0 v86_1 v86_2:=by unfold cel;rw [he244];rfl
     have z9:zD v66_0 v66_1 v66_2 v86_0 v86_1 v86_2=0:=by omega
     have ec9:cel ms i33=cel ms2 k33:=by obtain⟨e1,e2,e3⟩:=dR.1 z9;rw [ce337,ce338,e1,e2,e3]
     have hm9:(ms.length - k335)+(ms2.length - k336) < z33:=by omega
     exact qP kr ⟨(ms.length - k335)+(ms2.length - k336),hm9,k335,k336,L33,sa33,rfl,b325,b326,(b322.trans (by rw [hk335])),(b324.trans (by rw [hk336])),g329,b327,s334,hra33,f33,am,am,r330,r331,(by rw [show k335=i33+1 by omega,show k336=k33+1 by omega];exact MI.same hr hr2 hs hs2 iv33 om om ec9 (.inl ⟨by rw [he225,he244];exact f320,rfl⟩))⟩
  ·intro vs ls H339 E339 st hE
   have f340:¬ ((k33:Int) < (ms2.length:Int)):=df st 0
   have f341:¬ ((i33:Int)=(ms.length:Int)):=df st 1
   have f342:(i33:Int) < (ms.length:Int):=dt st 2
   have B10:=es st hE [(80,S),(81,.int .i64 (i33:Int)),(78,sa33),(8,.int .i64 (i33:Int)),(2,.ptr p3 0),(3,.ptr p7 0),(9,.int .i64 (k33:Int)),(7,sa33)]
   have g351:Grew Hx33 H339:=(gk st)
   have g352:=Grew.trans gt33 g351
   have r353:=g351.at rw33_0
   have r354:=g351.at rw33_1
   have s355:=s33.grew g351
   have hlt356:i33 < ms.length:=by omega
   obtain⟨lS356,cap356,rest356,wr356,eS356,gB356⟩:=hS.isSl hlt356
   have gS356:=g352.at gB356
   have ne357:=apn gB356 op3
   have ne358:=apn gB356 op7
   obtain⟨v356_0,v356_1,v356_2,v356_3,v356_4,v356_5,v356_6,v356_7,v356_8,hm356,ho356_3,ho356_4,ho356_5,ho356_6⟩:=zR (hr.get hlt356)
   have he356:ms.getD i33 []=[.int .i32 v356_0,.int .i32 v356_1,.int .i32 v356_2,.flt .f32 v356_3,.flt .f32 v356_4,.flt .f32 v356_5,.flt .f32 v356_6,.int .i64 v356_7,.int .i64 v356_8]:=by rw [<- hm356,List.getD_eq_getElem?_getD,List.getElem?_eq_getElem hlt356];rfl
   have q359:=q34.app (kL:KdsL [K2,K2,K2,KF,KF,KF,KF,KI,KI] [.int .i32 v356_0,.int .i32 v356_1,.int .i32 v356_2,.flt .f32 v356_3,.flt .f32 v356_4,.flt .f32 v356_5,.flt .f32 v356_6,.int .i64 v356_7,.int .i64 v356_8])
   refine rG wC 3 0 [(.ia 9 (n1 1) (nI 5),.ptr 2 0)] [wf p3 [nF 0,n1 1],wf p7 [nF 2,n1 3],⟨lS356,(i33 * 9),[n2 10,n2 11,n2 12,nF 13,nF 14,nF 15,nF 16,nI 17,nI 18],false⟩] [(80,n1 1),(81,nI 5),(78,n1 7),(8,nI 5),(2,.ptr 0 0),(3,.ptr 1 0),(9,nI 6),(7,n1 7)] q359 (.cons (wR r353 q359) (.cons (wR r354 q359) (.cons (qA hr gS356 hlt356 rfl (by rw [hm356];exact(dL q359))) .nil))) (.cons (qD (k:=i33) (dE q359) eS356 (dE q359) hlt356 rfl) .nil) B10 ?_
   refine qM kr fun vs ls H360 E360 st hE=>?_
   obtain⟨p361,e362,r363,n364⟩:=qBG st.inn hE 85 3 1 1 3 kr (ds:=[.int .i32 v356_0,.int .i32 v356_1,.int .i32 v356_2]) kr
   have op361:H.next<=p361:=Nat.le_trans g352.next (oM n364)
   have ne365:=apn r353 (oM n364)
   have ne366:=apn r354 (oM n364)
   have ne367:=apn gS356 (oM n364)
   have ne368:ApartL (sa33) p361:=s355.apart_new (oM n364)
   have b369:=eo st hE 78 sa33
   have B11:=es st hE [(78,sa33),(8,.int .i64 (i33:Int)),(2,.ptr p3 0),(3,.ptr p7 0),(9,.int .i64 (k33:Int)),(7,sa33)]
   have g375:Grew H339 H360:=(gk st)
   have g376:=Grew.trans g352 g375
   have r377:=g375.at r353
   have r378:=g375.at r354
   have s380:=s355.grew g375
   refine vU (d:=(some 86)) (sz:=3) (bytes:=12) (x:=.tmp 78) (y:=.tmp 85) kr (S:=sa33) (ms:=L33) (ys:=[[.int .i32 v356_0,.int .i32 v356_1,.int .i32 v356_2]]) (by show E360 78=_;exact b369) s380 hra33.len (by show jX _ _ (E360 85)=_;rw [e362];exact pI r363 rfl) (bW (ks:=KC) (qL.one (ks:=KC) (.cons kA (.cons kA (.cons kA .nil)))) rfl) (by show (2 * (L33.length+1)+192) * 12<=281474976710656;omega) ?_
   intro S381 H382 sS381 fS381 oS381
   have ne383:=aL fS381 r377 am
   have ne384:=aL fS381 r378 am
   have ne385:=aL fS381 r363 am
   have fr386:FreshS H.next (S381):=fS381.fresh f33 g376.next
   have g387:Grew H H382:=OnlyS.own g376 f33 oS381
   have r388:=oS381.at r377 am
   have r389:=oS381.at r378 am
   have r390:=oS381.at r363 am
   have q391:=q359.app (kL:KdsL [.one] [S381])
   refine rG wC 3 0 [] [wf p3 [nF 0,n1 1],wf p7 [nF 2,n1 3],wf p361 [n2 10,n2 11,n2 12]] [(78,n1 7),(8,nI 5),(2,.ptr 0 0),(3,.ptr 1 0),(9,nI 6),(7,n1 7),(85,.sl 2 0 1 1 3),(86,n1 19)] q391 wA .nil (sc (sp B11) (.cons (zL rfl e362) (.cons qJ .nil))) ?_
   refine qM kr fun vs ls H392 E392 st hE=>?_
   obtain⟨w393,hw393⟩:∃ z,z=(IntKind.wrap .i64 ((i33:Int)+1)):=⟨_,rfl⟩
   have b394:E392 8=.int .i64 w393:=by rw [hw393];exact eo st hE 8 _
   have b395:=eo st hE 9 (.int .i64 (k33:Int))
   have b396:=eo st hE 2 (.ptr p3 0)
   have b397:=eo st hE 3 (.ptr p7 0)
   have b398:=eo st hE 7 S381
   have g399:Grew H382 H392:=(gk st)
   have g400:=Grew.trans g387 g399
   have r401:=g399.at r388
   have r402:=g399.at r389
   have s404:=sS381.grew g399
   have nw393:w393=((i33:Int)+1):=hw393.trans (wI _ om om)
   obtain⟨k405,hk405⟩:∃ k:Nat,w393=(k:Int):=⟨Int.toNat w393,by omega⟩
   have ce406:cel ms i33=plc v356_0 v356_1 v356_2:=by unfold cel;rw [he356];rfl
   have hL9:(L33 ++ [[.int .i32 v356_0,.int .i32 v356_1,.int .i32 v356_2]])=L33 ++ [cel ms i33]:=by rw [ce406];rfl
   have hm9:(ms.length - k405)+(ms2.length - k33) < z33:=by omega
   exact qP kr ⟨(ms.length - k405)+(ms2.length - k33),hm9,k405,k33,(L33 ++ [[.int .i32 v356_0,.int .i32 v356_1,.int .i32 v356_2]]),S381,rfl,b396,b397,(b394.trans (by rw [hk405])),b395,g400,b398,s404,(qL.append hra33 (qL.one (ks:=KC) (.cons kA (.cons kA (.cons kA .nil))))),fr386,am,am,r401,r402,(by rw [hL9,show k405=i33+1 by omega];exact MI.less hr hr2 hs hs2 iv33 om (fun h=>absurd h om))⟩
  ·intro vs ls H407 E407 st hE
   have f408:(i33:Int)=(ms.length:Int):=dt st 0
   have f409:(k33:Int) < (ms2.length:Int):=dt st 1
   have f410:¬ ((i33:Int) < (ms.length:Int)):=df st 2
   have B12:=es st hE [(94,S2),(95,.int .i64 (k33:Int)),(92,sa33),(9,.int .i64 (k33:Int)),(8,.int .i64 (i33:Int)),(2,.ptr p3 0),(3,.ptr p7 0),(7,sa33)]
   have g420:Grew Hx33 H407:=(gk st)
   have g421:=Grew.trans gt33 g420
   have r422:=g420.at rw33_0
   have r423:=g420.at rw33_1
   have s424:=s33.grew g420
   have hlt425:k33 < ms2.length:=by omega
   obtain⟨lS425,cap425,rest425,wr425,eS425,gB425⟩:=hS2.isSl hlt425
   have gS425:=g421.at gB425
   have ne426:=apn gB425 op3
   have ne427:=apn gB425 op7
   obtain⟨v425_0,v425_1,v425_2,v425_3,v425_4,v425_5,v425_6,v425_7,v425_8,hm425,ho425_3,ho425_4,ho425_5,ho425_6⟩:=zR (hr2.get hlt425)
   have he425:ms2.getD k33 []=[.int .i32 v425_0,.int .i32 v425_1,.int .i32 v425_2,.flt .f32 v425_3,.flt .f32 v425_4,.flt .f32 v425_5,.flt .f32 v425_6,.int .i64 v425_7,.int .i64 v425_8]:=by rw [<- hm425,List.getD_eq_getElem?_getD,List.getElem?_eq_getElem hlt425];rfl
   have q428:=q34.app (kL:KdsL [K2,K2,K2,KF,KF,KF,KF,KI,KI] [.int .i32 v425_0,.int .i32 v425_1,.int .i32 v425_2,.flt .f32 v425_3,.flt .f32 v425_4,.flt .f32 v425_5,.flt .f32 v425_6,.int .i64 v425_7,.int .i64 v425_8])
   refine rG wC 3 0 [(.ia 9 (n1 3) (nI 6),.ptr 2 0)] [wf p3 [nF 0,n1 1],wf p7 [nF 2,n1 3],⟨lS425,(k33 * 9),[n2 10,n2 11,n2 12,nF 13,nF 14,nF 15,nF 16,nI 17,nI 18],false⟩] [(94,n1 3),(95,nI 6),(92,n1 7),(9,nI 6),(8,nI 5),(2,.ptr 0 0),(3,.ptr 1 0),(7,n1 7)] q428 (.cons (wR r422 q428) (.cons (wR r423 q428) (.cons (qA hr2 gS425 hlt425 rfl (by rw [hm425];exact(dL q428))) .nil))) (.cons (qD (k:=k33) (dE q428) eS425 (dE q428) hlt425 rfl) .nil) B12 ?_
   refine qM kr fun vs ls H429 E429 st hE=>?_
   obtain⟨p430,e431,r432,n433⟩:=qBG st.inn hE 99 3 1 1 3 kr (ds:=[.int .i32 v425_0,.int .i32 v425_1,.int .i32 v425_2]) kr
   have op430:H.next<=p430:=Nat.le_trans g421.next (oM n433)
   have ne434:=apn r422 (oM n433)
   have ne435:=apn r423 (oM n433)
   have ne436:=apn gS425 (oM n433)
   have ne437:ApartL (sa33) p430:=s424.apart_new (oM n433)
   have b438:=eo st hE 92 sa33
   have B13:=es st hE [(92,sa33),(9,.int .i64 (k33:Int)),(8,.int .i64 (i33:Int)),(2,.ptr p3 0),(3,.ptr p7 0),(7,sa33)]
   have g445:Grew H407 H429:=(gk st)
   have g446:=Grew.trans g421 g445
   have r447:=g445.at r422
   have r448:=g445.at r423
   have s450:=s424.grew g445
   refine vU (d:=(some 100)) (sz:=3) (bytes:=12) (x:=.tmp 92) (y:=.tmp 99) kr (S:=sa33) (ms:=L33) (ys:=[[.int .i32 v425_0,.int .i32 v425_1,.int .i32 v425_2]]) (by show E429 92=_;exact b438) s450 hra33.len (by show jX _ _ (E429 99)=_;rw [e431];exact pI r432 rfl) (bW (ks:=KC) (qL.one (ks:=KC) (.cons kA (.cons kA (.cons kA .nil)))) rfl) (by show (2 * (L33.length+1)+192) * 12<=281474976710656;omega) ?_
   intro S451 H452 sS451 fS451 oS451
   have ne453:=aL fS451 r447 am
   have ne454:=aL fS451 r448 am
   have ne455:=aL fS451 r432 am
   have fr456:FreshS H.next (S451):=fS451.fresh f33 g446.next
   have g457:Grew H H452:=OnlyS.own g446 f33 oS451
   have r458:=oS451.at r447 am
   have r459:=oS451.at r448 am
   have r460:=oS451.at r432 am
   have q461:=q428.app (kL:KdsL [.one] [S451])
   refine rG wC 3 0 [] [wf p3 [nF 0,n1 1],wf p7 [nF 2,n1 3],wf p430 [n2 10,n2 11,n2 12]] [(92,n1 7),(9,nI 6),(8,nI 5),(2,.ptr 0 0),(3,.ptr 1 0),(7,n1 7),(99,.sl 2 0 1 1 3),(100,n1 19)] q461 wA .nil (sc (sp B13) (.cons (zL rfl e431) (.cons qJ .nil))) ?_
   refine qM kr fun vs ls H462 E462 st hE=>?_
   have b463:=eo st hE 8 (.int .i64 (i33:Int))
   obtain⟨w464,hw464⟩:∃ z,z=(IntKind.wrap .i64 ((k33:Int)+1)):=⟨_,rfl⟩
   have b465:E462 9=.int .i64 w464:=by rw [hw464];exact eo st hE 9 _
   have b466:=eo st hE 2 (.ptr p3 0)
   have b467:=eo st hE 3 (.ptr p7 0)
   have b468:=eo st hE 7 S451
   have g469:Grew H452 H462:=(gk st)
   have g470:=Grew.trans g457 g469
   have r471:=g469.at r458
   have r472:=g469.at r459
   have s474:=sS451.grew g469
   have nw464:w464=((k33:Int)+1):=hw464.trans (wI _ om om)
   obtain⟨k475,hk475⟩:∃ k:Nat,w464=(k:Int):=⟨Int.toNat w464,by omega⟩
   have ce476:cel ms2 k33=plc v425_0 v425_1 v425_2:=by unfold cel;rw [he425];rfl
   have hL9:(L33 ++ [[.int .i32 v425_0,.int .i32 v425_1,.int .i32 v425_2]])=L33 ++ [cel ms2 k33]:=by rw [ce476];rfl
   have hm9:(ms.length - i33)+(ms2.length - k475) < z33:=by omega
   exact qP kr ⟨(ms.length - i33)+(ms2.length - k475),hm9,i33,k475,(L33 ++ [[.int .i32 v425_0,.int .i32 v425_1,.int .i32 v425_2]]),S451,rfl,b466,b467,b463,(b465.trans (by rw [hk475])),g470,b468,s474,(qL.append hra33 (qL.one (ks:=KC) (.cons kA (.cons kA (.cons kA .nil))))),fr456,am,am,r471,r472,(by rw [hL9,show k475=k33+1 by omega];exact MI.more hr hr2 hs hs2 iv33 om (fun h=>absurd h om))⟩
  ·intro vs ls H477 E477 st hE
   have f478:¬ ((i33:Int)=(ms.length:Int)):=df st 0
   have f479:(k33:Int) < (ms2.length:Int):=dt st 1
   have f480:¬ ((i33:Int) < (ms.length:Int)):=df st 2
   exact(show False by omega).elim
  ·intro vs ls H492 E492 st hE
   have f493:¬ ((k33:Int) < (ms2.length:Int)):=df st 0
   have f494:¬ ((i33:Int) < (ms.length:Int)):=df st 1
   obtain⟨w501,hw501⟩:∃ z,z=(decide ((i33:Int) < (ms.length:Int))):=⟨_,rfl⟩
   have b502:E492 21=.bool w501:=by rw [hw501];exact eo st hE 21 _
   have b509:E492 22=.bool w501:=by rw [hw501];exact eo st hE 22 _
   obtain⟨w510,hw510⟩:∃ z,z=(decide ((k33:Int) < (ms2.length:Int))):=⟨_,rfl⟩
   have b511:E492 27=.bool w510:=by rw [hw510];exact eo st hE 27 _
   have b512:E492 28=.bool w510:=by rw [hw510];exact eo st hE 28 _
   have B14:=es st hE [(8,.int .i64 (i33:Int)),(2,.ptr p3 0),(18,.ptr p3 1),(19,S),(17,.int .i64 (i33:Int)),(20,.int .i64 (ms.length:Int)),(9,.int .i64 (k33:Int)),(3,.ptr p7 0),(24,.ptr p7 1),(25,S2),(23,.int .i64 (k33:Int)),(26,.int .i64 (ms2.length:Int)),(7,sa33)]
   have g514:Grew Hx33 H492:=(gk st)
   have g515:=Grew.trans gt33 g514
   have r516:=g514.at rw33_0
   have r517:=g514.at rw33_1
   have s518:=s33.grew g514
   refine qQ (id:=0) kr ?_
   have q519:=q34.app (kL:KdsL [.bool,.bool] [.bool w501,.bool w510])
   refine rG wC 2 0 [] [wf p3 [nF 0,n1 1],wf p7 [nF 2,n1 3]] [(8,nI 5),(2,.ptr 0 0),(18,.ptr 0 1),(19,n1 1),(17,nI 5),(20,nI 8),(9,nI 6),(3,.ptr 1 0),(24,.ptr 1 1),(25,n1 3),(23,nI 6),(26,nI 9),(7,n1 7),(21,nB 10),(22,nB 10),(27,nB 11),(28,nB 11)] q519 wA .nil (sc B14 (.cons b502 (.cons b509 (.cons b511 (.cons b512 .nil))))) ?_
   refine qM kr fun vs ls H520 E520 st hE=>?_
   have gz:Grew H H520:=(Grew.trans g515 (gk st))
   have hc:vQ x ms x2 ms2=(unl ms ms2,0):=by unfold vQ;rw [if_pos f18]
   have mi9:=iv33
   rw [show i33=ms.length by omega,show k33=ms2.length by omega] at mi9
   exact re st hE (.tuple [sa33,.int .i64 0]) gz.next (by rw [hc];exact⟨gz,_,rfl,(by rw [qFO hr hr2 mi9.fin];exact(s518.grew (st.inn.kept.grew (Nat.le_refl _)))),f33⟩)
end Go.Proofs.Ytgjggkgafdnhcaa
