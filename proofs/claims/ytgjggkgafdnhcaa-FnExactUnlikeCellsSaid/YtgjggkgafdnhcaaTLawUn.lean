/- Contracts of the law's words that write and read marks in slices of records: Place. -/
import Derived.Test.YtgjggkgafdnhcaaTUnC
import Derived.Test.YtgjggkgafdnhcaaSxD
import Derived.Test.YtgjggkgafdnhcaaSxE
import Derived.Test.YtgjggkgafdnhcaaTPdqB
set_option linter.unusedVariables false
set_option linter.unusedSimpArgs false
namespace Go.Proofs.Ytgjggkgafdnhcaa
open Go.Ab
set_option maxRecDepth 100000
set_option maxHeartbeats 1000000
attribute [local irreducible] Res
theorem qCv {m:List AV} (h:KdsL KC m):∃ (v0:Int) (v1:Int) (v2:Int),m=[.int .i32 v0,.int .i32 v1,.int .i32 v2]:=by
 cases h with
 | cons g0 h=>cases h with
 | cons g1 h=>cases h with
 | cons g2 h=>cases h with
 | nil =>
 obtain⟨v0,rfl⟩:=g0
 obtain⟨v1,rfl⟩:=g1
 obtain⟨v2,rfl⟩:=g2
 exact⟨_,_,_,rfl⟩
def cZ (q:Int):List AV:=[.int .i32 (IntKind.wrap .i32 q),.int .i32 (IntKind.wrap .i32 (q+1)),.int .i32 (IntKind.wrap .i32 ((q+1)+1))]
def jW (q:Int) (n:Nat):LL:=(List.range n).map fun (i:Nat)=>cZ (q+3 * (i:Int))
theorem bU (q:Int) (n:Nat):(jW q n).length=n:=by simp [jW]
theorem kO (q:Int) (n:Nat):qL KC (jW q n):=by
 intro m hm
 simp only [jW,List.mem_map] at hm
 obtain⟨i,_,rfl⟩:=hm
 exact .cons kA (.cons kA (.cons kA .nil))
theorem qDa (q:Int) (n:Nat):(jW q n).flatten.length=n * 3:=by
 have:=wT (kO q n).len (i:=n) (by rw [bU];exact Nat.le_refl _)
 rwa [List.take_of_length_le (by rw [bU];exact Nat.le_refl _)] at this
theorem qDb (q:Int) (n:Nat):(jW q (n+1)).flatten=(jW q n).flatten ++ cZ (q+3 * (n:Int)):=by
 simp [jW,List.range_succ]
theorem qEg (q:Int) {n i:Nat} (h:i < n):(jW q n).getD i []=cZ (q+3 * (i:Int)):=by
 simp [jW,List.getD_eq_getElem?_getD,h]
theorem qDS (H:AHeap) (ms:LL) (hr:qL KC ms) (l cap:Nat) (rest:List AV) (hg:H.get l=some (.row (ms.flatten ++ rest) true)) (k:Int) (h0:0<=k) (h1:k<=1152921504606846976) (hmax:ms.length<=1048576):qK Try.prog 11 [.slice l 0 ms.length cap 3,.int .i64 k] H fun r H'=>r=.int .i64 (k+3 * (ms.length:Int))/\Only l H H'/\H'.get l=some (.row ((jW k ms.length).flatten ++ rest) true):=by
 refine qN yQ (by simp) ?_
 have row0:=hg
 have q1:KdsL [.one,KI] [.slice l 0 ms.length cap 3,.int .i64 k]:=.cons rfl (.cons kA .nil)
 refine rC 0 0 [] [(0,n1 0),(1,nI 1)] q1 (.cons (t:=0) rfl (.cons (t:=1) rfl .nil)) ?_
 refine qM kr fun vs ls H2 E2 st hE=>?_
 have b3:=eo st hE 5 (.int .i64 0)
 have b4:=eo st hE 0 (.slice l 0 ms.length cap 3)
 have b5:=eo st hE 1 (.int .i64 k)
 have g6:Grew H H2:=(gk st)
 have g7:Only l H H2:=(Only.refl _ _).grew g6
 have r8:=g6.at hg
 refine zE kr (fun z E H'=>∃ i,z+i=ms.length/\E 0=.slice l 0 ms.length cap 3/\E 1=.int .i64 (k+3 * (i:Int))/\E 5=.int .i64 (i:Int)/\Only l H H'/\H'.get l=some (.row ((jW k i).flatten ++ ((ms.drop i).flatten ++ rest)) true)) ms.length
  ⟨0,by omega,b4,by simpa using b5,b3,g7,by simpa [jW] using r8⟩ ?_
 clear b4 b5 b3 r8
 rintro z E0 H0 ⟨i,hz,c0,c1,ci,gO,row⟩
 obtain⟨q,hq⟩:∃ q,q=k+3 * (i:Int):=⟨_,rfl⟩
 rw [<- hq] at c1
 rcases Nat.lt_or_ge i ms.length with hlt | hge
 ·obtain⟨v0,v1,v2,hm⟩:=qCv (hr.get hlt)
  have hqb:-4611686018427387904<=q/\q+3<=4611686018427387904:=by omega
  have e0:IntKind.i64.wrap (q+1)=(q+1):=wrap_i64 om om
  have e1:IntKind.i64.wrap ((q+1)+1)=((q+1)+1):=wrap_i64 om om
  have e2:IntKind.i64.wrap (((q+1)+1)+1)=(((q+1)+1)+1):=wrap_i64 om om
  have hP:(jW k i).flatten.length=i * 3:=qDa k i
  have hd:(ms.drop i).flatten=ms[i] ++ (ms.drop (i+1)).flatten:=by rw [List.drop_eq_getElem_cons hlt,List.flatten_cons]
  rw [hd,hm,List.append_assoc] at row
  obtain⟨Q,hQ⟩:∃ Q,Q=(ms.drop (i+1)).flatten ++ rest:=⟨_,rfl⟩
  obtain⟨P,hPe⟩:∃ P,P=(jW k i).flatten:=⟨_,rfl⟩
  rw [<- hQ,<- hPe] at row
  rw [<- hPe] at hP
  have hn:i < ms.length:=hlt
  have hza:z - 1 < z:=by omega
  have hzb:z - 1+(i+1)=ms.length:=by omega
  have hni:(i:Int) < (ms.length:Int):=by omega
  have hiw:IntKind.i64.wrap ((i:Int)+1)=((i+1:Nat):Int):=wrap64 om
  have hqn:(((q+1)+1)+1)=k+3 * ((i+1:Nat):Int):=by push_cast;omega
  have q9:KdsL [.one,KI,KI,KI,K2,K2,K2] [.slice l 0 ms.length cap 3,.int .i64 q,.int .i64 (i:Int),.int .i64 (ms.length:Int),.int .i32 v0,.int .i32 v1,.int .i32 v2]:=.cons rfl (.cons kA (.cons kA (.cons kA (.cons kA (.cons kA (.cons kA .nil))))))
  refine rF 1 10 [(.len (n1 0),nI 3),(.ia 3 (n1 0) (nI 2),.ptr 0 0)] [⟨l,(i * 3),[n2 4,n2 5,n2 6],false⟩] [(0,n1 0),(1,nI 1),(5,nI 2)] q9 (.cons (yG row hP (dL q9)) .nil) (.cons (jL (dNd rfl rfl) (dNd rfl ⟨_,rfl⟩)) (.cons (zV (k:=i) (dNd rfl rfl) (dNd rfl ⟨_,rfl⟩) hn rfl) .nil)) (.cons c0 (.cons c1 (.cons ci .nil))) ?_
  refine vI kr ?_ ?_
  ·intro vs ls H10 E10 st hE
   have f11:(i:Int) < (ms.length:Int):=dt st 0
   have b12:=eo st hE 23 (.ptr l ((i * 3)+0))
   obtain⟨w13,hw13⟩:∃ z,z=(IntKind.wrap .i32 q):=⟨_,rfl⟩
   have b14:E10 21=.int .i32 w13:=by rw [hw13];exact eo st hE 21 _
   have B1:=es st hE [(1,.int .i64 q),(6,.int .i64 0),(13,.int .i64 0),(14,.bool true),(0,.slice l 0 ms.length cap 3),(5,.int .i64 (i:Int)),(20,.int .i64 q),(17,.slice l 0 ms.length cap 3),(18,.int .i64 (i:Int)),(19,.int .i64 0)]
   have g26:Grew H0 H10:=(gk st)
   have g27:Only l H H10:=gO.grew g26
   have row29:=g26.at row
   refine zU (d:=none) (n:=1) (x:=.tmp 23) (y:=.tmp 21) kr (off:=0) (C':=[.int .i32 w13,.int .i32 v1,.int .i32 v2]) (vs:=[.int .i32 w13]) b12 row29 hP (by show AV.cells (E10 21)=_;rw [b14];rfl) rfl (by simp) rfl rfl ?_
   intro H30 row31 oH30
   have g32:=g27.trans oH30
   have q33:=q9.app (kL:KdsL [K2] [.int .i32 w13])
   refine rF 1 10 [(.len (n1 0),nI 3),(.ia 3 (n1 0) (nI 2),.ptr 0 0)] [⟨l,(i * 3),[n2 7,n2 5,n2 6],false⟩] [(1,nI 1),(6,.lit (.int .i64 0)),(13,.lit (.int .i64 0)),(14,.lit (.bool true)),(0,n1 0),(5,nI 2),(20,nI 1),(17,n1 0),(18,nI 2),(19,.lit (.int .i64 0)),(21,n2 7)] q33 (.cons (yG row31 hP (dL q33)) .nil) (.cons (jL (dNd rfl rfl) (dNd rfl ⟨_,rfl⟩)) (.cons (zV (k:=i) (dNd rfl rfl) (dNd rfl ⟨_,rfl⟩) hn rfl) .nil)) (sc (sn B1) (.cons (jK b14) .nil)) ?_
   refine qM kr fun vs ls H34 E34 st hE=>?_
   have b35:=eo st hE 23 (.ptr l ((i * 3)+1))
   obtain⟨w36,hw36⟩:∃ z,z=(IntKind.wrap .i32 (IntKind.wrap .i64 (q+1))):=⟨_,rfl⟩
   have b37:E34 21=.int .i32 w36:=by rw [hw36];exact eo st hE 21 _
   obtain⟨w38,hw38⟩:∃ z,z=(IntKind.wrap .i64 (q+1)):=⟨_,rfl⟩
   have nw38:w38=(q+1):=by rw [hw38];exact e0
   have b39:E34 1=.int .i64 w38:=by rw [hw38];exact eo st hE 1 _
   have b41:E34 25=.int .i64 w38:=by rw [hw38];exact eo st hE 25 _
   have b49:E34 20=.int .i64 w38:=by rw [hw38];exact eo st hE 20 _
   have B2:=es st hE [(24,.int .i64 q),(6,.int .i64 1),(15,.int .i64 0),(16,.int .i64 1),(13,.int .i64 1),(14,.bool true),(0,.slice l 0 ms.length cap 3),(5,.int .i64 (i:Int)),(17,.slice l 0 ms.length cap 3),(18,.int .i64 (i:Int)),(19,.int .i64 1)]
   have g54:Grew H30 H34:=(gk st)
   have g55:Only l H H34:=g32.grew g54
   have row57:=g54.at row31
   refine zU (d:=none) (n:=1) (x:=.tmp 23) (y:=.tmp 21) kr (off:=1) (C':=[.int .i32 w13,.int .i32 w36,.int .i32 v2]) (vs:=[.int .i32 w36]) b35 row57 hP (by show AV.cells (E34 21)=_;rw [b37];rfl) rfl (by simp) rfl rfl ?_
   intro H58 row59 oH58
   have g60:=g55.trans oH58
   have q61:=q33.app (kL:KdsL [K2,KI] [.int .i32 w36,.int .i64 w38])
   refine rF 1 10 [(.len (n1 0),nI 3),(.ia 3 (n1 0) (nI 2),.ptr 0 0)] [⟨l,(i * 3),[n2 7,n2 8,n2 6],false⟩] [(24,nI 1),(6,.lit (.int .i64 1)),(15,.lit (.int .i64 0)),(16,.lit (.int .i64 1)),(13,.lit (.int .i64 1)),(14,.lit (.bool true)),(0,n1 0),(5,nI 2),(17,n1 0),(18,nI 2),(19,.lit (.int .i64 1)),(21,n2 8),(1,nI 9),(25,nI 9),(20,nI 9)] q61 (.cons (yG row59 hP (dL q61)) .nil) (.cons (jL (dNd rfl rfl) (dNd rfl ⟨_,rfl⟩)) (.cons (zV (k:=i) (dNd rfl rfl) (dNd rfl ⟨_,rfl⟩) hn rfl) .nil)) (sc (sn B2) (.cons (jK b37) (.cons (jK b39) (.cons (jK b41) (.cons (jK b49) .nil))))) ?_
   refine qM kr fun vs ls H62 E62 st hE=>?_
   have b63:=eo st hE 23 (.ptr l ((i * 3)+2))
   obtain⟨w64,hw64⟩:∃ z,z=(IntKind.wrap .i32 (IntKind.wrap .i64 (w38+1))):=⟨_,rfl⟩
   have b65:E62 21=.int .i32 w64:=by rw [hw64];exact eo st hE 21 _
   obtain⟨w66,hw66⟩:∃ z,z=(IntKind.wrap .i64 (w38+1)):=⟨_,rfl⟩
   have nw66:w66=((q+1)+1):=by rw [hw66,nw38];exact e1
   have b67:E62 1=.int .i64 w66:=by rw [hw66];exact eo st hE 1 _
   have b69:E62 25=.int .i64 w66:=by rw [hw66];exact eo st hE 25 _
   have b77:E62 20=.int .i64 w66:=by rw [hw66];exact eo st hE 20 _
   have B3:=es st hE [(24,.int .i64 w38),(6,.int .i64 2),(15,.int .i64 1),(16,.int .i64 2),(13,.int .i64 2),(14,.bool true),(0,.slice l 0 ms.length cap 3),(5,.int .i64 (i:Int)),(17,.slice l 0 ms.length cap 3),(18,.int .i64 (i:Int)),(19,.int .i64 2)]
   have g82:Grew H58 H62:=(gk st)
   have g83:Only l H H62:=g60.grew g82
   have row85:=g82.at row59
   refine zU (d:=none) (n:=1) (x:=.tmp 23) (y:=.tmp 21) kr (off:=2) (C':=[.int .i32 w13,.int .i32 w36,.int .i32 w64]) (vs:=[.int .i32 w64]) b63 row85 hP (by show AV.cells (E62 21)=_;rw [b65];rfl) rfl (by simp) rfl rfl ?_
   intro H86 row87 oH86
   have g88:=g83.trans oH86
   have q89:=q61.app (kL:KdsL [K2,KI] [.int .i32 w64,.int .i64 w66])
   refine rF 1 10 [(.len (n1 0),nI 3),(.ia 3 (n1 0) (nI 2),.ptr 0 0)] [⟨l,(i * 3),[n2 7,n2 8,n2 10],false⟩] [(24,nI 9),(6,.lit (.int .i64 2)),(15,.lit (.int .i64 1)),(16,.lit (.int .i64 2)),(13,.lit (.int .i64 2)),(14,.lit (.bool true)),(0,n1 0),(5,nI 2),(17,n1 0),(18,nI 2),(19,.lit (.int .i64 2)),(21,n2 10),(1,nI 11),(25,nI 11),(20,nI 11)] q89 (.cons (yG row87 hP (dL q89)) .nil) (.cons (jL (dNd rfl rfl) (dNd rfl ⟨_,rfl⟩)) (.cons (zV (k:=i) (dNd rfl rfl) (dNd rfl ⟨_,rfl⟩) hn rfl) .nil)) (sc (sn B3) (.cons (jK b65) (.cons (jK b67) (.cons (jK b69) (.cons (jK b77) .nil))))) ?_
   refine qM kr fun vs ls H9 E9 st hE=>?_
   have g9:Grew H86 H9:=(gk st)
   have r9:=g9.at row87
   have c9:E9 1=.int .i64 (IntKind.wrap .i64 (w66+1)):=qW st.inn hE 1 kr
   have d9:E9 5=.int .i64 (IntKind.wrap .i64 ((i:Int)+1)):=qW st.inn hE 5 kr
   have z9:E9 0=.slice l 0 ms.length cap 3:=qW st.inn hE 0 kr
   refine qP kr ⟨z - 1,hza,i+1,hzb,z9,?_,?_,g88.grew g9,?_⟩
   ·rw [c9,nw66,e2,hqn]
   ·rw [d9,hiw]
   ·rw [r9,qDb,<- hPe,<- hQ,<- hq,show [.int .i32 w13,.int .i32 w36,.int .i32 w64]=cZ q from ?_,List.append_assoc]
    simp only [cZ,nw38,nw66,hw13,hw36,hw64,e0,e1,e2]
  ·intro vs ls H9 E9 st hE
   exact absurd hni (of_decide_eq_false (qCG (x:=decide ((i:Int) < (ms.length:Int))) st.inn 0 kr))
 ·obtain rfl:i=ms.length:=by omega
  have q90:KdsL [.one,KI,KI] [.slice l 0 ms.length cap 3,.int .i64 q,.int .i64 (ms.length:Int)]:=.cons rfl (.cons kA (.cons kA .nil))
  refine rD 0 10 [(.len (n1 0),nI 2)] [] [(0,n1 0),(1,nI 1),(5,nI 2)] q90 (.cons (jL (dNd rfl rfl) (dNd rfl ⟨_,rfl⟩)) .nil) (.cons c0 (.cons c1 (.cons ci .nil))) ?_
  refine qM kr fun vs ls H91 E91 st hE=>?_
  have b92:=eo st hE 1 (.int .i64 q)
  have g93:Grew H0 H91:=(gk st)
  have g94:Only l H H91:=gO.grew g93
  have re:=g93.at row
  refine qQ (id:=0) kr ?_
  refine rC 0 10 [] [(1,nI 1)] q90 (.cons b92 .nil) ?_
  refine qM kr fun vs ls H9 E9 st hE=>?_
  have g9:Grew H91 H9:=(gk st)
  refine zF kr (qS st.inn hE (.inr rfl) (a:=.int .i64 q) kr (g94.grew g9).next ⟨by rw [hq],g94.grew g9,?_⟩)
  rw [g9.at re];simp
theorem qAr (H:AHeap) (k:Int) (n:Nat) (S:AV) (hS:SlL H 3 (jW k n) S) (h0:0<=k) (h1:k<=1152921504606846976) (hmax:n<=1048576):zG Try.prog 12 [S,.int .i64 k] H (.int .i64 (k+3 * (n:Int))):=by
 refine qN dW (by simp) ?_
 have q1:KdsL [.one,KI] [S,.int .i64 k]:=kL
 refine rC 0 0 [] [(0,n1 0),(1,nI 1)] q1 (.cons (t:=0) rfl (.cons (t:=1) rfl .nil)) ?_
 refine qM kr fun vs ls H2 E2 st hE=>?_
 have b3:=eo st hE 5 (.int .i64 0)
 have b4:=eo st hE 0 S
 have b5:=eo st hE 1 (.int .i64 k)
 have g6:Grew H H2:=(gk st)
 have g7:Grew H H2:=Grew.trans (Grew.refl _) g6
 refine zE kr (fun z E H'=>∃ i,z+i=n/\E 0=S/\E 1=.int .i64 (k+3 * (i:Int))/\E 5=.int .i64 (i:Int)/\Grew H H') n
  ⟨0,by omega,b4,by simpa using b5,b3,g7⟩ ?_
 clear b4 b5 b3
 rintro z E0 H0 ⟨i,hz,c0,c1,ci,gO⟩
 obtain⟨q,hq⟩:∃ q,q=k+3 * (i:Int):=⟨_,rfl⟩
 rw [<- hq] at c1
 have hlen:=bU k n
 rcases Nat.lt_or_ge i n with hlt | hge
 ·have hqb:-4611686018427387904<=q/\q+3<=4611686018427387904:=by omega
  have e0:IntKind.i64.wrap (q+1)=(q+1):=wrap_i64 om om
  have e1:IntKind.i64.wrap ((q+1)+1)=((q+1)+1):=wrap_i64 om om
  have e2:IntKind.i64.wrap (((q+1)+1)+1)=(((q+1)+1)+1):=wrap_i64 om om
  have hza:z - 1 < z:=by omega
  have hzb:z - 1+(i+1)=n:=by omega
  have hni:(i:Int) < (n:Int):=by omega
  have hiw:IntKind.i64.wrap ((i:Int)+1)=((i+1:Nat):Int):=wrap64 om
  have hqn:(((q+1)+1)+1)=k+3 * ((i+1:Nat):Int):=by push_cast;omega
  have hlm:i < (jW k n).length:=by rw [hlen];exact hlt
  obtain⟨lS,cap,rest,wr,eS,gS0⟩:=hS.isSl hlm
  have gS:=gO.at gS0
  have hm:(jW k n)[i]=cZ q:=by rw [hq,<- qEg k hlt];simp [List.getD_eq_getElem?_getD,hlm]
  have q8:KdsL [.one,KI,KI,KI,K2,K2,K2] [S,.int .i64 q,.int .i64 (i:Int),.int .i64 (n:Int),.int .i32 (IntKind.wrap .i32 q),.int .i32 (IntKind.wrap .i32 (q+1)),.int .i32 (IntKind.wrap .i32 ((q+1)+1))]:=kL
  refine rF 1 10 [(.len (n1 0),nI 3),(.ia 3 (n1 0) (nI 2),.ptr 0 0)] [⟨lS,(i * 3),[n2 4,n2 5,n2 6],false⟩] [(0,n1 0),(1,nI 1),(5,nI 2)] q8 (.cons (qA (kO k n) gS hlm rfl (by rw [hm];exact(dL q8))) .nil) (.cons (⟨_,_,dNd rfl (jD hS),dNd rfl ⟨_,rfl⟩,hlen ▸ gB hS⟩) (.cons (qD (k:=i) (dNd rfl (jD hS)) eS (dNd rfl ⟨_,rfl⟩) hlm rfl) .nil)) (.cons c0 (.cons c1 (.cons ci .nil))) ?_
  refine qLS kr ?_ ?_ ?_ ?_ ?_
  ·intro vs ls H9 E9 st hE
   exact absurd (show (IntKind.wrap .i32 q)=(IntKind.wrap .i32 q) by simp only [e0,e1,e2]) (of_decide_eq_false (qCG (x:=decide ((IntKind.wrap .i32 q)=(IntKind.wrap .i32 q))) st.inn 0 kr))
  ·intro vs ls H9 E9 st hE
   exact absurd (show (IntKind.wrap .i32 (q+1))=(IntKind.wrap .i32 (IntKind.wrap .i64 (q+1))) by simp only [e0,e1,e2]) (of_decide_eq_false (qCG (x:=decide ((IntKind.wrap .i32 (q+1))=(IntKind.wrap .i32 (IntKind.wrap .i64 (q+1))))) st.inn 0 kr))
  ·intro vs ls H9 E9 st hE
   exact absurd (show (IntKind.wrap .i32 ((q+1)+1))=(IntKind.wrap .i32 (IntKind.wrap .i64 ((IntKind.wrap .i64 (q+1))+1))) by simp only [e0,e1,e2]) (of_decide_eq_false (qCG (x:=decide ((IntKind.wrap .i32 ((q+1)+1))=(IntKind.wrap .i32 (IntKind.wrap .i64 ((IntKind.wrap .i64 (q+1))+1))))) st.inn 0 kr))
  ·intro vs ls H9 E9 st hE
   have g9:Grew H0 H9:=(gk st)
   have z9:E9 0=S:=qW st.inn hE 0 kr
   have c9:E9 1=.int .i64 (IntKind.wrap .i64 ((IntKind.wrap .i64 ((IntKind.wrap .i64 (q+1))+1))+1)):=qW st.inn hE 1 kr
   have d9:E9 5=.int .i64 (IntKind.wrap .i64 ((i:Int)+1)):=qW st.inn hE 5 kr
   refine qP kr ⟨z - 1,hza,i+1,hzb,z9,?_,?_,gO.trans g9⟩
   ·rw [c9];simp only [e0,e1,e2];rw [hqn]
   ·rw [d9,hiw]
  ·intro vs ls H9 E9 st hE
   exact absurd hni (of_decide_eq_false (qCG (x:=decide ((i:Int) < (n:Int))) st.inn 0 kr))
 ·obtain rfl:i=n:=by omega
  have q9:KdsL [.one,KI,KI] [S,.int .i64 q,.int .i64 (i:Int)]:=kL
  refine rD 0 10 [(.len (n1 0),nI 2)] [] [(0,n1 0),(1,nI 1),(5,nI 2)] q9 (.cons (⟨_,_,dNd rfl (jD hS),dNd rfl ⟨_,rfl⟩,hlen ▸ gB hS⟩) .nil) (.cons c0 (.cons c1 (.cons ci .nil))) ?_
  refine qM kr fun vs ls H10 E10 st hE=>?_
  have b11:=eo st hE 1 (.int .i64 q)
  have g12:Grew H0 H10:=(gk st)
  have g13:=Grew.trans gO g12
  refine qQ (id:=0) kr ?_
  refine rC 0 10 [] [(1,nI 1)] q9 (.cons b11 .nil) ?_
  refine qM kr fun vs ls H9 E9 st hE=>?_
  exact zF kr (xV st.inn hE (.inr rfl) (a:=.int .i64 q) kr (g13.trans (gk st)) rfl ⟨by rw [hq],rfl⟩)
theorem qHh (m:List AV) (hm:KdsL KC m) (H:AHeap):zG Try.prog 23 [.agg m,.agg m] H (.bool true):=by
 have hd:=qBy hm [] [] 0 rfl
 simp only [List.nil_append,List.append_nil] at hd
 exact qFu (φ:=φ0) (pm:=pm) 20 rfl rfl jR xC hm (qB (mV hd) (qB (mV hd) zA)) kr H
theorem cW (H:AHeap) (ms:LL) (hr:qL KC ms) (S S' : AV) (hS:SlL H 3 ms S) (hS' : SlL H 3 ms S') (hmax:ms.length < 2^40):zG Try.prog 8 [S,S'] H (.bool true):=by
 refine qN mY (by simp) ?_
 refine jB (φ:=φ0) (pm:=pmR 0 [(.len (.nd 0 .one),.nd 2 (.int .i64)),(.len (.nd 1 .one),.nd 2 (.int .i64))] 0) 20 (nk:=[(.atom 0,.one),(.atom 1,.one),(.atom 2,.int .i64)]) (fs:=[]) (xs:=[S,S',.int .i64 (ms.length:Int)]) (ws:=[]) (env:=[(0,.nd 0 .one),(1,.nd 1 .one)]) ?_ ?_ jR xC ?_
 ·refine zC ?_ .nil _ .nil trivial ?_
  ·exact .cons rfl (jD hS) (.cons rfl (jD hS') (.cons rfl ⟨_,rfl⟩ .nil))
  ·exact .cons ⟨_,_,dNd rfl (jD hS),dNd rfl ⟨_,rfl⟩,gB hS⟩ (.cons ⟨_,_,dNd rfl (jD hS'),dNd rfl ⟨_,rfl⟩,gB hS'⟩ .nil)
 ·exact jC rfl rfl (jD hS) (jC rfl rfl (jD hS') zY)
 refine qM kr fun vs ls H1 E1 st hE=>?_
 have a0:E1 0=S:=qW st.inn hE 0 kr
 have a1:E1 1=S':=qW st.inn hE 1 kr
 have a5:E1 5=.int .i64 ((0:Nat):Int):=qW st.inn hE 5 kr
 have g1:Grew H H1:=(gk st)
 refine qAZ kr [(0,S),(1,S')] 5 ms.length (fun _=>True) (.cons a0 (.cons a1 .nil)) a5 g1 trivial ?_
 intro i hi _ E2 H2 hs h5 hg2
 have b0:=hs.head
 have b1:=hs.tail.head
 have hso:=jD hS
 have hso':=jD hS'
 rcases Nat.lt_or_ge i ms.length with hlt | hge
 ·cases hS with
  | nil h=>rw [h] at hlt;simp at hlt
  | @sl ls0 n cap rest wr2 hgS hn hc =>
   cases hS' with
   | nil h=>rw [h] at hlt;simp at hlt
   | @sl ls1 n' cap' rest' wr2' hgS' hn' hc' =>
    have hgS2:=hg2.at hgS
    have hgS2':=hg2.at hgS'
    subst hn
    subst hn'
    obtain⟨v0,v1,v2,hm⟩:=qCv (hr.get hlt)
    have heq:=qHh ms[i] (hr.get hlt)
    refine jB (φ:=φ0) (pm:=pmR 2 [(.len (.nd 0 .one),.nd 1 (.int .i64)),(.ia 3 (.nd 0 .one) (.nd 2 (.int .i64)),.ptr 0 0),(.ia 3 (.nd 3 .one) (.nd 2 (.int .i64)),.ptr 1 0),(.call 23 [.agg (nds 4 KC),.agg (nds 4 KC)],.lit (.bool true))] 0) 20
     (nk:=[(.atom 0,.one),(.atom 1,.int .i64),(.atom 2,.int .i64),(.atom 3,.one)] ++ ([(.atom 4,.int .i32),(.atom 5,.int .i32),(.atom 6,.int .i32)] ++ [(.bin .lss (.nd 2 (.int .i64)) (.nd 1 (.int .i64)),.bool)])) (fs:=[(7,true)])
     (xs:=[.slice ls0 0 ms.length cap 3,.int .i64 (ms.length:Int),.int .i64 (i:Int),.slice ls1 0 ms.length cap' 3,.int .i32 v0,.int .i32 v1,.int .i32 v2,.bool true]) (ws:=[⟨ls0,i * 3,nds 4 KC,false⟩,⟨ls1,i * 3,nds 4 KC,false⟩]) (env:=[(0,.nd 0 .one),(1,.nd 3 .one),(5,.nd 2 (.int .i64))]) ?_ ?_ jR xC ?_
    ·refine zC ?_ ?_ _ ?_ ?_ ?_
     ·refine .cons rfl rfl (.cons rfl ⟨_,rfl⟩ (.cons rfl ⟨_,rfl⟩ (.cons rfl rfl ?_)))
      (repeat (first | exact .nil | refine .cons rfl ⟨_,rfl⟩ ?_ | refine .cons rfl ⟨_,rfl,by assumption⟩ ?_ | refine .cons rfl am ?_))
      refine .cons ⟨_,_,dNd rfl ⟨_,rfl⟩,dNd rfl ⟨_,rfl⟩,?_⟩ ⟨_,rfl⟩ .nil
      show some (AV.bool (decide ((i:Int) < (ms.length:Int))))=_
      rw [decide_eq_true om]
     ·exact .cons rfl .nil
     ·exact .cons (qA hr hgS2 hlt rfl (by rw [hm];exact(by repeat (first | exact zA | refine qB (dNd rfl ⟨_,rfl⟩) ?_ | refine qB (dNd rfl ⟨_,rfl,by assumption⟩) ?_ | refine qB (dNd rfl am) ?_)))) (.cons (qA hr hgS2' hlt rfl (by rw [hm];exact(by repeat (first | exact zA | refine qB (dNd rfl ⟨_,rfl⟩) ?_ | refine qB (dNd rfl ⟨_,rfl,by assumption⟩) ?_ | refine qB (dNd rfl am) ?_)))) .nil)
     ·exact⟨fun v hv h=>(by simp at hv;subst hv;simp at h),⟨fun v hv=>(by cases hv),trivial⟩⟩
     ·exact .cons (jL (o:=0) (dNd rfl rfl) (dNd rfl ⟨_,rfl⟩)) (.cons (zV (k:=i) (dNd rfl rfl) (dNd rfl ⟨_,rfl⟩) om rfl) (.cons (zV (k:=i) (dNd rfl rfl) (dNd rfl ⟨_,rfl⟩) om rfl)
       (.cons (qI (args:=[.agg ms[i],.agg ms[i]]) (qB (mV (by rw [hm];exact(by repeat (first | exact zA | refine qB (dNd rfl ⟨_,rfl⟩) ?_ | refine qB (dNd rfl ⟨_,rfl,by assumption⟩) ?_ | refine qB (dNd rfl am) ?_)))) (qB (mV (by rw [hm];exact(by repeat (first | exact zA | refine qB (dNd rfl ⟨_,rfl⟩) ?_ | refine qB (dNd rfl ⟨_,rfl,by assumption⟩) ?_ | refine qB (dNd rfl am) ?_)))) zA)) (qDo rfl) (fun H3 _=>heq H3)) .nil)))
    ·exact jC b0 rfl rfl (jC b1 rfl rfl (jC h5 rfl ⟨_,rfl⟩ zY))
    ·refine qM kr fun vs ls H4 E4 st hE=>?_
     exact pX (sl:=[(0,.slice ls0 0 ms.length cap 3),(1,.slice ls1 0 ms.length cap' 3)]) (ti:=5) (i:=i) (Inv:=fun _=>True) kr st.inn hE hlt kr (w:=IntKind.i64.wrap ((i:Int)+1)) kr (wrap64 om) (hg2.trans (gk st)) trivial
 ·obtain rfl:i=ms.length:=by omega
  refine jB (φ:=φ0) (pm:=pmR 0 [(.len (.nd 0 .one),.nd 1 (.int .i64))] 0) 20 (nk:=[(.atom 0,.one),(.atom 1,.int .i64),(.atom 2,.int .i64),(.bin .lss (.nd 2 (.int .i64)) (.nd 1 (.int .i64)),.bool)]) (fs:=[(3,false)])
   (xs:=[S,.int .i64 (ms.length:Int),.int .i64 (ms.length:Int),.bool false]) (ws:=[]) (env:=[(0,.nd 0 .one),(5,.nd 2 (.int .i64))]) ?_ ?_ jR xC ?_
  ·refine zC ?_ ?_ _ .nil trivial ?_
   ·refine .cons rfl hso (.cons rfl ⟨_,rfl⟩ (.cons rfl ⟨_,rfl⟩ (.cons ⟨_,_,dNd rfl ⟨_,rfl⟩,dNd rfl ⟨_,rfl⟩,?_⟩ ⟨_,rfl⟩ .nil)))
    show some (AV.bool (decide ((ms.length:Int) < (ms.length:Int))))=_
    rw [decide_eq_false om]
   ·exact .cons rfl .nil
   ·exact .cons ⟨_,_,dNd rfl hso,dNd rfl ⟨_,rfl⟩,gB hS⟩ .nil
  ·exact jC b0 rfl hso (jC h5 rfl ⟨_,rfl⟩ zY)
  ·refine qM kr fun vs ls H4 E4 st hE=>?_
   have g5:Grew H2 H4:=(gk st)
   refine qQ (id:=0) kr ?_
   refine jB (φ:=φ0) (pm:=pmR 0 [] 0) 20 (nk:=[]) (fs:=[]) (xs:=[]) (ws:=[]) (env:=[]) (zC .nil .nil _ .nil trivial .nil) zY jR xC ?_
   refine qM kr fun vs ls H5 E5 st hE=>?_
   exact zF kr (xV st.inn hE (.inr rfl) (a:=.bool true) kr ((hg2.trans g5).trans (gk st)) rfl ⟨rfl,rfl⟩)
theorem qEx (H:AHeap) (ms:LL) (hr:qL KC ms) (S:AV) (hS:SlW H 3 ms S) (k:Int) (h0:0<=k) (h1:k<=1152921504606846976) (hmax:ms.length<=1048576):qK Try.prog 11 [S,.int .i64 k] H fun r H'=>r=.int .i64 (k+3 * (ms.length:Int))/\OnlyS S H H'/\SlW H' 3 (jW k ms.length) S:=by
 cases hS with
 | @sl l n cap rest hg hn hc =>
  subst hn
  refine(qDS H ms hr l cap rest hg k h0 h1 hmax).mono ?_
  rintro r H' ⟨rfl,ho,row⟩
  exact⟨rfl,.of_only ho,.sl row (bU _ _) hc⟩
 | nil h =>
  subst h
  refine qN yQ (by simp) ?_
  have q1:KdsL [KI] [.int .i64 k]:=kL
  refine rC 0 2 [] [(0,lN),(1,nI 0)] q1 (.cons (t:=0) rfl (.cons (t:=1) rfl .nil)) ?_
  refine qM kr fun vs ls H9 E9 st hE=>?_
  have g9:Grew H H9:=(gk st)
  exact zF kr (qS st.inn hE (.inr rfl) (a:=.int .i64 k) kr g9.next ⟨by simp,.of_grew g9,.nil rfl⟩)
theorem qER {ms ms2:LL} (hr:qL KM ms) (hr2:qL KM ms2) (hs:mK ms) (hs2:mK ms2):∀ (n i k:Nat) (L:LL),MI ms ms2 i k L->(ms.length - i)+(ms2.length - k)<=n -> ∃ L,MI ms ms2 ms.length ms2.length L
 | 0,i,k,L,h,hn=>by
  have h1:=h.ii
  have h2:=h.kk
  rw [show i=ms.length by omega,show k=ms2.length by omega] at h
  exact⟨L,h⟩
 | n+1,i,k,L,h,hn=>by
  have h1:=h.ii
  have h2:=h.kk
  by_cases c1:i < ms.length
  ·by_cases c2:k < ms2.length
   ·rcases cY (zT hr c1) (zT hr2 c2) with e | e | e
    ·exact qER hr hr2 hs hs2 n _ _ _ (h.less hr hr2 hs hs2 c1 fun _=>e) om
    ·cases hb:pH (ms.getD i []) (ms2.getD k []) with
     | true=>exact qER hr hr2 hs hs2 n _ _ _ (h.same hr hr2 hs hs2 c1 c2 e (.inl ⟨hb,rfl⟩)) om
     | false=>exact qER hr hr2 hs hs2 n _ _ _ (h.same hr hr2 hs hs2 c1 c2 e (.inr ⟨hb,rfl⟩)) om
    ·exact qER hr hr2 hs hs2 n _ _ _ (h.more hr hr2 hs hs2 c2 fun _=>e) om
   ·exact qER hr hr2 hs hs2 n _ _ _ (h.less hr hr2 hs hs2 c1 fun x=>absurd x c2) om
  ·by_cases c2:k < ms2.length
   ·exact qER hr hr2 hs hs2 n _ _ _ (h.more hr hr2 hs hs2 c2 fun x=>absurd x c1) om
   ·rw [show i=ms.length by omega,show k=ms2.length by omega] at h
    exact⟨L,h⟩
theorem qCy {x x2:ON} {ms ms2 L:LL} {c:Int} (h:vQ x ms x2 ms2=(L,c)) (hr:qL KM ms) (hr2:qL KM ms2):qL KC L/\L.length<=1048576:=by
 unfold vQ at h
 split at h
 ·rename_i h0
  cases h
  have ht:=qIp h0
  obtain⟨L,hL⟩:=qER hr hr2 (wU ht.1) (wU ht.2.1) _ 0 0 [] MI.start (Nat.le_refl _)
  rw [qFO hr hr2 hL.fin]
  have h1:=hL.len
  have h2:=gA ht.1
  have h3:=gA ht.2.1
  refine⟨?_,by omega⟩
  rw [<- qFO hr hr2 hL.fin];exact qJt hr hr2
 ·cases h;exact⟨fun _ h=>by simp at h,by decide⟩
theorem uE (H:AHeap) (vs:List AV) (h:qCA H [(true,[.flt .f32,.sl [.int .i32,.int .i32,.int .i32,.flt .f32,.flt .f32,.flt .f32,.flt .f32,.int .i64,.int .i64]]),(true,[.flt .f32,.sl [.int .i32,.int .i32,.int .i32,.flt .f32,.flt .f32,.flt .f32,.flt .f32,.int .i64,.int .i64]])] vs):qK Try.prog 3 vs H fun r _=>r=.bool true:=by
 match vs,h with
 | [a,b],h =>
 obtain⟨x,ms,S,rfl,hx,hr,hS,hmx⟩:=qJE h.1
 obtain⟨x2,ms2,S2,rfl,hx2,hr2,hS2,hmx2⟩:=qJE h.2.1
 clear h
 obtain⟨L,c,hV⟩:∃ L c,vQ x ms x2 ms2=(L,c):=⟨_,_,rfl⟩
 refine qN xS (by simp) ?_
 obtain⟨q1,kq1,hq1⟩:∃ r:Int,(∀ H9,Grew H H9->zG Try.prog 4 [.agg [.flt .f32 x,S],.int .i64 1048576] H9 (.int .i64 r))/\(r < 0 \/ r=1048576 - ms.length):=⟨_,fun H9 hk=>qBp H9 x hx ms S (hS.grew (Grew.trans (Grew.refl _) hk)) 1048576 om om hmx,by split <;> omega⟩
 have q2:KdsL [KF,.one,KF,.one,KI,KI] [.flt .f32 x,S,.flt .f32 x2,S2,.int .i64 c,.int .i64 q1]:=kL
 refine rD 0 0 [(.call 4 [.agg [nF 0,n1 1],.lit (.int .i64 1048576)],nI 5)] [] [(0,.agg [nF 0,n1 1]),(1,.agg [nF 2,n1 3])] q2 (.cons (qI (args:=[.agg [.flt .f32 x,S],.int .i64 1048576]) (dL q2) (dE q2) (fun H9 hk=>kq1 H9 (hk.grew (Nat.le_refl _)))) .nil) (.cons (t:=0) rfl (.cons (t:=1) rfl .nil)) ?_
 refine vI kr ?_ ?_
 ·intro vs ls H3 E3 st hE
  have f4:q1 < 0:=dt st 0
  exact zF kr (qS st.inn hE (.inr rfl) (a:=.bool true) kr (Nat.le_trans (Nat.le_refl _) st.kept.1) rfl)
 ·intro vs ls H5 E5 st hE
  have f6:¬ (q1 < 0):=df st 0
  have mxms:ms.length<=1048576:=by omega
  obtain⟨hL,mxL⟩:=qCy hV hr hr2
  obtain⟨p7,e8,r9,n10⟩:=pO st hE 2 0 [.flt .f32 x,S]
  have op7:H.next<=p7:=Nat.le_trans (Nat.le_refl _) (oM n10)
  obtain⟨p11,e12,r13,n14⟩:=pO st hE 3 1 [.flt .f32 x2,S2]
  have op11:H.next<=p11:=Nat.le_trans (Nat.le_refl _) (oM n14)
  have ne15:=pn st hE 2 0 3 1 [.nd 0 (.flt .f32),.nd 1 .one] e8 e12
  have B1:=es st hE [(22,.agg [.flt .f32 x2,S2]),(23,.int .i64 q1),(5,.int .i64 q1)]
  have g19:Grew H H5:=(gk st)
  have g20:Grew H H5:=Grew.trans (Grew.refl _) g19
  obtain⟨q21,kq21,hq21⟩:∃ r:Int,(∀ H9,Grew H5 H9->zG Try.prog 4 [.agg [.flt .f32 x2,S2],.int .i64 q1] H9 (.int .i64 r))/\(r < 0 \/ r=q1 - ms2.length):=⟨_,fun H9 hk=>qBp H9 x2 hx2 ms2 S2 (hS2.grew (Grew.trans g20 hk)) q1 om om hmx2,by split <;> omega⟩
  have q22:=q2.app (kL:KdsL [KI] [.int .i64 q21])
  refine rD 2 0 [(.call 4 [.agg [nF 2,n1 3],nI 5],nI 6)] [wf p7 [nF 0,n1 1],wf p11 [nF 2,n1 3]] [(22,.agg [nF 2,n1 3]),(23,nI 5),(5,nI 5),(2,.ptr 0 0),(3,.ptr 1 0)] q22 (.cons (qI (args:=[.agg [.flt .f32 x2,S2],.int .i64 q1]) (dL q22) (dE q22) (fun H9 hk=>kq21 H9 (hk.grew (Nat.le_refl _)))) .nil) (sc B1 (.cons e8 (.cons e12 .nil))) ?_
  refine vI kr ?_ ?_
  ·intro vs ls H23 E23 st hE
   have f24:q21 < 0:=dt st 0
   exact zF kr (qS st.inn hE (.inr rfl) (a:=.bool true) kr (Nat.le_trans g20.next st.kept.1) rfl)
  ·intro vs ls H25 E25 st hE
   have f26:¬ (q21 < 0):=df st 0
   have mxms2:ms2.length<=1048576:=by omega
   obtain⟨hL,mxL⟩:=qCy hV hr hr2
   have b27:=eo st hE 28 (.agg [.flt .f32 x,S])
   have B2:=es st hE [(28,.agg [.flt .f32 x,S]),(30,.agg [.flt .f32 x2,S2]),(2,.ptr p7 0),(3,.ptr p11 0)]
   have g31:Grew H5 H25:=(gk st)
   have g32:=Grew.trans g20 g31
   have r33:=g31.at r9
   have r34:=g31.at r13
   refine pG (free:=false) (d:=(some 29)) (f:=6) (args:=[.tmp 28]) kr (R:=fun z H'=>Grew H25 H' /\ ∃ S',z=.agg [.flt .f32 x,S']/\SlW H' 9 ms S'/\FreshS H25.next S') ?_ ?_
   ·show qK _ _ [E25 28] _ _
    rw [b27]
    exact vD H25 x hx ms hr S (hS.grew g32) mxms
   rintro z H36 ⟨gS35,S35,rfl,sS35,fS35⟩
   refine⟨gS35,?_⟩
   have ne37:ApartL (S35) p7:=fS35.apartL (H25.lt_of_get r33)
   have ne38:ApartL (S35) p11:=fS35.apartL (H25.lt_of_get r34)
   have fr39:FreshS H.next (S35):=fS35.mono g32.next
   have g40:=Grew.trans g32 gS35
   have r41:=gS35.at r33
   have r42:=gS35.at r34
   have q43:=q22.app (kL:KdsL [.one] [S35])
   refine rC 2 0 [wf p7 [nF 0,n1 1],wf p11 [nF 2,n1 3]] [(28,.agg [nF 0,n1 1]),(30,.agg [nF 2,n1 3]),(2,.ptr 0 0),(3,.ptr 1 0),(29,.agg [nF 0,n1 7])] q43 (sc (sp B2) (.cons qJ .nil)) ?_
   refine qM kr fun vs ls H44 E44 st hE=>?_
   have b45:=eo st hE 30 (.agg [.flt .f32 x2,S2])
   have B3:=es st hE [(30,.agg [.flt .f32 x2,S2]),(29,.agg [.flt .f32 x,S35]),(2,.ptr p7 0),(3,.ptr p11 0)]
   have g49:Grew H36 H44:=(gk st)
   have g50:=Grew.trans g40 g49
   have r51:=g49.at r41
   have r52:=g49.at r42
   have s53:=sS35.grew g49
   refine pG (free:=false) (d:=(some 31)) (f:=6) (args:=[.tmp 30]) kr (R:=fun z H'=>Grew H44 H' /\ ∃ S',z=.agg [.flt .f32 x2,S']/\SlW H' 9 ms2 S'/\FreshS H44.next S') ?_ ?_
   ·show qK _ _ [E44 30] _ _
    rw [b45]
    exact vD H44 x2 hx2 ms2 hr2 S2 (hS2.grew g50) mxms2
   rintro z H55 ⟨gS54,S54,rfl,sS54,fS54⟩
   refine⟨gS54,?_⟩
   have ne56:ApartL (S54) p7:=fS54.apartL (H44.lt_of_get r51)
   have ne57:ApartL (S54) p11:=fS54.apartL (H44.lt_of_get r52)
   have ne58:ApartS (S54) (S35):=fS54.apartS s53.lt
   have fr59:FreshS H.next (S54):=fS54.mono g50.next
   have g60:=Grew.trans g50 gS54
   have r61:=gS54.at r51
   have r62:=gS54.at r52
   have s63:=s53.grew gS54
   have q64:=q43.app (kL:KdsL [.one] [S54])
   refine rC 2 0 [wf p7 [nF 0,n1 1],wf p11 [nF 2,n1 3]] [(30,.agg [nF 2,n1 3]),(29,.agg [nF 0,n1 7]),(2,.ptr 0 0),(3,.ptr 1 0),(31,.agg [nF 2,n1 8])] q64 (sc (sp B3) (.cons qJ .nil)) ?_
   refine qM kr fun vs ls H65 E65 st hE=>?_
   have b66:=eo st hE 29 (.agg [.flt .f32 x,S35])
   have b67:=eo st hE 31 (.agg [.flt .f32 x2,S54])
   have B4:=es st hE [(29,.agg [.flt .f32 x,S35]),(31,.agg [.flt .f32 x2,S54]),(2,.ptr p7 0),(3,.ptr p11 0)]
   have g70:Grew H55 H65:=(gk st)
   have g71:=Grew.trans g60 g70
   have r72:=g70.at r61
   have r73:=g70.at r62
   have s74:=s63.grew g70
   have s75:=sS54.grew g70
   refine pG (free:=false) (d:=(some 32)) (f:=5) (args:=[.tmp 29,.tmp 31]) kr (R:=fun z H'=>Grew H65 H' /\ ∃ S',z=.tuple [S',.int .i64 c]/\SlW H' 3 L S'/\FreshS H65.next S') ?_ ?_
   ·show qK _ _ [E65 29,E65 31] _ _
    rw [b66,b67]
    exact(by have h9:=qCW H65 x hx ms hr (S35) s74.toL mxms x2 hx2 ms2 hr2 (S54) s75.toL mxms2;rw [hV] at h9;exact h9.mono fun r H' ⟨g,S',e,s,f⟩=>⟨g,S',e,s.toW,f⟩)
   rintro z H76 ⟨gH76,S77,rfl,sS77,fS77⟩
   refine⟨gH76,?_⟩
   have ne78:ApartL (S77) p7:=fS77.apartL (H65.lt_of_get r72)
   have ne79:ApartL (S77) p11:=fS77.apartL (H65.lt_of_get r73)
   have ne80:ApartS (S77) (S35):=fS77.apartS s74.lt
   have ne81:ApartS (S77) (S54):=fS77.apartS s75.lt
   have fr82:FreshS H.next (S77):=fS77.mono g71.next
   have g83:=Grew.trans g71 gH76
   have r84:=gH76.at r72
   have r85:=gH76.at r73
   have s86:=s74.grew gH76
   have s87:=s75.grew gH76
   have q88:=q64.app (kL:KdsL [.one] [S77])
   refine rC 2 0 [wf p7 [nF 0,n1 1],wf p11 [nF 2,n1 3]] [(29,.agg [nF 0,n1 7]),(31,.agg [nF 2,n1 8]),(2,.ptr 0 0),(3,.ptr 1 0),(32,.tup [n1 9,nI 4])] q88 (sc (sp B4) (.cons qJ .nil)) ?_
   refine qM kr fun vs ls H89 E89 st hE=>?_
   have b90:=eo st hE 35 (.agg [.flt .f32 x,S])
   have B5:=es st hE [(35,.agg [.flt .f32 x,S]),(3,.ptr p11 0),(6,S77),(7,.int .i64 c),(2,.ptr p7 0)]
   have g95:Grew H76 H89:=(gk st)
   have g96:=Grew.trans g83 g95
   have r97:=g95.at r84
   have r98:=g95.at r85
   have s99:=s86.grew g95
   have s100:=s87.grew g95
   have s101:=sS77.grew g95
   refine qR (d:=(some 36)) (f:=6) (args:=[.tmp 35]) kr (R:=fun z H'=>Grew H89 H' /\ ∃ S',z=.agg [.flt .f32 x,S']/\SlW H' 9 ms S'/\FreshS H89.next S') ?_ ?_
   ·show qK _ _ [E89 35] _ _
    rw [b90]
    exact vD H89 x hx ms hr S (hS.grew g96) mxms
   rintro z H103 ⟨gS102,S102,rfl,sS102,fS102⟩
   have ne104:ApartL (S102) p7:=fS102.apartL (H89.lt_of_get r97)
   have ne105:ApartL (S102) p11:=fS102.apartL (H89.lt_of_get r98)
   have ne106:ApartS (S102) (S35):=fS102.apartS s99.lt
   have ne107:ApartS (S102) (S54):=fS102.apartS s100.lt
   have ne108:ApartS (S102) (S77):=fS102.apartS s101.lt
   have fr109:FreshS H.next (S102):=fS102.mono g96.next
   have g110:=Grew.trans g96 gS102
   have r111:=gS102.at r97
   have r112:=gS102.at r98
   have s113:=s99.grew gS102
   have s114:=s100.grew gS102
   have s115:=s101.grew gS102
   have q116:=q88.app (kL:KdsL [.one] [S102])
   refine rC 2 0 [wf p7 [nF 0,n1 1],wf p11 [nF 2,n1 3]] [(35,.agg [nF 0,n1 1]),(3,.ptr 1 0),(6,n1 9),(7,nI 4),(2,.ptr 0 0),(36,.agg [nF 0,n1 10])] q116 (sc (sp B5) (.cons qJ .nil)) ?_
   refine qM kr fun vs ls H117 E117 st hE=>?_
   obtain⟨p118,e119,r120,n121⟩:=pO st hE 8 2 [.flt .f32 x,S102]
   have op118:H.next<=p118:=Nat.le_trans g110.next (oM n121)
   have ne122:=apn r111 (oM n121)
   have ne123:=apn r112 (oM n121)
   have ne124:ApartL (S35) p118:=s113.apart_new (oM n121)
   have ne125:ApartL (S54) p118:=s114.apart_new (oM n121)
   have ne126:ApartL (S77) p118:=s115.apart_new (oM n121)
   have ne127:ApartL (S102) p118:=sS102.apart_new (oM n121)
   have b128:=eo st hE 37 (.agg [.flt .f32 x2,S2])
   have B6:=es st hE [(37,.agg [.flt .f32 x2,S2]),(6,S77),(7,.int .i64 c),(2,.ptr p7 0),(3,.ptr p11 0)]
   have g133:Grew H103 H117:=(gk st)
   have g134:=Grew.trans g110 g133
   have r135:=g133.at r111
   have r136:=g133.at r112
   have s137:=s113.grew g133
   have s138:=s114.grew g133
   have s139:=s115.grew g133
   have s140:=sS102.grew g133
   refine qR (d:=(some 38)) (f:=6) (args:=[.tmp 37]) kr (R:=fun z H'=>Grew H117 H' /\ ∃ S',z=.agg [.flt .f32 x2,S']/\SlW H' 9 ms2 S'/\FreshS H117.next S') ?_ ?_
   ·show qK _ _ [E117 37] _ _
    rw [b128]
    exact vD H117 x2 hx2 ms2 hr2 S2 (hS2.grew g134) mxms2
   rintro z H142 ⟨gS141,S141,rfl,sS141,fS141⟩
   have ne143:ApartL (S141) p7:=fS141.apartL (H117.lt_of_get r135)
   have ne144:ApartL (S141) p11:=fS141.apartL (H117.lt_of_get r136)
   have ne145:ApartL (S141) p118:=fS141.apartL (H117.lt_of_get r120)
   have ne146:ApartS (S141) (S35):=fS141.apartS s137.lt
   have ne147:ApartS (S141) (S54):=fS141.apartS s138.lt
   have ne148:ApartS (S141) (S77):=fS141.apartS s139.lt
   have ne149:ApartS (S141) (S102):=fS141.apartS s140.lt
   have fr150:FreshS H.next (S141):=fS141.mono g134.next
   have g151:=Grew.trans g134 gS141
   have r152:=gS141.at r135
   have r153:=gS141.at r136
   have r154:=gS141.at r120
   have s155:=s137.grew gS141
   have s156:=s138.grew gS141
   have s157:=s139.grew gS141
   have s158:=s140.grew gS141
   have q159:=q116.app (kL:KdsL [.one] [S141])
   refine rC 3 0 [wf p7 [nF 0,n1 1],wf p11 [nF 2,n1 3],wf p118 [nF 0,n1 10]] [(37,.agg [nF 2,n1 3]),(6,n1 9),(7,nI 4),(2,.ptr 0 0),(3,.ptr 1 0),(8,.ptr 2 0),(38,.agg [nF 2,n1 11])] q159 (sc (sp B6) (.cons (zL rfl e119) (.cons qJ .nil))) ?_
   refine qM kr fun vs ls H160 E160 st hE=>?_
   obtain⟨p161,e162,r163,n164⟩:=pO st hE 9 3 [.flt .f32 x2,S141]
   have op161:H.next<=p161:=Nat.le_trans g151.next (oM n164)
   have ne165:=apn r152 (oM n164)
   have ne166:=apn r153 (oM n164)
   have ne167:=apn r154 (oM n164)
   have ne168:ApartL (S35) p161:=s155.apart_new (oM n164)
   have ne169:ApartL (S54) p161:=s156.apart_new (oM n164)
   have ne170:ApartL (S77) p161:=s157.apart_new (oM n164)
   have ne171:ApartL (S102) p161:=s158.apart_new (oM n164)
   have ne172:ApartL (S141) p161:=sS141.apart_new (oM n164)
   have b173:=eo st hE 40 (.agg [.flt .f32 x,S102])
   have b174:=eo st hE 41 (.agg [.flt .f32 x2,S141])
   have B7:=es st hE [(40,.agg [.flt .f32 x,S102]),(41,.agg [.flt .f32 x2,S141]),(6,S77),(7,.int .i64 c),(8,.ptr p118 0),(2,.ptr p7 0),(3,.ptr p11 0)]
   have g180:Grew H142 H160:=(gk st)
   have g181:=Grew.trans g151 g180
   have r182:=g180.at r152
   have r183:=g180.at r153
   have r184:=g180.at r154
   have s185:=s155.grew g180
   have s186:=s156.grew g180
   have s187:=s157.grew g180
   have s188:=s158.grew g180
   have s189:=sS141.grew g180
   refine qR (d:=(some 42)) (f:=7) (args:=[.tmp 40,.tmp 41]) kr (R:=fun z H'=>Grew H160 H' /\ ∃ S',z=.tuple [S',.int .i64 c]/\SlW H' 3 L S'/\FreshS H160.next S') ?_ ?_
   ·show qK _ _ [E160 40,E160 41] _ _
    rw [b173,b174]
    exact(by have h9:=kJ H160 x hx ms hr (S102) s188.toL mxms x2 hx2 ms2 hr2 (S141) s189.toL mxms2;rw [hV] at h9;exact h9.mono fun r H' ⟨g,S',e,s,f⟩=>⟨g,S',e,s.toW,f⟩)
   rintro z H190 ⟨gH190,S191,rfl,sS191,fS191⟩
   have ne192:ApartL (S191) p7:=fS191.apartL (H160.lt_of_get r182)
   have ne193:ApartL (S191) p11:=fS191.apartL (H160.lt_of_get r183)
   have ne194:ApartL (S191) p118:=fS191.apartL (H160.lt_of_get r184)
   have ne195:ApartL (S191) p161:=fS191.apartL (H160.lt_of_get r163)
   have ne196:ApartS (S191) (S35):=fS191.apartS s185.lt
   have ne197:ApartS (S191) (S54):=fS191.apartS s186.lt
   have ne198:ApartS (S191) (S77):=fS191.apartS s187.lt
   have ne199:ApartS (S191) (S102):=fS191.apartS s188.lt
   have ne200:ApartS (S191) (S141):=fS191.apartS s189.lt
   have fr201:FreshS H.next (S191):=fS191.mono g181.next
   have g202:=Grew.trans g181 gH190
   have r203:=gH190.at r182
   have r204:=gH190.at r183
   have r205:=gH190.at r184
   have r206:=gH190.at r163
   have s207:=s185.grew gH190
   have s208:=s186.grew gH190
   have s209:=s187.grew gH190
   have s210:=s188.grew gH190
   have s211:=s189.grew gH190
   have q212:=q159.app (kL:KdsL [.one] [S191])
   refine rD 4 0 [(.call 8 [n1 12,n1 9],.lit (.bool true))] [wf p7 [nF 0,n1 1],wf p11 [nF 2,n1 3],wf p118 [nF 0,n1 10],wf p161 [nF 2,n1 11]] [(40,.agg [nF 0,n1 10]),(41,.agg [nF 2,n1 11]),(6,n1 9),(7,nI 4),(8,.ptr 2 0),(2,.ptr 0 0),(3,.ptr 1 0),(9,.ptr 3 0),(42,.tup [n1 12,nI 4])] q212 (.cons (qI (args:=[S191,S77]) (dL q212) (dE q212) (fun H9 hk=>cW H9 L hL _ _ ((sS191.grew (hk.grew (Nat.le_refl _)))).toL ((s209.grew (hk.grew (Nat.le_refl _)))).toL (qHE mxL))) .nil) (sc (sp B7) (.cons (zL rfl e162) (.cons qJ .nil))) ?_
   refine qM kr fun vs ls H213 E213 st hE=>?_
   have b214:=eo st hE 55 (.agg [.flt .f32 x,S])
   have B8:=es st hE [(55,.agg [.flt .f32 x,S]),(54,.agg [.flt .f32 x,S102]),(9,.ptr p161 0),(3,.ptr p11 0),(8,.ptr p118 0),(10,S191),(6,S77),(11,.int .i64 c),(7,.int .i64 c),(2,.ptr p7 0)]
   have g224:Grew H190 H213:=(gk st)
   have g225:=Grew.trans g202 g224
   have r226:=g224.at r203
   have r227:=g224.at r204
   have r228:=g224.at r205
   have r229:=g224.at r206
   have s230:=s207.grew g224
   have s231:=s208.grew g224
   have s232:=s209.grew g224
   have s233:=s210.grew g224
   have s234:=s211.grew g224
   have s235:=sS191.grew g224
   refine pG (free:=false) (d:=(some 56)) (f:=6) (args:=[.tmp 55]) kr (R:=fun z H'=>Grew H213 H' /\ ∃ S',z=.agg [.flt .f32 x,S']/\SlW H' 9 ms S'/\FreshS H213.next S') ?_ ?_
   ·show qK _ _ [E213 55] _ _
    rw [b214]
    exact vD H213 x hx ms hr S (hS.grew g225) mxms
   rintro z H237 ⟨gS236,S236,rfl,sS236,fS236⟩
   refine⟨gS236,?_⟩
   have ne238:ApartL (S236) p7:=fS236.apartL (H213.lt_of_get r226)
   have ne239:ApartL (S236) p11:=fS236.apartL (H213.lt_of_get r227)
   have ne240:ApartL (S236) p118:=fS236.apartL (H213.lt_of_get r228)
   have ne241:ApartL (S236) p161:=fS236.apartL (H213.lt_of_get r229)
   have ne242:ApartS (S236) (S35):=fS236.apartS s230.lt
   have ne243:ApartS (S236) (S54):=fS236.apartS s231.lt
   have ne244:ApartS (S236) (S77):=fS236.apartS s232.lt
   have ne245:ApartS (S236) (S102):=fS236.apartS s233.lt
   have ne246:ApartS (S236) (S141):=fS236.apartS s234.lt
   have ne247:ApartS (S236) (S191):=fS236.apartS s235.lt
   have fr248:FreshS H.next (S236):=fS236.mono g225.next
   have g249:=Grew.trans g225 gS236
   have r250:=gS236.at r226
   have r251:=gS236.at r227
   have r252:=gS236.at r228
   have r253:=gS236.at r229
   have s254:=s230.grew gS236
   have s255:=s231.grew gS236
   have s256:=s232.grew gS236
   have s257:=s233.grew gS236
   have s258:=s234.grew gS236
   have s259:=s235.grew gS236
   have q260:=q212.app (kL:KdsL [.one] [S236])
   refine rD 4 0 [(.call 9 [.agg [nF 0,n1 10],.agg [nF 0,n1 13]],.lit (.bool true))] [wf p7 [nF 0,n1 1],wf p11 [nF 2,n1 3],wf p118 [nF 0,n1 10],wf p161 [nF 2,n1 11]] [(55,.agg [nF 0,n1 1]),(54,.agg [nF 0,n1 10]),(9,.ptr 3 0),(3,.ptr 1 0),(8,.ptr 2 0),(10,n1 12),(6,n1 9),(11,nI 4),(7,nI 4),(2,.ptr 0 0),(56,.agg [nF 0,n1 13])] q260 (.cons (qI (args:=[.agg [.flt .f32 x,S102],.agg [.flt .f32 x,S236]]) (dL q260) (dE q260) (fun H9 hk=>qBo H9 x hx ms hr _ _ ((s257.grew (hk.grew (Nat.le_refl _)))).toL ((sS236.grew (hk.grew (Nat.le_refl _)))).toL (qHE mxms))) .nil) (sc (sp B8) (.cons qJ .nil)) ?_
   refine qM kr fun vs ls H261 E261 st hE=>?_
   have b262:=eo st hE 60 (.agg [.flt .f32 x2,S2])
   have B9:=es st hE [(60,.agg [.flt .f32 x2,S2]),(59,.agg [.flt .f32 x2,S141]),(8,.ptr p118 0),(9,.ptr p161 0),(10,S191),(6,S77),(11,.int .i64 c),(7,.int .i64 c),(2,.ptr p7 0),(3,.ptr p11 0)]
   have g272:Grew H237 H261:=(gk st)
   have g273:=Grew.trans g249 g272
   have r274:=g272.at r250
   have r275:=g272.at r251
   have r276:=g272.at r252
   have r277:=g272.at r253
   have s278:=s254.grew g272
   have s279:=s255.grew g272
   have s280:=s256.grew g272
   have s281:=s257.grew g272
   have s282:=s258.grew g272
   have s283:=s259.grew g272
   have s284:=sS236.grew g272
   refine pG (free:=false) (d:=(some 61)) (f:=6) (args:=[.tmp 60]) kr (R:=fun z H'=>Grew H261 H' /\ ∃ S',z=.agg [.flt .f32 x2,S']/\SlW H' 9 ms2 S'/\FreshS H261.next S') ?_ ?_
   ·show qK _ _ [E261 60] _ _
    rw [b262]
    exact vD H261 x2 hx2 ms2 hr2 S2 (hS2.grew g273) mxms2
   rintro z H286 ⟨gS285,S285,rfl,sS285,fS285⟩
   refine⟨gS285,?_⟩
   have ne287:ApartL (S285) p7:=fS285.apartL (H261.lt_of_get r274)
   have ne288:ApartL (S285) p11:=fS285.apartL (H261.lt_of_get r275)
   have ne289:ApartL (S285) p118:=fS285.apartL (H261.lt_of_get r276)
   have ne290:ApartL (S285) p161:=fS285.apartL (H261.lt_of_get r277)
   have ne291:ApartS (S285) (S35):=fS285.apartS s278.lt
   have ne292:ApartS (S285) (S54):=fS285.apartS s279.lt
   have ne293:ApartS (S285) (S77):=fS285.apartS s280.lt
   have ne294:ApartS (S285) (S102):=fS285.apartS s281.lt
   have ne295:ApartS (S285) (S141):=fS285.apartS s282.lt
   have ne296:ApartS (S285) (S191):=fS285.apartS s283.lt
   have ne297:ApartS (S285) (S236):=fS285.apartS s284.lt
   have fr298:FreshS H.next (S285):=fS285.mono g273.next
   have g299:=Grew.trans g273 gS285
   have r300:=gS285.at r274
   have r301:=gS285.at r275
   have r302:=gS285.at r276
   have r303:=gS285.at r277
   have s304:=s278.grew gS285
   have s305:=s279.grew gS285
   have s306:=s280.grew gS285
   have s307:=s281.grew gS285
   have s308:=s282.grew gS285
   have s309:=s283.grew gS285
   have s310:=s284.grew gS285
   have q311:=q260.app (kL:KdsL [.one] [S285])
   refine rD 4 0 [(.call 9 [.agg [nF 2,n1 11],.agg [nF 2,n1 14]],.lit (.bool true))] [wf p7 [nF 0,n1 1],wf p11 [nF 2,n1 3],wf p118 [nF 0,n1 10],wf p161 [nF 2,n1 11]] [(60,.agg [nF 2,n1 3]),(59,.agg [nF 2,n1 11]),(8,.ptr 2 0),(9,.ptr 3 0),(10,n1 12),(6,n1 9),(11,nI 4),(7,nI 4),(2,.ptr 0 0),(3,.ptr 1 0),(61,.agg [nF 2,n1 14])] q311 (.cons (qI (args:=[.agg [.flt .f32 x2,S141],.agg [.flt .f32 x2,S285]]) (dL q311) (dE q311) (fun H9 hk=>qBo H9 x2 hx2 ms2 hr2 _ _ ((s308.grew (hk.grew (Nat.le_refl _)))).toL ((sS285.grew (hk.grew (Nat.le_refl _)))).toL (qHE mxms2))) .nil) (sc (sp B9) (.cons qJ .nil)) ?_
   refine qM kr fun vs ls H312 E312 st hE=>?_
   have b313:=eo st hE 64 (.agg [.flt .f32 x,S102])
   have b314:=eo st hE 65 (.int .i64 1)
   have B10:=es st hE [(64,.agg [.flt .f32 x,S102]),(65,.int .i64 1),(9,.ptr p161 0),(12,.int .i64 1),(10,S191),(6,S77),(11,.int .i64 c),(7,.int .i64 c),(2,.ptr p7 0),(3,.ptr p11 0)]
   have g323:Grew H286 H312:=(gk st)
   have g324:=Grew.trans g299 g323
   have r325:=g323.at r300
   have r326:=g323.at r301
   have r328:=g323.at r303
   have s329:=s304.grew g323
   have s330:=s305.grew g323
   have s331:=s306.grew g323
   have s332:=s307.grew g323
   have s333:=s308.grew g323
   have s334:=s309.grew g323
   have s335:=s310.grew g323
   have s336:=sS285.grew g323
   refine qR (d:=(some 66)) (f:=10) (args:=[.tmp 64,.tmp 65]) kr (R:=fun z H'=>z=.int .i64 (1+9 * (ms.length:Int))/\OnlyS S102 H312 H'/\SlW H' 9 (xY 1 ms.length) S102) ?_ ?_
   ·show qK _ _ [E312 64,E312 65] _ _
    rw [b313,b314]
    exact cF H312 x hx ms hr S102 s332 1 (by decide) (by decide) mxms
   rintro z H337 ⟨rfl,oH337,nH337⟩
   have g338:Grew H H337:=OnlyS.own g324 fr109 oH337
   have r339:=oH337.at r325 am
   have r340:=oH337.at r326 am
   have r341:=oH337.at r328 am
   have s342:=s329.only oH337 (by first | assumption | exact ApartS.symm am)
   have s343:=s330.only oH337 (by first | assumption | exact ApartS.symm am)
   have s344:=s331.only oH337 (by first | assumption | exact ApartS.symm am)
   have s345:=s333.only oH337 (by first | assumption | exact ApartS.symm am)
   have s346:=s334.only oH337 (by first | assumption | exact ApartS.symm am)
   have s347:=s335.only oH337 (by first | assumption | exact ApartS.symm am)
   have s348:=s336.only oH337 (by first | assumption | exact ApartS.symm am)
   have q349:=q311.app (kL:KdsL [KI] [.int .i64 (1+9 * (ms.length:Int))])
   refine rC 3 0 [wf p7 [nF 0,n1 1],wf p11 [nF 2,n1 3],wf p161 [nF 2,n1 11]] [(64,.agg [nF 0,n1 10]),(65,.lit (.int .i64 1)),(9,.ptr 2 0),(12,.lit (.int .i64 1)),(10,n1 12),(6,n1 9),(11,nI 4),(7,nI 4),(2,.ptr 0 0),(3,.ptr 1 0),(66,nI 15)] q349 (sc (sp B10) (.cons qJ .nil)) ?_
   refine qM kr fun vs ls H350 E350 st hE=>?_
   have b351:=eo st hE 67 (.agg [.flt .f32 x2,S141])
   have b352:=eo st hE 68 (.int .i64 (1+9 * (ms.length:Int)))
   have B11:=es st hE [(67,.agg [.flt .f32 x2,S141]),(68,.int .i64 (1+9 * (ms.length:Int))),(12,.int .i64 (1+9 * (ms.length:Int))),(10,S191),(6,S77),(11,.int .i64 c),(7,.int .i64 c),(2,.ptr p7 0),(3,.ptr p11 0)]
   have g360:Grew H337 H350:=(gk st)
   have g361:=Grew.trans g338 g360
   have r362:=g360.at r339
   have r363:=g360.at r340
   have s365:=s342.grew g360
   have s366:=s343.grew g360
   have s367:=s344.grew g360
   have s368:=nH337.grew g360
   have s369:=s345.grew g360
   have s370:=s346.grew g360
   have s371:=s347.grew g360
   have s372:=s348.grew g360
   refine qR (d:=(some 69)) (f:=10) (args:=[.tmp 67,.tmp 68]) kr (R:=fun z H'=>z=.int .i64 ((1+9 * (ms.length:Int))+9 * (ms2.length:Int))/\OnlyS S141 H350 H'/\SlW H' 9 (xY (1+9 * (ms.length:Int)) ms2.length) S141) ?_ ?_
   ·show qK _ _ [E350 67,E350 68] _ _
    rw [b351,b352]
    exact cF H350 x2 hx2 ms2 hr2 S141 s369 (1+9 * (ms.length:Int)) om om mxms2
   rintro z H373 ⟨rfl,oH373,nH373⟩
   have g374:Grew H H373:=OnlyS.own g361 fr150 oH373
   have r375:=oH373.at r362 am
   have r376:=oH373.at r363 am
   have s377:=s365.only oH373 (by first | assumption | exact ApartS.symm am)
   have s378:=s366.only oH373 (by first | assumption | exact ApartS.symm am)
   have s379:=s367.only oH373 (by first | assumption | exact ApartS.symm am)
   have s380:=s368.only oH373 (by first | assumption | exact ApartS.symm am)
   have s381:=s370.only oH373 (by first | assumption | exact ApartS.symm am)
   have s382:=s371.only oH373 (by first | assumption | exact ApartS.symm am)
   have s383:=s372.only oH373 (by first | assumption | exact ApartS.symm am)
   have q384:=q349.app (kL:KdsL [KI] [.int .i64 ((1+9 * (ms.length:Int))+9 * (ms2.length:Int))])
   refine rD 2 0 [(.call 8 [n1 12,n1 9],.lit (.bool true))] [wf p7 [nF 0,n1 1],wf p11 [nF 2,n1 3]] [(67,.agg [nF 2,n1 11]),(68,nI 15),(12,nI 15),(10,n1 12),(6,n1 9),(11,nI 4),(7,nI 4),(2,.ptr 0 0),(3,.ptr 1 0),(69,nI 16)] q384 (.cons (qI (args:=[S191,S77]) (dL q384) (dE q384) (fun H9 hk=>cW H9 L hL _ _ ((s381.grew (hk.grew (Nat.le_refl _)))).toL ((s379.grew (hk.grew (Nat.le_refl _)))).toL (qHE mxL))) .nil) (sc (sp B11) (.cons qJ .nil)) ?_
   refine vI kr ?_ ?_
   ·intro vs ls H385 E385 st hE
    have f386:((1+9 * (ms.length:Int))+9 * (ms2.length:Int)) < 0:=dt st 0
    exact absurd f386 om
   ·intro vs ls H387 E387 st hE
    have f388:¬ (((1+9 * (ms.length:Int))+9 * (ms2.length:Int)) < 0):=df st 0
    have b389:=eo st hE 83 S191
    have b390:=eo st hE 84 (.int .i64 1)
    have B12:=es st hE [(83,S191),(84,.int .i64 1),(10,S191),(13,.int .i64 1),(2,.ptr p7 0),(3,.ptr p11 0),(6,S77),(7,.int .i64 c)]
    have g397:Grew H373 H387:=(gk st)
    have g398:=Grew.trans g374 g397
    have r399:=g397.at r375
    have r400:=g397.at r376
    have s401:=s377.grew g397
    have s402:=s378.grew g397
    have s403:=s379.grew g397
    have s404:=s380.grew g397
    have s405:=nH373.grew g397
    have s406:=s381.grew g397
    have s407:=s382.grew g397
    have s408:=s383.grew g397
    refine qR (d:=(some 85)) (f:=11) (args:=[.tmp 83,.tmp 84]) kr (R:=fun z H'=>z=.int .i64 (1+3 * (L.length:Int))/\OnlyS S191 H387 H'/\SlW H' 3 (jW 1 L.length) S191) ?_ ?_
    ·show qK _ _ [E387 83,E387 84] _ _
     rw [b389,b390]
     exact qEx H387 L hL S191 s406 1 (by decide) (by decide) mxL
    rintro z H409 ⟨rfl,oH409,nH409⟩
    have g410:Grew H H409:=OnlyS.own g398 fr201 oH409
    have r411:=oH409.at r399 am
    have r412:=oH409.at r400 am
    have s413:=s401.only oH409 (by first | assumption | exact ApartS.symm am)
    have s414:=s402.only oH409 (by first | assumption | exact ApartS.symm am)
    have s415:=s403.only oH409 (by first | assumption | exact ApartS.symm am)
    have s416:=s404.only oH409 (by first | assumption | exact ApartS.symm am)
    have s417:=s405.only oH409 (by first | assumption | exact ApartS.symm am)
    have s418:=s407.only oH409 (by first | assumption | exact ApartS.symm am)
    have s419:=s408.only oH409 (by first | assumption | exact ApartS.symm am)
    have q420:=q384.app (kL:KdsL [KI] [.int .i64 (1+3 * (L.length:Int))])
    refine rD 2 0 [(.call 12 [n1 12,.lit (.int .i64 1)],nI 17)] [wf p7 [nF 0,n1 1],wf p11 [nF 2,n1 3]] [(83,n1 12),(84,.lit (.int .i64 1)),(10,n1 12),(13,.lit (.int .i64 1)),(2,.ptr 0 0),(3,.ptr 1 0),(6,n1 9),(7,nI 4),(85,nI 17)] q420 (.cons (qI (args:=[S191,.int .i64 1]) (r:=.int .i64 (1+3 * (L.length:Int))) (dL q420) (dE q420) (fun H9 hk=>qAr H9 1 L.length S191 ((nH409.grew (hk.grew (Nat.le_refl _)))).toL (by decide) (by decide) mxL)) .nil) (sc (sp B12) (.cons qJ .nil)) ?_
    refine vI kr ?_ ?_
    ·intro vs ls H421 E421 st hE
     have f422:(1+3 * (L.length:Int)) < 0:=dt st 0
     exact absurd f422 om
    ·intro vs ls H423 E423 st hE
     have f424:¬ ((1+3 * (L.length:Int)) < 0):=df st 0
     have b425:=eo st hE 95 (.agg [.flt .f32 x,S])
     have B13:=es st hE [(95,.agg [.flt .f32 x,S]),(97,.agg [.flt .f32 x2,S2]),(6,S77),(7,.int .i64 c),(10,S191),(14,.int .i64 (1+3 * (L.length:Int))),(13,.int .i64 (1+3 * (L.length:Int)))]
     have g432:Grew H409 H423:=(gk st)
     have g433:=Grew.trans g410 g432
     have s436:=s413.grew g432
     have s437:=s414.grew g432
     have s438:=s415.grew g432
     have s439:=s416.grew g432
     have s440:=s417.grew g432
     have s441:=nH409.grew g432
     have s442:=s418.grew g432
     have s443:=s419.grew g432
     refine pG (free:=false) (d:=(some 96)) (f:=6) (args:=[.tmp 95]) kr (R:=fun z H'=>Grew H423 H' /\ ∃ S',z=.agg [.flt .f32 x,S']/\SlW H' 9 ms S'/\FreshS H423.next S') ?_ ?_
     ·show qK _ _ [E423 95] _ _
      rw [b425]
      exact vD H423 x hx ms hr S (hS.grew g433) mxms
     rintro z H445 ⟨gS444,S444,rfl,sS444,fS444⟩
     refine⟨gS444,?_⟩
     have ne446:ApartS (S444) (S35):=fS444.apartS s436.lt
     have ne447:ApartS (S444) (S54):=fS444.apartS s437.lt
     have ne448:ApartS (S444) (S77):=fS444.apartS s438.lt
     have ne449:ApartS (S444) (S102):=fS444.apartS s439.lt
     have ne450:ApartS (S444) (S141):=fS444.apartS s440.lt
     have ne451:ApartS (S444) (S191):=fS444.apartS s441.lt
     have ne452:ApartS (S444) (S236):=fS444.apartS s442.lt
     have ne453:ApartS (S444) (S285):=fS444.apartS s443.lt
     have fr454:FreshS H.next (S444):=fS444.mono g433.next
     have g455:=Grew.trans g433 gS444
     have s456:=s436.grew gS444
     have s457:=s437.grew gS444
     have s458:=s438.grew gS444
     have s459:=s439.grew gS444
     have s460:=s440.grew gS444
     have s461:=s441.grew gS444
     have s462:=s442.grew gS444
     have s463:=s443.grew gS444
     have q464:=q420.app (kL:KdsL [.one] [S444])
     refine rC 0 0 [] [(95,.agg [nF 0,n1 1]),(97,.agg [nF 2,n1 3]),(6,n1 9),(7,nI 4),(10,n1 12),(14,nI 17),(13,nI 17),(96,.agg [nF 0,n1 18])] q464 (sc (sp B13) (.cons qJ .nil)) ?_
     refine qM kr fun vs ls H465 E465 st hE=>?_
     have b466:=eo st hE 97 (.agg [.flt .f32 x2,S2])
     have B14:=es st hE [(97,.agg [.flt .f32 x2,S2]),(96,.agg [.flt .f32 x,S444]),(6,S77),(7,.int .i64 c),(10,S191),(14,.int .i64 (1+3 * (L.length:Int))),(13,.int .i64 (1+3 * (L.length:Int)))]
     have g473:Grew H445 H465:=(gk st)
     have g474:=Grew.trans g455 g473
     have s475:=s456.grew g473
     have s476:=s457.grew g473
     have s477:=s458.grew g473
     have s478:=s459.grew g473
     have s479:=s460.grew g473
     have s480:=s461.grew g473
     have s481:=s462.grew g473
     have s482:=s463.grew g473
     have s483:=sS444.grew g473
     refine pG (free:=false) (d:=(some 98)) (f:=6) (args:=[.tmp 97]) kr (R:=fun z H'=>Grew H465 H' /\ ∃ S',z=.agg [.flt .f32 x2,S']/\SlW H' 9 ms2 S'/\FreshS H465.next S') ?_ ?_
     ·show qK _ _ [E465 97] _ _
      rw [b466]
      exact vD H465 x2 hx2 ms2 hr2 S2 (hS2.grew g474) mxms2
     rintro z H485 ⟨gS484,S484,rfl,sS484,fS484⟩
     refine⟨gS484,?_⟩
     have ne486:ApartS (S484) (S35):=fS484.apartS s475.lt
     have ne487:ApartS (S484) (S54):=fS484.apartS s476.lt
     have ne488:ApartS (S484) (S77):=fS484.apartS s477.lt
     have ne489:ApartS (S484) (S102):=fS484.apartS s478.lt
     have ne490:ApartS (S484) (S141):=fS484.apartS s479.lt
     have ne491:ApartS (S484) (S191):=fS484.apartS s480.lt
     have ne492:ApartS (S484) (S236):=fS484.apartS s481.lt
     have ne493:ApartS (S484) (S285):=fS484.apartS s482.lt
     have ne494:ApartS (S484) (S444):=fS484.apartS s483.lt
     have fr495:FreshS H.next (S484):=fS484.mono g474.next
     have g496:=Grew.trans g474 gS484
     have s497:=s475.grew gS484
     have s498:=s476.grew gS484
     have s499:=s477.grew gS484
     have s500:=s478.grew gS484
     have s501:=s479.grew gS484
     have s502:=s480.grew gS484
     have s503:=s481.grew gS484
     have s504:=s482.grew gS484
     have s505:=s483.grew gS484
     have q506:=q464.app (kL:KdsL [.one] [S484])
     refine rC 0 0 [] [(97,.agg [nF 2,n1 3]),(96,.agg [nF 0,n1 18]),(6,n1 9),(7,nI 4),(10,n1 12),(14,nI 17),(13,nI 17),(98,.agg [nF 2,n1 19])] q506 (sc (sp B14) (.cons qJ .nil)) ?_
     refine qM kr fun vs ls H507 E507 st hE=>?_
     have b508:=eo st hE 96 (.agg [.flt .f32 x,S444])
     have b509:=eo st hE 98 (.agg [.flt .f32 x2,S484])
     have B15:=es st hE [(96,.agg [.flt .f32 x,S444]),(98,.agg [.flt .f32 x2,S484]),(6,S77),(7,.int .i64 c),(10,S191),(14,.int .i64 (1+3 * (L.length:Int))),(13,.int .i64 (1+3 * (L.length:Int)))]
     have g515:Grew H485 H507:=(gk st)
     have g516:=Grew.trans g496 g515
     have s517:=s497.grew g515
     have s518:=s498.grew g515
     have s519:=s499.grew g515
     have s520:=s500.grew g515
     have s521:=s501.grew g515
     have s522:=s502.grew g515
     have s523:=s503.grew g515
     have s524:=s504.grew g515
     have s525:=s505.grew g515
     have s526:=sS484.grew g515
     refine pG (free:=false) (d:=(some 99)) (f:=7) (args:=[.tmp 96,.tmp 98]) kr (R:=fun z H'=>Grew H507 H' /\ ∃ S',z=.tuple [S',.int .i64 c]/\SlW H' 3 L S'/\FreshS H507.next S') ?_ ?_
     ·show qK _ _ [E507 96,E507 98] _ _
      rw [b508,b509]
      exact(by have h9:=kJ H507 x hx ms hr (S444) s525.toL mxms x2 hx2 ms2 hr2 (S484) s526.toL mxms2;rw [hV] at h9;exact h9.mono fun r H' ⟨g,S',e,s,f⟩=>⟨g,S',e,s.toW,f⟩)
     rintro z H527 ⟨gH527,S528,rfl,sS528,fS528⟩
     refine⟨gH527,?_⟩
     have ne529:ApartS (S528) (S35):=fS528.apartS s517.lt
     have ne530:ApartS (S528) (S54):=fS528.apartS s518.lt
     have ne531:ApartS (S528) (S77):=fS528.apartS s519.lt
     have ne532:ApartS (S528) (S102):=fS528.apartS s520.lt
     have ne533:ApartS (S528) (S141):=fS528.apartS s521.lt
     have ne534:ApartS (S528) (S191):=fS528.apartS s522.lt
     have ne535:ApartS (S528) (S236):=fS528.apartS s523.lt
     have ne536:ApartS (S528) (S285):=fS528.apartS s524.lt
     have ne537:ApartS (S528) (S444):=fS528.apartS s525.lt
     have ne538:ApartS (S528) (S484):=fS528.apartS s526.lt
     have fr539:FreshS H.next (S528):=fS528.mono g516.next
     have g540:=Grew.trans g516 gH527
     have s543:=s519.grew gH527
     have s546:=s522.grew gH527
     have q551:=q506.app (kL:KdsL [.one] [S528])
     refine rD 0 0 [(.call 8 [n1 20,n1 9],.lit (.bool true)),(.call 12 [n1 12,.lit (.int .i64 1)],nI 17)] [] [(96,.agg [nF 0,n1 18]),(98,.agg [nF 2,n1 19]),(6,n1 9),(7,nI 4),(10,n1 12),(14,nI 17),(13,nI 17),(99,.tup [n1 20,nI 4])] q551 (.cons (qI (args:=[S528,S77]) (dL q551) (dE q551) (fun H9 hk=>cW H9 L hL _ _ ((sS528.grew (hk.grew (Nat.le_refl _)))).toL ((s543.grew (hk.grew (Nat.le_refl _)))).toL (qHE mxL))) (.cons (qI (args:=[S191,.int .i64 1]) (r:=.int .i64 (1+3 * (L.length:Int))) (dL q551) (dE q551) (fun H9 hk=>qAr H9 1 L.length S191 ((s546.grew (hk.grew (Nat.le_refl _)))).toL (by decide) (by decide) mxL)) .nil)) (sc (sp B15) (.cons qJ .nil)) ?_
     refine vI kr ?_ ?_
     ·intro vs ls H552 E552 st hE
      have f553:(1+3 * (L.length:Int)) < 0:=dt st 0
      exact absurd f553 om
     ·intro vs ls H554 E554 st hE
      have f555:¬ ((1+3 * (L.length:Int)) < 0):=df st 0
      exact zF kr (qS st.inn hE (.inr rfl) (a:=.bool true) kr (Nat.le_trans g540.next st.kept.1) rfl)
end Go.Proofs.Ytgjggkgafdnhcaa
