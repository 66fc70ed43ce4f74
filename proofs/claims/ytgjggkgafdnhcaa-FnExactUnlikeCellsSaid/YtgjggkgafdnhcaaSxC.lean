/- Symbolic execution: calls, and what a user of it needs. -/
import Derived.Test.YtgjggkgafdnhcaaSxB
import Derived.Test.YtgjggkgafdnhcaaAbD
set_option linter.unusedVariables false
set_option linter.unusedSimpArgs false
section
namespace Go.Ab
def qAA (P:Program) (tb:List (Nat × AFun)):Prop:=∀ f af,(f,af) ∈ tb->xU P f=some af
theorem qAA.nil {P:Program}:qAA P []:=fun f af h=>by cases h
theorem qAA.cons {P:Program} {f:Nat} {af:AFun} {tb:List (Nat × AFun)} (h:xU P f=some af) (t:qAA P tb):qAA P ((f,af) :: tb):=fun g ag hg=>by
  rcases List.mem_cons.1 hg with e | hg
  · cases e;exact h
  · exact t g ag hg
inductive KdsL:List Kd->List AV->Prop where
  | nil:KdsL [] []
  | cons {k:Kd} {a:AV} {ks:List Kd} {as:List AV} (h:yH k a) (t:KdsL ks as):KdsL (k :: ks) (a :: as)
def qCf (P:Program) (φ:Nat->List AV->AV) (ap:List (Nat × Nat × List Kd × Kd)):Prop:=∀ f g ks kd,(f,g,ks,kd) ∈ ap ->
 (g=0->ks=[.flt .f32]/\kd=.bits /\ ∀ x H,fOk .f32 x->zG P f [.flt .f32 x] H (yK x)) /\
 (g ≠ 0 -> ∀ as H,KdsL ks as->zG P f as H (φ g as)/\yH kd (φ g as))
theorem qCf.nil {P:Program} {φ:Nat->List AV->AV}:qCf P φ []:=fun _ _ _ _ h=>by cases h
theorem qCf.bits {P:Program} {φ:Nat->List AV->AV} {f:Nat} {ap:List (Nat × Nat × List Kd × Kd)} (h:∀ x H,fOk .f32 x->zG P f [.flt .f32 x] H (yK x)) (t:qCf P φ ap):qCf P φ ((f,0,[.flt .f32],.bits) :: ap):=fun f' g ks kd hm=>by
  rcases List.mem_cons.1 hm with e | hm
  · cases e;exact⟨fun _=>⟨rfl,rfl,h⟩,fun hn=>absurd rfl hn⟩
  · exact t f' g ks kd hm
theorem qCf.app {P:Program} {φ:Nat->List AV->AV} {f g:Nat} {ks:List Kd} {kd:Kd} {ap:List (Nat × Nat × List Kd × Kd)} (h:∀ as H,KdsL ks as->zG P f as H (φ (g+1) as)/\yH kd (φ (g+1) as)) (t:qCf P φ ap):qCf P φ ((f,g+1,ks,kd) :: ap):=fun f' g' ks' kd' hm=>by
  rcases List.mem_cons.1 hm with e | hm
  · cases e;exact⟨fun h=>by omega,fun _=>h⟩
  · exact t f' g' ks' kd' hm
section
variable {c:Cx} {s:St} {vs:List AV} {ls:LN} {H:AHeap} {E:Env}
theorem qHq {a b:Kd} {v:AV} (h:qLi a b=true) (hv:yH a v):yH b v:=by
  simp only [qLi,Bool.or_eq_true,Bool.and_eq_true,decide_eq_true_eq] at h
  rcases h with rfl | ⟨rfl,rfl⟩
  · exact hv
  · obtain⟨x,h1,h2,_⟩:=hv;exact⟨x,h1,h2⟩
theorem qAP:∀ {xs:List SV} {as:List AV} {ks:List Kd},DL vs ls xs as->qDV xs ks=true->KdsL ks as/\DL vs [] xs as
 | [],as,[],h,_=>by simp only [DL] at h ⊢;subst h;exact⟨.nil,rfl⟩
 | x :: xs,as,k :: ks,h,e=>by
  simp only [DL] at h ⊢
  obtain⟨a,as',rfl,h1,h2⟩:=h
  simp only [qDV,Bool.and_eq_true] at e
  obtain⟨e1,e2⟩:=e
  split at e1
  ·rename_i k' hk
   obtain⟨g1,g2⟩:=jA h1 hk
   obtain⟨g3,g4⟩:=qAP h2 e2
   exact⟨.cons (qHq e1 g1) g3,a,as',rfl,g2,g4⟩
  ·cases e1
 | [],_,_ :: _,_,e=>by simp [qDV] at e
 | _ :: _,_,[],_,e=>by simp [qDV] at e
theorem qCM {f:Nat} {as:List SV} {g:Nat} {kd:Kd}:∀ {ap:List (Nat × Nat × List Kd × Kd)},qIO f as ap=some (g,kd) -> ∃ ks,(f,g,ks,kd) ∈ ap/\qDV as ks=true
 | [],h=>by cases h
 | (f',g',ks,kd') :: rest,h=>by
  unfold qIO at h
  split at h
  ·rename_i hb
   cases h
   rw [Bool.and_eq_true] at hb
   have:=Nat.eq_of_beq_eq_true hb.1
   subst this
   exact⟨ks,by simp,hb.2⟩
  ·obtain⟨ks',h1,h2⟩:=qCM h
   exact⟨ks',List.mem_cons_of_mem _ h1,h2⟩
theorem uJ {as:List AV}:∀ {xs:List SV} {bs:List AV} (t:Nat),DL vs ls xs bs->(∀ i,as.getD (t+i) .undef=bs.getD i .undef)->zB (yF t xs) vs ls (Env.start as)
 | [],bs,t,h,_=>fun u v e=>by cases e
 | x :: xs,bs,t,h,e=>by
  simp only [DL] at h
  obtain⟨b,bs',rfl,h1,h2⟩:=h
  intro u v hu
  simp only [yF] at hu
  rw [vT] at hu
  split at hu
  ·rename_i ht
   subst ht
   cases hu
   have:=e 0
   simp at this
   show D vs ls x (as.getD u .undef)
   rw [List.getD_eq_getElem?_getD,this];exact h1
  ·exact uJ (t+1) h2 (fun i=>by have:=e (i+1);rw [show t+1+i=t+(i+1) by omega,this];simp) u v hu
theorem qJp (h:In c s vs ls H) (hE:zB s.env vs ls E) {r:ARes} {v:SV} (e:qKA r s=some v):∃ a,r.val E H=some a/\D vs ls v a:=by
 cases r with
 | tmp t=>exact⟨E t,rfl,hE t v e⟩
 | cell t ag n =>
  simp only [qKA] at e
  split at e
  ·rename_i j off hf
   have d1:=hE _ _ hf
   simp only [D] at d1
   obtain⟨l,bs0,hl,ha⟩:=d1
   split at e
   ·rename_i cs wr hh
    obtain⟨l',b',pre,ds,post,wr',k1,k2,k3,k4,_⟩:=h.ok.heap _ _ _ hh
    rw [hl] at k1
    cases k1
    obtain⟨a,ha',hd⟩:=qAV k4 e
    have hw:=qFz (pre:=pre) (post:=post) ha'
    rw [k3] at hw
    exact⟨a,by simp only [ARes.val,ha,k2];exact hw,hd⟩
   ·cases e
  ·cases e
theorem qFL (h:In c s vs ls H) (hE:zB s.env vs ls E):∀ {rs:List ARes} {ws:List SV},qJq s rs=some ws -> ∃ as,qBR E H rs=some as/\DL vs ls ws as
 | [],ws,e=>by cases e;exact⟨[],rfl,by simp only [DL]⟩
 | r :: rs,ws,e=>by
  unfold qJq at e
  split at e
  ·rename_i v us h1 h2
   cases e
   obtain⟨a,g1,g2⟩:=qJp h hE h1
   obtain⟨as,g3,g4⟩:=qFL h hE h2
   exact⟨a :: as,by simp only [qBR,g1,g3],by simp only [DL];exact⟨a,as,rfl,g2,g4⟩⟩
  ·cases e
theorem qFc (h:In c s vs ls H) (hE:zB s.env vs ls E) {rs:List ARes} {v:SV} (e:qGv rs s=some v):∃ a,vN rs E H=some a/\D vs ls v a:=by
 unfold qGv at e
 rw [Option.map_eq_some_iff] at e
 obtain⟨ws,h1,rfl⟩:=e
 obtain⟨as,g1,g2⟩:=qFL h hE h1
 have hs:D vs ls (qLN ws) (tup as):=by
  match ws,as,g2 with
  | [],as,g2=>simp only [DL] at g2;subst g2;simp only [qLN,tup,D,DL];exact⟨[],rfl,rfl⟩
  | [w],as,g2 =>
   simp only [DL] at g2;obtain⟨b,bs,rfl,g3,rfl⟩:=g2;exact g3
  | w :: w' :: ws,as,g2 =>
   have g2':=g2
   simp only [DL] at g2;obtain⟨b,bs,rfl,g3,b',bs',rfl,g4,g5⟩:=g2
   simp only [qLN,tup,D];exact⟨_,rfl,g2'⟩
 exact⟨tup as,qJO g1,hs⟩
theorem qGY {rs:List ARes} {p:Pt × St}:∀ {outs:List (Pt × St)} {ps:List (SV × St × Bool)},qLK rs s outs=some ps->p ∈ outs -> ∃ v e,p.1=.ex e/\(e=.normal \/ e=.ret)/\qGv rs p.2=some v /\
  ((v.flat=true/\s.nl<=p.2.wm/\(v,{ p.2 with env:=s.env,heap:=s.heap,nl:=s.nl,wm:=s.wm },true) ∈ ps) \/ (v,{ p.2 with env:=s.env,wm:=Nat.min s.wm p.2.wm },false) ∈ ps)
 | [],_,_,hp=>by cases hp
 | q :: rest,ps,h,hp=>by
  unfold qLK at h
  split at h
  ·rename_i v ps' hv hps
   have hx:∃ e,q.1=.ex e/\(e=.normal \/ e=.ret)/\qGv rs q.2=some v:=by
    split at hv
    ·rename_i hq;exact⟨.normal,hq,.inl rfl,hv⟩
    ·rename_i hq;exact⟨.ret,hq,.inr rfl,hv⟩
    ·cases hv
   have tail:∀ x,ps=x :: ps'->p ∈ rest -> ∃ v e,p.1=.ex e/\(e=.normal \/ e=.ret)/\qGv rs p.2=some v /\
     ((v.flat=true/\s.nl<=p.2.wm/\(v,{ p.2 with env:=s.env,heap:=s.heap,nl:=s.nl,wm:=s.wm },true) ∈ ps) \/ (v,{ p.2 with env:=s.env,wm:=Nat.min s.wm p.2.wm },false) ∈ ps):=by
    rintro x rfl hm
    obtain⟨v,e,h1,h2,h3,h4⟩:=qGY hps hm
    exact⟨v,e,h1,h2,h3,h4.imp (fun k=>⟨k.1,k.2.1,List.mem_cons_of_mem _ k.2.2⟩) (List.mem_cons_of_mem _)⟩
   obtain⟨e,h1,h2,h3⟩:=hx
   split at h
   ·rename_i hb
    rw [Bool.and_eq_true] at hb
    cases h
    rcases List.mem_cons.1 hp with rfl | hm
    ·exact⟨v,e,h1,h2,h3,.inl ⟨hb.1,Nat.le_of_ble_eq_true hb.2,by simp⟩⟩
    ·exact tail _ rfl hm
   ·cases h
    rcases List.mem_cons.1 hp with rfl | hm
    ·exact⟨v,e,h1,h2,h3,.inr (by simp)⟩
    ·exact tail _ rfl hm
  ·cases h
theorem kB {H Hc:AHeap} {r:AV} {Q:VK} (hn:H.next<=Hc.next) (hQ:Q r Hc):Fin H Hc r Q:=
 ⟨r,Hc,hQ,hn,fun _ μ _ _ hs hR _=>⟨μ,Mu.ext_refl _ _,hs,hR⟩⟩
theorem zG.acalls {P:Program} {f:FuncId} {as:List AV} {r:AV} (h:zG P f as H r) {k:VK} (hk:k r H):qK P f as H k:=
 h.mono (by rintro r' H' ⟨rfl,rfl⟩;exact hk)
theorem qBd {pm:Pm} (hru:pm.ru=c.ru) (hfl:pm.fl=c.fl) (htb:qAA c.P pm.tb) (hap:qCf c.P c.φ pm.ap):∀ d,tF c (wK pm d)
 | d=>by
  have ih:∀ d',d=d'+1->tF c (wK pm d'):=fun d' e=>by subst e;exact qBd hru hfl htb hap d'
  intro f args s vs ls H as ps h ha he
  unfold wK at he
  split at he
  ·rename_i v hv
   cases he
   rw [hru] at hv
   obtain⟨as',r,q1,q2,q3⟩:=h.rules _ _ (qBj hv)
   have e:=h.eqL q1 ha
   subst e
   refine⟨_,List.mem_singleton.2 rfl,vs,ls,H,r,.refl h,q2.mono h.lev h.lel,rfl,fun k hk=>(q3 H h.kept).acalls hk,fun _=>⟨rfl,q3 H h.kept⟩⟩
  ·split at he
   ·-- bits
    rename_i kd hp
    obtain⟨ks,hm,hks⟩:=qCM hp
    obtain⟨hz,_⟩:=hap _ _ _ _ hm
    obtain⟨rfl,rfl,hx⟩:=hz rfl
    split at he
    ·rename_i x hh
     cases he
     obtain⟨g1,g2⟩:=qAP ha hks
     cases g1 with
     | cons g3 g4 =>
      cases g4
      obtain⟨y,rfl,hy⟩:=g3
      simp only [DL] at g2
      obtain⟨_,_,e,g2,rfl⟩:=g2
      cases e
      obtain⟨vs',st,d1,d2⟩:=(vH h.ok (n:=.bits x) (kd:=.bits) (a:=yK y) ⟨y,g2,rfl⟩ ⟨y,rfl,hy⟩).step h
      exact⟨_,List.mem_singleton.2 rfl,vs',ls,H,_,st,d1,d2,fun k hk=>(hx y H hy).acalls hk,fun _=>⟨rfl,hx y H hy⟩⟩
    ·cases he
   ·rename_i g kd hp
    obtain⟨ks,hm,hks⟩:=qCM hp
    obtain⟨_,hz⟩:=hap _ _ _ _ hm
    cases he
    obtain⟨g1,g2⟩:=qAP ha hks
    obtain⟨k1,k2⟩:=hz om as H g1
    obtain⟨vs',st,d1,d2⟩:=(vH h.ok (n:=.app (g+1) args) (kd:=kd) (a:=c.φ (g+1) as) ⟨as,g2,rfl⟩ k2).step h
    exact⟨_,List.mem_singleton.2 rfl,vs',ls,H,_,st,d1,d2,fun k hk=>k1.acalls hk,fun _=>⟨rfl,k1⟩⟩
   ·split at he
    ·cases he
    ·rename_i d'
     split at he
     ·rename_i af haf
      split at he
      ·rename_i hlen
       obtain⟨n,rs,body⟩:=af
       have hf:=htb _ _ (vL haf)
       have h0:In c { s with env:=yF 0 args,wm:=s.nl } vs ls H:=h.env _ _
       have hE0:zB (yF 0 args) vs ls (Env.start as):=uJ 0 ha (fun i=>by rw [Nat.zero_add])
       obtain⟨p,hp,vs1,ls1,H1,E1,g1,g2,g3⟩:=yS (pm:={ pm with un:=1000 }) (ih d' rfl) hru hfl body h0 hE0
       obtain⟨v,e,k1,k2,k3,k4⟩:=qGY he hp
       obtain⟨r,r1,r2⟩:=qFc g1.inn g2 k3
       have hal:as.length<=n:=by rw [<- ha.len];exact hlen
       have hrun:∀ R:VK,Fin H H1 r R->qK c.P f as H R:=by
        intro R hR
        refine acalls hf hal (g3 _ ?_)
        rw [k1]
        rcases k2 with rfl | rfl
        ·exact⟨r,r1,hR⟩
        ·exact⟨r,r1,hR⟩
       rcases k4 with ⟨k5,k6,k7⟩ | k7
       ·have hg:Grew H H1:=g1.kept.grew (by rw [<- h.ok.nl];exact k6)
        obtain⟨d1,d2⟩:=D.flat (ls':=ls) k5 r2
        have hpure:zG c.P f as H r:=hrun _ (uZ hg d2 ⟨rfl,rfl⟩)
        refine⟨_,k7,vs1,ls,H,r,⟨⟨⟨g1.inn.ok.nn,g1.inn.ok.ns,g1.inn.ok.facts,h.ok.nl,h.ok.sep,h.ok.lt,?_⟩,h.lev.trans g1.lev,h.lel,h.kept,h.new,h.rules⟩,g1.lev,LeL.refl _,Nat.le_refl _,Kept.refl _ _ _,fun j l b hj e=>by rw [List.getElem?_eq_none hj] at e;cases e⟩,d1,rfl,fun k hk=>hpure.acalls hk,fun _=>⟨rfl,hpure⟩⟩
        intro j cs wr hj
        obtain⟨l,b,pre,ds,post,wr',a1,a2,a3,a4,a5⟩:=h.ok.heap j cs wr hj
        exact⟨l,b,pre,ds,post,wr',a1,a2,a3,a4.mono g1.lev (LeL.refl _),a5⟩
       ·have st:Step c s vs ls H { p.2 with env:=s.env,wm:=Nat.min s.wm p.2.wm } vs1 ls1 H1:=by
         refine⟨g1.inn.env _ _,g1.lev,g1.lel,Nat.min_le_left _ _,?_,g1.new⟩
         exact⟨g1.kept.1,fun l hl hj=>g1.kept.2 l hl fun j b e=>hj j b (Nat.le_trans (Nat.min_le_right _ _) e)⟩
        exact⟨_,k7,vs1,ls1,H1,r,st,r2,rfl,fun k hk=>hrun _ (kB g1.kept.1 hk),fun e=>by cases e⟩
      ·cases he
     ·cases he
/-! ### From points on -/
theorem qDg {P:Program} {Q:PK}:∀ {fr:List Fr} {o:Pt},(∀ e,o ≠ .ex e)->Res P (fr.foldl (fun o f=>o.push f) o) Q E H=Res P o (zI P fr Q) E H
 | [],o,_=>rfl
 | f :: fr,o,ho=>by
  simp only [List.foldl_cons]
  have hp:∀ e,o.push f ≠ .ex e:=by intro e;cases o <;> simp [Pt.push] <;> exact absurd rfl (ho _)
  rw [qDg hp,gJ ho]
  cases f <;> rfl
theorem qBJ {call:mC} {pm:Pm} (hc:tF c call) (hru:pm.ru=c.ru) (hfl:pm.fl=c.fl):∀ (fr:List Fr) (e:AExit) {s:St} {vs:List AV} {ls:LN} {H:AHeap} {E:Env},In c s vs ls H->zB s.env vs ls E ->
  ∃ p ∈ qAz call pm fr e s,Ends c s vs ls H p.2 fun E' H'=>∀ Q,Res c.P p.1 Q E' H'->zI c.P fr Q e E H
 | [],e,s,vs,ls,H,E,h,hE=>⟨_,List.mem_singleton.2 rfl,.here h hE fun Q hQ=>hQ⟩
 | f :: fr,e,s,vs,ls,H,E,h,hE=>by
  have go:∀ (outs:List (Pt × St)) (a:ACode),(∃ p ∈ outs,Ends c s vs ls H p.2 fun E' H'=>∀ Q,Res c.P p.1 Q E' H'->zM c.P a Q E H) ->
    ∃ p ∈ (outs.map fun p=>match p.1 with
     | .ex e=>qAz call pm fr e p.2
     | o=>[(fr.foldl (fun o f=>o.push f) o,p.2)]).flatten,Ends c s vs ls H p.2 fun E' H'=>∀ Q,Res c.P p.1 Q E' H'->zM c.P a (zI c.P fr Q) E H:=by
   rintro outs a ⟨⟨o,s1⟩,hp,vs',ls',H',E',g1,g2,g3⟩
   have stuck:(∀ e,o ≠ .ex e)->(fr.foldl (fun o f=>o.push f) o,s1) ∈ (match o with
     | .ex e=>qAz call pm fr e s1
     | o=>[(fr.foldl (fun o f=>o.push f) o,s1)]) -> ∃ p ∈ (outs.map fun p=>match p.1 with
     | .ex e=>qAz call pm fr e p.2
     | o=>[(fr.foldl (fun o f=>o.push f) o,p.2)]).flatten,Ends c s vs ls H p.2 fun E' H'=>∀ Q,Res c.P p.1 Q E' H'->zM c.P a (zI c.P fr Q) E H:=by
    intro ho hm
    refine⟨_,xI hp hm,vs',ls',H',E',g1,g2,fun Q hQ=>?_⟩
    rw [qDg ho] at hQ
    exact g3 _ hQ
   cases o with
   | ex e =>
    obtain⟨q,hq,vs2,ls2,H2,E2,k1,k2,k3⟩:=qBJ hc hru hfl fr e g1.inn g2
    exact⟨q,xI hp hq,vs2,ls2,H2,E2,g1.trans k1,k2,fun Q hQ=>g3 _ (k3 Q hQ)⟩
   | ops=>exact stuck (by simp) (List.mem_singleton.2 rfl)
   | mixq=>exact stuck (by simp) (List.mem_singleton.2 rfl)
   | kids=>exact stuck (by simp) (List.mem_singleton.2 rfl)
   | code=>exact stuck (by simp) (List.mem_singleton.2 rfl)
  have skip:∀ e',(∀ Q,zI c.P fr Q e' E H->zI c.P (f :: fr) Q e E H)->qAz call pm (f :: fr) e s=qAz call pm fr e' s -> ∃ p ∈ qAz call pm (f :: fr) e s,Ends c s vs ls H p.2 fun E' H'=>∀ Q,Res c.P p.1 Q E' H'->zI c.P (f :: fr) Q e E H:=by
   intro e' hk heq
   rw [heq]
   obtain⟨q,hq,g⟩:=qBJ hc hru hfl fr e' h hE
   exact⟨q,hq,g.mono fun E' H' k Q hQ=>hk Q (k Q hQ)⟩
  cases f with
  | seq b =>
   cases e with
   | normal =>
    simp only [qAz]
    obtain⟨q,hq,g⟩:=go _ b (yS hc hru hfl b h hE)
    exact⟨q,hq,g.mono fun E' H' k Q hQ=>k Q hQ⟩
   | exit i=>exact skip (.exit i) (fun Q hQ=>hQ) (by simp only [qAz])
   | ret=>exact skip .ret (fun Q hQ=>hQ) (by simp only [qAz])
  | block id =>
   cases e with
   | normal=>exact skip .normal (fun Q hQ=>hQ) (by simp only [qAz])
   | exit i =>
    refine skip (if i=id then .normal else .exit i) (fun Q hQ=>?_) (by simp only [qAz])
    show gN id (zI c.P fr Q) (.exit i) E H
    by_cases hi:i=id
    ·subst hi;rw [if_pos rfl] at hQ;exact qGI hQ
    ·rw [if_neg hi] at hQ;exact qFh hi hQ
   | ret=>exact skip .ret (fun Q hQ=>hQ) (by simp only [qAz])
  | loop a =>
   cases e with
   | normal =>
    simp only [qAz]
    obtain⟨q,hq,g⟩:=go _ (.loop a) (uK (fun h hE=>yS hc hru hfl a h hE) pm.un h hE)
    exact⟨q,hq,g.mono fun E' H' k Q hQ=>k Q hQ⟩
   | exit i=>exact skip (.exit i) (fun Q hQ=>hQ) (by simp only [qAz])
   | ret=>exact skip .ret (fun Q hQ=>hQ) (by simp only [qAz])
theorem qIj {call:mC} {pm:Pm} (hc:tF c call) (hru:pm.ru=c.ru) (hfl:pm.fl=c.fl) (o:Pt) (h:In c s vs ls H) (hE:zB s.env vs ls E) :
  ∃ p ∈ qJL call pm o s,Ends c s vs ls H p.2 fun E' H'=>∀ Q,Res c.P p.1 Q E' H'->Res c.P o Q E H:=by
 have go:∀ (outs:List (Pt × St)) (fr:List Fr) (Ψ:(PK)->Prop),(∃ p ∈ outs,Ends c s vs ls H p.2 fun E' H'=>∀ Q,Res c.P p.1 Q E' H'->Ψ Q) ->
   ∃ p ∈ (outs.map fun p=>match p.1 with
    | .ex e=>qAz call pm fr e p.2
    | o=>[(fr.foldl (fun o f=>o.push f) o,p.2)]).flatten,Ends c s vs ls H p.2 fun E' H'=>∀ Q,Res c.P p.1 Q E' H'->Ψ (zI c.P fr Q):=by
  rintro outs fr Ψ ⟨⟨o,s1⟩,hp,vs',ls',H',E',g1,g2,g3⟩
  have stuck:(∀ e,o ≠ .ex e)->(fr.foldl (fun o f=>o.push f) o,s1) ∈ (match o with
    | .ex e=>qAz call pm fr e s1
    | o=>[(fr.foldl (fun o f=>o.push f) o,s1)]) -> ∃ p ∈ (outs.map fun p=>match p.1 with
    | .ex e=>qAz call pm fr e p.2
    | o=>[(fr.foldl (fun o f=>o.push f) o,p.2)]).flatten,Ends c s vs ls H p.2 fun E' H'=>∀ Q,Res c.P p.1 Q E' H'->Ψ (zI c.P fr Q):=by
   intro ho hm
   refine⟨_,xI hp hm,vs',ls',H',E',g1,g2,fun Q hQ=>?_⟩
   rw [qDg ho] at hQ
   exact g3 _ hQ
  cases o with
  | ex e =>
   obtain⟨q,hq,vs2,ls2,H2,E2,k1,k2,k3⟩:=qBJ hc hru hfl fr e g1.inn g2
   exact⟨q,xI hp hq,vs2,ls2,H2,E2,g1.trans k1,k2,fun Q hQ=>g3 _ (k3 Q hQ)⟩
  | ops=>exact stuck (by simp) (List.mem_singleton.2 rfl)
  | mixq=>exact stuck (by simp) (List.mem_singleton.2 rfl)
  | kids=>exact stuck (by simp) (List.mem_singleton.2 rfl)
  | code=>exact stuck (by simp) (List.mem_singleton.2 rfl)
 cases o with
 | ex e=>exact⟨_,List.mem_singleton.2 rfl,.here h hE fun Q hQ=>hQ⟩
 | ops r fr=>exact go _ fr (fun Q=>vE c.P r E H (Q .normal)) (yS hc hru hfl (.run r) h hE)
 | mixq r ks fr=>exact go _ fr (fun Q=>vE c.P r E H (qGp c.P ks (Q .normal))) (by
   obtain⟨p,hp,g⟩:=qAf hc hru hfl (.node r ks) h hE
   exact⟨p,hp,g.mono fun E' H' k Q hQ=>by have:=k Q hQ;simp only [qDq] at this;exact this⟩)
 | kids ks fr=>exact go _ fr (fun Q=>qGp c.P ks (Q .normal) E H) (qBL hc hru hfl ks h hE)
 | code a fr=>exact go _ fr (fun Q=>zM c.P a Q E H) (yS hc hru hfl a h hE)
def qDO:Nat->List Kd->List (Nat × Node × Kd)
 | _,[]=>[]
 | i,k :: ks=>(i,.atom i,k) :: qDO (i+1) ks
def qBn (ks:List Kd) (env:List (Nat × SV)):St:=⟨qDO 0 ks,ks.length,env,[],0,[],0⟩
def bY (xs:List AV):Nat->AV:=fun i=>xs.getD i .undef
theorem qCT {P:Program} {φ:Nat->List AV->AV} {ks:List Kd} {xs:List AV} (hk:KdsL ks xs) (env:List (Nat × SV)) (H:AHeap):In ⟨P,bY xs,φ,xs,[],H,0,[]⟩ (qBn ks env) xs [] H:=by
 refine⟨⟨?_,?_,fun i b h=>(by cases h),rfl,fun i j l b b' cs h=>(by cases h),fun l b h=>(by cases h),fun j cs wr h=>(by cases h)⟩,LeL.refl _,LeL.refl _,Kept.refl _ _ _,fun j l b _ e=>(by simp at e),fun k v h=>(by cases h)⟩
 ·show ks.length=xs.length
  induction hk with
  | nil=>rfl
  | cons _ _ ih=>simp [ih]
 ·have key:∀ (ks:List Kd) (ys:List AV),KdsL ks ys -> ∀ t,(∀ i,xs[t+i]? = ys[i]?) -> ∀ i n kd,(i,n,kd) ∈ qDO t ks -> ∃ v,xs[i]? = some v/\yU (bY xs) φ xs n v/\yH kd v:=by
   intro ks ys h
   induction h with
   | nil=>intro t _ i n kd h;cases h
   | @cons k a ks ys h1 h2 ih =>
    intro t ht i n kd hm
    simp only [qDO] at hm
    rcases List.mem_cons.1 hm with e | hm
    ·cases e
     have:=ht 0
     simp at this
     exact⟨a,this,by simp [yU,bY,this],h1⟩
    ·exact ih (t+1) (fun i=>by have:=ht (i+1);rw [show t+1+i=t+(i+1) by omega,this];simp) i n kd hm
  exact key ks xs hk 0 (fun i=>by rw [Nat.zero_add])
theorem qKt {P:Program} {φ:Nat->List AV->AV} {pm:Pm} {f:FuncId} {n:Nat} {rs:List ARes} {body:ACode} (d:Nat) (hru:pm.ru=[]) (hfl:pm.fl=0) (htb:qAA P pm.tb) (hap:qCf P φ pm.ap) (hf:xU P f=some ⟨n,rs,body⟩)
  {ks:List Kd} {xs:List AV} (hk:KdsL ks xs) {svs:List SV} {as:List AV} (ha:DL xs [] svs as) (hn:svs.length<=n) {R:VK}
  (h:∀ p ∈ vC (wK pm d) pm body (qBn ks (yF 0 svs)),∀ vs ls H' E',Step ⟨P,bY xs,φ,xs,[],H,0,[]⟩ (qBn ks (yF 0 svs)) xs [] H p.2 vs ls H'->zB p.2.env vs ls E'->Res P p.1 (qIv rs H R) E' H'):qK P f as H R:=by
 have hin:=qCT (P:=P) (φ:=φ) hk (yF 0 svs) H
 obtain⟨p,hp,vs',ls',H',E',g1,g2,g3⟩:=yS (qBd (c:=⟨P,bY xs,φ,xs,[],H,0,[]⟩) (pm:=pm) hru hfl htb hap d) hru hfl body hin (uJ 0 ha (fun i=>by rw [Nat.zero_add]))
 exact acalls hf (by rw [<- ha.len];exact hn) (g3 _ (h p hp vs' ls' H' E' g1 g2))
end
/-! ### Arguments of plain shapes -/
def qKI:Sh->Option Kd
 | .int k=>some (.int k)
 | .flt k=>some (.flt k)
 | .bool=>some .bool
 | .str=>some .str
 | _=>none
def nds:Nat->List Kd->List SV
 | _,[]=>[]
 | i,k :: ks=>.nd i k :: nds (i+1) ks
theorem qKe {H:AHeap} {s:Sh} {k:Kd} {a:AV} (h:Fits H s a) (e:qKI s=some k):yH k a:=by
  cases h <;> simp only [qKI,Option.some.injEq,reduceCtorEq] at e <;> subst e
  · exact⟨_,rfl⟩
  · exact⟨_,rfl⟩
  · exact⟨_,rfl,by assumption⟩
  · exact⟨_,rfl⟩
end Go.Ab
end
/- Symbolic execution: laws over arguments of plain shapes. -/
section
namespace Go.Ab
theorem KdsL.len {ks:List Kd} {as:List AV} (h:KdsL ks as):ks.length=as.length:=by
 induction h with
 | nil=>rfl
 | cons _ _ ih=>simp [ih]
theorem KdsL.append {ks ks' : List Kd} {as bs:List AV} (h:KdsL ks as) (k:KdsL ks' bs):KdsL (ks ++ ks') (as ++ bs):=by
 induction h with
 | nil=>exact k
 | cons h _ ih=>exact .cons h ih
theorem qBy {ks:List Kd} {ys:List AV} (h:KdsL ks ys):∀ (pre post:List AV) (i:Nat),pre.length=i->DL (pre ++ (ys ++ post)) [] (nds i ks) ys:=by
 induction h with
 | nil=>intro pre post i _;simp only [nds,DL]
 | @cons k a ks as h1 h2 ih =>
  intro pre post i hi
  simp only [nds,DL]
  refine⟨a,as,rfl,?_,?_⟩
  ·simp only [D]
   exact⟨by rw [List.getElem?_append_right om,hi];simp,h1⟩
  ·have:=ih (pre ++ [a]) post (i+1) (by simp [hi])
   simpa using this
theorem qDH {H:AHeap}:∀ {ss:List Sh} {ks:List Kd} {as:List AV},mD H ss as->ss.mapM qKI=some ks->KdsL ks as
 | [],ks,as,h,e=>by
  simp at e
  subst e
  have:=h.1
  simp at this
  subst this
  exact .nil
 | s :: ss,ks,as,h,e=>by
  simp only [List.mapM_cons,Option.bind_eq_bind,Option.bind_eq_some_iff,Option.pure_def,Option.some.injEq] at e
  obtain⟨k,hk,ks',hks,rfl⟩:=e
  match as,h with
  | a :: as,h =>
   exact .cons (qKe (h.2 0 s a rfl rfl) hk) (qDH ⟨by simpa using h.1,fun i s a x y=>h.2 (i+1) s a (by simpa using x) (by simpa using y)⟩ hks)
  | [],h=>have:=h.1;simp at this
end Go.Ab
end
/- Symbolic execution: what a later state says of values, facts and rows. -/
section
namespace Go.Ab
def qJT (c:Cv) (a:AV):Option AV:=
 match c,a with
 | .ff k,.flt s x=>some (.flt k ((f2f s x k).getD none))
 | c,a=>dS c (fun _=>none) a
theorem qIF {c:Cv} {p w b:AV} (h:dS c (fun _=>none) p=some w) (e:qJT c p=some b):w=b:=by
 unfold qJT at e
 split at e
 ·simp only [dS,Option.map_eq_some_iff] at h
  obtain⟨y,h1,rfl⟩:=h
  cases e
  rw [h1];rfl
 ·rw [h] at e;exact Option.some.inj e
mutual
def dn (ρ:Nat->AV) (φ:Nat->List AV->AV) (ns:List (Nat × Node × Kd)) (ls:LN):Nat->SV->Option AV
 | 0,_=>none
 | f+1,v=>match v with
  | .lit a=>some a
  | .nd i _=>match jS i ns with
   | some (n,_)=>match n with
    | .atom j=>some (ρ j)
    | .bin op x y=>match dn ρ φ ns ls f x,dn ρ φ ns ls f y with
     | some a,some b=>vJ op a b
     | _,_=>none
    | .un op x=>match dn ρ φ ns ls f x with
     | some a=>unA op a
     | none=>none
    | .conv c x=>match dn ρ φ ns ls f x with
     | some a=>qJT c a
     | none=>none
    | .mm m x y=>match dn ρ φ ns ls f x,dn ρ φ ns ls f y with
     | some a,some b=>mmA m a b
     | _,_=>none
    | .eqB x y=>match dn ρ φ ns ls f x,dn ρ φ ns ls f y with
     | some (.bool a),some (.bool b)=>some (.bool (a == b))
     | _,_=>none
    | .app g xs=>match dnL ρ φ ns ls f xs with
     | some as=>some (φ g as)
     | none=>none
    | .bits x=>match dn ρ φ ns ls f x with
     | some (.flt .f32 c)=>some (yK c)
     | _=>none
   | none=>none
  | .agg cs=>(dnL ρ φ ns ls f cs).map .agg
  | .tup cs=>(dnL ρ φ ns ls f cs).map .tuple
  | .ptr j off=>match ls[j]? with
   | some (l,o)=>some (.ptr l (o+off))
   | none=>none
  | .sl j off len cap sz=>match ls[j]? with
   | some (l,o)=>some (.slice l (o+off) len cap sz)
   | none=>none
  | .fn g a b=>match dnL ρ φ ns ls f a,dnL ρ φ ns ls f b with
   | some xs,some ys=>some (.func g xs ys)
   | _,_=>none
  | .ifc t v=>(dn ρ φ ns ls f v).map (AV.iface t)
def dnL (ρ:Nat->AV) (φ:Nat->List AV->AV) (ns:List (Nat × Node × Kd)) (ls:LN):Nat->List SV->Option (List AV)
 | 0,_=>none
 | f+1,vs=>match vs with
  | []=>some []
  | v :: rest=>match dn ρ φ ns ls f v,dnL ρ φ ns ls f rest with
   | some a,some as=>some (a :: as)
   | _,_=>none
end
section
variable {c:Cx} {s:St} {vs:List AV} {ls:LN} {H:AHeap} {E:Env}
mutual
theorem qFY (h:In c s vs ls H) {ls0:LN} (hl:LeL ls0 ls):∀ (f:Nat) {v:SV} {a b:AV},D vs ls v a->dn c.ρ c.φ s.ns ls0 f v=some b->a=b
 | 0,v,a,b,_,e=>by simp [dn] at e
 | f+1,v,a,b,hd,e=>by
  have ih:∀ {v:SV} {a b:AV},D vs [] v a->dn c.ρ c.φ s.ns ls0 f v=some b->a=b:=fun hd e=>qFY h hl f (hd.mono (LeL.refl _) (fun i x h=>by simp at h)) e
  have ihL:∀ {v:List SV} {a b:List AV},DL vs [] v a->dnL c.ρ c.φ s.ns ls0 f v=some b->a=b:=fun hd e=>uX h hl f (hd.mono (LeL.refl _) (fun i x h=>by simp at h)) e
  cases v with
  | lit x=>simp only [dn,Option.some.injEq] at e;simp only [D] at hd;rw [hd.1,e]
  | nd i kd =>
   simp only [dn] at e
   simp only [D] at hd
   split at e
   ·rename_i n kd2 hf
    obtain⟨w,w1,w2,_⟩:=h.ok.ns _ _ _ (vL hf)
    rw [hd.1] at w1
    cases w1
    cases n with
    | atom j=>simp only [Option.some.injEq] at e;rw [<- e];exact w2.symm
    | bin op x y =>
     obtain⟨p,q,d1,d2,d3⟩:=w2
     simp only [] at e
     split at e
     ·rename_i a' b' h1 h2
      rw [ih d1 h1,ih d2 h2,e] at d3
      exact(Option.some.inj d3).symm
     ·cases e
    | un op x =>
     obtain⟨p,d1,d3⟩:=w2
     simp only [] at e
     split at e
     ·rename_i a' h1
      rw [ih d1 h1,e] at d3
      exact(Option.some.inj d3).symm
     ·cases e
    | conv cv x =>
     obtain⟨p,d1,d3⟩:=w2
     simp only [] at e
     split at e
     ·rename_i a' h1
      rw [ih d1 h1] at d3
      exact qIF d3 e
     ·cases e
    | mm m x y =>
     obtain⟨p,q,d1,d2,d3⟩:=w2
     simp only [] at e
     split at e
     ·rename_i a' b' h1 h2
      rw [ih d1 h1,ih d2 h2,e] at d3
      exact(Option.some.inj d3).symm
     ·cases e
    | eqB x y =>
     obtain⟨p,q,d1,d2,d3⟩:=w2
     simp only [] at e
     split at e
     ·rename_i a' b' h1 h2
      have e1:=ih d1 h1
      have e2:=ih d2 h2
      cases e1
      cases e2
      rw [d3]
      exact Option.some.inj e
     ·cases e
    | app g xs =>
     obtain⟨ps,d1,d3⟩:=w2
     simp only [] at e
     split at e
     ·rename_i as h1
      rw [ihL d1 h1] at d3
      rw [<- d3]
      exact Option.some.inj e
     ·cases e
    | bits x =>
     obtain⟨p,d1,d3⟩:=w2
     simp only [] at e
     split at e
     ·rename_i a' h1
      have e1:=ih d1 h1
      cases e1
      rw [d3]
      exact Option.some.inj e
     ·cases e
   ·cases e
  | agg cs =>
   simp only [dn,Option.map_eq_some_iff] at e
   obtain⟨as,e1,rfl⟩:=e
   simp only [D] at hd
   obtain⟨bs,rfl,hd⟩:=hd
   rw [uX h hl f hd e1]
  | tup cs =>
   simp only [dn,Option.map_eq_some_iff] at e
   obtain⟨as,e1,rfl⟩:=e
   simp only [D] at hd
   obtain⟨bs,rfl,hd⟩:=hd
   rw [uX h hl f hd e1]
  | ptr j off =>
   simp only [dn] at e
   simp only [D] at hd
   obtain⟨l,o,hj,rfl⟩:=hd
   split at e
   ·rename_i l' o' h1
    rw [hl _ _ h1] at hj
    cases hj
    exact Option.some.inj e
   ·cases e
  | sl j off len cap sz =>
   simp only [dn] at e
   simp only [D] at hd
   obtain⟨l,o,hj,rfl⟩:=hd
   split at e
   ·rename_i l' o' h1
    rw [hl _ _ h1] at hj
    cases hj
    exact Option.some.inj e
   ·cases e
  | fn g x y =>
   simp only [dn] at e
   simp only [D] at hd
   obtain⟨xs,ys,rfl,d1,d2⟩:=hd
   split at e
   ·rename_i as bs h1 h2
    rw [uX h hl f d1 h1,uX h hl f d2 h2]
    exact Option.some.inj e
   ·cases e
  | ifc t v =>
   simp only [dn,Option.map_eq_some_iff] at e
   obtain⟨x,e1,rfl⟩:=e
   simp only [D] at hd
   obtain⟨y,rfl,hd⟩:=hd
   rw [qFY h hl f hd e1]
theorem uX (h:In c s vs ls H) {ls0:LN} (hl:LeL ls0 ls):∀ (f:Nat) {v:List SV} {a b:List AV},DL vs ls v a->dnL c.ρ c.φ s.ns ls0 f v=some b->a=b
 | 0,v,a,b,_,e=>by simp [dnL] at e
 | f+1,v,a,b,hd,e=>by
  cases v with
  | nil=>simp only [dnL,Option.some.injEq] at e;simp only [DL] at hd;rw [hd,e]
  | cons x rest =>
   simp only [dnL] at e
   simp only [DL] at hd
   obtain⟨p,ps,rfl,h1,h2⟩:=hd
   split at e
   ·rename_i a' as' g1 g2
    cases e
    rw [qFY h hl f h1 g1,uX h hl f h2 g2]
   ·cases e
end
theorem qW (h:In c s vs ls H) (hE:zB s.env vs ls E) (t:Nat) {a:AV} (e:(jS t s.env).bind (dn c.ρ c.φ s.ns c.ls 100)=some a):E t=a:=by
 rw [Option.bind_eq_some_iff] at e
 obtain⟨v,h1,h2⟩:=e
 exact qFY h h.lel 100 (hE t v h1) h2
theorem qJY (h:In c s vs ls H) (k:Nat) {a:AV} {b:Bool} (e:(s.facts[k]?).bind (fun p=>(dn c.ρ c.φ s.ns c.ls 100 (.nd p.1 .bool)).map fun x=>(x,p.2))=some (a,b)):a=.bool b:=by
 rw [Option.bind_eq_some_iff] at e
 obtain⟨p,h1,h2⟩:=e
 rw [Option.map_eq_some_iff] at h2
 obtain⟨x,h2,h3⟩:=h2
 cases h3
 have hp:=h.ok.facts p.1 p.2 (List.mem_of_getElem? h1)
 exact(qFY h h.lel 100 (v:=.nd p.1 .bool) (a:=.bool p.2) (by simp only [D];exact⟨hp,_,rfl⟩) h2).symm
theorem qCG (h:In c s vs ls H) (k:Nat) {x b:Bool} (e:(s.facts[k]?).bind (fun p=>(dn c.ρ c.φ s.ns c.ls 100 (.nd p.1 .bool)).map fun x=>(x,p.2))=some (.bool x,b)):x=b:=by
 have:=qJY h k e
 cases this;rfl
theorem row_of (h:In c s vs ls H) (j:Nat) {l b:Nat} {ds:List AV} {wr:Bool} (hj:c.ls[j]? = some (l,b)) (e:(jS j s.heap).bind (fun p=>(dnL c.ρ c.φ s.ns c.ls 300 p.1).map fun x=>(x,p.2))=some (ds,wr)) :
  ∃ pre post wr',H.get l=some (.row (pre ++ (ds ++ post)) wr')/\pre.length=b/\(wr=true->wr'=true/\pre=[]/\post=[]):=by
 rw [Option.bind_eq_some_iff] at e
 obtain⟨p,h1,h2⟩:=e
 rw [Option.map_eq_some_iff] at h2
 obtain⟨x,h2,h3⟩:=h2
 cases h3
 obtain⟨l',b',pre,es,post,wr',k1,k2,k3,k4,k5⟩:=h.ok.heap j p.1 p.2 (by rw [h1])
 rw [h.lel _ _ hj] at k1
 cases k1
 have:=uX h h.lel 300 k4 h2
 subst this
 exact⟨pre,post,wr',k2,k3,k5⟩
theorem qHS (h:In c s vs ls H) (j:Nat) {l b:Nat} {ds:List AV} (hj:c.ls[j]? = some (l,b)) (e:(jS j s.heap).bind (fun p=>(dnL c.ρ c.φ s.ns c.ls 300 p.1).map fun x=>(x,p.2))=some (ds,true)):H.get l=some (.row ds true):=by
 obtain⟨pre,post,wr',h1,h2,h3⟩:=row_of h j hj e
 obtain⟨rfl,rfl,rfl⟩:=h3 rfl
 simpa using h1
theorem qFC (h:In c s vs ls H) (hE:zB s.env vs ls E) {rs:List ARes} {a:AV} (e:(qGv rs s).bind (dn c.ρ c.φ s.ns c.ls 100)=some a):vN rs E H=some a:=by
 rw [Option.bind_eq_some_iff] at e
 obtain⟨v,h1,h2⟩:=e
 obtain⟨x,x1,x2⟩:=qFc h hE h1
 rw [x1,qFY h h.lel 100 x2 h2]
theorem xV (h:In c s vs ls H) (hE:zB s.env vs ls E) {rs:List ARes} {a:AV} {H0:AHeap} {R:VK} {e:AExit} (he:e=.normal \/ e=.ret) (hr:(qGv rs s).bind (dn c.ρ c.φ s.ns c.ls 100)=some a) (hg:Grew H0 H) (hf:a.flat=true) (hR:R a H0):qIv rs H0 R e E H:=by
  rcases he with rfl | rfl
  · exact⟨a,qFC h hE hr,uZ hg hf hR⟩
  · exact⟨a,qFC h hE hr,uZ hg hf hR⟩
end
/-! ### Beginnings in the middle -/
structure Win where
  l:Nat
  b:Nat
  cs:List SV
  wr:Bool
def qBP:Nat->List Win->List (Nat × List SV × Bool)
 | _,[]=>[]
 | j,w :: ws=>(j,w.cs,w.wr) :: qBP (j+1) ws
def qHB (ks:List Kd) (env:List (Nat × SV)) (ws:List Win):St:=⟨qDO 0 ks,ks.length,env,qBP 0 ws,ws.length,[],ws.length⟩
def zQ (ws:List Win):LN:=ws.map fun w=>(w.l,w.b)
def mH (P:Program) (φ:Nat->List AV->AV) (xs:List AV) (ws:List Win) (H:AHeap) (fl:Nat) (ru:List (RK × SV)):Cx:=⟨P,bY xs,φ,xs,zQ ws,H,fl,ru⟩
def qCB (H:AHeap) (xs:List AV) (ls:LN) (w:Win):Prop:=∃ pre ds post wr',H.get w.l=some (.row (pre ++ (ds ++ post)) wr')/\pre.length=w.b/\DL xs ls w.cs ds/\(w.wr=true->wr'=true/\pre=[]/\post=[])
theorem wD:∀ {ws:List Win} {j0 j:Nat} {cs:List SV} {wr:Bool},jS j (qBP j0 ws)=some (cs,wr) -> ∃ w,ws[j - j0]? = some w/\j0<=j/\w.cs=cs/\w.wr=wr
 | [],_,_,_,_,h=>by cases h
 | w :: ws,j0,j,cs,wr,h=>by
  simp only [qBP] at h
  rw [vT] at h
  split at h
  ·rename_i e
   subst e
   cases h
   exact⟨w,by simp,Nat.le_refl _,rfl,rfl⟩
  ·obtain⟨w',h1,h2,h3,h4⟩:=wD h
   refine⟨w',?_,by omega,h3,h4⟩
   rw [show j - j0=(j - (j0+1))+1 by omega]
   simpa using h1
theorem qLk {P:Program} {φ:Nat->List AV->AV} {ks:List Kd} {xs:List AV} {ws:List Win} {H:AHeap} {fl:Nat} {ru:List (RK × SV)} (hk:KdsL ks xs) (env:List (Nat × SV)) (hw:∀ w ∈ ws,qCB H xs (zQ ws) w)
  (hs:∀ (i j:Nat) (a b:Win),ws[i]? = some a->ws[j]? = some b->a.wr=true->a.l=b.l->i=j) (hr:∀ k v,(k,v) ∈ ru->mJ (mH P φ xs ws H fl ru) k v):In (mH P φ xs ws H fl ru) (qHB ks env ws) xs (zQ ws) H:=by
 have h0:=qCT (P:=P) (φ:=φ) hk env H
 refine⟨⟨h0.ok.nn,h0.ok.ns,fun i b h=>(by cases h),?_,?_,?_,?_⟩,LeL.refl _,LeL.refl _,Kept.refl _ _ _,?_,hr⟩
 ·simp [qHB,zQ]
 ·intro i j l b b' cs hf h1 h2
  obtain⟨w,w1,_,_,w4⟩:=wD hf
  simp only [zQ,List.getElem?_map,Option.map_eq_some_iff] at h1 h2
  obtain⟨a1,a2,a3⟩:=h1
  obtain⟨b1,b2,b3⟩:=h2
  rw [Nat.sub_zero,a2] at w1
  cases w1
  have e1:w.l=l:=congrArg Prod.fst a3
  have e2:b1.l=l:=congrArg Prod.fst b3
  exact hs i j _ _ a2 b2 w4 (by rw [e1,e2])
 ·intro l b hl
  obtain⟨w,hw1,hw2⟩:=List.mem_map.1 hl
  cases hw2
  obtain⟨pre,ds,post,wr',h1,_⟩:=hw w hw1
  exact H.lt_of_get h1
 ·intro j cs wr hf
  obtain⟨w,w1,_,rfl,rfl⟩:=wD hf
  rw [Nat.sub_zero] at w1
  obtain⟨pre,ds,post,wr',h1,h2,h3,h4⟩:=hw w (List.mem_of_getElem? w1)
  exact⟨w.l,w.b,pre,ds,post,wr',by simp [zQ,w1],h1,h2,h3,h4⟩
 ·intro j l b hj e
  have hj' : (zQ ws).length<=j:=hj
  rw [List.getElem?_eq_none hj'] at e;cases e
instance:Inhabited St:=⟨⟨[],0,[],[],0,[],0⟩⟩
instance:Inhabited Pt:=⟨.ex .normal⟩
theorem mL {α:Type} [Inhabited α] {L:List α} {Φ:α->Prop} (n:Nat) (hn:L.length=n) (h:∀ i,i < n->Φ (L.getD i default)):∀ p ∈ L,Φ p:=by
 intro p hp
 obtain⟨i,hi,rfl⟩:=List.getElem_of_mem hp
 have:=h i om
 rw [List.getD_eq_getElem?_getD,List.getElem?_eq_getElem hi] at this
 exact this
theorem qM {α:Type} [Inhabited α] {L:List α} {Φ:α->Prop} (hn:L.length=1) (h0:Φ (L.getD 0 default)):∀ p ∈ L,Φ p:=
 mL 1 hn fun i hi=>by
  obtain rfl:i=0:=by omega
  exact h0
theorem vI {α:Type} [Inhabited α] {L:List α} {Φ:α->Prop} (hn:L.length=2) (h0:Φ (L.getD 0 default)) (h1:Φ (L.getD 1 default)):∀ p ∈ L,Φ p:=
  mL 2 hn fun i hi=>by
    rcases i with _ | _ | i
    · exact h0
    · exact h1
    · omega
theorem cJ {α:Type} [Inhabited α] {L:List α} {Φ:α->Prop} (hn:L.length=3) (h0:Φ (L.getD 0 default)) (h1:Φ (L.getD 1 default)) (h2:Φ (L.getD 2 default)):∀ p ∈ L,Φ p:=
  mL 3 hn fun i hi=>by
    rcases i with _ | _ | _ | i
    · exact h0
    · exact h1
    · exact h2
    · omega
theorem qMm {α:Type} [Inhabited α] {L:List α} {Φ:α->Prop} (hn:L.length=4) (h0:Φ (L.getD 0 default)) (h1:Φ (L.getD 1 default)) (h2:Φ (L.getD 2 default)) (h3:Φ (L.getD 3 default)):∀ p ∈ L,Φ p:=
  mL 4 hn fun i hi=>by
    rcases i with _ | _ | _ | _ | i
    · exact h0
    · exact h1
    · exact h2
    · exact h3
    · omega
theorem qLS {α:Type} [Inhabited α] {L:List α} {Φ:α->Prop} (hn:L.length=5) (h0:Φ (L.getD 0 default)) (h1:Φ (L.getD 1 default)) (h2:Φ (L.getD 2 default)) (h3:Φ (L.getD 3 default)) (h4:Φ (L.getD 4 default)):∀ p ∈ L,Φ p:=
  mL 5 hn fun i hi=>by
    rcases i with _ | _ | _ | _ | _ | i
    · exact h0
    · exact h1
    · exact h2
    · exact h3
    · exact h4
    · omega
theorem qMn {α:Type} [Inhabited α] {L:List α} {Φ:α->Prop} (hn:L.length=6) (h0:Φ (L.getD 0 default)) (h1:Φ (L.getD 1 default)) (h2:Φ (L.getD 2 default)) (h3:Φ (L.getD 3 default)) (h4:Φ (L.getD 4 default)) (h5:Φ (L.getD 5 default)):∀ p ∈ L,Φ p:=
  mL 6 hn fun i hi=>by
    rcases i with _ | _ | _ | _ | _ | _ | i
    · exact h0
    · exact h1
    · exact h2
    · exact h3
    · exact h4
    · exact h5
    · omega
theorem qMh {α:Type} [Inhabited α] {L:List α} {Φ:α->Prop} (hn:L.length=7) (h0:Φ (L.getD 0 default)) (h1:Φ (L.getD 1 default)) (h2:Φ (L.getD 2 default)) (h3:Φ (L.getD 3 default)) (h4:Φ (L.getD 4 default)) (h5:Φ (L.getD 5 default)) (h6:Φ (L.getD 6 default)):∀ p ∈ L,Φ p:=
  mL 7 hn fun i hi=>by
    rcases i with _ | _ | _ | _ | _ | _ | _ | i
    · exact h0
    · exact h1
    · exact h2
    · exact h3
    · exact h4
    · exact h5
    · exact h6
    · omega
theorem qMo {α:Type} [Inhabited α] {L:List α} {Φ:α->Prop} (hn:L.length=8) (h0:Φ (L.getD 0 default)) (h1:Φ (L.getD 1 default)) (h2:Φ (L.getD 2 default)) (h3:Φ (L.getD 3 default)) (h4:Φ (L.getD 4 default)) (h5:Φ (L.getD 5 default)) (h6:Φ (L.getD 6 default)) (h7:Φ (L.getD 7 default)):∀ p ∈ L,Φ p:=
  mL 8 hn fun i hi=>by
    rcases i with _ | _ | _ | _ | _ | _ | _ | _ | i
    · exact h0
    · exact h1
    · exact h2
    · exact h3
    · exact h4
    · exact h5
    · exact h6
    · exact h7
    · omega
def qFA:Pt->ACode
 | .code (.loop a) _=>a
 | _=>.skip
def qAW:Pt->List Fr
 | .code _ fr=>fr
 | .ops _ fr=>fr
 | .mixq _ _ fr=>fr
 | .kids _ fr=>fr
 | _=>[]
theorem zE {P:Program} {o:Pt} {Q:PK} {E:Env} {H:AHeap} (ho:o=.code (.loop (qFA o)) (qAW o)) (I:Nat->Env->AHeap->Prop) (n:Nat) (h:I n E H)
  (hb:∀ m E H,I m E H->Res P (.code (qFA o) []) (tC (fun E' H'=>∃ k,k < m/\I k E' H') (zI P (qAW o) Q)) E H):Res P o Q E H:=by
 rw [ho]
 exact qJP I n h hb
theorem zF {P:Program} {o:Pt} {e:AExit} (ho:o=.ex e) {Q:PK} {E:Env} {H:AHeap} (h:Q e E H):Res P o Q E H:=by rw [ho];exact h
end Go.Ab
end
/- Two functions that give the same; what a small heap tells of a great one. -/
section
namespace Go.Ab
theorem Sim.keep {F:Nat->Prop} {μ:Mu} {H:AHeap} {w w' : World} (hs:Sim F μ H w) (hk:Keeps (fun b=>w.heap.size<=b) w w'):Sim F μ H w':=by
 have same:∀ b,b < w.heap.size->w'.heap[b]? = w.heap[b]?:=fun b hb=>hk.block b hb om
 refine⟨fun l li h=>⟨(hs.dom l li h).1,Nat.lt_of_lt_of_le (hs.dom l li h).2 hk.size⟩,?_,?_,hs.sep,hs.may,fun b hb=>hs.fresh b (Nat.le_trans hk.size hb)⟩
 ·intro l li cs wr hg hm
  obtain⟨c,e,lo,hi,h1,h2⟩:=hs.row l li cs wr hg hm
  exact⟨c,e,lo,hi,by rw [same _ (hs.dom l li hm).2];exact h1,h2⟩
 ·intro l li es hg hm
  obtain⟨ms,ck,h1,h2⟩:=hs.mp l li es hg hm
  exact⟨ms,ck,by rw [same _ (hs.dom l li hm).2];exact h1,h2⟩
def hZ (rows:LL):AHeap:=⟨rows.length,fun l=>(rows[l]?).map fun cs=>.row cs false,fun l h=>by rw [List.getElem?_eq_none h];rfl⟩
def qLJ (H:AHeap) (rows:LL) (locs:LN):Prop:=∀ (j:Nat) (cs:List AV) (l off:Nat),rows[j]? = some cs->locs[j]? = some (l,off)->flatL cs=true /\ ∃ pre post wr,H.get l=some (.row (pre ++ (cs ++ post)) wr)/\pre.length=off
inductive ARel (n:Nat) (locs:LN):AV->AV->Prop where
  | flat {a:AV} (h:a.flat=true):ARel n locs a a
  | ptr {j l off:Nat} (h:locs[j]? = some (l,off)) (hn:j < n):ARel n locs (.ptr j 0) (.ptr l off)
inductive ARelL (n:Nat) (locs:LN):List AV->List AV->Prop where
  | nil:ARelL n locs [] []
  | cons {a b:AV} {as bs:List AV} (h:ARel n locs a b) (t:ARelL n locs as bs):ARelL n locs (a :: as) (b :: bs)
theorem R.of_flat {μ μ' : Mu} {a:AV} {v:Value} (hf:a.flat=true) (h:R μ a v):R μ' a v:=h.agree (p:=fun _=>False) (fun l li hl _=>hl.elim) (pT hf)
theorem zG.frame {P:Program} {f:FuncId} {rows:LL} {args args' : List AV} {r:AV} (h:zG P f args (hZ rows) r) (hr:r.flat=true) {H:AHeap} {locs:LN} (hl:qLJ H rows locs) (ha:ARelL rows.length locs args args'):zG P f args' H r:=by
 intro F μ w vs hs hv
 let μ1:Mu:=fun j=>match rows[j]?,locs[j]? with
  | some cs,some (l,off)=>(μ l).map fun li=>⟨li.blk,li.base+off,cs.length⟩
  | _,_=>none
 have at1:∀ j li1,μ1 j=some li1 -> ∃ cs l off li,rows[j]? = some cs/\locs[j]? = some (l,off)/\μ l=some li/\li1=⟨li.blk,li.base+off,cs.length⟩:=by
  intro j li1 hj
  simp only [μ1] at hj
  split at hj
  ·rename_i cs l off h1 h2
   rw [Option.map_eq_some_iff] at hj
   obtain⟨li,h3,rfl⟩:=hj
   exact⟨cs,l,off,li,h1,h2,h3,rfl⟩
  ·cases hj
 have hs1:Sim (fun b=>w.heap.size<=b) μ1 (hZ rows) w:=by
  refine⟨?_,?_,?_,?_,?_,fun b hb=>hb⟩
  ·intro j li1 hj
   obtain⟨cs,l,off,li,h1,_,h3,rfl⟩:=at1 j li1 hj
   refine⟨?_,(hs.dom l li h3).2⟩
   rcases Nat.lt_or_ge j rows.length with h' | h'
   ·exact h'
   ·rw [List.getElem?_eq_none h'] at h1;cases h1
  ·intro j li1 cs' wr hg hj
   obtain⟨cs,l,off,li,h1,h2,h3,rfl⟩:=at1 j li1 hj
   simp only [hZ,h1,Option.map_some,Option.some.injEq,HB.row.injEq] at hg
   obtain⟨rfl,rfl⟩:=hg
   obtain⟨hfl,pre,post,wr',g1,g2⟩:=hl j cs l off h1 h2
   obtain⟨c,e,lo,hi,k1,k2,k3,k4,k5⟩:=hs.row l li _ _ g1 h3
   simp only [List.length_append] at k3
   refine⟨c,e,lo,hi,k1,by simp only;omega,Nat.le_refl _,?_,fun hw=>by cases hw⟩
   intro i a hi'
   have hil:i < cs.length:=by
    rcases Nat.lt_or_ge i cs.length with h' | h'
    ·exact h'
    ·rw [List.getElem?_eq_none h'] at hi';cases hi'
   obtain⟨u,u1,u2⟩:=k4 (off+i) a (by rw [List.getElem?_append_right om,List.getElem?_append_left om,show off+i - pre.length=i by omega];exact hi')
   refine⟨u,by simp only;rw [Nat.add_assoc];exact u1,R.of_flat ?_ u2⟩
   have:∀ {l:List AV},flatL l=true -> ∀ a ∈ l,a.flat=true:=by
    intro l
    induction l with
    | nil=>intro _ a ha;cases ha
    | cons b l ih =>
     intro h a ha
     simp only [flatL,Bool.and_eq_true] at h
     rcases List.mem_cons.1 ha with rfl | ha
     ·exact h.1
     ·exact ih h.2 a ha
   exact this hfl a (List.mem_of_getElem? hi')
  ·intro j li1 es hg hj
   obtain⟨cs,l,off,li,h1,_⟩:=at1 j li1 hj
   simp [hZ,h1] at hg
  ·intro j j' b b' li li' _ hg hw
   simp only [hZ,Option.map_eq_some_iff] at hg
   obtain⟨cs,_,rfl⟩:=hg
   cases hw
  ·intro j b li hg hw
   simp only [hZ,Option.map_eq_some_iff] at hg
   obtain⟨cs,_,rfl⟩:=hg
   cases hw
 have hv1:RL μ1 args vs:=by
  have key:∀ {as bs:List AV} {us:List Value},ARelL rows.length locs as bs->RL μ bs us->RL μ1 as us:=by
   intro as bs us hab
   induction hab generalizing us with
   | nil=>intro h;rw [h.nil_inv];exact RL.nil
   | @cons a b as bs h1 _ ih =>
    intro h
    obtain⟨u,us',rfl,h2,h3⟩:=h.cons_inv
    refine RL.cons ?_ (ih h3)
    cases h1 with
    | flat hf=>exact h2.of_flat hf
    | @ptr j l off hj hjl =>
     cases h2 with
     | @ptr _ _ li a hm ha =>
      subst ha
      refine .ptr (li:=⟨li.blk,li.base+off,(rows[j]).length⟩) ?_ (by simp)
      simp only [μ1,List.getElem?_eq_getElem hjl,hj,hm,Option.map_some]
  exact key ha hv
 refine(h _ μ1 w vs hs1 hv1).mono ?_
 rintro v w' ⟨μ',r',H',⟨rfl,rfl⟩,_,_,_,h4,h5⟩
 exact⟨μ,r',H,⟨rfl,rfl⟩,Nat.le_refl _,Mu.ext_refl _ _,hs.keep h5,h4.of_flat hr,h5.mono hs.fresh⟩
theorem qIX {H:AHeap} {rows:LL}:qLJ H rows []:=fun j cs l off _ h=>by simp at h
theorem qIY {H:AHeap} {m:List AV} {l off:Nat} {pre post:List AV} {wr:Bool} (hf:flatL m=true) (hg:H.get l=some (.row (pre ++ (m ++ post)) wr)) (hp:pre.length=off):qLJ H [m] [(l,off)]:=by
 intro j cs l' off' h1 h2
 match j,h1,h2 with
 | 0,h1,h2 =>
  simp at h1 h2
  obtain⟨rfl,rfl⟩:=h2
  subst h1
  exact⟨hf,pre,post,wr,hg,hp⟩
 | j+1,h1,h2=>simp at h1
theorem qIZ {H:AHeap} {m m' : List AV} {l off l' off' : Nat} {pre post pre' post' : List AV} {wr wr' : Bool} (hf:flatL m=true) (hg:H.get l=some (.row (pre ++ (m ++ post)) wr)) (hp:pre.length=off)
  (hf' : flatL m'=true) (hg' : H.get l'=some (.row (pre' ++ (m' ++ post')) wr')) (hp' : pre'.length=off'):qLJ H [m,m'] [(l,off),(l',off')]:=by
 intro j cs l2 off2 h1 h2
 match j,h1,h2 with
 | 0,h1,h2 =>
  simp at h1 h2
  obtain⟨rfl,rfl⟩:=h2
  subst h1
  exact⟨hf,pre,post,wr,hg,hp⟩
 | 1,h1,h2 =>
  simp at h1 h2
  obtain⟨rfl,rfl⟩:=h2
  subst h1
  exact⟨hf',pre',post',wr',hg',hp'⟩
 | j+2,h1,h2=>simp at h1
theorem zG.frame0 {P:Program} {f:FuncId} {rows:LL} {args:List AV} {r:AV} (h:zG P f args (hZ rows) r) (hr:r.flat=true) (ha:∀ a ∈ args,a.flat=true) (H:AHeap):zG P f args H r:=by
 refine h.frame hr qIX ?_
 induction args with
 | nil=>exact .nil
 | cons a as ih=>exact .cons (.flat (ha a (by simp))) (by
   have:∀ (as:List AV),(∀ a ∈ as,a.flat=true)->ARelL rows.length [] as as:=by
    intro as
    induction as with
    | nil=>intro _;exact .nil
    | cons b bs ih=>intro h;exact .cons (.flat (h b (by simp))) (ih fun x hx=>h x (by simp [hx]))
   exact this as fun x hx=>ha x (by simp [hx]))
theorem kK {ks:List Kd} {m:List AV} (h:KdsL ks m) (hk:ks.all (fun k=>!decide (k=.any) && !decide (k=.one))=true):flatL m=true:=by
 induction h with
 | nil=>rfl
 | @cons k a ks as h _ ih =>
  simp only [List.all_cons,Bool.and_eq_true] at hk
  simp only [flatL,Bool.and_eq_true]
  refine⟨?_,ih (by simpa using hk.2)⟩
  have:=D.flat (vs:=[a]) (ls:=[]) (ls':=[]) (x:=.nd 0 k) (a:=a) (by simp only [SV.flat];simpa using hk.1) (by simp only [D];exact⟨rfl,h⟩)
  exact this.2
inductive ShT where
  | k (kd:Kd)
  | agg (ks:List Kd)
  | tup (ss:List ShT)
inductive HasSh:ShT->AV->Prop where
  | k {kd:Kd} {a:AV} (h:yH kd a):HasSh (.k kd) a
  | agg {ks:List Kd} {as:List AV} (h:KdsL ks as):HasSh (.agg ks) (.agg as)
  | tup0:HasSh (.tup []) (.tuple [])
  | tup {s:ShT} {ss:List ShT} {a:AV} {as:List AV} (h:HasSh s a) (t:HasSh (.tup ss) (.tuple as)):HasSh (.tup (s :: ss)) (.tuple (a :: as))
mutual
def qJJ:SV->ShT->Bool
 | .agg cs,.agg ks=>qDV cs ks
 | .tup cs,.tup ss=>qIb cs ss
 | v,.k kd=>match qBr v with
  | some k=>qLi k kd
  | none=>false
 | _,_=>false
def qIb:List SV->List ShT->Bool
 | [],[]=>true
 | v :: vs,s :: ss=>qJJ v s && qIb vs ss
 | _,_=>false
end
mutual
theorem qIc {vs:List AV} {ls:LN}:∀ {v:SV} {s:ShT} {a:AV},D vs ls v a->qJJ v s=true->HasSh s a
 | v,.k kd,a,hd,h=>by
  have:∃ k,qBr v=some k/\qLi k kd=true:=by
   cases v <;> simp only [qJJ] at h <;> (split at h <;> first | exact⟨_,by assumption,h⟩ | cases h)
  obtain⟨k,h1,h2⟩:=this
  exact .k (qHq h2 (jA hd h1).1)
 | .agg cs,.agg ks,a,hd,h=>by
  simp only [qJJ] at h
  simp only [D] at hd
  obtain⟨bs,rfl,hd⟩:=hd
  exact .agg (qAP hd h).1
 | .tup cs,.tup ss,a,hd,h=>by
  simp only [qJJ] at h
  simp only [D] at hd
  obtain⟨bs,rfl,hd⟩:=hd
  exact qFJ hd h
 | .lit _,.agg _,_,_,h | .nd _ _,.agg _,_,_,h | .tup _,.agg _,_,_,h | .ptr _ _,.agg _,_,_,h | .sl ..,.agg _,_,_,h | .fn ..,.agg _,_,_,h | .ifc ..,.agg _,_,_,h=>by simp [qJJ] at h
 | .lit _,.tup _,_,_,h | .nd _ _,.tup _,_,_,h | .agg _,.tup _,_,_,h | .ptr _ _,.tup _,_,_,h | .sl ..,.tup _,_,_,h | .fn ..,.tup _,_,_,h | .ifc ..,.tup _,_,_,h=>by simp [qJJ] at h
theorem qFJ {vs:List AV} {ls:LN}:∀ {v:List SV} {s:List ShT} {a:List AV},DL vs ls v a->qIb v s=true->HasSh (.tup s) (.tuple a)
 | [],[],a,hd,_=>by simp only [DL] at hd;subst hd;exact .tup0
 | v :: vs,s :: ss,a,hd,h=>by
  simp only [qIb,Bool.and_eq_true] at h
  simp only [DL] at hd
  obtain⟨b,bs,rfl,h1,h2⟩:=hd
  exact .tup (qIc h1 h.1) (qFJ h2 h.2)
 | [],_ :: _,_,_,h | _ :: _,[],_,_,h=>by simp [qIb] at h
end
def qEk (pm:Pm) (d:Nat) (sh:ShT) (f:FuncId) (xs:List SV) (g:FuncId) (ys:List SV) (s:St):Bool:=
 match wK pm d f xs s with
 | some ps=>ps.all fun p=>p.2.2 && p.1.flat && qJJ p.1 sh && (match wK pm d g ys p.2.1 with
  | some qs=>qs.all fun q=>q.2.2 && p.1.beq q.1
  | none=>false)
 | none=>false
theorem qDe {c:Cx} {pm:Pm} {s:St} {vs:List AV} {ls:LN} {H:AHeap} (d:Nat) {sh:ShT} {f g:FuncId} {xs ys:List SV} {as bs:List AV} (hru:pm.ru=c.ru) (hfl:pm.fl=c.fl) (htb:qAA c.P pm.tb) (hap:qCf c.P c.φ pm.ap)
  (h:In c s vs ls H) (hx:DL vs ls xs as) (hy:DL vs ls ys bs) (hp:qEk pm d sh f xs g ys s=true):∃ r,HasSh sh r/\r.flat=true/\zG c.P f as H r/\zG c.P g bs H r:=by
 have hc:=qBd (c:=c) hru hfl htb hap d
 unfold qEk at hp
 split at hp
 ·rename_i ps hps
  obtain⟨p,p1,vs1,ls1,H1,r,st,d1,_,_,d2⟩:=hc f xs s vs ls H as ps h hx hps
  have:=List.all_eq_true.1 hp p p1
  simp only [Bool.and_eq_true] at this
  obtain⟨⟨⟨h1,h2⟩,h3⟩,h4⟩:=this
  obtain⟨rfl,hf⟩:=d2 h1
  split at h4
  ·rename_i qs hqs
   obtain⟨q,q1,vs2,ls2,H2,r2,st2,e1,_,_,e2⟩:=hc g ys p.2.1 vs1 ls1 H1 bs qs st.inn (hy.mono st.lev st.lel) hqs
   have:=List.all_eq_true.1 h4 q q1
   simp only [Bool.and_eq_true] at this
   obtain⟨h5,h6⟩:=this
   obtain⟨rfl,hg⟩:=e2 h5
   have e3:p.1=q.1:=SV.eq_of_beq h6
   have:r=r2:=by
    have:=d1.mono st2.lev st2.lel
    rw [e3] at this
    exact this.det e1
   subst this
   exact⟨r,qIc d1 h3,(D.flat (ls':=ls1) h2 d1).2,hf,hg⟩
  ·cases h4
 ·cases hp
def wG:Nat->Nat->List (List Kd)->List Win
 | _,_,[]=>[]
 | j,i,ks :: rest=>⟨j,0,nds i ks,false⟩ :: wG (j+1) (i+ks.length) rest
theorem qFK {P:Program} {φ:Nat->List AV->AV} {kss:List (List Kd)} {rows:LL} {ks0:List Kd} {xs0:List AV} (hr:∀ (j:Nat) (ks:List Kd) (cs:List AV),kss[j]? = some ks->rows[j]? = some cs->KdsL ks cs) (hlen:kss.length=rows.length) (h0:KdsL ks0 xs0) :
  In (mH P φ (xs0 ++ rows.flatten) (wG 0 ks0.length kss) (hZ rows) rows.length []) (qHB (ks0 ++ kss.flatten) [] (wG 0 ks0.length kss)) (xs0 ++ rows.flatten) (zQ (wG 0 ks0.length kss)) (hZ rows):=by
 have hkl:∀ {kss:List (List Kd)} {rows:LL},kss.length=rows.length->(∀ (j:Nat) (ks:List Kd) (cs:List AV),kss[j]? = some ks->rows[j]? = some cs->KdsL ks cs)->KdsL kss.flatten rows.flatten:=by
  intro kss
  induction kss with
  | nil=>intro rows h _;cases rows with
   | nil=>exact .nil
   | cons=>simp at h
  | cons k kss ih=>intro rows h hr;cases rows with
   | nil=>simp at h
   | cons c rows =>
    rw [List.flatten_cons,List.flatten_cons]
    exact(hr 0 k c rfl rfl).append (ih (by simpa using h) fun j ks cs x y=>hr (j+1) ks cs (by simpa using x) (by simpa using y))
 have hw:∀ (kss:List (List Kd)) (rs:LL) (j i:Nat) (pre:List AV),kss.length=rs.length->(∀ (j:Nat) (ks:List Kd) (cs:List AV),kss[j]? = some ks->rs[j]? = some cs->KdsL ks cs)->pre.length=i->(∀ k:Nat,rows[j+k]? = rs[k]?) ->
   ∀ w ∈ wG j i kss,∃ k,w.l=j+k/\w.b=0/\w.wr=false /\ ∃ cs,rows[w.l]? = some cs/\DL (pre ++ rs.flatten) [] w.cs cs:=by
  intro kss
  induction kss with
  | nil=>intro rs j i pre _ _ _ _ w hw;cases hw
  | cons k kss ih =>
   intro rs j i pre h hr hp hrow w hw
   cases rs with
   | nil=>simp at h
   | cons c rs =>
    have hkc:=hr 0 k c rfl rfl
    simp only [wG] at hw
    rcases List.mem_cons.1 hw with rfl | hw
    ·refine⟨0,rfl,rfl,rfl,c,?_,?_⟩
     ·have:=hrow 0;simpa using this
     ·have:=qBy hkc pre rs.flatten i hp
      simpa using this
    ·obtain⟨k',e1,e2,e3,cs,e4,e5⟩:=ih rs (j+1) (i+k.length) (pre ++ c) (by simpa using h) (fun j ks cs x y=>hr (j+1) ks cs (by simpa using x) (by simpa using y)) (by rw [List.length_append,hp,hkc.len]) (fun q=>by have:=hrow (q+1);rw [show j+1+q=j+(q+1) by omega,this];simp) w hw
     exact⟨k'+1,by omega,e2,e3,cs,e4,by simpa using e5⟩
 have hall:=hw kss rows 0 ks0.length xs0 hlen hr (by rw [h0.len]) (fun k=>by rw [Nat.zero_add])
 refine qLk (h0.append (hkl hlen hr)) [] ?_ ?_ (fun k v h=>by cases h)
 ·intro w hwm
  obtain⟨k,e1,e2,e3,cs,e4,e5⟩:=hall w hwm
  refine⟨[],cs,[],false,by simp [hZ,e4],e2.symm,e5.mono (LeL.refl _) (fun i x h=>by simp at h),fun h=>?_⟩
  rw [e3] at h;cases h
 ·intro i j a b ha _ hwr
  obtain⟨k,_,_,e3,_⟩:=hall a (List.mem_of_getElem? ha)
  rw [e3] at hwr;cases hwr
end Go.Ab
end
/- Symbolic execution: walks of loops over slices. -/
section
namespace Go.Ab
/-! ### Functions over plain arguments -/
def gAV:List (Bool × List AV)->List AV
 | []=>[]
 | (true,cs) :: r=>.agg cs :: gAV r
 | (false,cs) :: r=>cs ++ gAV r
def gSV:Nat->List (Bool × List Kd)->List SV
 | _,[]=>[]
 | i,(true,ks) :: r=>.agg (nds i ks) :: gSV (i+ks.length) r
 | i,(false,ks) :: r=>nds i ks ++ gSV (i+ks.length) r
def gKs (gk:List (Bool × List Kd)):List Kd:=(gk.map (·.2)).flatten
def gXs (gv:List (Bool × List AV)):List AV:=(gv.map (·.2)).flatten
inductive GK:List (Bool × List Kd)->List (Bool × List AV)->Prop where
  | nil:GK [] []
  | cons {b:Bool} {ks:List Kd} {cs:List AV} {gk:List (Bool × List Kd)} {gv:List (Bool × List AV)} (h:KdsL ks cs) (t:GK gk gv):GK ((b,ks) :: gk) ((b,cs) :: gv)
theorem GK.kds {gk:List (Bool × List Kd)} {gv:List (Bool × List AV)} (h:GK gk gv):KdsL (gKs gk) (gXs gv):=by
 induction h with
 | nil=>exact .nil
 | cons h _ ih=>exact h.append ih
theorem GK.dl {gk:List (Bool × List Kd)} {gv:List (Bool × List AV)} (h:GK gk gv):∀ (pre post:List AV) (i:Nat),pre.length=i->DL (pre ++ (gXs gv ++ post)) [] (gSV i gk) (gAV gv):=by
 induction h with
 | nil=>intro pre post i _;simp only [gSV,gAV,DL]
 | @cons b ks cs gk gv h t ih =>
  intro pre post i hi
  have e2:=ih (pre ++ cs) post (i+ks.length) (by rw [List.length_append,hi,h.len])
  have e1:=qBy h pre (gXs gv ++ post) i hi
  have ee:gXs ((b,cs) :: gv)=cs ++ gXs gv:=rfl
  rw [ee]
  simp only [List.append_assoc] at e1 e2 ⊢
  cases b with
  | true=>simp only [gSV,gAV,DL];exact⟨.agg cs,_,rfl,by simp only [D];exact⟨cs,rfl,e1⟩,e2⟩
  | false=>simp only [gSV,gAV];exact e1.append e2
theorem qLx {P:Program} {φ:Nat->List AV->AV} {pm:Pm} {f:FuncId} {n:Nat} {rs:List ARes} {body:ACode} (d:Nat) (hru:pm.ru=[]) (hfl:pm.fl=0) (htb:qAA P pm.tb) (hap:qCf P φ pm.ap) (hf:xU P f=some ⟨n,rs,body⟩)
  {H:AHeap} {gk:List (Bool × List Kd)} {gv:List (Bool × List AV)} (hg:GK gk gv) (hn:(gSV 0 gk).length<=n) {R:VK}
  (h:∀ p ∈ vC (wK pm d) pm body (qBn (gKs gk) (yF 0 (gSV 0 gk))),∀ vs ls H' E',Step ⟨P,bY (gXs gv),φ,gXs gv,[],H,0,[]⟩ (qBn (gKs gk) (yF 0 (gSV 0 gk))) (gXs gv) [] H p.2 vs ls H'->zB p.2.env vs ls E'->Res P p.1 (qIv rs H R) E' H'):qK P f (gAV gv) H R:=by
 have ha:=hg.dl [] [] 0 rfl
 simp only [List.nil_append,List.append_nil] at ha
 exact qKt d hru hfl htb hap hf hg.kds ha hn h
/-! ### The middle, with nodes that are given -/
def qLL:Nat->List (Node × Kd)->List (Nat × Node × Kd)
 | _,[]=>[]
 | i,(n,k) :: rest=>(i,n,k) :: qLL (i+1) rest
def qEb (nk:List (Node × Kd)) (fs:List (Nat × Bool)) (env:List (Nat × SV)) (ws:List Win):St:=⟨qLL 0 nk,nk.length,env,qBP 0 ws,ws.length,fs,ws.length⟩
inductive FaL (xs:List AV):List (Nat × Bool)->Prop where
  | nil:FaL xs []
  | cons {i:Nat} {b:Bool} {fs:List (Nat × Bool)} (h:xs[i]? = some (.bool b)) (t:FaL xs fs):FaL xs ((i,b) :: fs)
theorem FaL.mem {xs:List AV} {fs:List (Nat × Bool)} (h:FaL xs fs):∀ i b,(i,b) ∈ fs->xs[i]? = some (.bool b):=by
 induction h with
 | nil=>intro i b h;cases h
 | cons h _ ih =>
  intro i b hw
  rcases List.mem_cons.1 hw with e | hw
  ·cases e;exact h
  ·exact ih i b hw
inductive NkL (ρ:Nat->AV) (φ:Nat->List AV->AV) (vs:List AV):List (Node × Kd)->List AV->Prop where
  | nil:NkL ρ φ vs [] []
  | cons {n:Node} {kd:Kd} {v:AV} {nk:List (Node × Kd)} {xs:List AV} (h:yU ρ φ vs n v) (k:yH kd v) (t:NkL ρ φ vs nk xs):NkL ρ φ vs ((n,kd) :: nk) (v :: xs)
theorem NkL.len {ρ:Nat->AV} {φ:Nat->List AV->AV} {vs:List AV} {nk:List (Node × Kd)} {xs:List AV} (h:NkL ρ φ vs nk xs):nk.length=xs.length:=by
 induction h with
 | nil=>rfl
 | cons _ _ _ ih=>simp [ih]
theorem NkL.at {ρ:Nat->AV} {φ:Nat->List AV->AV} {vs:List AV} {nk:List (Node × Kd)} {xs:List AV} (h:NkL ρ φ vs nk xs):∀ (j:Nat),(∀ i,vs[j+i]? = xs[i]?) -> ∀ i n kd,(i,n,kd) ∈ qLL j nk -> ∃ v,vs[i]? = some v/\yU ρ φ vs n v/\yH kd v:=by
 induction h with
 | nil=>intro j _ i n kd h;cases h
 | @cons n0 kd0 v0 nk xs h1 h2 t ih =>
  intro j hj i n kd hm
  simp only [qLL] at hm
  rcases List.mem_cons.1 hm with e | hm
  ·cases e
   have:=hj 0
   simp at this
   exact⟨v0,this,h1,h2⟩
  ·exact ih (j+1) (fun i=>by have:=hj (i+1);rw [show j+1+i=j+(i+1) by omega,this];simp) i n kd hm
inductive WinL (H:AHeap) (xs:List AV) (ls:LN):List Win->Prop where
  | nil:WinL H xs ls []
  | cons {w:Win} {ws:List Win} (h:qCB H xs ls w) (t:WinL H xs ls ws):WinL H xs ls (w :: ws)
theorem WinL.mem {H:AHeap} {xs:List AV} {ls:LN} {ws:List Win} (h:WinL H xs ls ws):∀ w ∈ ws,qCB H xs ls w:=by
 induction h with
 | nil=>intro w hw;cases hw
 | cons h _ ih =>
  intro w hw
  rcases List.mem_cons.1 hw with rfl | hw
  ·exact h
  ·exact ih w hw
inductive RuL (c:Cx):List (RK × SV)->Prop where
  | nil:RuL c []
  | cons {k:RK} {v:SV} {ru:List (RK × SV)} (h:mJ c k v) (t:RuL c ru):RuL c ((k,v) :: ru)
theorem RuL.mem {c:Cx} {ru:List (RK × SV)} (h:RuL c ru):∀ k v,(k,v) ∈ ru->mJ c k v:=by
 induction h with
 | nil=>intro k v hw;cases hw
 | cons h _ ih =>
  intro k v hw
  rcases List.mem_cons.1 hw with e | hw
  ·cases e;exact h
  ·exact ih k v hw
def qAJ:List Win->Prop
 | []=>True
 | w :: ws=>(∀ v ∈ ws,w.wr=true \/ v.wr=true->w.l ≠ v.l)/\qAJ ws
theorem qFH:∀ {ws:List Win},qAJ ws -> ∀ (i j:Nat) (a b:Win),ws[i]? = some a->ws[j]? = some b->a.wr=true->a.l=b.l->i=j
 | [],_,i,j,a,b,h,_,_,_=>by simp at h
 | w :: ws,hs,0,0,a,b,_,_,_,_=>rfl
 | w :: ws,hs,0,j+1,a,b,h1,h2,h3,h4=>by
  simp at h1 h2
  subst h1
  exact absurd h4 (hs.1 b (List.mem_of_getElem? h2) (.inl h3))
 | w :: ws,hs,i+1,0,a,b,h1,h2,h3,h4=>by
  simp at h1 h2
  subst h2
  exact absurd h4.symm (hs.1 a (List.mem_of_getElem? h1) (.inr h3))
 | w :: ws,hs,i+1,j+1,a,b,h1,h2,h3,h4=>by
  simp at h1 h2
  rw [qFH hs.2 i j a b h1 h2 h3 h4]
theorem zC {P:Program} {φ:Nat->List AV->AV} {nk:List (Node × Kd)} {fs:List (Nat × Bool)} {xs:List AV} {ws:List Win} {H:AHeap} {fl:Nat} {ru:List (RK × SV)} (hk:NkL (bY xs) φ xs nk xs) (hfs:FaL xs fs) (env:List (Nat × SV)) (hw:WinL H xs (zQ ws) ws)
  (hs:qAJ ws) (hr:RuL (mH P φ xs ws H fl ru) ru):In (mH P φ xs ws H fl ru) (qEb nk fs env ws) xs (zQ ws) H:=by
 refine⟨⟨hk.len,hk.at 0 (fun i=>by rw [Nat.zero_add]),hfs.mem,?_,?_,?_,?_⟩,LeL.refl _,LeL.refl _,Kept.refl _ _ _,?_,hr.mem⟩
 ·simp [qEb,zQ]
 ·intro i j l b b' cs hf h1 h2
  obtain⟨w,w1,_,_,w4⟩:=wD hf
  simp only [zQ,List.getElem?_map,Option.map_eq_some_iff] at h1 h2
  obtain⟨a1,a2,a3⟩:=h1
  obtain⟨b1,b2,b3⟩:=h2
  rw [Nat.sub_zero,a2] at w1
  cases w1
  have e1:w.l=l:=congrArg Prod.fst a3
  have e2:b1.l=l:=congrArg Prod.fst b3
  exact qFH hs i j _ _ a2 b2 w4 (by rw [e1,e2])
 ·intro l b hl
  obtain⟨w,hw1,hw2⟩:=List.mem_map.1 hl
  cases hw2
  obtain⟨pre,ds,post,wr',h1,_⟩:=hw.mem w hw1
  exact H.lt_of_get h1
 ·intro j cs wr hf
  obtain⟨w,w1,_,rfl,rfl⟩:=wD hf
  rw [Nat.sub_zero] at w1
  obtain⟨pre,ds,post,wr',h1,h2,h3,h4⟩:=hw.mem w (List.mem_of_getElem? w1)
  exact⟨w.l,w.b,pre,ds,post,wr',by simp [zQ,w1],h1,h2,h3,h4⟩
 ·intro j l b hj e
  have hj' : (zQ ws).length<=j:=hj
  rw [List.getElem?_eq_none hj'] at e;cases e
theorem jB {P:Program} {φ:Nat->List AV->AV} {nk:List (Node × Kd)} {fs:List (Nat × Bool)} {xs:List AV} {ws:List Win} {H:AHeap} {E:Env} {pm:Pm} (d:Nat) {o:Pt} {Q:PK} {env:List (Nat × SV)}
  (hin:In (mH P φ xs ws H pm.fl pm.ru) (qEb nk fs env ws) xs (zQ ws) H) (hE:zB env xs (zQ ws) E) (htb:qAA P pm.tb) (hap:qCf P φ pm.ap)
  (h:∀ p ∈ qJL (wK pm d) pm o (qEb nk fs env ws),∀ vs ls H' E',Step (mH P φ xs ws H pm.fl pm.ru) (qEb nk fs env ws) xs (zQ ws) H p.2 vs ls H'->zB p.2.env vs ls E'->Res P p.1 Q E' H'):Res P o Q E H:=by
 obtain⟨p,hp,vs',ls',H',E',g1,g2,g3⟩:=qIj (qBd (c:=mH P φ xs ws H pm.fl pm.ru) (pm:=pm) rfl rfl htb hap d) rfl rfl o hin hE
 exact g3 Q (h p hp vs' ls' H' E' g1 g2)
section
variable {xs:List AV} {ls:LN} {E:Env} {env:List (Nat × SV)}
theorem zY:zB [] xs ls E:=fun t v h=>by cases h
theorem vP {t:Nat} {v:SV} (h:D xs ls v (E t)) (k:zB env xs ls E):zB ((t,v) :: env) xs ls E:=by
 intro u w e
 rw [vT] at e
 split at e
 ·rename_i hu;subst hu;cases e;exact h
 ·exact k u w e
theorem jC {t i:Nat} {kd:Kd} {a:AV} (h:E t=a) (hx:xs[i]? = some a) (hk:yH kd a) (k:zB env xs ls E):zB ((t,.nd i kd) :: env) xs ls E:=
 vP (by simp only [D];rw [h];exact⟨hx,hk⟩) k
theorem qJA {t:Nat} {a:AV} (h:E t=a) (ho:dA a=true) (k:zB env xs ls E):zB ((t,.lit a) :: env) xs ls E:=
 vP (by unfold D;rw [h];exact⟨rfl,ho⟩) k
theorem gZ {t j off l o:Nat} {a:AV} (h:E t=a) (ha:a=.ptr l (o+off)) (hl:ls[j]? = some (l,o)) (k:zB env xs ls E):zB ((t,.ptr j off) :: env) xs ls E:=
 vP (by simp only [D];rw [h];exact⟨l,o,hl,ha⟩) k
theorem dNd {i:Nat} {kd:Kd} {a:AV} (hx:xs[i]? = some a) (hk:yH kd a):D xs ls (.nd i kd) a:=by simp only [D];exact⟨hx,hk⟩
theorem qDo {a:AV} (ho:dA a=true):D xs ls (.lit a) a:=by unfold D;exact⟨rfl,ho⟩
theorem qKH {j off l o:Nat} (hl:ls[j]? = some (l,o)):D xs ls (.ptr j off) (.ptr l (o+off)):=by simp only [D];exact⟨l,o,hl,rfl⟩
theorem zA:DL xs ls [] []:=by simp only [DL]
theorem qB {v:SV} {a:AV} {ws:List SV} {as:List AV} (h:D xs ls v a) (t:DL xs ls ws as):DL xs ls (v :: ws) (a :: as):=by simp only [DL];exact⟨a,as,rfl,h,t⟩
theorem mV {ws:List SV} {as:List AV} (t:DL xs ls ws as):D xs ls (.agg ws) (.agg as):=by simp only [D];exact⟨as,rfl,t⟩
end
def zJ (E:Env) (sl:List (Nat × AV)):Prop:=∀ t a,(t,a) ∈ sl->E t=a
theorem zJ.nil {E:Env}:zJ E []:=fun t a h=>by cases h
theorem zJ.cons {E:Env} {t:Nat} {a:AV} {sl:List (Nat × AV)} (h:E t=a) (k:zJ E sl):zJ E ((t,a) :: sl):=fun u b hb=>by
  rcases List.mem_cons.1 hb with e | hb
  · cases e;exact h
  · exact k u b hb
theorem zJ.head {E:Env} {t:Nat} {a:AV} {sl:List (Nat × AV)} (h:zJ E ((t,a) :: sl)):E t=a:=h t a (by simp)
theorem zJ.tail {E:Env} {t:Nat} {a:AV} {sl:List (Nat × AV)} (h:zJ E ((t,a) :: sl)):zJ E sl:=fun u b hb=>h u b (by simp [hb])
theorem qDn {c:Cx} {s:St} {vs:List AV} {ls:LN} {H:AHeap} {E:Env} (h:In c s vs ls H) (hE:zB s.env vs ls E):∀ {sl:List (Nat × AV)},(sl.map fun p=>(jS p.1 s.env).bind (dn c.ρ c.φ s.ns c.ls 100))=sl.map (fun p=>some p.2)->zJ E sl
 | [],_=>.nil
 | (t,a) :: sl,e=>by
  simp only [List.map_cons,List.cons.injEq] at e
  exact .cons (qW h hE t e.1) (qDn h hE e.2)
theorem qAZ {P:Program} {o:Pt} {Q:PK} {E:Env} {H H0:AHeap} (ho:o=.code (.loop (qFA o)) (qAW o)) (sl:List (Nat × AV)) (ti n:Nat) (Inv:Nat->Prop)
  (hs:zJ E sl) (hi:E ti=.int .i64 ((0:Nat):Int)) (hg:Grew H0 H) (h0:Inv 0)
  (hb:∀ i,i<=n->Inv i -> ∀ E H,zJ E sl->E ti=.int .i64 (i:Int)->Grew H0 H->Res P (.code (qFA o) []) (tC (fun E' H'=>i < n/\zJ E' sl/\E' ti=.int .i64 ((i+1:Nat):Int)/\Grew H0 H'/\Inv (i+1)) (zI P (qAW o) Q)) E H):Res P o Q E H:=by
 refine zE ho (fun m E H=>∃ i,m+i=n/\zJ E sl/\E ti=.int .i64 (i:Int)/\Grew H0 H/\Inv i) n ⟨0,by omega,hs,hi,hg,h0⟩ ?_
 rintro m E H ⟨i,hm,h1,h2,h3,h4⟩
 have:=hb i om h4 E H h1 h2 h3
 refine xM (fun e E' H' h=>?_) this
 cases e with
 | normal=>obtain⟨k0,k1,k2,k3,k4⟩:=h;exact⟨m - 1,by omega,i+1,by omega,k1,k2,k3,k4⟩
 | exit id=>exact h
 | ret=>exact h
theorem wrap64 {i:Nat} (h:i < 4611686018427387904):IntKind.i64.wrap ((i:Int)+1)=((i+1:Nat):Int):=by
 rw [wrap_i64 om om];omega
/-! ### Slices that hold records -/
inductive SlL (H:AHeap) (sz:Nat) (ms:LL):AV->Prop where
  | nil (h:ms=[]):SlL H sz ms .nilslice
  | sl {l n cap:Nat} {rest:List AV} {wr:Bool} (hg:H.get l=some (.row (ms.flatten ++ rest) wr)) (hn:ms.length=n) (hc:n<=cap):SlL H sz ms (.slice l 0 n cap sz)
theorem SlL.grew {H H' : AHeap} (g:Grew H H') {sz:Nat} {ms:LL} {a:AV} (h:SlL H sz ms a):SlL H' sz ms a:=by
 cases h with
 | nil h=>exact .nil h
 | sl hg hn hc=>exact .sl (g.at hg) hn hc
def qL (ks:List Kd) (ms:LL):Prop:=∀ m ∈ ms,KdsL ks m
theorem qL.get {ks:List Kd} {ms:LL} (h:qL ks ms) {i:Nat} (hi:i < ms.length):KdsL ks ms[i]:=h _ (List.getElem_mem hi)
theorem yP {sz:Nat}:∀ {ms:LL} {i:Nat} (_:∀ m ∈ ms,m.length=sz) (hi:i < ms.length) (rest:List AV),∃ pre post,ms.flatten ++ rest=pre ++ (ms[i] ++ post)/\pre.length=i * sz
 | [],i,_,hi,_=>by simp at hi
 | m :: ms,0,_,_,rest=>⟨[],ms.flatten ++ rest,by simp,by simp⟩
 | m :: ms,i+1,h,hi,rest=>by
  obtain⟨pre,post,h1,h2⟩:=yP (ms:=ms) (i:=i) (fun x hx=>h x (by simp [hx])) (by simpa using hi) rest
  refine⟨m ++ pre,post,?_,?_⟩
  ·simp only [List.flatten_cons,List.append_assoc,List.getElem_cons_succ]
   rw [h1]
  ·rw [List.length_append,h m (by simp),h2,Nat.succ_mul];omega
theorem qL.len {ks:List Kd} {ms:LL} (h:qL ks ms):∀ m ∈ ms,m.length=ks.length:=fun m hm=>(h m hm).len.symm
theorem qA {H:AHeap} {ks:List Kd} {ms:LL} (hr:qL ks ms) {l i sz:Nat} {rest:List AV} {wr:Bool} (hg:H.get l=some (.row (ms.flatten ++ rest) wr)) (hi:i < ms.length) (hsz:ks.length=sz) {xs:List AV} {ls:LN} {svs:List SV} (hd:DL xs ls svs ms[i]) :
  qCB H xs ls ⟨l,i * sz,svs,false⟩:=by
 subst hsz
 obtain⟨pre,post,h1,h2⟩:=yP hr.len hi rest
 exact⟨pre,ms[i],post,wr,by rw [hg,h1],h2,hd,fun h=>by cases h⟩
theorem bH {H:AHeap} {l:Nat} {cs:List AV} {wr:Bool} (hg:H.get l=some (.row cs wr)) {xs:List AV} {ls:LN} {svs:List SV} (hd:DL xs ls svs cs):qCB H xs ls ⟨l,0,svs,false⟩:=
 ⟨[],cs,[],wr,by simpa using hg,rfl,hd,fun h=>by cases h⟩
theorem jL {c:Cx} {x v:SV} {l o n cap sz:Nat} (hx:D c.vs c.ls x (.slice l o n cap sz)) (hv:D c.vs c.ls v (.int .i64 (n:Int))):mJ c (.len x) v:=⟨_,_,hx,hv,fun E get=>rfl⟩
theorem zV {c:Cx} {x i:SV} {j l n cap sz k:Nat} (hx:D c.vs c.ls x (.slice l 0 n cap sz)) (hi:D c.vs c.ls i (.int .i64 (k:Int))) (hk:k < n) (hj:c.ls[j]? = some (l,k * sz)):mJ c (.ia sz x i) (.ptr j 0):=
 ⟨_,_,.ptr l (k * sz),hx,hi,by simp only [D];exact⟨l,k * sz,hj,by simp⟩,fun E get=>by
  simp only [zS,Opd.ev]
  rw [if_pos ⟨trivial,by omega,by omega⟩,Int.toNat_natCast,Nat.zero_add]⟩
theorem qI {c:Cx} {f:FuncId} {xs:List SV} {args:List AV} {v:SV} {r:AV} (hx:DL c.vs c.ls xs args) (hv:D c.vs c.ls v r) (h:∀ H,Kept c.fl c.ls c.H H->zG c.P f args H r):mJ c (.call f xs) v:=⟨args,r,hx,hv,h⟩
def qDf (ks:List Kd):Bool:=ks.all (fun k=>!decide (k=.any) && !decide (k=.one))
theorem qFo {gk:List (Bool × List Kd)} {gv:List (Bool × List AV)} (h:GK gk gv) (hk:gk.all (fun p=>qDf p.2)=true):∀ a ∈ gAV gv,a.flat=true:=by
 have mem:∀ {l:List AV},flatL l=true -> ∀ a ∈ l,a.flat=true:=by
  intro l
  induction l with
  | nil=>intro _ a ha;cases ha
  | cons b l ih =>
   intro h a ha
   simp only [flatL,Bool.and_eq_true] at h
   rcases List.mem_cons.1 ha with rfl | ha
   ·exact h.1
   ·exact ih h.2 a ha
 induction h with
 | nil=>intro a ha;cases ha
 | @cons b ks cs gk gv h _ ih =>
  simp only [List.all_cons,Bool.and_eq_true] at hk
  have h1:=kK h hk.1
  intro a ha
  cases b with
  | true =>
   simp only [gAV] at ha
   rcases List.mem_cons.1 ha with rfl | ha
   ·simp only [AV.flat];exact h1
   ·exact ih hk.2 a ha
  | false =>
   simp only [gAV] at ha
   rcases List.mem_append.1 ha with ha | ha
   ·exact mem h1 a ha
   ·exact ih hk.2 a ha
theorem qHJ {P:Program} {φ:Nat->List AV->AV} {pm:Pm} (d:Nat) {sh:ShT} {f g:FuncId} (hru:pm.ru=[]) (hfl:pm.fl=0) (htb:qAA P pm.tb) (hap:qCf P φ pm.ap) {gk:List (Bool × List Kd)} {gv:List (Bool × List AV)} (hg:GK gk gv) (hk:gk.all (fun p=>qDf p.2)=true)
  (hp:qEk pm d sh f (gSV 0 gk) g (gSV 0 gk) (qBn (gKs gk) [])=true):∃ r,HasSh sh r/\r.flat=true /\ ∀ H,zG P f (gAV gv) H r/\zG P g (gAV gv) H r:=by
 have ha:=hg.dl [] [] 0 rfl
 simp only [List.nil_append,List.append_nil] at ha
 have hin:=qCT (P:=P) (φ:=φ) hg.kds [] (hZ [])
 obtain⟨r,h1,h2,h3,h4⟩:=qDe (c:=⟨P,bY (gXs gv),φ,gXs gv,[],hZ [],0,[]⟩) d hru hfl htb hap hin ha ha hp
 exact⟨r,h1,h2,fun H=>⟨h3.frame0 h2 (qFo hg hk) H,h4.frame0 h2 (qFo hg hk) H⟩⟩
theorem qEZ {r:AV} (h:HasSh (.k .bool) r):∃ b,r=.bool b:=by
 cases h with
 | k h=>exact h
theorem qHK {P:Program} {φ:Nat->List AV->AV} {tb:List (Nat × AFun)} {ap:List (Nat × Nat × List Kd × Kd)} (d:Nat) {sh:ShT} {f g:FuncId} (htb:qAA P tb) (hap:qCf P φ ap) {ks:List Kd} {m:List AV} (hm:KdsL ks m) (hk:qDf ks=true)
  (hp:qEk ⟨1,[],tb,ap,1000⟩ d sh f [.agg (nds 0 ks)] g [.ptr 0 0] (qHB ([] ++ [ks].flatten) [] (wG 0 0 [ks]))=true) :
  ∃ r,HasSh sh r/\r.flat=true/\(∀ H,zG P f [.agg m] H r) /\ ∀ (H:AHeap) (l off:Nat) (pre post:List AV) (wr:Bool),H.get l=some (.row (pre ++ (m ++ post)) wr)->pre.length=off->zG P g [.ptr l off] H r:=by
 have hin:=qFK (P:=P) (φ:=φ) (kss:=[ks]) (rows:=[m]) (ks0:=[]) (xs0:=[]) (fun j k c h1 h2=>by
  match j,h1,h2 with
  | 0,h1,h2=>simp at h1 h2;subst h1;subst h2;exact hm
  | j+1,h1,h2=>simp at h1) rfl .nil
 have hd:DL ([] ++ [m].flatten) (zQ (wG 0 0 [ks])) (nds 0 ks) m:=by
  have:=qBy hm [] [] 0 rfl
  simp only [List.flatten_cons,List.flatten_nil]
  exact this.mono (LeL.refl _) (fun i x h=>by simp at h)
 obtain⟨r,h1,h2,h3,h4⟩:=qDe (pm:=⟨1,[],tb,ap,1000⟩) d rfl rfl htb hap hin (qB (mV hd) zA) (bs:=[.ptr 0 0]) (qB (qKH (l:=0) (o:=0) rfl) zA) hp
 have hf:=kK hm hk
 refine⟨r,h1,h2,fun H=>h3.frame0 h2 (fun a ha=>?_) H,fun H l off pre post wr hg hpl=>h4.frame h2 (qIY hf hg hpl) (.cons (.ptr rfl (by simp)) .nil)⟩
 simp at ha
 subst ha
 simp only [AV.flat];exact hf
theorem qN {P:Program} {f:FuncId} {n:Nat} {rs:List ARes} {body:ACode} (hf:xU P f=some ⟨n,rs,body⟩) {args:List AV} {H:AHeap} {R:VK} (hargs:args.length<=n) (h:Res P (.code body []) (qIv rs H R) (Env.start args) H):qK P f args H R:=
 acalls hf hargs h
theorem pX {P:Program} {o:Pt} (ho:o=.ex .normal) {sl:List (Nat × AV)} {ti n i:Nat} {Inv:Nat->Prop} {H0:AHeap} {Q:PK} {c:Cx} {s:St} {vs:List AV} {ls:LN} {E:Env} {H:AHeap} (h:In c s vs ls H) (hE:zB s.env vs ls E)
  (hi:i < n) (hsl:(sl.map fun p=>(jS p.1 s.env).bind (dn c.ρ c.φ s.ns c.ls 100))=sl.map (fun p=>some p.2)) {w:Int} (hti:(jS ti s.env).bind (dn c.ρ c.φ s.ns c.ls 100)=some (.int .i64 w)) (hw:w=((i+1:Nat):Int)) (hg:Grew H0 H) (hI:Inv (i+1)) :
  Res P o (tC (fun E' H'=>i < n/\zJ E' sl/\E' ti=.int .i64 ((i+1:Nat):Int)/\Grew H0 H'/\Inv (i+1)) Q) E H:=by
 rw [ho]
 exact⟨hi,qDn h hE hsl,by rw [qW h hE ti hti,hw],hg,hI⟩
theorem jD {H:AHeap} {sz:Nat} {ms:LL} {S:AV} (h:SlL H sz ms S):S.one=true:=by cases h <;> rfl
theorem gB {H:AHeap} {sz:Nat} {ms:LL} {S:AV} (h:SlL H sz ms S):∀ E get,zS E get (.len (.const S))=some (.int .i64 (ms.length:Int)):=by
 cases h with
 | nil h=>subst h;intro E get;rfl
 | sl _ hn _=>subst hn;intro E get;rfl
theorem kN {P:Program} {Q:PK} {E:Env} {H:AHeap} (h:Q .ret E H):∀ fr:List Fr,zI P fr Q .ret E H
 | []=>h
 | .seq b :: fr=>kN h fr
 | .block id :: fr=>kN h fr
 | .loop a :: fr=>kN h fr
theorem bE {P:Program} {o:Pt} (ho:o=.ex .ret) {fr:List Fr} {X:Env->AHeap->Prop} {Q:PK} {E:Env} {H:AHeap} (h:Q .ret E H):Res P o (tC X (zI P fr Q)) E H:=by
 rw [ho];exact kN h fr
theorem qQ {P:Program} {o:Pt} {id:Nat} (ho:o=.ex (.exit id)) {fr:List Fr} {X:Env->AHeap->Prop} {Q:PK} {E:Env} {H:AHeap} (h:Res P (.code (.exit id) fr) Q E H):Res P o (tC X (zI P fr Q)) E H:=by
 rw [ho];exact h
theorem qLr {c:Cx} {s:St} {vs:List AV} {ls:LN} {H:AHeap} {E:Env} (h:In c s vs ls H) (hE:zB s.env vs ls E) (t j:Nat) (he:jS t s.env=some (.ptr j 0)) {ds:List AV} (e:(jS j s.heap).bind (fun p=>(dnL c.ρ c.φ s.ns c.ls 300 p.1).map fun x=>(x,p.2))=some (ds,true)) :
  ∃ l,E t=.ptr l 0/\H.get l=some (.row ds true)/\(c.ls.length<=j->c.H.next<=l):=by
 rw [Option.bind_eq_some_iff] at e
 obtain⟨p,h1,h2⟩:=e
 rw [Option.map_eq_some_iff] at h2
 obtain⟨x,h2,h3⟩:=h2
 obtain⟨rfl,h4⟩:=Prod.mk.inj h3
 obtain⟨l,b,pre,es,post,wr',k1,k2,k3,k4,k5⟩:=h.ok.heap j p.1 p.2 (by rw [h1])
 obtain⟨rfl,rfl,rfl⟩:=k5 h4
 have:=uX h h.lel 300 k4 h2
 subst this
 have hd:=hE t _ he
 simp only [D] at hd
 obtain⟨l',o',g1,g2⟩:=hd
 rw [k1] at g1
 cases g1
 refine⟨l,by rw [g2,<- k3];rfl,by simpa using k2,fun hj=>h.new j l b hj k1⟩
end Go.Ab
namespace Go.Ab
/-! ### Stops -/
def bV:Pt->List AOper
 | .ops (_ :: rest) _=>rest
 | _=>[]
theorem qR {P:Program} {o:Pt} {d:ON} {f:FuncId} {args:List Opd} (ho:o=.ops (⟨d,.call f args,none⟩ :: bV o) (qAW o)) {Q:PK} {E:Env} {H:AHeap} {R:VK} (hc:qK P f (args.map (·.ev E)) H R)
  (h:∀ r H',R r H'->Res P (.ops (bV o) (qAW o)) Q (E.put d r) H'):Res P o Q E H:=by
 rw [ho]
 exact qGF hc h
theorem qLs {P:Program} {o:Pt} {d:ON} {sz bytes:Nat} {zs:List AV} {x y:Opd} (ho:o=.ops (⟨d,.mkSlice sz bytes zs x y,none⟩ :: bV o) (qAW o)) {Q:PK} {E:Env} {H:AHeap} {k1 k2:IntKind} {n:Nat} (hx:x.ev E=.int k1 (n:Int)) (hy:y.ev E=.int k2 (n:Int)) (h3:bytes * n<=281474976710656) (h4:n<=9223372036854775807)
  (h:Res P (.ops (bV o) (qAW o)) Q (E.put d (.slice H.next 0 n n sz)) (H.new (.row (List.replicate n zs).flatten true))):Res P o Q E H:=by
 rw [ho]
 exact qKS hx hy (Nat.le_refl n) h3 h4 rfl h
theorem qEn {P:Program} {o:Pt} {d:ON} {n:Nat} {x y:Opd} (ho:o=.ops (⟨d,.store n x y,none⟩ :: bV o) (qAW o)) {Q:PK} {E:Env} {H:AHeap} {l off:Nat} {cs vs:List AV} (hx:x.ev E=.ptr l off) (hg:H.get l=some (.row cs true)) (hy:(y.ev E).cells=some vs) (hn:vs.length=n) (hl:off+n<=cs.length) (h1:vs.all AV.one=true)
  (h:Res P (.ops (bV o) (qAW o)) Q (E.put d .undef) (H.put l (.row (laid cs off vs) true))):Res P o Q E H:=by
 rw [ho]
 exact qFf hx hg hy hn hl h1 rfl h
theorem qHu {p m z:List AV} {i sz k:Nat} (hp:p.length=i * sz) (hm:m.length=sz) (hz:z.length=sz):laid (p ++ (List.replicate (k+1) z).flatten) (i * sz) m=(p ++ m) ++ (List.replicate k z).flatten:=by
 unfold laid
 rw [<- hp,List.take_left,hm,List.replicate_succ,List.flatten_cons]
 congr 1
 rw [List.drop_append,List.drop_eq_nil_of_le om,List.nil_append,show p.length+sz - p.length=sz by omega,<- hz,List.drop_left]
theorem qIU {ks:List Kd} {m:List AV} (h:KdsL ks m) (hk:ks.all (fun k=>!decide (k=.any))=true):m.all AV.one=true:=by
 induction h with
 | nil=>rfl
 | @cons k a ks as h _ ih =>
  simp only [List.all_cons,Bool.and_eq_true] at hk ⊢
  refine⟨?_,ih hk.2⟩
  exact qHH (vs:=[a]) (ls:=[]) (x:=.nd 0 k) (by simp only [D];exact⟨rfl,h⟩) (by simpa [qKJ] using hk.1)
theorem qCe {ms:LL} {i:Nat} (hi:i < ms.length):(ms.take (i+1)).flatten=(ms.take i).flatten ++ ms[i]:=by
 rw [List.take_succ_eq_append_getElem hi,List.flatten_append];simp
theorem wT {sz:Nat} {ms:LL} (h:∀ m ∈ ms,m.length=sz) {i:Nat} (hi:i<=ms.length):(ms.take i).flatten.length=i * sz:=by
 have:∀ (l:LL),(∀ m ∈ l,m.length=sz)->l.flatten.length=l.length * sz:=by
  intro l
  induction l with
  | nil=>intro _;simp
  | cons m l ih=>intro h;rw [List.flatten_cons,List.length_append,h m (by simp),ih fun x hx=>h x (by simp [hx]),List.length_cons,Nat.succ_mul];omega
 rw [this _ fun m hm=>h m (List.mem_of_mem_take hm),List.length_take,Nat.min_eq_left hi]
theorem qJj {c:Cx} {x i v:SV} {l n cap sz k:Nat} (hx:D c.vs c.ls x (.slice l 0 n cap sz)) (hi:D c.vs c.ls i (.int .i64 (k:Int))) (hk:k < n) (hv:D c.vs c.ls v (.ptr l (k * sz))):mJ c (.ia sz x i) v:=
 ⟨_,_,.ptr l (k * sz),hx,hi,hv,fun E get=>by
  simp only [zS,Opd.ev]
  rw [if_pos ⟨trivial,by omega,by omega⟩,Int.toNat_natCast,Nat.zero_add]⟩
end Go.Ab
namespace Go.Ab
theorem qP {P:Program} {o:Pt} (ho:o=.ex .normal) {X:Env->AHeap->Prop} {Q:PK} {E:Env} {H:AHeap} (h:X E H):Res P o (tC X Q) E H:=by
 rw [ho];exact h
theorem qS {c:Cx} {s:St} {vs:List AV} {ls:LN} {H:AHeap} {E:Env} (h:In c s vs ls H) (hE:zB s.env vs ls E) {rs:List ARes} {a:AV} {H0:AHeap} {R:VK} {e:AExit} (he:e=.normal \/ e=.ret) (hr:(qGv rs s).bind (dn c.ρ c.φ s.ns c.ls 100)=some a) (hg:H0.next<=H.next) (hR:R a H):qIv rs H0 R e E H:=by
  rcases he with rfl | rfl
  · exact⟨a,qFC h hE hr,kB hg hR⟩
  · exact⟨a,qFC h hE hr,kB hg hR⟩
end Go.Ab
namespace Go.Ab
def qHy (pm:Pm) (d:Nat) (f:FuncId) (xs:List SV) (s:St) (a:AV):Bool:=
 match wK pm d f xs s with
 | some ps=>ps.all fun p=>p.2.2 && p.1.beq (.lit a)
 | none=>false
theorem qFu {P:Program} {φ:Nat->List AV->AV} {pm:Pm} (d:Nat) {f:FuncId} (hru:pm.ru=[]) (hfl:pm.fl=0) (htb:qAA P pm.tb) (hap:qCf P φ pm.ap) {ks:List Kd} {ys:List AV} (hk:KdsL ks ys) {xs:List SV} {args:List AV} (hx:DL ys [] xs args) {a:AV}
  (hp:qHy pm d f xs (qBn ks []) a=true) (H:AHeap):zG P f args H a:=by
 have hin:=qCT (P:=P) (φ:=φ) hk [] H
 have hc:=qBd (c:=⟨P,bY ys,φ,ys,[],H,0,[]⟩) (pm:=pm) hru hfl htb hap d
 unfold qHy at hp
 split at hp
 ·rename_i ps hps
  obtain⟨p,p1,vs1,ls1,H1,r,st,d1,_,_,d2⟩:=hc f xs _ _ _ H args ps hin hx hps
  have:=List.all_eq_true.1 hp p p1
  simp only [Bool.and_eq_true] at this
  obtain⟨_,h2⟩:=d2 this.1
  rw [SV.eq_of_beq this.2] at d1
  simp only [D] at d1
  rw [d1.1] at h2
  exact h2
 ·cases hp
end Go.Ab
namespace Go.Ab
theorem Kept.grew_from {f:Nat} {ls:LN} {H H1 H2:AHeap} (hg:Grew H H1) (hk:Kept f ls H1 H2) (hn:∀ l b,(l,b) ∈ ls->H.next<=l):Grew H H2:=
 ⟨Nat.le_trans hg.next hk.1,fun l hl=>by
  rw [hk.2 l (Nat.lt_of_lt_of_le hl hg.next) fun j b _ e=>by have:=hn l b (List.mem_of_getElem? e);omega]
  exact hg.get l hl⟩
theorem qJF {c:Cx} {s:St} {vs:List AV} {ls:LN} {H:AHeap} {E:Env} (h:In c s vs ls H) (hE:zB s.env vs ls E) (t j t' j' : Nat) (he:jS t s.env=some (.ptr j 0)) (he' : jS t' s.env=some (.ptr j' 0)) {cs:List SV} (hr:jS j s.heap=some (cs,true)) (hj:j ≠ j') {l l' : Nat} (h1:E t=.ptr l 0) (h2:E t'=.ptr l' 0):l ≠ l':=by
 rintro rfl
 have d1:=hE t _ he
 have d2:=hE t' _ he'
 simp only [D] at d1 d2
 obtain⟨a,o,g1,g2⟩:=d1
 obtain⟨a',o',g3,g4⟩:=d2
 rw [h1] at g2
 rw [h2] at g4
 have e1:a=l:=by cases g2;rfl
 have e2:a'=l:=by cases g4;rfl
 subst e1
 subst e2
 exact hj (h.ok.sep j j' _ _ _ cs hr g1 g3)
theorem qFe {H:AHeap} {l:Nat} {cs:List AV} (hg:H.get l=some (.row cs true)) {xs:List AV} {ls:LN} {svs:List SV} (hd:DL xs ls svs cs):qCB H xs ls ⟨l,0,svs,true⟩:=
 ⟨[],cs,[],true,by simpa using hg,rfl,hd,fun _=>⟨rfl,rfl,rfl⟩⟩
end Go.Ab
namespace Go.Ab
def kQs:Pt->List AOper
 | .kids (.cons _ _ (.node qs _) _) _=>qs
 | _=>[]
def qIQ:Pt->AKids
 | .kids (.cons _ _ (.node _ ks) _) _=>ks
 | _=>.nil
theorem pG {P:Program} {o:Pt} {free:Bool} {d:ON} {f:FuncId} {args:List Opd} (ho:o=.kids (.cons free ⟨d,.call f args,none⟩ (.node (kQs o) (qIQ o)) .nil) (qAW o)) {Q:PK} {E:Env} {H:AHeap} {R:VK} (hc:qK P f (args.map (·.ev E)) H R)
  (h:∀ r H',R r H'->Grew H H'/\Res P (.mixq (kQs o) (qIQ o) (qAW o)) Q (E.put d r) H'):Res P o Q E H:=by
 rw [ho]
 refine qHD (qGF hc fun r H' hr=>?_)
 obtain⟨h1,h2⟩:=h r H' hr
 refine qJy ⟨.inr h1,?_⟩
 simp only [qDq]
 exact h2
def qKO (rs:List ARes) (a:AV) (n:Nat) (outs:List (Pt × St)):Bool:=outs.all fun p=>(match p.1 with
 | .ex .normal=>true
 | .ex .ret=>true
 | _=>false) && ((match qGv rs p.2 with
 | some v=>v.beq (.lit a)
 | none=>false) && Nat.ble n p.2.wm)
theorem qKu {P:Program} {φ:Nat->List AV->AV} {nk:List (Node × Kd)} {fs:List (Nat × Bool)} {xs:List AV} {ws:List Win} {H H0:AHeap} {E:Env} {pm:Pm} (d:Nat) {o:Pt} {rs:List ARes} {R:VK} {a:AV} {env:List (Nat × SV)}
  (hin:In (mH P φ xs ws H pm.fl pm.ru) (qEb nk fs env ws) xs (zQ ws) H) (hE:zB env xs (zQ ws) E) (htb:qAA P pm.tb) (hap:qCf P φ pm.ap) (hg:Grew H0 H) (hf:a.flat=true) (hR:R a H0)
  (h:qKO rs a ws.length (qJL (wK pm d) pm o (qEb nk fs env ws))=true):Res P o (qIv rs H0 R) E H:=by
 refine jB d hin hE htb hap fun p hp vs ls H' E' st hE'=>?_
 have:=List.all_eq_true.1 h p hp
 simp only [Bool.and_eq_true] at this
 obtain⟨h1,h2,h3⟩:=this
 have hgr:Grew H0 H':=hg.trans (st.kept.grew (by simpa [zQ] using Nat.le_of_ble_eq_true h3))
 have hres:vN rs E' H'=some a:=by
  split at h2
  ·rename_i v hv
   obtain⟨b,b1,b2⟩:=qFc st.inn hE' hv
   rw [SV.eq_of_beq h2] at b2
   simp only [D] at b2
   rw [b1,b2.1]
  ·cases h2
 split at h1
 ·rename_i e;rw [e];exact⟨a,hres,uZ hgr hf hR⟩
 ·rename_i e;rw [e];exact⟨a,hres,uZ hgr hf hR⟩
 ·cases h1
end Go.Ab
end
/- Slices among a law's arguments. -/
section
namespace Go.Ab
theorem qDU {H:AHeap} {es:List Sh} {ks:List Kd} (hk:es.mapM qKI=some ks) {cs:List AV} (hl:cs.length=es.length) (h:∀ (j:Nat) (s:Sh) (a:AV),es[j]? = some s->cs[j]? = some a->Fits H s a):KdsL ks cs:=qDH ⟨hl,h⟩ hk
theorem qHO {H:AHeap} {es:List Sh} {ks:List Kd} (hk:es.mapM qKI=some ks):∀ (n:Nat) {cs:List AV},cs.length=n * es.length->(∀ i j s a,i < n->es[j]? = some s->cs[i * es.length+j]? = some a->Fits H s a) -> ∃ ms,qL ks ms/\ms.flatten=cs/\ms.length=n
 | 0,cs,hl,_=>⟨[],fun m hm=>(by cases hm),by simp at hl;simp [hl],rfl⟩
 | n+1,cs,hl,h=>by
  have h1:KdsL ks (cs.take es.length):=by
   refine qDU (H:=H) hk ?_ ?_
   ·rw [List.length_take,hl,Nat.succ_mul];omega
   ·intro j s a hs ha
    have hj:j < es.length:=by
     rcases Nat.lt_or_ge j es.length with h' | h'
     ·exact h'
     ·rw [List.getElem?_eq_none h'] at hs;cases hs
    rw [List.getElem?_take,if_pos hj] at ha
    exact h 0 j s a om hs (by simpa using ha)
  obtain⟨ms,g1,g2,g3⟩:=qHO hk n (cs:=cs.drop es.length) (by rw [List.length_drop,hl,Nat.succ_mul];omega) (fun i j s a hi hs ha=>by
   rw [List.getElem?_drop] at ha
   exact h (i+1) j s a om hs (by rw [Nat.succ_mul,show i * es.length+es.length+j=es.length+(i * es.length+j) by omega];exact ha))
  refine⟨cs.take es.length :: ms,?_,?_,by simp [g3]⟩
  ·intro m hm
   rcases List.mem_cons.1 hm with rfl | hm
   ·exact h1
   ·exact g1 m hm
  ·rw [List.flatten_cons,g2,List.take_append_drop]
theorem qMc {H:AHeap} {es:List Sh} {ks:List Kd} {sz:Nat} {a:AV} (h:Fits H (.sl es) a) (hk:es.mapM qKI=some ks) (hsz:es.length=sz):∃ ms,qL ks ms/\SlL H sz ms a/\ms.length<=9223372036854775807:=by
 subst hsz
 cases h with
 | nil=>exact⟨[],fun m hm=>(by cases hm),.nil rfl,by simp⟩
 | @sl l len cap _ cs hg hl hc hm hf =>
  obtain⟨ms,g1,g2,g3⟩:=qHO hk len hl hf
  refine⟨ms,g1,.sl (rest:=[]) (by rw [g2];simpa using hg) g3 hc,?_⟩
  have:maxLen=9223372036854775807:=rfl
  omega
end Go.Ab
end
/- Two functions that give the same: two records by address. -/
section
namespace Go.Ab
theorem dFn {xs:List AV} {ls:LN} {f:FuncId}:D xs ls (.fn f [] []) (.func f [] []):=by simp only [D,DL];exact⟨[],[],rfl,rfl,rfl⟩
theorem qGT {xs:List AV} {ls:LN} {E:Env} {env:List (Nat × SV)} {t:Nat} {f:FuncId} (h:E t=.func f [] []) (k:zB env xs ls E):zB ((t,.fn f [] []) :: env) xs ls E:=vP (by rw [h];exact dFn) k
theorem qHL {P:Program} {φ:Nat->List AV->AV} {tb:List (Nat × AFun)} {ap:List (Nat × Nat × List Kd × Kd)} (d:Nat) {sh:ShT} {f g:FuncId} (htb:qAA P tb) (hap:qCf P φ ap) {ks:List Kd} {m m' : List AV} (hm:KdsL ks m) (hm' : KdsL ks m') (hk:qDf ks=true)
  (hp:qEk ⟨2,[],tb,ap,1000⟩ d sh g [.ptr 0 0,.ptr 1 0] f [.agg (nds 0 ks),.agg (nds ks.length ks)] (qHB ([] ++ [ks,ks].flatten) [] (wG 0 0 [ks,ks]))=true) :
  ∃ r,HasSh sh r/\r.flat=true/\(∀ H,zG P f [.agg m,.agg m'] H r) /\ ∀ (H:AHeap) (l off l' off' : Nat) (pre post pre' post' : List AV) (wr wr' : Bool),H.get l=some (.row (pre ++ (m ++ post)) wr)->pre.length=off->H.get l'=some (.row (pre' ++ (m' ++ post')) wr')->pre'.length=off'->zG P g [.ptr l off,.ptr l' off'] H r:=by
 have hin:=qFK (P:=P) (φ:=φ) (kss:=[ks,ks]) (rows:=[m,m']) (ks0:=[]) (xs0:=[]) (fun j k c h1 h2=>by
  match j,h1,h2 with
  | 0,h1,h2=>simp at h1 h2;subst h1;subst h2;exact hm
  | 1,h1,h2=>simp at h1 h2;subst h1;subst h2;exact hm'
  | j+2,h1,h2=>simp at h1) rfl .nil
 have hd:DL ([] ++ [m,m'].flatten) (zQ (wG 0 0 [ks,ks])) (nds 0 ks) m:=by
  have:=qBy hm [] (m' ++ []) 0 rfl
  simp only [List.flatten_cons,List.flatten_nil]
  exact this.mono (LeL.refl _) (fun i x h=>by simp at h)
 have hd' : DL ([] ++ [m,m'].flatten) (zQ (wG 0 0 [ks,ks])) (nds ks.length ks) m':=by
  have:=qBy hm' m [] ks.length hm.len.symm
  simp only [List.flatten_cons,List.flatten_nil]
  exact this.mono (LeL.refl _) (fun i x h=>by simp at h)
 have hx:DL ([] ++ [m,m'].flatten) (zQ (wG 0 0 [ks,ks])) [.ptr 0 0,.ptr 1 0] [.ptr 0 0,.ptr 1 0]:=qB (qKH (l:=0) (o:=0) rfl) (qB (qKH (l:=1) (o:=0) rfl) zA)
 obtain⟨r,h1,h2,h4,h3⟩:=qDe (pm:=⟨2,[],tb,ap,1000⟩) d rfl rfl htb hap hin hx (qB (mV hd) (qB (mV hd') zA)) hp
 have hf:=kK hm hk
 have hf':=kK hm' hk
 refine⟨r,h1,h2,fun H=>h3.frame0 h2 (fun a ha=>?_) H,fun H l off l' off' pre post pre' post' wr wr' hg hpl hg' hpl'=>h4.frame h2 (qIZ hf hg hpl hf' hg' hpl') (.cons (.ptr rfl (by simp)) (.cons (.ptr rfl (by simp)) .nil))⟩
 simp at ha
 rcases ha with rfl | rfl
 ·simp only [AV.flat];exact hf
 ·simp only [AV.flat];exact hf'
end Go.Ab
end
/- A function gives one value: two contracts about the same call agree. -/
section
namespace Go.Ab
theorem qJk {P:Program} {m:Machine} {n n' : Nat} {o o' : Outcome} {w w' : World} (h:runN P n m=.ended o w) (h' : runN P n' m=.ended o' w'):o=o'/\w=w':=by
 rcases Nat.le_total n n' with hle | hle
 ·obtain⟨k,rfl⟩:=Nat.exists_eq_add_of_le hle
  rw [runN_add,h] at h'
  cases h';exact⟨rfl,rfl⟩
 ·obtain⟨k,rfl⟩:=Nat.exists_eq_add_of_le hle
  rw [runN_add,h'] at h
  cases h;exact⟨rfl,rfl⟩
theorem qEp {P:Program} {m a:Machine} {o:Outcome} {w:World} (h:Steps P m a) (hs:step P a=.ended o w):∃ n,runN P n m=.ended o w:=by
 obtain⟨n,hn⟩:=h
 refine⟨n+1,?_⟩
 rw [runN_add,hn]
 simp [runN,hs]
theorem qFS {P:Program} {f:FuncId} {args:Array Value} {w:World} {Φ Ψ:Value->World->Prop} (hi:P.inits.idxOf? f=none)
  (h:Calls P f args w fun e w''=>∃ v,e=.returned v/\Φ v w'') (h' : Calls P f args w fun e w''=>∃ v,e=.returned v/\Ψ v w''):∃ v w',Φ v w'/\Ψ v w':=by
 obtain⟨e,w1,fr,⟨v,rfl,hv⟩,hc,hf,hl⟩:=h []
 obtain⟨e',w2,fr',⟨v',rfl,hv'⟩,hc',hf',hl'⟩:=h' []
 obtain⟨n,hn⟩:=qEp (P:=P) hc (step_leave_done hl (by rw [hf];exact hi))
 obtain⟨n',hn'⟩:=qEp (P:=P) hc' (step_leave_done hl' (by rw [hf'];exact hi))
 obtain⟨h1,h2⟩:=qJk hn hn'
 cases h1;subst h2
 exact⟨v,w1,hv,hv'⟩
theorem qEz {P:Program} {f:FuncId} {af:AFun} (hf:xU P f=some af) (hi:P.inits.idxOf? f=none) {args:List AV} {H:AHeap} {Q Q' : VK} (h:qK P f args H Q) (h' : qK P f args H Q')
  {F:Nat->Prop} {μ:Mu} {w:World} {vs:List Value} (hs:Sim F μ H w) (ha:RL μ args vs):∃ μ1 μ2 r r' H1 H2 v,Q r H1/\Q' r' H2/\R μ1 r v/\R μ2 r' v:=by
 have h1:=h F μ w vs hs ha
 have h2:=h' F μ w vs hs ha
 rw [qCi hf] at h1 h2
 simp only [vX] at h1 h2
 obtain⟨v,w',k1,k2⟩:=qFS hi h1 h2
 obtain⟨μ1,r,H1,q1,_,_,_,r1,_⟩:=k1
 obtain⟨μ2,r',H2,q2,_,_,_,r2,_⟩:=k2
 exact⟨μ1,μ2,r,r',H1,H2,v,q1,q2,r1,r2⟩
def qGR:AHeap:=⟨0,fun _=>none,fun _ _=>rfl⟩
def qMd:World:=⟨#[],fun _ _=>0,0,Os.initial #[] #[] ⟨#[]⟩,#[]⟩
theorem qGS (H:AHeap) (hg:∀ l,H.get l=none) (hn:H.next=0):Sim (fun _=>True) (fun _=>none) H qMd where
 dom:=fun l li h=>by cases h
 row:=fun l li cs wr h=>by rw [hg] at h;cases h
 mp:=fun l li es h=>by rw [hg] at h;cases h
 sep:=fun l l' b b' li li' _ h=>by rw [hg] at h;cases h
 may:=fun _ _ _ _ _ _=>trivial
 fresh:=fun _ _=>trivial
theorem qLj {μ:Mu} {k:Kd} {a:AV} (h:yH k a) (hp:(decide (k=.any) || decide (k=.one))=false):∃ v,R μ a v:=by
 have fl:∀ (k:FloatKind) (x:ON),fOk k x -> ∃ v,R μ (.flt k x) v:=by
  intro k x hx
  cases x with
  | some b=>exact⟨_,.flt (by unfold nrm;rw [(hx b rfl).2];rfl) (hx b rfl).1⟩
  | none =>
   cases k with
   | f32=>exact⟨.float .f32 2143289344,.flt (by decide +kernel) (by decide)⟩
   | f64=>exact⟨.float .f64 9221120237041090560,.flt (by decide +kernel) (by decide)⟩
 cases k with
 | any=>cases hp
 | one=>cases hp
 | int k=>obtain⟨n,rfl⟩:=h;exact⟨_,.int _ _⟩
 | flt k=>obtain⟨x,rfl,hx⟩:=h;exact fl _ _ hx
 | f64n=>obtain⟨x,rfl,hx,_⟩:=h;exact fl _ _ hx
 | bool=>obtain⟨b,rfl⟩:=h;exact⟨_,.bool _⟩
 | str=>obtain⟨l,rfl⟩:=h;exact⟨.string ⟨⟨l⟩⟩,.str rfl⟩
 | bits =>
  obtain⟨x,rfl,hx⟩:=h
  cases x with
  | some b=>exact⟨_,.int _ _⟩
  | none=>exact⟨.int .u32 ((2143289344:Nat):Int),.nanbits (n:=2143289344) (by decide +kernel) (by decide)⟩
theorem qMe {P:Program} {f:FuncId} {af:AFun} (hf:xU P f=some af) (hi:P.inits.idxOf? f=none) {args:List AV} {b b' : Bool} (hv:∃ vs,RL (fun _=>none) args vs) (h:∀ H,zG P f args H (.bool b)) (h' : ∀ H,zG P f args H (.bool b')):b=b':=by
 obtain⟨vs,hv⟩:=hv
 obtain⟨μ1,μ2,r,r',H1,H2,v,⟨rfl,_⟩,⟨rfl,_⟩,r1,r2⟩:=qEz hf hi (h qGR) (h' qGR) (qGS qGR (fun _=>rfl) rfl) hv
 cases r1;cases r2;rfl
end Go.Ab
end
