/- Bodies and calls. -/
import Derived.Test.YtgjggkgafdnhcaaAbC
import Derived.ProofKit
import Derived.Carry
import Derived.JoinedOf
import Derived.Handed
import Derived.ChangeSame
import Derived.Laws.BitsLemmas
import Derived.Laws.Externs
import Derived.Laws.FloatBits
set_option linter.unusedVariables false
set_option linter.unusedSimpArgs false
section
namespace Go.Ab
mutual
def AV.ren (σ:Nat->Nat):AV->AV
 | .any=>.any
 | .undef=>.undef
 | .bool b=>.bool b
 | .int k n=>.int k n
 | .flt k x=>.flt k x
 | .nanbits=>.nanbits
 | .str s=>.str s
 | .ptr l o=>.ptr (σ l) o
 | .nilptr=>.nilptr
 | .slice l o n c s=>.slice (σ l) o n c s
 | .nilslice=>.nilslice
 | .map l=>.map (σ l)
 | .func f as bs=>.func f (qIx σ as) (qIx σ bs)
 | .nilfunc=>.nilfunc
 | .iface t a=>.iface t (a.ren σ)
 | .niliface=>.niliface
 | .glob g=>.glob g
 | .agg cs=>.agg (qIx σ cs)
 | .tuple cs=>.tuple (qIx σ cs)
def qIx (σ:Nat->Nat):List AV->List AV
 | []=>[]
 | a :: as=>a.ren σ :: qIx σ as
end
theorem qDh (σ:Nat->Nat):∀ as:List AV,qIx σ as=as.map (AV.ren σ)
 | []=>by simp [qIx]
 | a :: as=>by simp [qIx,qDh σ as]
theorem R.ren {μ μ' : Mu} {σ:Nat->Nat} {a:AV} {v:Value} (h:R μ a v) (hσ:AV.On (fun l=>μ' (σ l)=μ l) a):R μ' (a.ren σ) v:=by
 induction h with
 | any v=>simp only [AV.ren];exact .any v
 | undef=>simp only [AV.ren];exact .undef
 | bool b=>simp only [AV.ren];exact .bool b
 | int k n=>simp only [AV.ren];exact .int k n
 | flt h hb=>simp only [AV.ren];exact .flt h hb
 | nanbits h hb=>simp only [AV.ren];exact .nanbits h hb
 | str h=>simp only [AV.ren];exact .str h
 | ptr h ha=>simp only [AV.ren];cases hσ with | ptr e=>exact .ptr (e.trans h) ha
 | nilptr=>simp only [AV.ren];exact .nilptr
 | @slice l off len cap sz li a h hb hsp ho hl hc =>
  simp only [AV.ren]
  cases hσ with
  | slice e =>
   rcases e with rfl | e
   ·obtain rfl:len=0:=by omega
    exact .slice0 _
   ·exact .slice (e.trans h) hb hsp ho hl hc
 | slice0 p=>simp only [AV.ren];exact .slice0 p
 | nilslice=>simp only [AV.ren];exact .nilslice
 | map h hb=>simp only [AV.ren];cases hσ with | map e=>exact .map (e.trans h) hb
 | func h₁ _ h₂ _ i₁ i₂ =>
  simp only [AV.ren,qDh]
  cases hσ with
  | func l₁ l₂ =>
   refine .func (by simpa using h₁) ?_ (by simpa using h₂) ?_
   ·intro i a v x y
    rw [List.getElem?_map,Option.map_eq_some_iff] at x
    obtain⟨b,hb,rfl⟩:=x
    exact i₁ i b v hb y (l₁ b (List.mem_of_getElem? hb))
   ·intro i a v x y
    rw [List.getElem?_map,Option.map_eq_some_iff] at x
    obtain⟨b,hb,rfl⟩:=x
    exact i₂ i b v hb y (l₂ b (List.mem_of_getElem? hb))
 | nilfunc=>simp only [AV.ren];exact .nilfunc
 | iface _ ih=>simp only [AV.ren];cases hσ with | iface e=>exact .iface (ih e)
 | niliface=>simp only [AV.ren];exact .niliface
 | glob=>simp only [AV.ren];exact .glob
 | agg h _ ih =>
  simp only [AV.ren,qDh]
  cases hσ with
  | agg l =>
   refine .agg (by simpa using h) ?_
   intro i a v x y
   rw [List.getElem?_map,Option.map_eq_some_iff] at x
   obtain⟨b,hb,rfl⟩:=x
   exact ih i b v hb y (l b (List.mem_of_getElem? hb))
 | tuple h _ ih =>
  simp only [AV.ren,qDh]
  cases hσ with
  | tuple l =>
   refine .tuple (by simpa using h) ?_
   intro i a v x y
   rw [List.getElem?_map,Option.map_eq_some_iff] at x
   obtain⟨b,hb,rfl⟩:=x
   exact ih i b v hb y (l b (List.mem_of_getElem? hb))
inductive AExit where
  | normal
  | exit (id:Nat)
  | ret
  deriving DecidableEq
inductive ACode where
  | skip
  | run (ops:List AOper)
  | mix (t:ATree)
  | seq (a b:ACode)
  | cond (c:Opd) (a b:ACode)
  | block (id:Nat) (a:ACode)
  | loop (a:ACode)
  | exit (id:Nat)
  | ret
def qLo:AOper:={ dst:=none,op:=.lenC 0,guard:=none }
def qMi (P:Program) (ops:Array Oper) (cl:List AOper):Option ACode:=
 let pr:=(List.range ops.size).map (xL ops)
 let cos:=fun i=>cl.getD i qLo
 let preds:=fun i=>pr.getD i []
 let t:=qMk (qLY cos preds (List.range ops.size)) cos preds (List.range ops.size) (ops.size+1) [] []
 if P.follows .mixedOrders=true/\((List.range ops.size).all fun i=>(preds i).all fun j=>decide (j < i))=true/\okT ops.size cos preds [] [] t=true then some (.mix (qFZ cos t)) else none
def bI (P:Program) (N:Nat):Code->Option ACode
 | .skip=>some .skip
 | .region _ ops false=>(ops.toList.mapM (qBS P N ops)).map fun l=>.run (l.map (qEt P))
 | .region _ ops true=>(ops.toList.mapM (qBS P N ops)).bind (qMi P ops)
 | .seq a b=>do some (.seq (<- bI P N a) (<- bI P N b))
 | .cond c a b=>do some (.cond (<- jE c) (<- bI P N a) (<- bI P N b))
 | .block id a=>do some (.block id (<- bI P N a))
 | .loop a=>do some (.loop (<- bI P N a))
 | .exit id=>some (.exit id)
 | .ret=>some .ret
 | _=>none
def zM (P:Program):ACode->(AExit -> Env -> AHeap -> Prop)->Env->AHeap->Prop
 | .skip,Q,E,H=>Q .normal E H
 | .run ops,Q,E,H=>vE P ops E H (Q .normal)
 | .mix t,Q,E,H=>qDq P t E H (Q .normal)
 | .seq a b,Q,E,H=>zM P a (fun e E H=>match e with
  | .normal=>zM P b Q E H
  | .exit id=>Q (.exit id) E H
  | .ret=>Q .ret E H) E H
 | .cond c a b,Q,E,H=>match c.ev E with
  | .bool t=>if t=true then zM P a Q E H else zM P b Q E H
  | _=>False
 | .block id a,Q,E,H=>zM P a (fun e E H=>match e with
  | .normal=>Q .normal E H
  | .exit i=>if i=id then Q .normal E H else Q (.exit i) E H
  | .ret=>Q .ret E H) E H
 | .loop a,Q,E,H=>∀ X:Env->AHeap->Prop,(∀ E H,zM P a (fun e E' H'=>match e with
  | .normal=>X E' H'
  | .exit id=>Q (.exit id) E' H'
  | .ret=>Q .ret E' H') E H->X E H)->X E H
 | .exit id,Q,E,H=>Q (.exit id) E H
 | .ret,Q,E,H=>Q .ret E H
theorem dU {H:AHeap} {os ys:List AV} {need bytes sz:Nat} {k k' : VK} (hk:∀ r H,k r H->k' r H) (h:qDJ H os ys need bytes sz k):qDJ H os ys need bytes sz k':=
 ⟨h.1,h.2.1,fun c hc=>hk _ _ (h.2.2 c hc)⟩
theorem qDs {H:AHeap} {sz bytes:Nat} {x y:AV} {k k' : VK} (hk:∀ r H,k r H->k' r H) (h:tZ H sz bytes x y k):tZ H sz bytes x y k':=by
 unfold tZ at h ⊢
 repeat' split at h
 all_goals try exact h.elim
 all_goals try exact dU hk h
 all_goals repeat rw [if_pos ‹_›]
 all_goals try exact dU hk h
 all_goals repeat rw [if_neg ‹_›]
 all_goals try exact dU hk h
 all_goals repeat rw [if_pos ‹_›]
 all_goals first | exact dU hk h | exact hk _ _ h
theorem qGA {P:Program} {E:Env} {H:AHeap} {k k' : VK} (hk:∀ r H,k r H->k' r H) {op:AOp} (h:mE P E H k op):mE P E H k' op:=by
 cases op <;> simp only [mE] at h ⊢
 case append=>exact qDs hk h
 case appendZ =>
  unfold qAM at h ⊢
  repeat' split at h
  all_goals try exact h.elim
  rw [if_pos am,if_pos am]
  exact dU hk h
 case call=>exact h.mono hk
 case callI t w f as =>
  revert h
  cases E t <;> intro h <;> first | exact h.elim | exact hk _ _ h | skip
  rename_i b
  simp only [] at h ⊢
  split at h
  ·rename_i e;rw [if_pos e];exact h.mono hk
  ·rename_i e;rw [if_neg e];exact hk _ _ h
 all_goals (repeat' split at h) <;> first | exact hk _ _ h | exact h.elim | (simp_all;done) | (simp_all only [];exact hk _ _ h) | exact h.mono hk
theorem qGd {P:Program} {E:Env} {H:AHeap} {c:Prop} [Decidable c] {k k' : AV->Prop} (hk:∀ r,k r->k' r) {op:AOp} (h:bZ P E H c op k):bZ P E H c op k':=by
 cases op
 case call f args=>obtain⟨r,h1,h2⟩:=h;exact⟨r,h1,hk _ h2⟩
 case callV g args =>
  unfold bZ at h ⊢
  simp only [] at h ⊢
  generalize g.ev E=x at h ⊢
  cases x
  case func=>obtain⟨r,h1,h2⟩:=h;exact⟨r,h1,hk _ h2⟩
  all_goals exact⟨h.1,hk _ h.2⟩
 all_goals
  unfold bZ at h ⊢
  simp only [] at h ⊢
  revert h
  generalize zS E H.get _=x
  intro h
  cases x
  ·exact⟨h.1,hk _ h.2⟩
  ·exact hk _ h
theorem wW {P:Program}:∀ {ops:List AOper} {E:Env} {H:AHeap} {k k' : Env->AHeap->Prop},(∀ E H,k E H->k' E H)->vE P ops E H k->vE P ops E H k'
 | [],_,_,_,_,hk,h=>hk _ _ h
 | o :: rest,E,H,k,k',hk,h=>by
  simp only [vE] at h ⊢
  split
  ·rename_i hg;rw [hg] at h;exact qGA (fun r H' h=>wW hk h) h
  ·rename_i t want hg;rw [hg] at h;exact⟨h.1,qGd (fun r h=>wW hk h) h.2⟩
mutual
theorem qDr {P:Program}:∀ {t:ATree} {E:Env} {H:AHeap} {k k' : Env->AHeap->Prop},(∀ E H,k E H->k' E H)->qDq P t E H k->qDq P t E H k'
 | .node qs kids,E,H,k,k',hk,h=>by
  simp only [qDq] at h ⊢
  exact wW (fun E H h=>⟨fun hn=>hk _ _ (h.1 hn),cH hk h.2⟩) h
theorem cH {P:Program}:∀ {t:AKids} {E:Env} {H:AHeap} {k k' : Env->AHeap->Prop},(∀ E H,k E H->k' E H)->qAB P t E H k->qAB P t E H k'
 | .nil,_,_,_,_,_,_=>by simp only [qAB]
 | .cons free o t rest,E,H,k,k',hk,h=>by
  simp only [qAB] at h ⊢
  exact⟨wW (fun E' H' h=>⟨h.1,qDr hk h.2⟩) h.1,cH hk h.2⟩
end
theorem xM {P:Program}:∀ {c:ACode} {Q Q' : AExit -> Env -> AHeap -> Prop} {E:Env} {H:AHeap},(∀ e E H,Q e E H->Q' e E H)->zM P c Q E H->zM P c Q' E H
 | .skip,_,_,_,_,hq,h=>hq _ _ _ h
 | .run _,_,_,_,_,hq,h=>wW (fun E H h=>hq _ _ _ h) h
 | .mix _,_,_,_,_,hq,h=>qDr (fun E H h=>hq _ _ _ h) h
 | .seq a b,_,_,_,_,hq,h=>by
  simp only [zM] at h ⊢
  refine xM (fun e E H h=>?_) h
  cases e with
  | normal=>exact xM hq h
  | exit id=>exact hq _ _ _ h
  | ret=>exact hq _ _ _ h
 | .cond c a b,_,_,_,_,hq,h=>by
  simp only [zM] at h ⊢
  split
  ·rename_i t ht
   rw [ht] at h
   simp only [] at h
   split
   ·rename_i hc;rw [if_pos hc] at h;exact xM hq h
   ·rename_i hc;rw [if_neg hc] at h;exact xM hq h
  ·split at h
   ·simp_all
   ·exact h
 | .block id a,_,_,_,_,hq,h=>by
  simp only [zM] at h ⊢
  refine xM (fun e E H h=>?_) h
  cases e with
  | normal=>exact hq _ _ _ h
  | exit i =>
   simp only [] at h ⊢
   split
   ·rename_i hc;rw [if_pos hc] at h;exact hq _ _ _ h
   ·rename_i hc;rw [if_neg hc] at h;exact hq _ _ _ h
  | ret=>exact hq _ _ _ h
 | .loop a,_,_,_,_,hq,h=>by
  simp only [zM] at h ⊢
  intro X hX
  refine h X fun E H hb=>hX E H (xM (fun e E H h=>?_) hb)
  cases e with
  | normal=>exact h
  | exit id=>exact hq _ _ _ h
  | ret=>exact hq _ _ _ h
 | .exit _,_,_,_,_,hq,h=>hq _ _ _ h
 | .ret,_,_,_,_,hq,h=>hq _ _ _ h
theorem qFQ {P:Program} {a:ACode} {Q:AExit -> Env -> AHeap -> Prop} {E:Env} {H:AHeap} (h:zM P a (fun e E' H'=>match e with
  | .normal=>zM P (.loop a) Q E' H'
  | .exit id=>Q (.exit id) E' H'
  | .ret=>Q .ret E' H') E H):zM P (.loop a) Q E H:=by
 simp only [zM]
 intro X hX
 refine hX E H (xM (fun e E H h=>?_) h)
 cases e with
 | normal=>simp only [zM] at h;exact h X hX
 | exit id=>exact h
 | ret=>exact h
theorem qGC {P:Program} {a:ACode} {Q:AExit -> Env -> AHeap -> Prop} {E:Env} {H:AHeap} (I:Nat->Env->AHeap->Prop) (n:Nat) (h:I n E H) (hr:∀ n E H,I n E H->zM P a (fun e E' H'=>match e with
  | .normal=>∃ m,m < n/\I m E' H'
  | .exit id=>Q (.exit id) E' H'
  | .ret=>Q .ret E' H') E H):zM P (.loop a) Q E H:=by
 simp only [zM]
 intro X hX
 have key:∀ n E H,I n E H->X E H:=by
  intro n
  induction n using Nat.strongRecOn with
  | _ n ih =>
   intro E H hI
   refine hX E H (xM (fun e E H h=>?_) (hr n E H hI))
   cases e with
   | normal=>obtain⟨m,hm,hI'⟩:=h;exact ih m hm E H hI'
   | exit id=>exact h
   | ret=>exact h
 exact key n E H h
def qGw (F:Nat->Prop) (N n0:Nat) (μ0:Mu) (w0:World) (Q:AExit -> Env -> AHeap -> Prop):Exit->Act->World->Prop
 | .normal,a,w=>qIu F N n0 μ0 w0 (Q .normal) a w
 | .exit id,a,w=>qIu F N n0 μ0 w0 (Q (.exit id)) a w
 | .ret,a,w=>qIu F N n0 μ0 w0 (Q .ret) a w
 | _,_,_=>False
theorem qCY {α β:Type} {f:α->Option β}:∀ {l:List α} {xs:List β},l.mapM f=some xs->xs.length=l.length /\ ∀ (i:Nat) (j:α),l[i]? = some j -> ∃ x,xs[i]? = some x/\f j=some x
 | [],xs,h=>by simp at h;subst h;simp
 | a :: l,xs,h=>by
  simp only [List.mapM_cons,Option.bind_eq_bind,Option.bind_eq_some_iff,Option.pure_def,Option.some.injEq] at h
  obtain⟨x,hx,ys,hys,rfl⟩:=h
  obtain⟨h1,h2⟩:=qCY hys
  refine⟨by simp [h1],fun i j hj=>?_⟩
  cases i with
  | zero=>simp at hj;subst hj;exact⟨x,by simp,hx⟩
  | succ i=>simpa using h2 i j (by simpa using hj)
def rounds (P:Program) (c:Code) (Q:Exit->Act->World->Prop) (a:Act) (w:World):Prop:=
 ∀ (b:Frame) (k:List Item) (cs:List Frame),∃ e a' w',Q e a' w'/\Arrives P (lone (b.at a (.code c :: .inLoop c :: k)) cs w) b k cs e a' w'
theorem qHR {P:Program} {c:Code} {Q:Exit->Act->World->Prop} {a:Act} {w:World} (h:rounds P c Q a w):(Code.loop c).wp P Q a w:=by
 intro b k cs
 obtain⟨e,a',w',hq,harr⟩:=h b k cs
 exact⟨e,a',w',hq,.of_steps (.one step_loop) harr⟩
theorem qEW {P:Program} {c:Code} {Q:Exit->Act->World->Prop} {a:Act} {w:World} (h:c.wp P (Exit.then (fun a' w'=>rounds P c Q a' w') Q) a w):rounds P c Q a w:=by
 intro b k cs
 obtain⟨e,a₁,w₁,hq,harr⟩:=h b (.inLoop c :: k) cs
 cases e with
 | normal =>
  obtain⟨e₂,a₂,w₂,hq₂,harr₂⟩:=hq b k cs
  exact⟨e₂,a₂,w₂,hq₂,.of_steps (Steps.trans harr (.one step_inLoop)) harr₂⟩
 | exit id=>exact⟨_,a₁,w₁,hq,.pass (x:=.inLoop c) rfl (fun _ _=>.inl (by simp)) harr⟩
 | goto l=>exact⟨_,a₁,w₁,hq,.pass (x:=.inLoop c) rfl (fun _ _=>.inl (by simp)) harr⟩
 | ret=>exact⟨_,a₁,w₁,hq,.pass (x:=.inLoop c) rfl (fun _ _=>.inl (by simp)) harr⟩
 | panic ch=>exact⟨_,a₁,w₁,hq,.pass (x:=.inLoop c) rfl (fun _ _=>.inl (by simp)) harr⟩
 | outgrown=>exact⟨_,a₁,w₁,hq,.pass (x:=.inLoop c) rfl (fun _ _=>.inl (by simp)) harr⟩
section
variable {P:Program} {N:Nat}
theorem qEB:∀ (c:Code) (ac:ACode) (Q:AExit -> Env -> AHeap -> Prop) (E:Env) (H:AHeap),bI P N c=some ac->zM P ac Q E H ->
  ∀ (F:Nat->Prop) (n0:Nat) (μ0:Mu) (w0:World) (μ:Mu) (a:Act) (w:World),At F N n0 μ0 w0 μ E H a w->c.wp P (qGw F N n0 μ0 w0 Q) a w:=by
 intro c
 induction c with
 | skip =>
  intro ac Q E H hc h F n0 μ0 w0 μ a w hat
  simp only [bI,Option.some.injEq] at hc
  subst hc
  exact wp_skip ⟨μ,E,H,h,hat⟩
 | region id ops draw =>
  intro ac Q E H hc h F n0 μ0 w0 μ a w hat
  cases draw with
  | true =>
   simp only [bI,Option.bind_eq_some_iff] at hc
   obtain⟨cl,hcl,hc⟩:=hc
   unfold qMi at hc
   simp only [] at hc
   split at hc
   ·rename_i hok
    obtain⟨h1,h2,h3⟩:=hok
    cases hc
    have hlen:cl.length=ops.size:=by
     have:=(qCY hcl).1
     simpa using this
    have hpr:(fun i=>((List.range ops.size).map (xL ops)).getD i [])=xL ops:=by
     funext i
     rw [List.getD_eq_getElem?_getD,List.getElem?_map]
     by_cases hi:i < ops.size
     ·rw [List.getElem?_range hi];rfl
     ·rw [List.getElem?_eq_none (by simpa using hi)]
      simp only [Option.map_none,Option.getD_none]
      unfold xL
      rw [Array.getElem?_eq_none om]
    rw [hpr] at h3 h
    refine qHC rfl h1 ?_ ?_ h3 (fun a w h=>h) hat h
    ·intro i o ho
     obtain⟨c,hc1,hc2⟩:=(qCY hcl).2 i o (by rw [Array.getElem?_toList];exact ho)
     rw [List.getD_eq_getElem?_getD,hc1]
     exact hc2
    ·intro i hi j hj
     rw [List.all_eq_true] at h2
     have:=h2 i (by simpa using hi)
     rw [show ((List.range ops.size).map (xL ops)).getD i []=xL ops i from congrFun hpr i,List.all_eq_true] at this
     simpa using this j hj
   ·cases hc
  | false =>
   simp only [bI,Option.map_eq_some_iff] at hc
   obtain⟨cl,hcl,rfl⟩:=hc
   refine wp_region ?_
   have:=dG (P:=P) (ops:=ops) (Q:=qGw F N n0 μ0 w0 Q) (k:=Q .normal) (fun a w h=>h) ops.toList _ 0 μ E H a w (by simp) hcl hat h
   rw [List.range_eq_range']
   simpa using this
 | seq x y ihx ihy =>
  intro ac Q E H hc h F n0 μ0 w0 μ a w hat
  simp only [bI,Option.bind_eq_bind,Option.bind_eq_some_iff,Option.some.injEq] at hc
  obtain⟨ax,hx,ay,hy,rfl⟩:=hc
  simp only [zM] at h
  refine wp_seq (wp_mono (ihx ax _ E H hx h F n0 μ0 w0 μ a w hat) ?_)
  intro e a' w' hp
  cases e with
  | normal =>
   obtain⟨μ',E',H',hq,hat'⟩:=hp
   exact ihy ay Q E' H' hy hq F n0 μ0 w0 μ' a' w' hat'
  | exit id=>exact hp
  | ret=>exact hp
  | goto l=>exact hp.elim
  | panic c=>exact hp.elim
  | outgrown=>exact hp.elim
 | cond c x y ihx ihy =>
  intro ac Q E H hc h F n0 μ0 w0 μ a w hat
  simp only [bI,Option.bind_eq_bind,Option.bind_eq_some_iff,Option.some.injEq] at hc
  obtain⟨cc,hcc,ax,hx,ay,hy,rfl⟩:=hc
  simp only [zM] at h
  have hR:=vG hcc hat.env
  split at h
  ·rename_i t ht
   rw [ht] at hR
   refine wp_cond_split (bK hR) ?_ ?_
   ·rintro rfl
    exact ihx ax Q E H hx (by simpa using h) F n0 μ0 w0 μ a w hat
   ·rintro rfl
    exact ihy ay Q E H hy (by simpa using h) F n0 μ0 w0 μ a w hat
  ·exact h.elim
 | block id x ih =>
  intro ac Q E H hc h F n0 μ0 w0 μ a w hat
  simp only [bI,Option.bind_eq_bind,Option.bind_eq_some_iff,Option.some.injEq] at hc
  obtain⟨ax,hx,rfl⟩:=hc
  simp only [zM] at h
  refine wp_block (wp_mono (ih ax _ E H hx h F n0 μ0 w0 μ a w hat) ?_)
  intro e a' w' hp
  cases e with
  | normal=>exact hp
  | exit i =>
   obtain⟨μ',E',H',hq,hat'⟩:=hp
   simp only [] at hq
   show if i=id then qGw F N n0 μ0 w0 Q .normal a' w' else qGw F N n0 μ0 w0 Q (.exit i) a' w'
   by_cases hi:i=id
   ·rw [if_pos hi] at hq ⊢;exact⟨μ',E',H',hq,hat'⟩
   ·rw [if_neg hi] at hq ⊢;exact⟨μ',E',H',hq,hat'⟩
  | ret=>exact hp
  | goto l=>exact hp.elim
  | panic c=>exact hp.elim
  | outgrown=>exact hp.elim
 | loop x ih =>
  intro ac Q E H hc h F n0 μ0 w0 μ a w hat
  simp only [bI,Option.bind_eq_bind,Option.bind_eq_some_iff,Option.some.injEq] at hc
  obtain⟨ax,hx,rfl⟩:=hc
  simp only [zM] at h
  have key:=h (fun E H=>∀ (F:Nat->Prop) (n0:Nat) (μ0:Mu) (w0:World) (μ:Mu) (a:Act) (w:World),At F N n0 μ0 w0 μ E H a w->rounds P x (qGw F N n0 μ0 w0 Q) a w) (by
   intro E H hb F n0 μ0 w0 μ a w hat
   refine qEW (wp_mono (ih ax _ E H hx hb F n0 μ0 w0 μ a w hat) ?_)
   intro e a2 w2 hp
   cases e with
   | normal =>
    obtain⟨μ2,E2,H2,hX,hat2⟩:=hp
    exact hX F n0 μ0 w0 μ2 a2 w2 hat2
   | exit i=>exact hp
   | ret=>exact hp
   | goto l=>exact hp.elim
   | panic c=>exact hp.elim
   | outgrown=>exact hp.elim) F n0 μ0 w0 μ a w hat
  exact qHR key
 | rangeFunc=>intro ac Q E H hc;simp [bI] at hc
 | exit id =>
  intro ac Q E H hc h F n0 μ0 w0 μ a w hat
  simp only [bI,Option.some.injEq] at hc
  subst hc
  exact wp_exit ⟨μ,E,H,h,hat⟩
 | scope=>intro ac Q E H hc;simp [bI] at hc
 | label=>intro ac Q E H hc;simp [bI] at hc
 | goto=>intro ac Q E H hc;simp [bI] at hc
 | ret =>
  intro ac Q E H hc h F n0 μ0 w0 μ a w hat
  simp only [bI,Option.some.injEq] at hc
  subst hc
  exact wp_ret ⟨μ,E,H,h,hat⟩
 | refuse=>intro ac Q E H hc;simp [bI] at hc
/-! ### A function -/
inductive ARes where
  | tmp (t:Nat)
  | cell (t:Nat) (ag:Bool) (n:Nat)
structure AFun where
  ntmps:Nat
  results:List ARes
  body:ACode
def qKW (P:Program):ResultVar->Option ARes
 | .tmp t=>some (.tmp t)
 | .cell t ty=>do
  let (ag,n) <- qBO P ty
  some (.cell t ag n)
def xU (P:Program) (f:FuncId):Option AFun:=do
 let fn <- P.funcs[f]?
 let c <- fn.body
 let rs <- fn.results.toList.mapM (qKW P)
 if fn.name == "runtime.NumGoroutine" then none else some { ntmps := fn.ntmps, results := rs, body := <- bI P fn.ntmps c }
def ARes.val (E:Env) (H:AHeap):ARes->Option AV
 | .tmp t=>some (E t)
 | .cell t ag n=>match E t with
  | .ptr l off=>match H.get l with
   | some (.row cs _)=>part ag n off cs
   | _=>none
  | _=>none
def qBR (E:Env) (H:AHeap):List ARes->Option (List AV)
 | []=>some []
 | r :: rs=>match r.val E H,qBR E H rs with
  | some x,some xs=>some (x :: xs)
  | _,_=>none
def vN (rs:List ARes) (E:Env) (H:AHeap):Option AV:=
 match qBR E H rs with
 | some [x]=>some x
 | some xs=>some (.tuple xs)
 | none=>none
def Fin (H Hc:AHeap) (r:AV) (Q:VK):Prop:=
 ∃ r' H',Q r' H'/\H.next<=H'.next /\ ∀ (F:Nat->Prop) (μ:Mu) (w:World) (v:Value),Sim F μ Hc w->R μ r v ->
  (∀ (l:Nat) (b:HB) (li:LI),H.get l=some b->μ l=some li->b.On (· < H.next)) -> ∃ μ',Mu.ext H.next μ μ'/\Sim F μ' H' w/\R μ' r' v
theorem qII {F:Nat->Prop} {μ:Mu} {H:AHeap} {w:World} (hs:Sim F μ H w) {l:Nat} {b:HB} {li:LI} (hg:H.get l=some b) (hm:μ l=some li):b.On (· < H.next):=by
 cases b with
 | row cs wr =>
  obtain⟨c,e,lo,hi,_,_,_,hc,_⟩:=hs.row l li cs wr hg hm
  intro a ha
  obtain⟨i,hi',he⟩:=List.getElem_of_mem ha
  obtain⟨v,_,hr⟩:=hc i a (by rw [List.getElem?_eq_getElem hi',he])
  exact hs.lt hr
 | mp es =>
  obtain⟨ms,ck,_,hsz,hc⟩:=hs.mp l li es hg hm
  intro e he
  obtain⟨i,hi',he'⟩:=List.getElem_of_mem he
  have hmi:i < ms.size:=hsz ▸ hi'
  obtain⟨h1,h2⟩:=hc i e ms[i] (by rw [List.getElem?_eq_getElem hi',he']) (by rw [Array.getElem?_eq_getElem hmi])
  exact⟨hs.lt h1,hs.lt h2⟩
def Env.start (args:List AV):Env:=fun t=>args.getD t .undef
theorem qGz {f:FuncId} {af:AFun} (hf:xU P f=some af) {args:List AV} (hargs:args.length<=af.ntmps) {H:AHeap} {Q:VK}
  (h:zM P af.body (fun e E Hc=>match e with
   | .exit _=>False
   | _=>∃ r,vN af.results E Hc=some r/\Fin H Hc r Q) (Env.start args) H):qK P f args H Q:=by
 intro F μ w vs hs ha
 unfold xU at hf
 simp only [Option.bind_eq_bind,Option.bind_eq_some_iff] at hf
 obtain⟨fn,hfn,c,hb,rs,hrs,hf⟩:=hf
 split at hf
 ·cases hf
 ·rename_i hname
  simp only [Option.bind_eq_some_iff,Option.some.injEq] at hf
  obtain⟨ac,hac,rfl⟩:=hf
  have hcall:(callFunc f vs.toArray).run P w=.ok (.enter f vs.toArray) w:=by
   unfold callFunc
   rw [bind_ok (show program.run P w=.ok P w from rfl),hfn]
   simp only []
   rw [if_neg (by simpa using hname),if_neg (by rw [hb];simp)]
   rfl
  rw [hcall]
  simp only [vX]
  refine calls_of_wp hfn hb ?_
  have hat:At F fn.ntmps H.next μ w μ (Env.start args) H { tmps:=vs.toArray ++ Array.replicate (fn.ntmps - vs.toArray.size) Go.undef,defers:=[] } w:=by
   refine⟨hs,?_,?_,rfl,Keeps.refl _ _,Mu.ext_refl _ _,Nat.le_refl _⟩
   ·intro t
    unfold Env.start
    by_cases ht:t < args.length
    ·obtain⟨v,hv,hR⟩:=ha.get (List.getElem?_eq_getElem ht)
     have e1:args.getD t .undef=args[t]:=by simp [List.getD,List.getElem?_eq_getElem ht]
     have e2:(vs.toArray ++ Array.replicate (fn.ntmps - vs.toArray.size) Go.undef).getD t Go.undef=v:=by
      rw [Array.getD_eq_getD_getElem?,Array.getElem?_append_left (by simpa [<- ha.1] using ht)]
      simp [hv]
     rw [e1,e2];exact hR
    ·have e1:args.getD t .undef=.undef:=by simp [List.getD,List.getElem?_eq_none (Nat.le_of_not_lt ht)]
     have e2:(vs.toArray ++ Array.replicate (fn.ntmps - vs.toArray.size) Go.undef).getD t Go.undef=Go.undef:=by
      rw [Array.getD_eq_getD_getElem?,Array.getElem?_append_right (by simpa [<- ha.1] using ht),Array.getElem?_replicate]
      split <;> rfl
     rw [e1,e2];exact .undef
   ·have:=ha.1
    simp at this hargs ⊢
    omega
  refine wp_mono (qEB c ac _ (Env.start args) H hac h F H.next μ w μ _ w hat) ?_
  have done:∀ a' w',qIu F fn.ntmps H.next μ w (fun E Hc=>∃ r,vN rs E Hc=some r/\Fin H Hc r Q) a' w' ->
    a'.defers=[] /\ ∃ v,(results fn a'.tmps).run P w'=.ok v w' /\ ∃ u,Ending.returned v=.returned u/\Out F μ H w Q u w':=by
   rintro a' w' ⟨μ',E',Hc,⟨r,hr,r',H',hq,hle,hfin⟩,hat'⟩
   refine⟨hat'.defers,?_⟩
   obtain⟨v,hv,hR⟩:=res_run hrs hr hat'
   refine⟨v,hv,v,rfl,?_⟩
   obtain⟨μ2,h1,h2,h3⟩:=hfin F μ' w' v hat'.sim hR (fun l b li hg hm=>by
    have hl:=H.lt_of_get hg
    exact qII hs hg (by rw [<- hat'.ext l hl];exact hm))
   exact⟨μ2,r',H',hq,hle,Mu.ext_trans hat'.ext h1 (Nat.le_refl _),h2,h3,hat'.keeps⟩
  intro e a' w' hp
  cases e with
  | normal=>exact done a' w' hp
  | ret=>exact done a' w' hp
  | exit id=>obtain⟨_,_,_,hf,_⟩:=hp;exact hf.elim
  | goto l=>exact hp.elim
  | panic c=>exact hp.elim
  | outgrown=>exact hp.elim
 where
 res_run {fn:Func} {rs:List ARes} {r:AV} {F:Nat->Prop} {N n0:Nat} {μ0 μ:Mu} {w0 w:World} {E:Env} {H:AHeap} {a:Act} (hrs:fn.results.toList.mapM (qKW P)=some rs) (hr:vN rs E H=some r) (hat:At F N n0 μ0 w0 μ E H a w) :
   ∃ v,(results fn a.tmps).run P w=.ok v w/\R μ r v:=by
  have list:∀ (l:List ResultVar) (rs:List ARes) (xs:List AV),l.mapM (qKW P)=some rs->qBR E H rs=some xs ->
    ∃ vs:List Value,(l.mapM (fun | .tmp t=>pure (a.tmps.getD t Go.undef) | .cell t ty=>do loadVar ty (<- asAddr (a.tmps.getD t Go.undef)):ResultVar->Sem Value)).run P w=.ok vs w/\RL μ xs vs:=by
   intro l
   induction l with
   | nil=>intro rs xs h1 h2;simp at h1;subst h1;simp [qBR] at h2;subst h2;exact⟨[],rfl,RL.nil⟩
   | cons x l ih =>
    intro rs xs h1 h2
    simp only [List.mapM_cons,Option.bind_eq_bind,Option.bind_eq_some_iff,Option.pure_def,Option.some.injEq] at h1
    obtain⟨y,hy,rs',hrs',rfl⟩:=h1
    simp only [qBR] at h2
    split at h2
    ·rename_i z zs hz hzs
     cases h2
     obtain⟨vs,g1,g2⟩:=ih rs' zs hrs' hzs
     have one:∃ v,((fun | .tmp t=>pure (a.tmps.getD t Go.undef) | .cell t ty=>do loadVar ty (<- asAddr (a.tmps.getD t Go.undef)):ResultVar->Sem Value) x).run P w=.ok v w/\R μ z v:=by
      cases x with
      | tmp t =>
       simp only [qKW,Option.some.injEq] at hy
       subst hy
       simp only [ARes.val,Option.some.injEq] at hz
       subst hz
       exact⟨_,rfl,hat.env t⟩
      | cell t ty =>
       simp only [qKW,Option.bind_eq_bind,Option.bind_eq_some_iff,Option.some.injEq] at hy
       obtain⟨⟨ag,n⟩,ht,rfl⟩:=hy
       simp only [ARes.val] at hz
       have hR:=hat.env t
       split at hz
       ·rename_i l' off hE
        rw [hE] at hR
        split at hz
        ·rename_i cs wr hg
         obtain⟨v,q1,q3⟩:=load_same hat.sim ht hR hg hz
         exact⟨v,q1,q3⟩
        ·cases hz
       ·cases hz
     obtain⟨v,g3,g4⟩:=one
     refine⟨v :: vs,?_,RL.cons g4 g2⟩
     rw [List.mapM_cons,bind_ok g3,bind_ok g1];rfl
    ·cases h2
  unfold vN at hr
  have key:∀ xs,qBR E H rs=some xs -> ∃ vs:Array Value,(fn.results.mapM (fun | .tmp t=>pure (a.tmps.getD t Go.undef) | .cell t ty=>do loadVar ty (<- asAddr (a.tmps.getD t Go.undef)):ResultVar->Sem Value)).run P w=.ok vs w/\RL μ xs vs.toList:=by
   intro xs hx
   obtain⟨vs,h1,h2⟩:=list fn.results.toList rs xs hrs hx
   refine⟨vs.toArray,?_,by simpa using h2⟩
   rw [Array.mapM_eq_mapM_toList]
   exact bind_ok (f:=fun a=>pure (List.toArray a)) h1
  have fin:∀ (vs:Array Value),(fn.results.mapM (fun | .tmp t=>pure (a.tmps.getD t Go.undef) | .cell t ty=>do loadVar ty (<- asAddr (a.tmps.getD t Go.undef)):ResultVar->Sem Value)).run P w=.ok vs w ->
    (results fn a.tmps).run P w=.ok (if h:vs.size=1 then vs[0] else .tuple vs) w:=by
   intro vs h
   unfold results
   exact bind_ok h
  split at hr
  ·rename_i x hx
   cases hr
   obtain⟨vs,h1,h2⟩:=key _ hx
   have hsz:vs.size=1:=by simpa using h2.1.symm
   refine⟨_,fin vs h1,?_⟩
   rw [dif_pos hsz]
   exact h2.2 0 _ _ rfl (by simp [hsz])
  ·rename_i xs hne hx
   cases hr
   obtain⟨vs,h1,h2⟩:=key _ hx
   have hsz:vs.size ≠ 1:=by
    intro h
    have:=h2.1.trans (Array.length_toList.trans h)
    obtain⟨x,rfl⟩:=List.length_eq_one_iff.1 this
    exact hne x rfl
   refine⟨_,fin vs h1,?_⟩
   rw [dif_neg hsz]
   exact R.tupleL h2
  ·cases hr
 load_same {F:Nat->Prop} {μ:Mu} {H:AHeap} {w:World} {ty:TypeId} {ag:Bool} {n:Nat} (hs:Sim F μ H w) (ht:qBO P ty=some (ag,n)) {l off:Nat} {v:Value} (hv:R μ (.ptr l off) v) {cs:List AV} {wr:Bool}
   (hg:H.get l=some (.row cs wr)) {r:AV} (hp:part ag n off cs=some r):∃ u,(do loadVar ty (<- asAddr v):Sem Value).run P w=.ok u w/\R μ r u:=by
  obtain⟨li,hm,rfl⟩:=uH hv
  obtain⟨hA,hN⟩:=qAe (w:=w) ht
  show ∃ u,(loadVar ty ⟨li.blk,li.base+off,none⟩).run P w=.ok u w/\R μ r u
  unfold loadVar
  rw [bind_ok hA]
  unfold part at hp
  cases ag with
  | true =>
   simp only [if_true] at hp
   split at hp
   ·rename_i hn
    cases hp
    obtain⟨us,hl,hr,hc⟩:=bF hs hg hm hn
    simp only [if_true]
    rw [bind_ok hN]
    subst hl
    rw [bind_ok (jY hc)]
    exact⟨_,rfl,R.aggL.2 (by simpa using hr)⟩
   ·cases hp
  | false =>
   simp only [Bool.false_eq_true,if_false] at hp ⊢
   obtain⟨c,e,lo,hi,hb,hsz,hlim,hc,_⟩:=hs.row l li cs wr hg hm
   obtain⟨u,hu,hr⟩:=hc off r hp
   refine⟨u,?_,hr⟩
   rw [run_load,cell_of hb,hu]
end
end Go.Ab
end
/- The arguments of a law, read as abstract values; what is left to show of a law. -/
section
namespace Go.Ab
open Go.RowKit
inductive Sh where
  | bool
  | int (k:IntKind)
  | flt (k:FloatKind)
  | str
  | sl (es:List Sh)
  deriving Inhabited
section
variable (P:Program)
def qFG:Nat->List (Nat × List Sh)->Bool
 | _,[]=>true
 | n,(o,s) :: rest=>o == n && qFG (n+s.length) rest
def qAx:Nat->TypeId->Option (List Sh)
 | 0,_=>none
 | n+1,t =>
  match P.underlying t with
  | some .bool=>some [.bool]
  | some (.int k)=>some [.int k]
  | some (.float k)=>some [.flt k]
  | some .string=>some [.str]
  | some (.slice e)=>do
   let s <- qAx n e
   if P.cellsOf e=s.length/\0 < s.length then some [.sl s] else none
  | some (.struct fs)=>do
   let xs <- fs.toList.mapM fun f=>do
    let s <- qAx n f.type
    if P.cellsOf f.type=s.length then some (f.offset,s) else none
   if qFG 0 xs=true/\P.cellsOf t=(xs.map (·.2)).flatten.length then some (xs.map (·.2)).flatten else none
  | some (.array m e)=>do
   let s <- qAx n e
   if P.cellsOf e=s.length/\P.cellsOf t=m * s.length then some (List.replicate m s).flatten else none
  | _=>none
end
inductive Fits (H:AHeap):Sh->AV->Prop where
  | bool (b):Fits H .bool (.bool b)
  | int {k n} (h:(Lit.int k n).wf=true):Fits H (.int k) (.int k n)
  | flt {k x} (h:∀ b,x=some b->b < 2^k.format.width/\(k.decode b).isNaN=false):Fits H (.flt k) (.flt k x)
  | str {s} (h:s.length<=maxLen):Fits H .str (.str s)
  | nil {es}:Fits H (.sl es) .nilslice
  | sl {l len cap es cs} (hg:H.get l=some (.row cs false)) (hl:cs.length=len * es.length) (hc:len<=cap) (hm:cap<=maxLen)
      (h:∀ i j s a,i < len->es[j]? = some s->cs[i * es.length+j]? = some a->Fits H s a):Fits H (.sl es) (.slice l 0 len cap es.length)
theorem Fits.grew {H H' : AHeap} (g:Grew H H') {s:Sh} {a:AV} (h:Fits H s a):Fits H' s a:=by
 induction h with
 | bool b=>exact .bool b
 | int h=>exact .int h
 | flt h=>exact .flt h
 | str h=>exact .str h
 | nil=>exact .nil
 | sl hg hl hc hm _ ih=>exact .sl (by rw [g.get _ (H.lt_of_get hg)];exact hg) hl hc hm ih
def mD (H:AHeap) (ss:List Sh) (as:List AV):Prop:=as.length=ss.length /\ ∀ (i:Nat) (s:Sh) (a:AV),ss[i]? = some s->as[i]? = some a->Fits H s a
theorem mD.grew {H H' : AHeap} (g:Grew H H') {ss:List Sh} {as:List AV} (h:mD H ss as):mD H' ss as:=⟨h.1,fun i s a x y=>(h.2 i s a x y).grew g⟩
theorem mD.nil (H:AHeap):mD H [] []:=⟨rfl,fun i s a x=>by simp at x⟩
theorem mD.one {H:AHeap} {s:Sh} {a:AV} (h:Fits H s a):mD H [s] [a]:=⟨rfl,fun i s' a' x y=>by
 cases i with
 | zero=>simp at x y;subst x;subst y;exact h
 | succ i=>simp at x⟩
theorem mD.append {H:AHeap} {ss ts:List Sh} {as bs:List AV} (h:mD H ss as) (h' : mD H ts bs):mD H (ss ++ ts) (as ++ bs):=by
 refine⟨by simp [h.1,h'.1],fun i s a x y=>?_⟩
 rw [List.getElem?_append] at x y
 rw [<- h.1] at x
 split at x
 ·rename_i hi;rw [if_pos hi] at y;exact h.2 i s a x y
 ·rename_i hi;rw [if_neg hi] at y;exact h'.2 _ s a x y
def Calm (H:AHeap):Prop:=∀ l b,H.get l=some b->b.wr=false
section
variable {F:Nat->Prop} {μ:Mu} {H:AHeap} {w:World} {P:Program}
theorem Calm.new (h:Calm H) {cs:List AV}:Calm (H.new (.row cs false)):=fun l b hg=>by
  rw [AHeap.new_get] at hg
  split at hg
  · cases hg;rfl
  · exact h l b hg
theorem Sim.view (hs:Sim F μ H w) (hcalm:Calm H) {b o lim:Nat} {c:Array Value} {e:TypeId} {lo hi:Nat} {cs:List AV} (hb:w.heap[b]? = some (.cells c e (lo,hi))) (hsz:o+lim<=c.size) (hl:cs.length<=lim)
  (hr:∀ (i:Nat) (a:AV),cs[i]? = some a -> ∃ v,c[o+i]? = some v/\R μ a v) :
  Sim F (μ.plus H.next ⟨b,o,lim⟩) (H.new (.row cs false)) w:=by
 have lift:∀ {a:AV} {v:Value},R μ a v->R (μ.plus H.next ⟨b,o,lim⟩) a v:=fun h=>hs.lift (Mu.plus_ext _ _ _) h
 have hnew:∀ l,l ≠ H.next->μ.plus H.next ⟨b,o,lim⟩ l=μ l:=fun l h=>by unfold Mu.plus;rw [if_neg h]
 have hat:μ.plus H.next ⟨b,o,lim⟩ H.next=some ⟨b,o,lim⟩:=by unfold Mu.plus;rw [if_pos rfl]
 have hlt:b < w.heap.size:=by
  rcases Nat.lt_or_ge b w.heap.size with h | h
  ·exact h
  ·rw [Array.getElem?_eq_none h] at hb;cases hb
 refine⟨?_,?_,?_,?_,?_,hs.fresh⟩
 ·intro l li h
  by_cases hl' : l=H.next
  ·subst hl'
   rw [hat] at h
   cases h
   exact⟨by rw [AHeap.new_next];omega,hlt⟩
  ·rw [hnew l hl'] at h
   obtain⟨h1,h2⟩:=hs.dom l li h
   exact⟨by rw [AHeap.new_next];omega,h2⟩
 ·intro l li cs' wr hg hm
  rw [AHeap.new_get] at hg
  by_cases hl' : l=H.next
  ·subst hl'
   rw [if_pos rfl] at hg
   cases hg
   rw [hat] at hm
   cases hm
   refine⟨c,e,lo,hi,hb,hsz,hl,?_,fun h=>by cases h⟩
   intro i a hi
   obtain⟨v,hv,hR⟩:=hr i a hi
   exact⟨v,hv,lift hR⟩
  ·rw [if_neg hl'] at hg
   rw [hnew l hl'] at hm
   obtain⟨c',e',lo,hi,h1,h2,h3,h4,h5⟩:=hs.row l li cs' wr hg hm
   refine⟨c',e',lo,hi,h1,h2,h3,?_,h5⟩
   intro i a hi'
   obtain⟨v,hv,hR⟩:=h4 i a hi'
   exact⟨v,hv,lift hR⟩
 ·intro l li es hg hm
  rw [AHeap.new_get] at hg
  by_cases hl' : l=H.next
  ·subst hl';rw [if_pos rfl] at hg;cases hg
  ·rw [if_neg hl'] at hg
   have:=hcalm l _ hg
   cases this
 ·intro l l' b1 b2 li li' hne hg hw
  have:=hcalm.new l b1 hg
  rw [hw] at this;cases this
 ·intro l b1 li hg hw
  have:=hcalm.new l b1 hg
  rw [hw] at this;cases this
def yI (F:Nat->Prop) (w:World) (ss:List Sh) (vs:List Value):Prop:=
 ∀ (μ:Mu) (H:AHeap),Sim F μ H w->Calm H -> ∃ (μ' : Mu) (H' : AHeap) (as:List AV),Sim F μ' H' w/\Calm H'/\Mu.ext H.next μ μ'/\Grew H H'/\RL μ' as vs/\mD H' ss as
theorem yI.nil:yI F w [] []:=fun μ H hs hc=>⟨μ,H,[],hs,hc,Mu.ext_refl _ _,Grew.refl _,RL.nil,mD.nil _⟩
theorem yI.append {ss ts:List Sh} {vs us:List Value} (h:yI F w ss vs) (h' : yI F w ts us):yI F w (ss ++ ts) (vs ++ us):=by
 intro μ H hs hc
 obtain⟨μ1,H1,as,a1,a2,a3,a4,a5,a6⟩:=h μ H hs hc
 obtain⟨μ2,H2,bs,b1,b2,b3,b4,b5,b6⟩:=h' μ1 H1 a1 a2
 exact⟨μ2,H2,as ++ bs,b1,b2,Mu.ext_trans a3 b3 a4.next,a4.trans b4,(a1.liftL b3 a5).append b5,(a6.grew b4).append b6⟩
theorem yI.pure {s:Sh} {v:Value} (h:∀ μ H,∃ a,R μ a v/\Fits H s a):yI F w [s] [v]:=fun μ H hs hc=>by
 obtain⟨a,h1,h2⟩:=h μ H
 exact⟨μ,H,[a],hs,hc,Mu.ext_refl _ _,Grew.refl _,RL.cons h1 RL.nil,mD.one h2⟩
theorem yI.flatten:∀ {n:Nat} {ss:List Sh} {vs:List Value},vs.length=n * ss.length->(∀ i,i < n->yI F w ss ((vs.drop (i * ss.length)).take ss.length))->yI F w (List.replicate n ss).flatten vs
 | 0,ss,vs,hl,_=>by
  obtain rfl:vs=[]:=List.length_eq_zero_iff.1 (by simpa using hl)
  exact yI.nil
 | n+1,ss,vs,hl,h=>by
  have h0:=h 0 om
  have hrest:yI F w (List.replicate n ss).flatten (vs.drop ss.length):=yI.flatten (by rw [List.length_drop,hl,Nat.succ_mul];omega) (fun i hi=>by
   have:=h (i+1) om
   rw [List.drop_drop,show ss.length+i * ss.length=(i+1) * ss.length by rw [Nat.succ_mul];omega]
   exact this)
  have:=h0.append hrest
  rw [Nat.zero_mul,List.drop_zero,List.take_append_drop] at this
  rw [List.replicate_succ,List.flatten_cons]
  exact this
theorem dZ {β:Type} {f:Nat->Option β}:∀ {l:List Nat} {xs:List β},l.mapM f=some xs->xs.length=l.length /\ ∀ (i j:Nat),l[i]? = some j -> ∃ x,xs[i]? = some x/\f j=some x
 | [],xs,h=>by simp at h;subst h;simp
 | a :: l,xs,h=>by
  simp only [List.mapM_cons,Option.bind_eq_bind,Option.bind_eq_some_iff,Option.pure_def,Option.some.injEq] at h
  obtain⟨x,hx,ys,hys,rfl⟩:=h
  obtain⟨h1,h2⟩:=dZ hys
  refine⟨by simp [h1],fun i j hj=>?_⟩
  cases i with
  | zero=>simp at hj;subst hj;exact⟨x,by simp,hx⟩
  | succ i=>simpa using h2 i j (by simpa using hj)
theorem qCH {base n:Nat} {a:Addr} {vs:List Value} (h:w.cells? base a n=some vs):vs.length=n /\ ∀ i,i < n -> ∃ v,vs[i]? = some v/\w.cell? (a.add i)=some v:=by
 unfold World.cells? at h
 split at h
 ·obtain⟨h1,h2⟩:=dZ h
  refine⟨by simpa using h1,fun i hi=>?_⟩
  exact h2 i i (by simp [hi])
 ·cases h
theorem qBe {a:Addr} {v:Value} (h:w.cell? a=some v):a.spot=none /\ ∃ c e lo hi,w.heap[a.block]? = some (.cells c e (lo,hi))/\c[a.off]? = some v:=by
 unfold World.cell? at h
 split at h
 ·rename_i c e fr hb
  split at h
  ·cases h
  ·rename_i hsp
   exact⟨by simpa using hsp,c,e,fr.1,fr.2,hb,h⟩
 ·cases h
theorem qLp {k:FloatKind} {b:Nat} (hb:b < 2^k.format.width):∀ c,nrm k b=some c->c < 2^k.format.width/\(k.decode c).isNaN=false:=by
 intro c hc
 unfold nrm at hc
 split at hc
 ·cases hc
 ·rename_i h;cases hc;exact⟨hb,by simpa using h⟩
theorem yI.cell {s:Sh} {v:Value} {P:Program} {t:TypeId} {H:Type} {enc:TypeId × Value->H} {fuel:Nat} {x:DataW H × List MemPlace} (h:DataW.trod enc P w 0 (fun _=>true) true fuel t [v]=some x)
  (hd:P.underlying t=some .bool/\s=.bool \/ (∃ k,P.underlying t=some (.int k)/\s=.int k) \/ (∃ k,P.underlying t=some (.float k)/\s=.flt k) \/ P.underlying t=some .string/\s=.str):yI F w [s] [v]:=by
 cases fuel with
 | zero=>simp [DataW.trod] at h
 | succ n =>
  unfold DataW.trod at h
  refine yI.pure fun μ H=>?_
  rcases hd with ⟨ht,rfl⟩ | ⟨k,ht,rfl⟩ | ⟨k,ht,rfl⟩ | ⟨ht,rfl⟩ <;> rw [ht] at h
  ·cases v <;> simp at h
   exact⟨_,.bool _,.bool _⟩
  ·cases v <;> simp at h
   obtain⟨⟨rfl,hw⟩,_⟩:=h
   exact⟨_,.int _ _,.int hw⟩
  ·cases v <;> simp at h
   rename_i k' b
   obtain⟨⟨rfl,hw⟩,_⟩:=h
   have hb:b < 2^k'.format.width:=by cases k' <;> (simp only [Lit.wf,decide_eq_true_eq] at hw;exact hw)
   exact⟨_,.flt rfl hb,.flt (qLp hb)⟩
  ·cases v <;> simp at h
   rename_i b
   exact⟨_,.str rfl,.str (by simpa using h.1)⟩
theorem qAO {P:Program} {t:TypeId} {H:Type} {enc:TypeId × Value->H} {fuel:Nat} {cs:List Value} {x:DataW H × List MemPlace} (h:DataW.trod enc P w 0 (fun _=>true) true fuel t cs=some x)
  (hd:P.underlying t=some .bool \/ (∃ k,P.underlying t=some (.int k)) \/ (∃ k,P.underlying t=some (.float k)) \/ P.underlying t=some .string \/ ∃ e,P.underlying t=some (.slice e)):∃ v,cs=[v]:=by
 cases fuel with
 | zero=>simp [DataW.trod] at h
 | succ n =>
  unfold DataW.trod at h
  rcases hd with ht | ⟨k,ht⟩ | ⟨k,ht⟩ | ht | ⟨e,ht⟩ <;> rw [ht] at h <;> (split at h <;> first | exact⟨_,rfl⟩ | (simp_all;done) | cases h)
theorem opens {P:Program} {H:Type} {enc:TypeId × Value->H}:∀ (n:Nat) (t:TypeId) (ss:List Sh),qAx P n t=some ss -> ∀ (fuel:Nat) (cs:List Value) (x:DataW H × List MemPlace),
  DataW.trod enc P w 0 (fun _=>true) true fuel t cs=some x->yI F w ss cs
 | 0,t,ss,hs,_,_,_,_=>by simp [qAx] at hs
 | n+1,t,ss,hs,fuel,cs,x,h=>by
  have ih:=opens (P:=P) (enc:=enc) n
  unfold qAx at hs
  split at hs
  ·rename_i ht
   obtain⟨v,rfl⟩:=qAO h (.inl ht)
   cases hs
   exact yI.cell h (.inl ⟨ht,rfl⟩)
  ·rename_i k ht
   obtain⟨v,rfl⟩:=qAO h (.inr (.inl ⟨_,ht⟩))
   cases hs
   exact yI.cell h (.inr (.inl ⟨_,ht,rfl⟩))
  ·rename_i k ht
   obtain⟨v,rfl⟩:=qAO h (.inr (.inr (.inl ⟨_,ht⟩)))
   cases hs
   exact yI.cell h (.inr (.inr (.inl ⟨_,ht,rfl⟩)))
  ·rename_i ht
   obtain⟨v,rfl⟩:=qAO h (.inr (.inr (.inr (.inl ht))))
   cases hs
   exact yI.cell h (.inr (.inr (.inr ⟨ht,rfl⟩)))
  ·-- a slice
   rename_i e ht
   simp only [Option.bind_eq_bind,Option.bind_eq_some_iff] at hs
   obtain⟨s,hse,hs⟩:=hs
   split at hs
   ·rename_i hsz
    obtain⟨hsz,hpos⟩:=hsz
    cases hs
    cases fuel with
    | zero=>simp [DataW.trod] at h
    | succ m =>
     unfold DataW.trod at h
     rw [ht] at h
     split at h <;> first | (simp_all;done) | skip
     ·exact yI.pure fun μ H=>⟨_,.nilslice,.nil⟩
     ·rename_i e' a len cap he'
      obtain rfl:e=e':=by cases he';rfl
      simp only [] at h
      split at h
      ·rename_i hb
       obtain⟨_,hlc,hcm⟩:=hb
       simp only [Option.bind_eq_some_iff,Option.map_eq_some_iff,if_true] at h
       obtain⟨elems,hel,rest,hrest,_⟩:=h
       obtain⟨l1,k1⟩:=dZ hel
       obtain⟨l2,k2⟩:=dZ hrest
       rw [hsz] at k1 k2
       have all:∀ i,i < cap -> ∃ vs y,w.cells? 0 (a.add (i * s.length)) s.length=some vs/\DataW.trod enc P w 0 (fun _=>true) true m e vs=some y:=by
        intro i hi
        by_cases hil:i < len
        ·obtain⟨y,_,hy⟩:=k1 i i (by simp [hil])
         rw [Option.bind_eq_some_iff] at hy
         obtain⟨vs,h1,h2⟩:=hy
         exact⟨vs,y,h1,h2⟩
        ·obtain⟨y,_,hy⟩:=k2 (i - len) (i - len) (by rw [List.getElem?_range om])
         rw [show len+(i - len)=i by omega,Option.bind_eq_some_iff] at hy
         obtain⟨vs,h1,h2⟩:=hy
         exact⟨vs,y,h1,h2⟩
       clear hel hrest k1 k2 l1 l2
       by_cases hc0:cap=0
       ·subst hc0
        obtain rfl:len=0:=by omega
        intro μ H hsim hcalm
        refine⟨μ,H.new (.row [] false),[.slice H.next 0 0 0 s.length],hsim.ghost _,hcalm.new,Mu.ext_refl _ _,(Grew.refl _).new _,RL.cons (.slice0 _) RL.nil,mD.one (.sl (cs:=[]) (by rw [AHeap.new_get,if_pos rfl]) (by simp) (by simp) hcm (fun i j s a hi=>by omega))⟩
       ·have hsp:a.spot=none:=by
         obtain⟨vs,y,h1,_⟩:=all 0 om
         obtain⟨_,h2⟩:=qCH h1
         obtain⟨v,_,h3⟩:=h2 0 hpos
         rw [Nat.zero_mul] at h3
         exact(qBe (by simpa [Addr.add] using h3)).1
        obtain⟨b,o,sp⟩:=a
        simp only at hsp
        subst hsp
        have place:∀ k,k < cap * s.length -> ∃ v,w.cell? ⟨b,o+k,none⟩=some v:=by
         intro k hk
         have hq:k / s.length < cap:=Nat.div_lt_of_lt_mul (by rw [Nat.mul_comm];exact hk)
         obtain⟨vs,y,h1,_⟩:=all (k / s.length) hq
         obtain⟨_,h2⟩:=qCH h1
         obtain⟨v,_,h3⟩:=h2 (k % s.length) (Nat.mod_lt _ hpos)
         refine⟨v,?_⟩
         rw [addr_add,addr_add] at h3
         have:=Nat.div_add_mod k s.length
         rw [Nat.mul_comm] at this
         rwa [Nat.add_assoc,this] at h3
        have hpc:0 < cap * s.length:=Nat.mul_pos om hpos
        obtain⟨v0,hv0⟩:=place 0 hpc
        obtain⟨_,c,et,lo,hi,hblk,_⟩:=qBe hv0
        have hblk' : w.heap[b]? = some (.cells c et (lo,hi)):=hblk
        have inrow:∀ k,k < cap * s.length -> ∃ v,c[o+k]? = some v/\w.cell? ⟨b,o+k,none⟩=some v:=by
         intro k hk
         obtain⟨v,hv⟩:=place k hk
         obtain⟨_,c',et',lo',hi',h1,h2⟩:=qBe hv
         have h1' : w.heap[b]? = some (.cells c' et' (lo',hi')):=h1
         rw [hblk'] at h1'
         cases h1'
         exact⟨v,h2,hv⟩
        have hcsz:o+cap * s.length<=c.size:=by
         obtain⟨v,hv,_⟩:=inrow (cap * s.length - 1) om
         have:o+(cap * s.length - 1) < c.size:=by
          rcases Nat.lt_or_ge (o+(cap * s.length - 1)) c.size with h | h
          ·exact h
          ·rw [Array.getElem?_eq_none h] at hv;cases hv
         omega
        -- the elements,one behind the other
        have hrow:yI F w (List.replicate len s).flatten ((c.toList.drop o).take (len * s.length)):=by
         have hle:len * s.length<=cap * s.length:=Nat.mul_le_mul_right _ hlc
         refine yI.flatten (by simp;omega) fun i hi=>?_
         obtain⟨vs,y,h1,h2⟩:=all i om
         have hop:=ih e s hse m vs y h2
         obtain⟨g1,g2⟩:=qCH h1
         have hii:i * s.length+s.length<=len * s.length:=by rw [<- Nat.succ_mul];exact Nat.mul_le_mul_right _ hi
         have:(((c.toList.drop o).take (len * s.length)).drop (i * s.length)).take s.length=vs:=by
          apply List.ext_getElem?
          intro j
          rw [List.getElem?_take]
          split
          ·rename_i hj
           obtain⟨v,q1,q2⟩:=g2 j hj
           rw [q1,List.getElem?_drop,List.getElem?_take,if_pos (by rw [g1] at *;omega),List.getElem?_drop]
           obtain⟨v',q3,q4⟩:=inrow (i * s.length+j) om
           rw [addr_add,addr_add,Nat.add_assoc,q4] at q2
           cases q2
           rw [Array.getElem?_toList,q3]
          ·rename_i hj
           rw [List.getElem?_eq_none om]
         rw [this];exact hop
        intro μ H hsim hcalm
        obtain⟨μ1,H1,as,b1,b2,b3,b4,b5,b6⟩:=hrow μ H hsim hcalm
        have hlen:as.length=len * s.length:=by
         have:=b6.1
         simpa using this
        have hle:len * s.length<=cap * s.length:=Nat.mul_le_mul_right _ hlc
        refine⟨_,H1.new (.row as false),[.slice H1.next 0 len cap s.length],b1.view b2 hblk' hcsz om ?_,b2.new,Mu.ext_trans b3 (Mu.plus_ext _ _ _) b4.next,b4.new _,RL.cons ?_ RL.nil,mD.one (.sl (cs:=as) (by rw [AHeap.new_get,if_pos rfl]) hlen hlc hcm ?_)⟩
        ·intro i x hx
         obtain⟨v,hv,hR⟩:=b5.get hx
         refine⟨v,?_,hR⟩
         rw [List.getElem?_take] at hv
         split at hv
         ·rw [List.getElem?_drop,Array.getElem?_toList] at hv;exact hv
         ·cases hv
        ·refine .slice (li:=⟨b,o,cap * s.length⟩) ?_ rfl rfl (.inr (by simp)) (by simp) hlc
         unfold Mu.plus;rw [if_pos rfl]
        ·intro i j s' x hi hj hx
         have hjl:j < s.length:=by
          rcases Nat.lt_or_ge j s.length with h | h
          ·exact h
          ·rw [List.getElem?_eq_none h] at hj;cases hj
         refine(b6.2 (i * s.length+j) s' x ?_ hx).grew ((Grew.refl _).new _)
         exact flat_get hi hjl hj
      ·cases h
   ·cases hs
  ·-- a struct
   rename_i fs ht
   simp only [Option.bind_eq_bind,Option.bind_eq_some_iff] at hs
   obtain⟨xs,hxs,hs⟩:=hs
   split at hs
   ·rename_i hok
    obtain⟨hrun,hsz⟩:=hok
    cases hs
    cases fuel with
    | zero=>simp [DataW.trod] at h
    | succ m =>
     unfold DataW.trod at h
     rw [ht] at h
     simp only [] at h
     split at h
     ·rename_i hlen
      rw [Option.map_eq_some_iff] at h
      obtain⟨ys,hys,_⟩:=h
      have key:∀ (l:List Field) (xs:List (Nat × List Sh)) (ys:List (DataW H × List MemPlace)) (o:Nat),(l.mapM fun f=>(qAx P n f.type).bind fun s=>if P.cellsOf f.type=s.length then some (f.offset,s) else none)=some xs ->
        (l.mapM fun f=>DataW.trod enc P w 0 (fun _=>true) true m f.type ((cs.drop f.offset).take (P.cellsOf f.type)))=some ys->qFG o xs=true ->
        yI F w (xs.map (·.2)).flatten ((cs.drop o).take (xs.map (·.2)).flatten.length):=by
       intro l
       induction l with
       | nil =>
        intro xs ys o h1 _ _
        simp at h1
        subst h1
        simpa using yI.nil
       | cons f l ihl =>
        intro xs ys o h1 h2 h3
        simp only [List.mapM_cons,Option.bind_eq_bind,Option.bind_eq_some_iff,Option.pure_def,Option.some.injEq] at h1 h2
        obtain⟨p,⟨s,hs1,hs2⟩,xs',hxs',rfl⟩:=h1
        obtain⟨y,hy,ys',hys',rfl⟩:=h2
        split at hs2
        ·rename_i hcl
         cases hs2
         simp only [qFG,Bool.and_eq_true,beq_iff_eq] at h3
         obtain⟨rfl,h3⟩:=h3
         have a1:=ih f.type s hs1 m _ y hy
         have a2:=ihl xs' ys' _ hxs' hys' h3
         rw [hcl] at a1
         have:=a1.append a2
         simp only [List.map_cons,List.flatten_cons,List.length_append]
         rw [<- List.drop_drop,<- List.take_add] at this
         exact this
        ·cases hs2
      have:=key fs.toList xs ys 0 hxs hys hrun
      rw [List.drop_zero,<- hsz,<- hlen,List.take_length] at this
      exact this
     ·cases h
   ·cases hs
  ·-- an array
   rename_i k e ht
   simp only [Option.bind_eq_bind,Option.bind_eq_some_iff] at hs
   obtain⟨s,hse,hs⟩:=hs
   split at hs
   ·rename_i hok
    obtain⟨hce,hct⟩:=hok
    cases hs
    cases fuel with
    | zero=>simp [DataW.trod] at h
    | succ m =>
     unfold DataW.trod at h
     rw [ht] at h
     simp only [] at h
     split at h
     ·rename_i hlen
      rw [Option.map_eq_some_iff] at h
      obtain⟨ys,hys,_⟩:=h
      obtain⟨_,k1⟩:=dZ hys
      refine yI.flatten (by rw [hlen,hct]) fun i hi=>?_
      obtain⟨y,_,hy⟩:=k1 i i (by simp [hi])
      rw [hce] at hy
      exact ih e s hse m _ y hy
     ·cases h
   ·cases hs
  ·cases hs
 where
 flat_get {s:List Sh} {x:Sh}:∀ {len i j:Nat},i < len->j < s.length->s[j]? = some x->(List.replicate len s).flatten[i * s.length+j]? = some x
  | 0,i,j,hi,_,_=>by omega
  | len+1,0,j,hi,hj,hx=>by
   rw [List.replicate_succ,List.flatten_cons,List.getElem?_append_left om]
   simpa using hx
  | len+1,i+1,j,hi,hj,hx=>by
   rw [List.replicate_succ,List.flatten_cons,List.getElem?_append_right (by rw [Nat.succ_mul];omega)]
   rw [show (i+1) * s.length+j - s.length=i * s.length+j by rw [Nat.succ_mul];omega]
   exact flat_get om hj hx
end
end Go.Ab
end
/- A law's contract out of what its abstract call answers; ends of bodies. -/
section
namespace Go.Ab
open Go.RowKit Go.ChangeShapes
def qBb (H:AHeap) (x:Bool × List Sh) (a:AV):Prop:=match x with
 | (true,ss)=>∃ cs,a=.agg cs/\mD H ss cs
 | (false,ss)=>∃ s,ss=[s]/\Fits H s a
def qCA (H:AHeap):List (Bool × List Sh)->List AV->Prop
 | [],[]=>True
 | x :: xs,a :: as=>qBb H x a/\qCA H xs as
 | _,_=>False
theorem qBb.grew {H H' : AHeap} (g:Grew H H') {x:Bool × List Sh} {a:AV} (h:qBb H x a):qBb H' x a:=by
 obtain⟨b,ss⟩:=x
 cases b with
 | true=>obtain⟨cs,h1,h2⟩:=h;exact⟨cs,h1,h2.grew g⟩
 | false=>obtain⟨s,h1,h2⟩:=h;exact⟨s,h1,h2.grew g⟩
section
variable (P:Program)
def qId (t:TypeId):Option (Bool × List Sh):=do
 let ss <- qAx P 12 t
 match P.underlying t with
 | some (.struct _)=>some (true,ss)
 | some (.array _ _)=>some (true,ss)
 | _=>if ss.length=1 then some (false,ss) else none
def qDl (ts:List TypeId):Option (List (Bool × List Sh)):=ts.mapM (qId P)
end
section
variable {F:Nat->Prop} {μ:Mu} {H:AHeap} {w:World} {P:Program} {D:Type} {enc:TypeId × Value->D}
theorem qJe {base:Nat} {t:TypeId} {x:Bool × List Sh} (hx:qId P t=some x) {v:Value} {d:DataW D} {ps:List MemPlace} (hok:Value.okWide P w .any base t v) (h:DataW.Trod enc P w 0 (fun _=>true) true t v d ps) (hs:Sim F μ H w) (hc:Calm H) :
  ∃ μ' H' a,Sim F μ' H' w/\Calm H'/\Mu.ext H.next μ μ'/\Grew H H'/\R μ' a v/\qBb H' x a:=by
 unfold qId at hx
 simp only [Option.bind_eq_bind,Option.bind_eq_some_iff] at hx
 obtain⟨ss,hss,hx⟩:=hx
 obtain⟨fuel,hf⟩:=h
 obtain⟨μ',H',as,h1,h2,h3,h4,h5,h6⟩:=opens (F:=F) 12 t ss hss fuel _ _ hf μ H hs hc
 have agg:(∃ cs,v=.agg cs)->x=(true,ss) -> ∃ μ' H' a,Sim F μ' H' w/\Calm H'/\Mu.ext H.next μ μ'/\Grew H H'/\R μ' a v/\qBb H' x a:=by
  rintro⟨cs,rfl⟩ rfl
  exact⟨μ',H',.agg as,h1,h2,h3,h4,R.aggL.2 h5,as,rfl,h6⟩
 split at hx
 ·rename_i fs ht
  simp only [Value.okWide,ht] at hok
  obtain⟨cs,hv,_⟩:=hok
  cases hx
  exact agg ⟨cs,hv⟩ rfl
 ·rename_i n e ht
  simp only [Value.okWide,ht] at hok
  obtain⟨cs,hv,_⟩:=hok
  cases hx
  exact agg ⟨cs,hv⟩ rfl
 ·rename_i n1 n2
  split at hx
  ·rename_i hlen
   cases hx
   obtain⟨s,rfl⟩:=List.length_eq_one_iff.1 hlen
   have hal:as.length=1:=h6.1
   obtain⟨a,rfl⟩:=List.length_eq_one_iff.1 hal
   have hv:v.cells.toList=[v]:=by
    cases v <;> first | rfl | skip
    ·exfalso
     unfold Value.okWide at hok
     split at hok
     ·rename_i fs ht;exact n1 _ ht
     ·rename_i ht;exact n2 _ _ ht
     ·unfold Cell.okWide at hok
      split at hok <;> simp_all [Cell.ok]
   rw [hv] at h5
   exact⟨μ',H',a,h1,h2,h3,h4,h5.head,s,rfl,h6.2 0 s a rfl rfl⟩
  ·cases hx
theorem qEh {base:Nat}:∀ {ts:List TypeId} {xs:List (Bool × List Sh)} {vs:List Value} {ds:List (DataW D)} {ps:List MemPlace} {μ:Mu} {H:AHeap},qDl P ts=some xs->(∀ (j:Nat) t v,ts[j]? = some t->vs[j]? = some v->Value.okWide P w .any base t v) ->
  DataW.TrodAll enc P w 0 (fun _=>true) true ts vs ds ps->Sim F μ H w->Calm H -> ∃ μ' H' as,Sim F μ' H' w/\Mu.ext H.next μ μ'/\Grew H H'/\RL μ' as vs/\qCA H' xs as
 | [],xs,vs,ds,ps,μ,H,hx,hok,h,hs,hc=>by
  simp [qDl] at hx
  subst hx
  obtain⟨rfl,rfl,rfl⟩:=trodAll_nil h
  exact⟨μ,H,[],hs,Mu.ext_refl _ _,Grew.refl _,RL.nil,trivial⟩
 | t :: ts,xs,vs,ds,ps,μ,H,hx,hok,h,hs,hc=>by
  simp only [qDl,List.mapM_cons,Option.bind_eq_bind,Option.bind_eq_some_iff,Option.pure_def,Option.some.injEq] at hx
  obtain⟨x,hx1,xs',hxs,rfl⟩:=hx
  obtain⟨v,vs',d,ds',p,q,rfl,rfl,rfl,h1,h2⟩:=trodAll_cons h
  obtain⟨μ1,H1,a,a1,a2,a3,a4,a5,a6⟩:=qJe (F:=F) hx1 (hok 0 t v rfl rfl) h1 hs hc
  obtain⟨μ2,H2,as,b1,b3,b4,b5,b6⟩:=qEh (xs:=xs') hxs (fun j t v x y=>hok (j+1) t v (by simpa using x) (by simpa using y)) h2 a1 a2
  exact⟨μ2,H2,a :: as,b1,Mu.ext_trans a3 b3 a4.next,a4.trans b4,RL.cons (a1.lift b3 a5) b5,a6.grew b4,b6⟩
theorem qBN:∀ {ts:List TypeId} {vs:List Value} {ds:List (DataW D)} {ps:List MemPlace},DataW.TrodAll enc P w 0 (fun _=>true) true ts vs ds ps->ds.length=ts.length/\vs.length=ts.length
 | [],vs,ds,ps,h=>by obtain⟨rfl,rfl,rfl⟩:=trodAll_nil h;simp
 | t :: ts,vs,ds,ps,h=>by
  obtain⟨v,vs',d,ds',p,q,rfl,rfl,rfl,h1,h2⟩:=trodAll_cons h
  have:=qBN h2
  simp [this.1,this.2]
theorem cE {W W' : World} (hl:laidOutB P=true) (hb:Below W.heap.size W W') {sp:Nat->Bool}:∀ {ts:List TypeId} {vs:List Value} {ds:List (DataW D)} {ps:List MemPlace},(∀ t ∈ ts,P.readableRec t=true/\t < P.types.size) ->
  DataW.TrodAll enc P W 0 (fun _=>true) true ts vs ds ps->(∀ p ∈ ps,p.block < W.heap.size/\sp p.block=true)->DataW.TrodAll enc P W' 0 sp true ts vs ds ps
 | [],vs,ds,ps,hr,h,hp=>by obtain⟨rfl,rfl,rfl⟩:=trodAll_nil h;rfl
 | t :: ts,vs,ds,ps,hr,h,hp=>by
  obtain⟨v,vs',d,ds',p,q,rfl,rfl,rfl,h1,h2⟩:=trodAll_cons h
  refine⟨p,q,?_,cE hl hb (fun t ht=>hr t (by simp [ht])) h2 (fun x hx=>hp x (by simp [hx])),rfl⟩
  exact WideElems.Trod_stays hl (hr t (by simp)).1 (hr t (by simp)).2 h1 (fun x hx=>hb.same (hp x (by simp [hx])).1) (fun x hx=>(hp x (by simp [hx])).2)
theorem qHM {fn:Func} {s:ChangeSpec} {apart fresh handsOn again:Bool} {W W' : World} {args:Array Value} {ds gs:List (DataW D)} {before:List MemPlace} {tb:TypeId}
  (hW:DataW.Whole enc P fn.params.toList s.vars apart W args.toList ds gs before) (hvars:s.vars=[])
  (hl:laidOutB P=true) (hr:∀ t ∈ fn.params.toList,P.readableRec t=true/\t < P.types.size)
  (hspec:∀ ds:List (DataW D),ds.length=fn.params.size->(s.fn D ds).results=[.lit (.bool true)]/\(s.fn D ds).args=ds/\(s.fn D ds).vars=[])
  (hrt:fn.resultTypes = #[tb]) (htb:P.underlying tb=some .bool) (hb:Below W.heap.size W W') :
  s.post enc P fn apart fresh handsOn again W args (.bool true) W':=by
 have hW0:=hW
 have hlt:=hW.lt
 obtain⟨p,q,hA,hV,rfl,hz,hn⟩:=hW
 rw [hvars] at hV
 obtain⟨rfl,rfl⟩:=trodVars_none hV
 have hds:ds.length=fn.params.size:=by simpa using (qBN hA).1
 obtain⟨e1,e2,e3⟩:=hspec ds hds
 have hres:∀ (b:Nat) (sp:Nat->Bool) (hd:Bool),DataW.TrodAll enc P W' b sp hd fn.resultTypes.toList ((Value.bool true).resultList fn.resultTypes.size) (s.fn D (ds ++ [])).results []:=by
  intro b sp hd
  rw [List.append_nil,e1,hrt]
  exact trodAll_mk1 (shut_bool htb true)
 have hargs:∀ sp:Nat->Bool,(∀ x ∈ p,sp x.block=true)->DataW.TrodAll enc P W' 0 sp true fn.params.toList args.toList (s.fn D (ds ++ [])).args p:=by
  intro sp hsp
  rw [List.append_nil,e2]
  exact cE hl hb hr hA (fun x hx=>⟨hlt x (by simpa using hx),hsp x hx⟩)
 refine⟨ds,[],p ++ [],[],p,[],hW0,hres _ _ _,hargs _ (fun x hx=>by simpa using hlt x (by simpa using hx)),by rw [hvars,List.append_nil,e3];rfl,World.keptBut_mono (fun x hx=>hx) (hb.frame _),fun _=>?_⟩
 refine⟨?_,_,[],([] ++ p) ++ [],⟨[] ++ p,[],trodAll_append (hargs _ (fun _ _=>rfl)) (hres _ _ _),by rw [hvars];rfl,rfl,?_,?_⟩,?_⟩
 ·intro j t r hj hv
  rw [hrt] at hj hv
  have:j=0:=by
   rcases Nat.eq_zero_or_pos j with h | h
   ·exact h
   ·rw [Array.getElem?_eq_none (by simp;omega)] at hj;cases hj
  subst this
  simp at hj
  subst hj
  have:r=.bool true:=by simpa [Value.resultList] using hv.symm
  subst this
  exact okWide_bool_mk htb true
 ·intro b off hp
  have hp' : MemPlace.cell b off ∈ p:=by simpa using hp
  rw [hb.frozen (p:=⟨b,off,none⟩) (show b < W.heap.size from hlt (.cell b off) (by simpa using hp'))]
  exact hz b off (by simpa using hp')
 ·intro ha
  simpa using hn ha
 ·intro x hx _
  simpa using hx
theorem qCi {f:FuncId} {af:AFun} (hf:xU P f=some af) (vs:Array Value):(callFunc f vs).run P w=.ok (.enter f vs) w:=by
 unfold xU at hf
 simp only [Option.bind_eq_bind,Option.bind_eq_some_iff] at hf
 obtain⟨fn,hfn,c,hb,rs,hrs,hf⟩:=hf
 split at hf
 ·cases hf
 ·rename_i hname
  unfold callFunc
  rw [bind_ok (show program.run P w=.ok P w from rfl),hfn]
  simp only []
  rw [if_neg (by simpa using hname),if_neg (by rw [hb];simp)]
  rfl
theorem qDW {f:FuncId} {fn:Func} {af:AFun} {s:ChangeSpec} {apart fresh handsOn again:Bool} {W:World} {base:Nat} {args:Array Value} {ds gs:List (DataW D)} {before:List MemPlace} {tb:TypeId} {xs:List (Bool × List Sh)}
  (hf:xU P f=some af) (hW:DataW.Whole enc P fn.params.toList s.vars apart W args.toList ds gs before) (hvars:s.vars=[])
  (hval:∀ (j:Nat) t v,fn.params[j]? = some t->args[j]? = some v->Value.okWide P W .any base t v)
  (hl:laidOutB P=true) (hr:(fn.params.toList.all fun t=>P.readableRec t && decide (t < P.types.size))=true)
  (hspec:∀ ds:List (DataW D),ds.length=fn.params.size->(s.fn D ds).results=[.lit (.bool true)]/\(s.fn D ds).args=ds/\(s.fn D ds).vars=[])
  (hrt:fn.resultTypes = #[tb]) (htb:P.underlying tb=some .bool) (hx:qDl P fn.params.toList=some xs)
  (h:∀ H as,qCA H xs as->qK P f as H fun r _=>r=.bool true) :
  Calls P f args W fun e W'=>∃ v,e=.returned v/\s.post enc P fn apart fresh handsOn again W args v W':=by
 have hW0:=hW
 obtain⟨p,q,hA,hV,rfl,hz,hn⟩:=hW
 have hs0:Sim (fun b=>W.heap.size<=b) (fun _=>none) ⟨0,fun _=>none,fun _ _=>rfl⟩ W:=
  ⟨fun _ _ h=>by simp at h,fun _ _ _ _ h=>by simp at h,fun _ _ _ h=>by simp at h,fun _ _ _ _ _ _ _ h=>by simp at h,fun _ _ _ h=>by simp at h,fun b hb=>hb⟩
 have hc0:Calm ⟨0,fun _=>none,fun _ _=>rfl⟩:=fun _ _ h=>by simp at h
 obtain⟨μ,H,as,h1,h2,h3,h4,h5⟩:=qEh (base:=base) hx (fun j t v x y=>hval j t v (by simpa using x) (by simpa using y)) hA hs0 hc0
 have hcall:=h H as h5 _ μ W args.toList h1 h4
 rw [Array.toArray_toList,qCi hf] at hcall
 simp only [vX] at hcall
 refine Calls.mono hcall ?_
 rintro e W' ⟨v,rfl,μ',r,H',rfl,_,_,_,hR,hk⟩
 obtain rfl:=bK hR
 refine⟨_,rfl,qHM hW0 hvars hl (fun t ht=>by simpa using List.all_eq_true.1 hr t ht) hspec hrt htb ⟨hk.os,hk.tape,hk.output,hk.size,fun b hb=>hk.block b hb om⟩⟩
end
end Go.Ab
end
/- Ends of bodies: what a caller is told of the heap. -/
section
namespace Go.Ab
theorem AHeap.ext' {A B:AHeap} (h:A.next=B.next) (g:∀ l,A.get l=B.get l):A=B:=by
 obtain⟨n,f,p⟩:=A
 obtain⟨m,k,q⟩:=B
 obtain rfl:n=m:=h
 obtain rfl:f=k:=funext g
 rfl
def AHeap.adds (H:AHeap) (bs:List HB):AHeap where
 next:=H.next+bs.length
 get:=fun l=>if l < H.next then H.get l else bs[l - H.next]?
 wf:=fun l h=>by rw [if_neg om,List.getElem?_eq_none om]
theorem AHeap.adds_nil (H:AHeap):H.adds []=H:=AHeap.ext' rfl fun l=>by
  show (if l < H.next then H.get l else ([]:List HB)[l - H.next]?)=_
  split
  · rfl
  · rename_i h;rw [H.wf l om];rfl
def HB.plain (b:HB):Prop:=b.On fun _=>False
theorem qIM {H Hc:AHeap} {r:AV} {Q:VK} (τ:List Nat) (bs:List HB) (hg:Grew H Hc) (hlen:τ.length=bs.length) (hnd:τ.Nodup) (hτ:∀ (i t:Nat) (b:HB),τ[i]? = some t->bs[i]? = some b->H.next<=t/\Hc.get t=some b) (hpl:∀ b ∈ bs,b.plain)
  (σ:Nat->Nat) (hσ:∀ l,l < H.next->σ l=l) (hσ' : ∀ (i t:Nat),τ[i]? = some t->σ t=H.next+i) (hr:r.On fun l=>l < H.next \/ l ∈ τ) (hQ:Q (r.ren σ) (H.adds bs)):Fin H Hc r Q:=by
 refine⟨r.ren σ,H.adds bs,hQ,Nat.le_add_right _ _,fun F μ w v hs hR hold=>?_⟩
 let μ' : Mu:=fun l=>if l < H.next then μ l else (τ[l - H.next]?).bind μ
 have low:∀ l,l < H.next->μ' l=μ l:=fun l h=>if_pos h
 have high:∀ l,¬ l < H.next->μ' l=(τ[l - H.next]?).bind μ:=fun l h=>if_neg h
 have getl:∀ l,l < H.next->(H.adds bs).get l=H.get l:=fun l h=>if_pos h
 have geth:∀ l,¬ l < H.next->(H.adds bs).get l=bs[l - H.next]?:=fun l h=>if_neg h
 have lift:∀ {a:AV} {v:Value},a.On (· < H.next)->R μ a v->R μ' a v:=fun ha h=>h.agree (fun l li hl hm=>by rw [low l hl];exact hm) ha
 have lift0:∀ {a:AV} {v:Value},a.On (fun _=>False)->R μ a v->R μ' a v:=fun ha h=>h.agree (fun l li hl hm=>hl.elim) ha
 -- every location of the new heap is one of the old
 have back:∀ l b li,(H.adds bs).get l=some b->μ' l=some li -> ∃ l0,Hc.get l0=some b/\μ l0=some li/\(l < H.next/\l0=l \/ ¬ l < H.next/\τ[l - H.next]? = some l0/\b.plain):=by
  intro l b li hb hm
  by_cases hl:l < H.next
  ·rw [getl l hl] at hb
   rw [low l hl] at hm
   exact⟨l,by rw [hg.get l hl];exact hb,hm,.inl ⟨hl,rfl⟩⟩
  ·rw [geth l hl] at hb
   rw [high l hl,Option.bind_eq_some_iff] at hm
   obtain⟨t,ht,hm⟩:=hm
   exact⟨t,(hτ _ t b ht hb).2,hm,.inr ⟨hl,ht,hpl b (List.mem_of_getElem? hb)⟩⟩
 have inj:∀ l l' l0,(l < H.next/\l0=l \/ ¬ l < H.next/\τ[l - H.next]? = some l0)->(l' < H.next/\l0=l' \/ ¬ l' < H.next/\τ[l' - H.next]? = some l0)->l=l':=by
  have big:∀ i t,τ[i]? = some t->H.next<=t:=fun i t h=>by
   have hi:i < bs.length:=by
    rw [<- hlen]
    rcases Nat.lt_or_ge i τ.length with h' | h'
    ·exact h'
    ·rw [List.getElem?_eq_none h'] at h;cases h
   exact(hτ i t bs[i] h (List.getElem?_eq_getElem hi)).1
  rintro l l' l0 (⟨h1,rfl⟩ | ⟨h1,h2⟩) (⟨h3,rfl⟩ | ⟨h3,h4⟩)
  ·rfl
  ·have:=big _ _ h4;omega
  ·have:=big _ _ h2;omega
  ·have hi:l - H.next < τ.length:=by
    rcases Nat.lt_or_ge (l - H.next) τ.length with h' | h'
    ·exact h'
    ·rw [List.getElem?_eq_none h'] at h2;cases h2
   have:=(List.getElem?_inj hi hnd).1 (h2.trans h4.symm)
   omega
 refine⟨μ',fun l hl=>low l hl,⟨?_,?_,?_,?_,?_,hs.fresh⟩,?_⟩
 ·intro l li hm
  by_cases hl:l < H.next
  ·rw [low l hl] at hm
   exact⟨Nat.lt_of_lt_of_le hl (Nat.le_add_right _ _),(hs.dom l li hm).2⟩
  ·rw [high l hl,Option.bind_eq_some_iff] at hm
   obtain⟨t,ht,hm⟩:=hm
   refine⟨?_,(hs.dom t li hm).2⟩
   have:l - H.next < τ.length:=by
    rcases Nat.lt_or_ge (l - H.next) τ.length with h' | h'
    ·exact h'
    ·rw [List.getElem?_eq_none h'] at ht;cases ht
   show l < H.next+bs.length
   omega
 ·intro l li cs wr hb hm
  obtain⟨l0,h1,h2,h3⟩:=back l _ li hb hm
  obtain⟨c,e,lo,hi,g1,g2,g3,g4,g5⟩:=hs.row l0 li cs wr h1 h2
  refine⟨c,e,lo,hi,g1,g2,g3,fun i a ha=>?_,g5⟩
  obtain⟨u,hu,hR'⟩:=g4 i a ha
  refine⟨u,hu,?_⟩
  rcases h3 with ⟨hl,rfl⟩ | ⟨hl,ht,hp⟩
  ·rw [hg.get l0 hl] at h1
   exact lift (hold l0 _ li h1 h2 a (List.mem_of_getElem? ha)) hR'
  ·exact lift0 (hp a (List.mem_of_getElem? ha)) hR'
 ·intro l li es hb hm
  obtain⟨l0,h1,h2,h3⟩:=back l _ li hb hm
  obtain⟨ms,ck,g1,g2,g3⟩:=hs.mp l0 li es h1 h2
  refine⟨ms,ck,g1,g2,fun i e m he hm'=>?_⟩
  obtain⟨k1,k2⟩:=g3 i e m he hm'
  rcases h3 with ⟨hl,rfl⟩ | ⟨hl,ht,hp⟩
  ·rw [hg.get l0 hl] at h1
   have:=hold l0 _ li h1 h2 e (List.mem_of_getElem? he)
   exact⟨lift this.1 k1,lift this.2 k2⟩
  ·have:=hp e (List.mem_of_getElem? he)
   exact⟨lift0 this.1 k1,lift0 this.2 k2⟩
 ·intro l l' b b' li li' hne hb hw hb' hm hm'
  obtain⟨l0,h1,h2,h3⟩:=back l _ li hb hm
  obtain⟨l1,h4,h5,h6⟩:=back l' _ li' hb' hm'
  refine hs.sep l0 l1 b b' li li' (fun h=>hne ?_) h1 hw h4 h2 h5
  subst h
  exact inj l l' l0 (h3.imp id fun x=>⟨x.1,x.2.1⟩) (h6.imp id fun x=>⟨x.1,x.2.1⟩)
 ·intro l b li hb hw hm
  obtain⟨l0,h1,h2,h3⟩:=back l _ li hb hm
  exact hs.may l0 b li h1 hw h2
 ·refine hR.ren (hr.mono ?_)
  rintro l (hl | hl)
  ·show μ' (σ l)=μ l
   rw [hσ l hl,low l hl]
  ·obtain⟨i,hi,he⟩:=List.getElem_of_mem hl
   show μ' (σ l)=μ l
   rw [hσ' i l (by rw [List.getElem?_eq_getElem hi,he]),high _ om,show H.next+i - H.next=i by omega,List.getElem?_eq_getElem hi,he]
   rfl
mutual
theorem AV.ren_id:∀ a:AV,a.ren (fun l=>l)=a
 | .any=>rfl
 | .undef=>rfl
 | .bool _=>rfl
 | .int _ _=>rfl
 | .flt _ _=>rfl
 | .nanbits=>rfl
 | .str _=>rfl
 | .ptr _ _=>rfl
 | .nilptr=>rfl
 | .slice _ _ _ _ _=>rfl
 | .nilslice=>rfl
 | .map _=>rfl
 | .func f as bs=>by simp only [AV.ren];rw [qBD as,qBD bs]
 | .nilfunc=>rfl
 | .iface t a=>by simp only [AV.ren];rw [AV.ren_id a]
 | .niliface=>rfl
 | .glob _=>rfl
 | .agg cs=>by simp only [AV.ren];rw [qBD cs]
 | .tuple cs=>by simp only [AV.ren];rw [qBD cs]
theorem qBD:∀ as:List AV,qIx (fun l=>l) as=as
 | []=>rfl
 | a :: as=>by simp only [qIx];rw [AV.ren_id a,qBD as]
end
theorem qGZ {H Hc:AHeap} {r:AV} {Q:VK} (hg:Grew H Hc) (hr:r.On (· < H.next)) (hQ:Q r H):Fin H Hc r Q:=
 qIM [] [] hg rfl List.nodup_nil (fun i t b h=>by simp at h) (fun b h=>by simp at h) (fun l=>l) (fun _ _=>rfl) (fun i t h=>by simp at h) (hr.mono fun l h=>.inl h) (by
  rw [AHeap.adds_nil,AV.ren_id];exact hQ)
end Go.Ab
end
/- Steps: what is left to show behind one operation, one piece of code. -/
section
namespace Go.Ab
def qIa (P:Program) (b:ACode) (Q:AExit -> Env -> AHeap -> Prop):AExit -> Env -> AHeap -> Prop:=fun e E H=>match e with
 | .normal=>zM P b Q E H
 | .exit id=>Q (.exit id) E H
 | .ret=>Q .ret E H
def gN (id:Nat) (Q:AExit -> Env -> AHeap -> Prop):AExit -> Env -> AHeap -> Prop:=fun e E H=>match e with
 | .normal=>Q .normal E H
 | .exit i=>if i=id then Q .normal E H else Q (.exit i) E H
 | .ret=>Q .ret E H
def tC (X:Env->AHeap->Prop) (Q:AExit -> Env -> AHeap -> Prop):AExit -> Env -> AHeap -> Prop:=fun e E H=>match e with
 | .normal=>X E H
 | .exit id=>Q (.exit id) E H
 | .ret=>Q .ret E H
def qIv (rs:List ARes) (H:AHeap) (Q:VK):AExit -> Env -> AHeap -> Prop:=fun e E Hc=>match e with
 | .exit _=>False
 | _=>∃ r,vN rs E Hc=some r/\Fin H Hc r Q
mutual
def AV.flat:AV->Bool
 | .any=>true
 | .undef=>true
 | .bool _=>true
 | .int _ _=>true
 | .flt _ _=>true
 | .nanbits=>true
 | .str _=>true
 | .ptr _ _=>false
 | .nilptr=>true
 | .slice _ _ _ _ _=>false
 | .nilslice=>true
 | .map _=>false
 | .func _ as bs=>flatL as && flatL bs
 | .nilfunc=>true
 | .iface _ a=>a.flat
 | .niliface=>true
 | .glob _=>true
 | .agg cs=>flatL cs
 | .tuple cs=>flatL cs
def flatL:List AV->Bool
 | []=>true
 | a :: as=>a.flat && flatL as
end
mutual
theorem pT {p:Nat->Prop}:∀ {a:AV},a.flat=true->a.On p
 | .any,_=>.any
 | .undef,_=>.undef
 | .bool _,_=>.bool _
 | .int _ _,_=>.int _ _
 | .flt _ _,_=>.flt _ _
 | .nanbits,_=>.nanbits
 | .str _,_=>.str _
 | .ptr _ _,h=>by cases h
 | .nilptr,_=>.nilptr
 | .slice _ _ _ _ _,h=>by cases h
 | .nilslice,_=>.nilslice
 | .map _,h=>by cases h
 | .func _ as bs,h=>by
  simp only [AV.flat,Bool.and_eq_true] at h
  exact .func (bD h.1) (bD h.2)
 | .nilfunc,_=>.nilfunc
 | .iface _ a,h=>by
  simp only [AV.flat] at h
  exact .iface (pT h)
 | .niliface,_=>.niliface
 | .glob _,_=>.glob
 | .agg cs,h=>by
  simp only [AV.flat] at h
  exact .agg (bD h)
 | .tuple cs,h=>by
  simp only [AV.flat] at h
  exact .tuple (bD h)
theorem bD {p:Nat->Prop}:∀ {as:List AV},flatL as=true -> ∀ a ∈ as,a.On p
 | [],_=>fun a h=>by cases h
 | b :: bs,h=>by
  simp only [flatL,Bool.and_eq_true] at h
  have h1:AV.On p b:=pT h.1
  have h2:∀ a ∈ bs,AV.On p a:=bD h.2
  intro a ha
  rcases List.mem_cons.1 ha with e | ha
  ·rw [e];exact h1
  ·exact h2 a ha
end
theorem uZ {H Hc:AHeap} {r:AV} {Q:VK} (hg:Grew H Hc) (hr:r.flat=true) (hQ:Q r H):Fin H Hc r Q:=qGZ hg (pT hr) hQ
theorem qGc {H:AHeap} {b:HB} {l:Nat} (h:l=H.next):(H.new b).get l=some b:=by rw [AHeap.new_get,if_pos h]
theorem pN {H:AHeap} {b:HB} {l l' : Nat} (h:l' ≠ l):(H.put l b).get l'=H.get l':=by rw [AHeap.put_get,if_neg (fun x=>h x.1)]
theorem cO {H:AHeap} {b:HB} {l l' : Nat} (h:l'=l) (h2:l < H.next):(H.put l b).get l'=some b:=by rw [AHeap.put_get,if_pos ⟨h,h2⟩]
theorem qGb {H:AHeap} {l l' : Nat} (h:l' ≠ l):(H.del l).get l'=H.get l':=by rw [AHeap.del_get,if_neg h]
theorem wrap_i64 {n:Int} (h1:-9223372036854775808<=n) (h2:n<=9223372036854775807):IntKind.i64.wrap n=n:=by
 rw [IntKind.wrap_i64];omega
section
variable {P:Program} {E:Env} {H:AHeap} {k:Env->AHeap->Prop} {Q:AExit -> Env -> AHeap -> Prop} {d:ON} {rest:List AOper}
theorem qKU {ops:List AOper} (h:vE P ops E H (Q .normal)):zM P (.run ops) Q E H:=h
theorem qFg {a b:ACode} (h:zM P a (qIa P b Q) E H):zM P (.seq a b) Q E H:=h
theorem qGH {c:Opd} {a b:ACode} {t:Bool} (hc:c.ev E=.bool t) (h₁:t=true->zM P a Q E H) (h₂:t=false->zM P b Q E H):zM P (.cond c a b) Q E H:=by
 simp only [zM,hc]
 cases t with
 | true=>exact h₁ rfl
 | false=>exact h₂ rfl
theorem qIC {c:Opd} {a b:ACode} (hc:c.ev E=.bool true) (h:zM P a Q E H):zM P (.cond c a b) Q E H:=qGH hc (fun _=>h) (fun h=>by cases h)
theorem qIB {c:Opd} {a b:ACode} (hc:c.ev E=.bool false) (h:zM P b Q E H):zM P (.cond c a b) Q E H:=qGH hc (fun h=>by cases h) (fun _=>h)
theorem qIA {id:Nat} {a:ACode} (h:zM P a (gN id Q) E H):zM P (.block id a) Q E H:=h
theorem qGJ {id:Nat} (h:Q .normal E H):gN id Q .normal E H:=h
theorem qGI {id:Nat} (h:Q .normal E H):gN id Q (.exit id) E H:=by show if id=id then _ else _;rw [if_pos rfl];exact h
theorem qFh {id i:Nat} (hi:i ≠ id) (h:Q (.exit i) E H):gN id Q (.exit i) E H:=by show if i=id then _ else _;rw [if_neg hi];exact h
theorem qKV {id:Nat} (h:Q .ret E H):gN id Q .ret E H:=h
theorem qCF {a:ACode} (h:zM P a (tC (zM P (.loop a) Q) Q) E H):zM P (.loop a) Q E H:=qFQ h
theorem qJP {a:ACode} (I:Nat->Env->AHeap->Prop) (n:Nat) (h:I n E H) (hr:∀ n E H,I n E H->zM P a (tC (fun E' H'=>∃ m,m < n/\I m E' H') Q) E H):zM P (.loop a) Q E H:=qGC I n h hr
def qGp (P:Program) (kids:AKids) (k:Env->AHeap->Prop):Env->AHeap->Prop:=fun E H=>(kids.isNil=true->k E H)/\qAB P kids E H k
def qMj (P:Program) (free:Bool) (H:AHeap) (t:ATree) (k:Env->AHeap->Prop):Env->AHeap->Prop:=fun E' H'=>(free=true \/ Grew H H')/\qDq P t E' H' k
theorem qKT {t:ATree} (h:qDq P t E H (Q .normal)):zM P (.mix t) Q E H:=h
theorem qGD {qs:List AOper} {kids:AKids} (h:vE P qs E H (qGp P kids k)):qDq P (.node qs kids) E H k:=by simp only [qDq];exact h
theorem qLl (h:k E H):qGp P .nil k E H:=⟨fun _=>h,by simp only [qAB]⟩
theorem qHD {free:Bool} {o:AOper} {t:ATree} (h:vE P [o] E H (qMj P free H t k)):qGp P (.cons free o t .nil) k E H:=⟨fun h=>(by cases h),by simp only [qAB];exact⟨h,trivial⟩⟩
theorem acalls {f:FuncId} {n:Nat} {rs:List ARes} {body:ACode} (hf:xU P f=some ⟨n,rs,body⟩) {args:List AV} {R:VK} (hargs:args.length<=n)
  (h:zM P body (qIv rs H R) (Env.start args) H):qK P f args H R:=qGz hf hargs h
theorem qJy (h:k E H):vE P [] E H k:=h
theorem qFf {n l off:Nat} {x y:Opd} {cs vs:List AV} (hx:x.ev E=.ptr l off) (hg:H.get l=some (.row cs true)) (hy:(y.ev E).cells=some vs) (hn:vs.length=n) (ho:off+n<=cs.length) (h1:vs.all AV.one=true) {ds:List AV} (hd:laid cs off vs=ds)
  (h:vE P rest (E.put d .undef) (H.put l (.row ds true)) k):vE P (⟨d,.store n x y,none⟩ :: rest) E H k:=by
 subst hd
 simp only [vE,mE,hx,hg,hy]
 rw [if_pos ⟨hn,ho,h1⟩];exact h
theorem qLU {sz bytes:Nat} {zs:List AV} {x y:Opd} {k1 k2:IntKind} {n c:Int} (hx:x.ev E=.int k1 n) (hy:y.ev E=.int k2 c) (h1:0<=n) (h2:n<=c) (h3:(bytes:Int) * c<=2^48) (h4:c<=9223372036854775807)
  {l:Nat} (hn:H.next=l) (h:vE P rest (E.put d (.slice l 0 n.toNat c.toNat sz)) (H.new (.row (List.replicate c.toNat zs).flatten true)) k):vE P (⟨d,.mkSlice sz bytes zs x y,none⟩ :: rest) E H k:=by
 subst hn
 simp only [vE,mE,hx,hy]
 rw [if_pos ⟨h1,h2,h3,h4⟩];exact h
theorem qKS {sz bytes:Nat} {zs:List AV} {x y:Opd} {k1 k2:IntKind} {n c:Nat} (hx:x.ev E=.int k1 (n:Nat)) (hy:y.ev E=.int k2 (c:Nat)) (h2:n<=c) (h3:bytes * c<=281474976710656) (h4:c<=9223372036854775807)
  {l:Nat} (hn:H.next=l) (h:vE P rest (E.put d (.slice l 0 n c sz)) (H.new (.row (List.replicate c zs).flatten true)) k):vE P (⟨d,.mkSlice sz bytes zs x y,none⟩ :: rest) E H k:=by
 refine qLU hx hy om om ?_ om hn ?_
 ·have:((bytes * c:Nat):Int)<=((281474976710656:Nat):Int):=Int.ofNat_le.2 h3
  rw [Int.natCast_mul] at this
  exact this
 ·simpa using h
theorem qGF {f:FuncId} {args:List Opd} {R:VK} (hc:qK P f (args.map (·.ev E)) H R) (h:∀ r H',R r H'->vE P rest (E.put d r) H' k):vE P (⟨d,.call f args,none⟩ :: rest) E H k:=by
 simp only [vE,mE]
 exact hc.mono h
-- under a guard
theorem qLT {t:Nat} {want:Bool} {op:AOp} {r:AV} (hg:E t=.bool want) (hq:op.quiet=true) (hv:zS E H.get op=some r) (h:vE P rest (E.put d r) H k):vE P (⟨d,op,some (t,want)⟩ :: rest) E H k:=by
 simp only [vE]
 refine⟨by rw [hg];trivial,?_⟩
 unfold bZ
 cases op <;> first | (cases hq;done) | (simp only [];rw [hv,hg];simp only [AV.yb,if_true];exact h)
theorem qKQ {t:Nat} {want:Bool} {f:FuncId} {args:List Opd} {r:AV} (hg:E t=.bool want) (hc:zG P f (args.map (·.ev E)) H r) (h:vE P rest (E.put d r) H k):vE P (⟨d,.call f args,some (t,want)⟩ :: rest) E H k:=by
 simp only [vE]
 refine⟨by rw [hg];trivial,?_⟩
 unfold bZ
 simp only []
 exact⟨r,fun _=>hc,by rw [hg];simp only [AV.yb,if_true];exact h⟩
def tup:List AV->AV
 | [x]=>x
 | xs=>.tuple xs
theorem qJO {rs:List ARes} {xs:List AV} (h:qBR E H rs=some xs):vN rs E H=some (tup xs):=by
 unfold vN
 rw [h]
 cases xs with
 | nil=>rfl
 | cons x xs=>cases xs <;> rfl
end
end Go.Ab
end
/- Library functions that the model answers itself. -/
section
namespace Go.Ab
def yK:ON->AV
 | some b=>.int .u32 b
 | none=>.nanbits
section
variable {P:Program} {f:FuncId} {fn:Func} {H:AHeap}
theorem qCC {e : Array Value -> Sem Value} {args : List AV} {r : AV} (hf : P.funcs[f]? = some fn) (hname : (fn.name == "runtime.NumGoroutine") = false) (hb : fn.body.isNone = true) (hn : Extern.findNext fn = none) (he : Extern.find fn = some e)
  (h:∀ (μ:Mu) (w:World) (vs:List Value),RL μ args vs -> ∃ v w',(e vs.toArray).run P w=.ok v w'/\qKL w w'/\R μ r v):zG P f args H r:=by
 intro F μ w vs hs ha
 obtain⟨v,w',h1,h2,h3⟩:=h μ w vs ha
 rw [run_callFunc_extern hf hname hb hn he,h1]
 exact Out.drew ⟨rfl,rfl⟩ hs h3 h2
theorem qKp {μ:Mu} {a:AV} {vs:List Value} (h:RL μ [a] vs):∃ v,vs=[v]/\R μ a v:=by
 obtain⟨v,us,rfl,h1,h2⟩:=h.cons_inv
 rw [h2.nil_inv]
 exact⟨v,rfl,h1⟩
variable (hf : P.funcs[f]? = some fn) (hname : (fn.name == "runtime.NumGoroutine") = false) (hb : fn.body.isNone = true) (hn : Extern.findNext fn = none)
include hf hname hb hn
theorem qJx (he:Extern.find fn=some Extern.MathFloatBits.float32bits) (x:ON):zG P f [.flt .f32 x] H (yK x):=by
 refine qCC hf hname hb hn he fun μ w vs h=>?_
 obtain⟨v,rfl,hR⟩:=qKp h
 obtain⟨b,rfl,hx,hlt⟩:=yB hR
 refine⟨_,w,rfl,.inl rfl,?_⟩
 cases x with
 | none=>exact .nanbits hx hlt
 | some c=>obtain⟨rfl,_⟩:=vA hx;exact .int _ _
end
end Go.Ab
end
/- Floats: what compares with itself; bits that are well formed. -/
section
namespace Go.Ab
def fOk (k:FloatKind) (x:ON):Prop:=∀ b,x=some b->b < 2^k.format.width/\(k.decode b).isNaN=false
theorem qCt {d:Ieee.Datum} (h:d.isNaN=false):d.order d=some .eq:=by
 cases d with
 | nan s t=>cases h
 | infinity s=>cases s <;> rfl
 | number s m e=>simp [Ieee.Datum.order]
theorem qHd {k:FloatKind} {x:ON} (h:fOk k x):(dT k x x == some .eq)=x.isSome:=by
 cases x with
 | none=>rfl
 | some b =>
  have:=qCt (h b rfl).2
  show (k.format.order b b == some .eq)=true
  unfold Ieee.Format.order
  have e:(k.format.read b).order (k.format.read b)=some .eq:=this
  rw [e];rfl
theorem qGW {x:ON} {b:Nat} (h:fOk .f32 x) (hx:x=some b):nrm .f32 b=some b/\b < 4294967296:=by
 obtain⟨h1,h2⟩:=h b hx
 unfold nrm
 rw [h2]
 exact⟨rfl,h1⟩
theorem qDw {x y:ON} (hx:fOk .f32 x) (hy:fOk .f32 y) (h:¬ (x=none/\y=none)):vJ .eql (yK x) (yK y)=some (.bool (decide (x=y))):=by
 cases x with
 | none =>
  cases y with
  | none=>exact absurd ⟨rfl,rfl⟩ h
  | some b =>
   obtain⟨h1,h2⟩:=qGW hy rfl
   simp only [yK,vJ]
   rw [if_pos ⟨by rw [Int.toNat_natCast,h1];simp,by omega,by omega⟩]
   simp
 | some a =>
  cases y with
  | none =>
   obtain⟨h1,h2⟩:=qGW hx rfl
   simp only [yK,vJ]
   rw [if_pos ⟨by rw [Int.toNat_natCast,h1];simp,by omega,by omega⟩]
   simp
  | some b =>
   simp only [yK,vJ,if_true]
   congr 2
   simp
   exact Int.ofNat_inj
end Go.Ab
end
/- Slices that hold lists. -/
section
namespace Go.Ab
inductive HoldsL {α:Type} (H:AHeap) (sz:Nat) (f:α->List AV) (xs:List α):AV->Prop where
  | nil (h:xs=[]):HoldsL H sz f xs .nilslice
  | sl {l n cap:Nat} {wr:Bool} (hg:H.get l=some (.row (xs.flatMap f) wr)) (hn:xs.length=n) (hc:n<=cap):HoldsL H sz f xs (.slice l 0 n cap sz)
theorem HoldsL.grew {α:Type} {H H' : AHeap} (g:Grew H H') {sz:Nat} {f:α->List AV} {xs:List α} {a:AV} (h:HoldsL H sz f xs a):HoldsL H' sz f xs a:=by
 cases h with
 | nil h=>exact .nil h
 | sl hg hn hc=>exact .sl (g.at hg) hn hc
end Go.Ab
end
namespace Go.Ab
abbrev PK := AExit -> Env -> AHeap -> Prop
end Go.Ab
