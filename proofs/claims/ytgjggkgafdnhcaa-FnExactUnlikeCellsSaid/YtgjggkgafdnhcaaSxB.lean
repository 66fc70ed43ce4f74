/- Symbolic execution: quiet operations, all of them, and facts about values that stay opaque. -/
import Derived.Test.YtgjggkgafdnhcaaSxA
set_option linter.unusedVariables false
set_option linter.unusedSimpArgs false
section
namespace Go.Ab
inductive RK where
  | len (x:SV)
  | lenStr (x:SV)
  | ia (sz:Nat) (x i:SV)
  | ld (ag:Bool) (n:Nat) (x:SV)
  | ixStr (x i:SV)
  | slSl (sz:Nat) (x:SV) (lo hi:Option SV)
  | slStr (x:SV) (lo hi:Option SV)
  | nilS (x:SV)
  | call (f:FuncId) (xs:List SV)
def qCs:Option SV->Option SV->Bool
 | none,none=>true
 | some a,some b=>a.beq b
 | _,_=>false
theorem kS {a b:Option SV} (h:qCs a b=true):a=b:=by
  cases a <;> cases b <;> simp only [qCs,Bool.false_eq_true] at h
  · rfl
  · rw [SV.eq_of_beq h]
def RK.beq:RK->RK->Bool
 | .len x,.len x'=>x.beq x'
 | .lenStr x,.lenStr x'=>x.beq x'
 | .ia z x i,.ia z' x' i'=>z == z' && (x.beq x' && i.beq i')
 | .ld g n x,.ld g' n' x'=>g == g' && (n == n' && x.beq x')
 | .ixStr x i,.ixStr x' i'=>x.beq x' && i.beq i'
 | .slSl z x a b,.slSl z' x' a' b'=>z == z' && (x.beq x' && (qCs a a' && qCs b b'))
 | .slStr x a b,.slStr x' a' b'=>x.beq x' && (qCs a a' && qCs b b')
 | .nilS x,.nilS x'=>x.beq x'
 | .call f xs,.call f' xs'=>f == f' && SV.beqL xs xs'
 | _,_=>false
theorem RK.eq_of_beq {a b:RK} (h:a.beq b=true):a=b:=by
  cases a <;> cases b <;> simp only [RK.beq,Bool.and_eq_true,beq_iff_eq,Bool.false_eq_true] at h
  · rw [SV.eq_of_beq h]
  · rw [SV.eq_of_beq h]
  · rw [h.1,SV.eq_of_beq h.2.1,SV.eq_of_beq h.2.2]
  · rw [h.1,h.2.1,SV.eq_of_beq h.2.2]
  · rw [SV.eq_of_beq h.1,SV.eq_of_beq h.2]
  · rw [h.1,SV.eq_of_beq h.2.1,kS h.2.2.1,kS h.2.2.2]
  · rw [SV.eq_of_beq h.1,kS h.2.1,kS h.2.2]
  · rw [SV.eq_of_beq h]
  · rw [h.1,SV.eq_of_beqL h.2]
def cN (k:RK):List (RK × SV)->Option SV
 | []=>none
 | (k',v) :: rest=>match k.beq k' with
  | true=>some v
  | false=>cN k rest
theorem qBj {k:RK} {v:SV}:∀ {l:List (RK × SV)},cN k l=some v->(k,v) ∈ l
 | [],h=>by cases h
 | (k',w) :: rest,h=>by
  unfold cN at h
  split at h
  ·rename_i hb;cases h;rw [RK.eq_of_beq hb];simp
  ·exact List.mem_cons_of_mem _ (qBj h)
def Kept (fl:Nat) (ls:LN) (H H' : AHeap):Prop:=H.next<=H'.next /\ ∀ l,l < H.next->(∀ j b,fl<=j->ls[j]? ≠ some (l,b))->H'.get l=H.get l
theorem Kept.refl (fl:Nat) (ls:LN) (H:AHeap):Kept fl ls H H:=⟨Nat.le_refl _,fun _ _ _=>rfl⟩
theorem Kept.grew {fl:Nat} {ls:LN} {H H' : AHeap} (h:Kept fl ls H H') (hf:ls.length<=fl):Grew H H':=
 ⟨h.1,fun l hl=>h.2 l hl fun j b hj e=>by rw [List.getElem?_eq_none om] at e;cases e⟩
theorem Kept.of_grew {fl:Nat} {ls:LN} {H H' : AHeap} (h:Grew H H'):Kept fl ls H H':=⟨h.next,fun l hl _=>h.get l hl⟩
def DO (vs:List AV) (ls:LN):Option SV->Option AV->Prop
 | none,b=>b=none
 | some x,b=>∃ a,b=some a/\D vs ls x a
structure Cx where
  P:Program
  ρ:Nat->AV
  φ:Nat->List AV->AV
  vs:List AV
  ls:LN
  H:AHeap
  fl:Nat
  ru:List (RK × SV)
def mJ (c:Cx):RK->SV->Prop
 | .len x,v=>∃ a r,D c.vs c.ls x a/\D c.vs c.ls v r /\ ∀ E get,zS E get (.len (.const a))=some r
 | .lenStr x,v=>∃ a r,D c.vs c.ls x a/\D c.vs c.ls v r /\ ∀ E get,zS E get (.lenStr (.const a))=some r
 | .ia z x i,v=>∃ a b r,D c.vs c.ls x a/\D c.vs c.ls i b/\D c.vs c.ls v r /\ ∀ E get,zS E get (.iaSl z (.const a) (.const b))=some r
 | .ld g n x,v=>∃ a r,D c.vs c.ls x a/\D c.vs c.ls v r /\ ∀ E H,Kept c.fl c.ls c.H H->zS E H.get (.load g n (.const a))=some r
 | .ixStr x i,v=>∃ a b r,D c.vs c.ls x a/\D c.vs c.ls i b/\D c.vs c.ls v r /\ ∀ E get,zS E get (.ixStr (.const a) (.const b))=some r
 | .slSl z x lo hi,v=>∃ a b d r,D c.vs c.ls x a/\DO c.vs c.ls lo b/\DO c.vs c.ls hi d/\D c.vs c.ls v r /\ ∀ E get,zS E get (.slSl z (.const a) (b.map Opd.const) (d.map Opd.const) none)=some r
 | .slStr x lo hi,v=>∃ a b d r,D c.vs c.ls x a/\DO c.vs c.ls lo b/\DO c.vs c.ls hi d/\D c.vs c.ls v r /\ ∀ E get,zS E get (.slStr (.const a) (b.map Opd.const) (d.map Opd.const))=some r
 | .nilS x,v=>∃ a r,D c.vs c.ls x a/\D c.vs c.ls v r /\ ∀ E get,zS E get (.eqNilS false (.const a) (.const .nilslice))=some r
 | .call f xs,v=>∃ as r,DL c.vs c.ls xs as/\D c.vs c.ls v r /\ ∀ H,Kept c.fl c.ls c.H H->zG c.P f as H r
structure In (c:Cx) (s:St) (vs:List AV) (ls:LN) (H:AHeap):Prop where
  ok:Okk c.ρ c.φ s vs ls H
  lev:LeL c.vs vs
  lel:LeL c.ls ls
  kept:Kept c.fl c.ls c.H H
  new:∀ j l b,c.ls.length<=j->ls[j]? = some (l,b)->c.H.next<=l
  rules:∀ k v,(k,v) ∈ c.ru->mJ c k v
def qLQ:AV->Option SV
 | .agg cs=>if cs.all dA then some (.agg (cs.map .lit)) else none
 | .func f [] []=>some (.fn f [] [])
 | a=>if dA a then some (.lit a) else none
def sev (env:List (Nat × SV)):Opd->Option SV
 | .tmp t=>jS t env
 | .const a=>qLQ a
theorem cG {vs:List AV} {ls:LN}:∀ {cs:List AV},cs.all dA=true->DL vs ls (cs.map .lit) cs
 | [],_=>by simp only [List.map_nil,DL]
 | a :: cs,h=>by
  simp only [List.all_cons,Bool.and_eq_true] at h
  simp only [List.map_cons,DL]
  exact⟨a,cs,rfl,by unfold D;exact⟨rfl,h.1⟩,cG h.2⟩
theorem qJN {vs:List AV} {ls:LN} {a:AV} {v:SV} (h:qLQ a=some v):D vs ls v a:=by
  have lit:(if dA a then some (SV.lit a) else none)=some v->D vs ls v a:=by
    intro h
    split at h
    · rename_i ho;cases h;unfold D;exact⟨rfl,ho⟩
    · cases h
  unfold qLQ at h
  split at h
  · split at h
    · rename_i ho;cases h;simp only [D];exact⟨_,rfl,cG ho⟩
    · cases h
  · cases h;simp only [D,DL];exact⟨[],[],rfl,rfl,rfl⟩
  · exact lit h
theorem qU {env:List (Nat × SV)} {vs:List AV} {ls:LN} {E:Env} (he:zB env vs ls E) {x:Opd} {v:SV} (h:sev env x=some v):D vs ls v (x.ev E):=by
 cases x with
 | tmp t=>exact he t v h
 | const a=>exact qJN h
def qJn (env:List (Nat × SV)):List Opd->Option (List SV)
 | []=>some []
 | x :: xs=>match sev env x,qJn env xs with
  | some v,some vs=>some (v :: vs)
  | _,_=>none
theorem uI {env:List (Nat × SV)} {vs:List AV} {ls:LN} {E:Env} (he:zB env vs ls E):∀ {xs:List Opd} {ws:List SV},qJn env xs=some ws->DL vs ls ws (xs.map (·.ev E))
 | [],ws,h=>by cases h;simp only [List.map_nil,DL]
 | x :: xs,ws,h=>by
  unfold qJn at h
  split at h
  ·rename_i v us h1 h2
   cases h
   simp only [List.map_cons,DL]
   exact⟨_,_,rfl,qU he h1,uI he h2⟩
  ·cases h
def qIy (env:List (Nat × SV)):Option Opd->Option (Option SV)
 | none=>some none
 | some x=>(sev env x).map some
theorem yE {env:List (Nat × SV)} {vs:List AV} {ls:LN} {E:Env} (he:zB env vs ls E) {x:Option Opd} {w:Option SV} (h:qIy env x=some w):DO vs ls w (x.map (·.ev E)):=by
 cases x with
 | none=>cases h;rfl
 | some x =>
  simp only [qIy,Option.map_eq_some_iff] at h
  obtain⟨v,hv,rfl⟩:=h
  exact⟨_,rfl,qU he hv⟩
theorem DL.len {vs:List AV} {ls:LN}:∀ {x:List SV} {a:List AV},DL vs ls x a->x.length=a.length
 | [],_,h=>by simp only [DL] at h;subst h;rfl
 | c :: cs,_,h=>by simp only [DL] at h;obtain⟨b,bs,rfl,_,h⟩:=h;simp [DL.len h]
theorem DL.get {vs:List AV} {ls:LN}:∀ {x:List SV} {a:List AV} {i:Nat} {v:SV},DL vs ls x a->x[i]? = some v -> ∃ r,a[i]? = some r/\D vs ls v r
 | [],_,_,_,_,e=>by simp at e
 | c :: cs,_,0,v,h,e=>by simp only [DL] at h;obtain⟨b,bs,rfl,h1,_⟩:=h;simp at e;subst e;exact⟨b,rfl,h1⟩
 | c :: cs,_,i+1,v,h,e=>by
  simp only [DL] at h;obtain⟨b,bs,rfl,_,h2⟩:=h
  simpa using DL.get h2 (by simpa using e)
theorem DL.drop {vs:List AV} {ls:LN}:∀ {x:List SV} {a:List AV} (n:Nat),DL vs ls x a->DL vs ls (x.drop n) (a.drop n)
 | x,a,0,h=>by simpa using h
 | [],_,n+1,h=>by simp only [DL] at h;subst h;simp [DL]
 | c :: cs,_,n+1,h=>by
  simp only [DL] at h;obtain⟨b,bs,rfl,_,h2⟩:=h
  simpa using DL.drop n h2
theorem DL.take {vs:List AV} {ls:LN}:∀ {x:List SV} {a:List AV} (n:Nat),DL vs ls x a->DL vs ls (x.take n) (a.take n)
 | x,a,0,h=>by simp [DL]
 | [],_,n+1,h=>by simp only [DL] at h;subst h;simp [DL]
 | c :: cs,_,n+1,h=>by
  simp only [DL] at h;obtain⟨b,bs,rfl,h1,h2⟩:=h
  simp only [List.take_succ_cons,DL]
  exact⟨b,_,rfl,h1,DL.take n h2⟩
theorem DL.append {vs:List AV} {ls:LN}:∀ {x y:List SV} {a b:List AV},DL vs ls x a->DL vs ls y b->DL vs ls (x ++ y) (a ++ b)
 | [],y,_,b,h,k=>by simp only [DL] at h;subst h;simpa using k
 | c :: cs,y,_,b,h,k=>by
  simp only [DL] at h;obtain⟨d,ds,rfl,h1,h2⟩:=h
  simp only [List.cons_append,DL]
  exact⟨d,_,rfl,h1,DL.append h2 k⟩
def qGt (ag:Bool) (n off:Nat) (cs:List SV):Option SV:=
 match ag with
 | true=>if off+n<=cs.length then some (.agg ((cs.drop off).take n)) else none
 | false=>cs[off]?
theorem qAV {vs:List AV} {ls:LN} {ag:Bool} {n off:Nat} {cs:List SV} {ds:List AV} {v:SV} (hd:DL vs ls cs ds) (h:qGt ag n off cs=some v):∃ r,part ag n off ds=some r/\D vs ls v r:=by
 unfold qGt at h
 unfold part
 split at h
 ·split at h
  ·rename_i hl
   cases h
   rw [if_pos rfl,if_pos (by rw [<- hd.len];exact hl)]
   exact⟨_,rfl,by simp only [D];exact⟨_,rfl,(hd.drop off).take n⟩⟩
  ·cases h
 ·rw [if_neg (by simp)];exact hd.get h
theorem qFz {ag:Bool} {n off:Nat} {pre ds post:List AV} {r:AV} (h:part ag n off ds=some r):part ag n (pre.length+off) (pre ++ (ds ++ post))=some r:=by
 unfold part at h ⊢
 cases ag with
 | true =>
  simp only [if_true] at h ⊢
  split at h
  ·rename_i hl
   rw [if_pos (by simp;omega)]
   rw [<- h]
   congr 2
   rw [<- List.drop_drop,List.drop_left,List.drop_append_of_le_length om,List.take_append_of_le_length (by simp;omega)]
  ·cases h
 | false =>
  simp only [Bool.false_eq_true,if_false] at h ⊢
  have hl:off < ds.length:=by
   rcases Nat.lt_or_ge off ds.length with h' | h'
   ·exact h'
   ·rw [List.getElem?_eq_none h'] at h;cases h
  rw [List.getElem?_append_right om,Nat.add_sub_cancel_left,List.getElem?_append_left hl]
  exact h
def qKJ:SV->Bool
 | .lit a=>a.one
 | .nd _ kd=>!decide (kd=.any)
 | .agg _=>false
 | .tup _=>false
 | _=>true
theorem qHH {vs:List AV} {ls:LN} {x:SV} {a:AV} (h:D vs ls x a) (ho:qKJ x=true):a.one=true:=by
  cases x <;> simp only [qKJ,Bool.false_eq_true] at ho <;> simp only [D] at h
  · rw [h.1];exact ho
  · rename_i kd
    obtain⟨_,h⟩:=h
    cases kd <;> simp only [yH] at h
    · obtain⟨n,rfl⟩:=h;rfl
    · obtain⟨n,rfl,_⟩:=h;rfl
    · obtain⟨n,rfl,_⟩:=h;rfl
    · obtain⟨n,rfl⟩:=h;rfl
    · obtain⟨n,rfl⟩:=h;rfl
    · obtain⟨n,rfl,_⟩:=h;cases n <;> rfl
    · exact h
    · simp at ho
  · obtain⟨l,_,_,rfl⟩:=h;rfl
  · obtain⟨l,_,_,rfl⟩:=h;rfl
  · obtain⟨l,_,rfl,_⟩:=h;rfl
  · obtain⟨l,rfl,_⟩:=h;rfl
theorem qCh {vs:List AV} {ls:LN}:∀ {x:List SV} {a:List AV},DL vs ls x a->x.all qKJ=true->a.all AV.one=true
 | [],_,h,_=>by simp only [DL] at h;subst h;rfl
 | c :: cs,_,h,ho=>by
  simp only [DL] at h;obtain⟨b,bs,rfl,h1,h2⟩:=h
  simp only [List.all_cons,Bool.and_eq_true] at ho ⊢
  exact⟨qHH h1 ho.1,qCh h2 ho.2⟩
def qDz:SV->Option (List SV)
 | .agg cs=>some cs
 | x=>if qKJ x then some [x] else none
theorem qBf {vs:List AV} {ls:LN} {x:SV} {a:AV} {cs:List SV} (h:D vs ls x a) (hc:qDz x=some cs):∃ ds,a.cells=some ds/\DL vs ls cs ds:=by
 unfold qDz at hc
 split at hc
 ·cases hc;simp only [D] at h;obtain⟨bs,rfl,h⟩:=h;exact⟨bs,rfl,h⟩
 ·split at hc
  ·rename_i ho
   cases hc
   have:=qHH h ho
   refine⟨[a],?_,by simp only [DL];exact⟨a,[],rfl,h,rfl⟩⟩
   cases a <;> first | rfl | (cases this)
  ·cases hc
def qGX (env:List (Nat × SV)) (cs:List SV):List (Nat × Nat × Opd)->Option (List SV)
 | []=>some cs
 | (off,size,x) :: rest =>
  match sev env x with
  | some v=>match qDz v with
   | some vs=>if vs.length=size/\off+size<=cs.length then qGX env (cs.take off ++ vs ++ cs.drop (off+vs.length)) rest else none
   | none=>none
  | none=>none
theorem qCL {env:List (Nat × SV)} {vs:List AV} {ls:LN} {E:Env} (he:zB env vs ls E):∀ {parts:List (Nat × Nat × Opd)} {cs:List SV} {ds:List AV} {ws:List SV},DL vs ls cs ds->qGX env cs parts=some ws -> ∃ r,uY E ds parts=some r/\DL vs ls ws r
 | [],cs,ds,ws,h,e=>by cases e;exact⟨ds,rfl,h⟩
 | (off,size,x) :: rest,cs,ds,ws,h,e=>by
  unfold qGX at e
  split at e
  ·rename_i v hv
   split at e
   ·rename_i us hu
    split at e
    ·rename_i hl
     obtain⟨us',h1,h2⟩:=qBf (qU he hv) hu
     unfold uY
     rw [h1]
     simp only []
     rw [if_pos ⟨by rw [<- h2.len];exact hl.1,by rw [<- h.len];exact hl.2⟩]
     refine qCL he ?_ e
     unfold laid
     rw [<- h2.len]
     exact((h.take off).append h2).append (h.drop _)
    ·cases e
   ·cases e
  ·cases e
def qHz:Option SV->Option (Option AV)
 | none=>some none
 | some (.lit a)=>some (some a)
 | _=>none
theorem gG {vs:List AV} {ls:LN} {x:Option SV} {b:Option AV} {a:Option AV} (h:DO vs ls x a) (e:qHz x=some b):a=b:=by
  unfold qHz at e
  split at e
  · cases e;exact h
  · cases e;obtain⟨c,rfl,h⟩:=h;simp only [D] at h;rw [h.1]
  · cases e
def qBx:SV->ON
 | .lit (.int _ n)=>if 0<=n then some n.toNat else none
 | _=>none
theorem pF {vs:List AV} {ls:LN} {x:SV} {a:AV} {n:Nat} (h:D vs ls x a) (e:qBx x=some n):∃ k,a=.int k (n:Int):=by
 unfold qBx at e
 split at e
 ·rename_i k m
  split at e
  ·cases e
   simp only [D] at h
   exact⟨k,by rw [h.1];congr 1;omega⟩
  ·cases e
 ·cases e
def mI (s:St) (v:SV):Option (List (SV × St)):=some [(v,s)]
def sxq (ru:List (RK × SV)) (op:AOp) (s:St):Option (List (SV × St)):=
 match op with
 | .move x=>(sev s.env x).bind (mI s)
 | .pick c a b=>match sev s.env c,sev s.env a,sev s.env b with
  | some c,some a,some b=>match qBr c with
   | some .bool=>some ((splitB c s).map fun p=>(if p.1=true then a else b,p.2))
   | _=>none
  | _,_,_=>none
 | .load ag n a=>match sev s.env a with
  | some (.ptr j off)=>match jS j s.heap with
   | some (cs,_)=>(qGt ag n off cs).bind (mI s)
   | none=>none
  | some x=>(cN (.ld ag n x) ru).bind (mI s)
  | none=>none
 | .nilCheck x=>match sev s.env x with
  | some (.ptr j off)=>mI s (.ptr j off)
  | some (.fn f a b)=>mI s (.fn f a b)
  | some (.lit (.glob g))=>mI s (.lit (.glob g))
  | _=>none
 | .bin op x y=>match sev s.env x,sev s.env y with
  | some x,some y=>one (qLA op x y s)
  | _,_=>none
 | .eqAgg neg kind n x y=>match sev s.env x,sev s.env y with
  | some (.agg xs),some (.agg ys)=>if xs.length=n then qHY neg kind xs ys s else none
  | _,_=>none
 | .eqBool neg x y=>match sev s.env x,sev s.env y with
  | some x,some y=>seqB neg x y s
  | _,_=>none
 | .eqNilI neg x y=>match sev s.env x,sev s.env y with
  | some (.lit .niliface),some (.lit .niliface)=>mI s (yJ (!neg))
  | some (.ifc _ _),some (.lit .niliface)=>mI s (yJ neg)
  | _,_=>none
 | .eqNilS neg x y=>match sev s.env x,sev s.env y with
  | some (.lit .nilslice),some (.lit .nilslice)=>mI s (yJ (!neg))
  | some (.sl _ _ _ _ _),some (.lit .nilslice)=>mI s (yJ neg)
  | some x,some (.lit .nilslice)=>if neg=true then none else (cN (.nilS x) ru).bind (mI s)
  | _,_=>none
 | .un op x=>match sev s.env x with
  | some x=>one (sun op x s)
  | none=>none
 | .conv c x=>match sev s.env x with
  | some x=>one (qKy c x s)
  | none=>none
 | .fn f as bs=>match qJn s.env as,qJn s.env bs with
  | some x,some y=>mI s (.fn f x y)
  | _,_=>none
 | .build zs parts=>if zs.all dA then (qGX s.env (zs.map .lit) parts).bind fun cs=>mI s (.agg cs) else none
 | .slArr n sz x lo hi mx=>match sev s.env x with
  | some (.ptr j o)=>match jS j s.heap,(qIy s.env lo).bind qHz,(qIy s.env hi).bind qHz,(qIy s.env mx).bind qHz with
   | some (cs,_),some lo,some hi,some mx=>if o+n * sz<=cs.length then match qGK n n lo hi mx with
     | some (a,h,m)=>mI s (.sl j (o+a * sz) (h - a) (m - a) sz)
     | none=>none
    else none
   | _,_,_,_=>none
  | _=>none
 | .slSl sz x lo hi mx=>match sev s.env x,qIy s.env lo,qIy s.env hi,qIy s.env mx with
  | some (.sl j o len cap sz'),some lo,some hi,some mx=>match qHz lo,qHz hi,qHz mx with
   | some lo,some hi,some mx=>if sz=sz' then match qGK len cap lo hi mx with
     | some (a,h,m)=>mI s (.sl j (o+a * sz) (h - a) (m - a) sz)
     | none=>none
    else none
   | _,_,_=>none
  | some (.lit .nilslice),some lo,some hi,some mx=>match qHz lo,qHz hi,qHz mx with
   | some lo,some hi,some mx=>match qGK 0 0 lo hi mx with
    | some _=>mI s (.lit .nilslice)
    | none=>none
   | _,_,_=>none
  | some x,some lo,some hi,some none=>(cN (.slSl sz x lo hi) ru).bind (mI s)
  | _,_,_,_=>none
 | .slStr x lo hi=>match sev s.env x,qIy s.env lo,qIy s.env hi with
  | some x,some lo,some hi=>(cN (.slStr x lo hi) ru).bind (mI s)
  | _,_,_=>none
 | .faddr off x=>match sev s.env x with
  | some (.ptr j o)=>mI s (.ptr j (o+off))
  | _=>none
 | .field ag off n x=>match sev s.env x with
  | some (.agg cs)=>(qGt ag n off cs).bind (mI s)
  | _=>none
 | .iaArr len sz x i=>match sev s.env x,sev s.env i with
  | some (.ptr j o),some i=>match qBx i with
   | some n=>if n < len then mI s (.ptr j (o+n * sz)) else none
   | none=>none
  | _,_=>none
 | .iaSl sz x i=>match sev s.env x,sev s.env i with
  | some (.sl j o len _ sz'),some i=>match qBx i with
   | some n=>if sz=sz'/\n < len then mI s (.ptr j (o+n * sz)) else none
   | none=>none
  | some x,some i=>(cN (.ia sz x i) ru).bind (mI s)
  | _,_=>none
 | .ixArr len ag sz x i=>match sev s.env x,sev s.env i with
  | some (.agg cs),some i=>match qBx i with
   | some n=>if n < len then (qGt ag sz (n * sz) cs).bind (mI s) else none
   | none=>none
  | _,_=>none
 | .ixStr x i=>match sev s.env x,sev s.env i with
  | some x,some i=>(cN (.ixStr x i) ru).bind (mI s)
  | _,_=>none
 | .extract i x=>match sev s.env x with
  | some (.tup vs)=>vs[i]?.bind (mI s)
  | _=>none
 | .len x=>match sev s.env x with
  | some (.sl _ _ n _ _)=>mI s (.lit (.int .i64 n))
  | some (.lit .nilslice)=>mI s (.lit (.int .i64 0))
  | some x=>(cN (.len x) ru).bind (mI s)
  | none=>none
 | .lenStr x=>match sev s.env x with
  | some (.lit (.str l))=>mI s (.lit (.int .i64 l.length))
  | some x=>(cN (.lenStr x) ru).bind (mI s)
  | none=>none
 | .lenC n=>mI s (.lit (.int .i64 n))
 | .cap x=>match sev s.env x with
  | some (.sl _ _ _ c _)=>mI s (.lit (.int .i64 c))
  | some (.lit .nilslice)=>mI s (.lit (.int .i64 0))
  | _=>none
 | .min2 x y=>match sev s.env x,sev s.env y with
  | some x,some y=>one (smm false x y s)
  | _,_=>none
 | .max2 x y=>match sev s.env x,sev s.env y with
  | some x,some y=>one (smm true x y s)
  | _,_=>none
 | .iface t x=>match sev s.env x with
  | some x=>mI s (.ifc t x)
  | none=>none
 | _=>none
section
variable {c:Cx} {s:St} {vs:List AV} {ls:LN} {H:AHeap} {E:Env}
theorem qEa {E:Env} {b:Option AV}:(b.map Opd.const).map (·.ev E)=b:=by cases b <;> rfl
def qMf (c:Cx) (s:St) (vs:List AV) (ls:LN) (H:AHeap) (ps:List (SV × St)) (o:Option AV):Prop:=∃ r,o=some r/\qKE c.ρ c.φ s vs ls H ps r
theorem zH (h:In c s vs ls H) {v:SV} {r:AV} {ps:List (SV × St)} (he:mI s v=some ps) (hd:D vs ls v r):qKE c.ρ c.φ s vs ls H ps r:=by
 cases he;exact(Got.same h.ok hd).one
theorem qBA {p:Option (SV × St)} {ps:List (SV × St)} (he:one p=some ps) {o:Option AV} (h:∀ q,p=some q -> ∃ r,o=some r/\Got c.ρ c.φ s vs ls H q r):qMf c s vs ls H ps o:=by
 unfold one at he
 rw [Option.map_eq_some_iff] at he
 obtain⟨q,hq,rfl⟩:=he
 obtain⟨r,h1,h2⟩:=h q hq
 exact⟨r,h1,h2.one⟩
theorem bX (h:In c s vs ls H) {k:RK} {ps:List (SV × St)} (he:(cN k c.ru).bind (mI s)=some ps):∃ v,mJ c k v /\ ∀ r,D c.vs c.ls v r->qKE c.ρ c.φ s vs ls H ps r:=by
 rw [Option.bind_eq_some_iff] at he
 obtain⟨v,hv,he⟩:=he
 exact⟨v,h.rules k v (qBj hv),fun r hd=>zH h he (hd.mono h.lev h.lel)⟩
theorem In.eq (h:In c s vs ls H) {x:SV} {a b:AV} (h1:D c.vs c.ls x a) (h2:D vs ls x b):b=a:=(h1.mono h.lev h.lel).det h2 |>.symm
theorem In.eqO (h:In c s vs ls H) {x:Option SV} {a b:Option AV} (h1:DO c.vs c.ls x a) (h2:DO vs ls x b):b=a:=by
 cases x with
 | none=>rw [show b=none from h2,show a=none from h1]
 | some x=>obtain⟨a',rfl,h1⟩:=h1;obtain⟨b',rfl,h2⟩:=h2;rw [h.eq h1 h2]
theorem In.eqL (h:In c s vs ls H) {x:List SV} {a b:List AV} (h1:DL c.vs c.ls x a) (h2:DL vs ls x b):b=a:=(h1.mono h.lev h.lel).det h2 |>.symm
theorem qIm (h:In c s vs ls H) (hE:zB s.env vs ls E) {op:AOp} {ps:List (SV × St)} (he:sxq c.ru op s=some ps):qMf c s vs ls H ps (zS E H.get op):=by
 cases op <;> simp only [sxq,reduceCtorEq] at he
 case move x =>
  rw [Option.bind_eq_some_iff] at he
  obtain⟨v,hv,he⟩:=he
  exact⟨_,rfl,zH h he (qU hE hv)⟩
 case pick cc a b =>
  split at he
  ·rename_i c' a' b' h1 h2 h3
   split at he
   ·rename_i hk
    cases he
    have d1:=qU hE h1
    obtain⟨t,ht⟩:=(jA d1 hk).1
    rw [ht] at d1
    obtain⟨s2,m2,o2,e2⟩:=gC h.ok d1
    refine⟨if t=true then a.ev E else b.ev E,by simp only [zS,ht],(if t=true then a' else b',s2),List.mem_map.2 ⟨(t,s2),m2,rfl⟩,vs,LeL.refl _,o2,?_,e2⟩
    cases t
    ·exact qU hE h3
    ·exact qU hE h2
   ·cases he
  ·cases he
 case load ag n a =>
  split at he
  ·rename_i j off h1
   have d1:=qU hE h1
   simp only [D] at d1
   obtain⟨l,bs0,hl,ha⟩:=d1
   split at he
   ·rename_i cs wr hf
    obtain⟨l',b',pre,ds,post,wr',k1,k2,k3,k4,_⟩:=h.ok.heap _ _ _ hf
    rw [hl] at k1
    cases k1
    rw [Option.bind_eq_some_iff] at he
    obtain⟨v,hv,he⟩:=he
    obtain⟨r,hr,hd⟩:=qAV k4 hv
    have hw:=qFz (pre:=pre) (post:=post) hr
    rw [k3] at hw
    exact⟨r,by simp only [zS,ha,k2,hw],zH h he hd⟩
   ·cases he
  ·rename_i x _ h1
   obtain⟨v,⟨a',r,q1,q2,q3⟩,hg⟩:=bX h he
   have e:=h.eq q1 (qU hE h1)
   refine⟨r,?_,hg r q2⟩
   have:=q3 E H h.kept
   simp only [zS] at this ⊢
   rw [e];exact this
  ·cases he
 case nilCheck x =>
  split at he
  ·rename_i j off h1
   have d1:=qU hE h1
   have d2:=d1
   simp only [D] at d1
   obtain⟨l,bs0,hl,ha⟩:=d1
   exact⟨_,by simp only [zS,ha];rfl,zH h he (by rw [<- ha];exact d2)⟩
  ·rename_i f a b h1
   have d1:=qU hE h1
   have d2:=d1
   simp only [D] at d1
   obtain⟨xs,ys,ha,_⟩:=d1
   exact⟨_,by simp only [zS,ha];rfl,zH h he (by rw [<- ha];exact d2)⟩
  ·rename_i g h1
   have d1:=qU hE h1
   have d2:=d1
   simp only [D] at d1
   exact⟨_,by simp only [zS,d1.1];rfl,zH h he (by unfold D;exact⟨rfl,rfl⟩)⟩
  ·cases he
 case bin op x y =>
  split at he
  ·rename_i x' y' h1 h2
   exact qBA he fun q hq=>by simp only [zS];exact qDj h.ok (qU hE h1) (qU hE h2) hq
  ·cases he
 case eqAgg neg kind n x y =>
  split at he
  ·rename_i xs ys h1 h2
   split at he
   ·rename_i hl
    have d1:=qU hE h1
    have d2:=qU hE h2
    simp only [D] at d1 d2
    obtain⟨as,ha,d1⟩:=d1
    obtain⟨bs,hb,d2⟩:=d2
    obtain⟨r,hr,hg⟩:=qFI h.ok d1 d2 he
    refine⟨_,?_,hg⟩
    simp only [zS,ha,hb]
    rw [if_pos (by rw [<- d1.len];exact hl),hr];rfl
   ·cases he
  ·cases he
 case eqBool neg x y =>
  split at he
  ·rename_i x' y' h1 h2
   obtain⟨c',d',e1,e2,hg⟩:=qJl h.ok (qU hE h1) (qU hE h2) he
   exact⟨_,by simp only [zS,e1,e2],hg⟩
  ·cases he
 case eqNilI neg x y =>
  split at he
  ·rename_i h1 h2
   have d1:=qU hE h1
   have d2:=qU hE h2
   simp only [D] at d1 d2
   exact⟨_,by simp only [zS,d1.1,d2.1];rfl,zH h he (by unfold yJ D;exact⟨by cases neg <;> rfl,rfl⟩)⟩
  ·rename_i t v h1 h2
   have d1:=qU hE h1
   have d2:=qU hE h2
   simp only [D] at d1 d2
   obtain⟨a,ha,_⟩:=d1
   exact⟨_,by simp only [zS,ha,d2.1];rfl,zH h he (by unfold yJ D;exact⟨by cases neg <;> rfl,rfl⟩)⟩
  ·cases he
 case eqNilS neg x y =>
  split at he
  ·rename_i h1 h2
   have d1:=qU hE h1
   have d2:=qU hE h2
   simp only [D] at d1 d2
   exact⟨_,by simp only [zS,d1.1,d2.1];rfl,zH h he (by unfold yJ D;exact⟨by cases neg <;> rfl,rfl⟩)⟩
  ·rename_i j o len cap sz h1 h2
   have d1:=qU hE h1
   have d2:=qU hE h2
   simp only [D] at d1 d2
   obtain⟨l,_,_,ha⟩:=d1
   exact⟨_,by simp only [zS,ha,d2.1];rfl,zH h he (by unfold yJ D;exact⟨by cases neg <;> rfl,rfl⟩)⟩
  ·rename_i x' _ _ h1 h2
   have d2:=qU hE h2
   simp only [D] at d2
   split at he
   ·cases he
   ·rename_i hneg
    obtain rfl:neg=false:=by cases neg;rfl;exact absurd rfl hneg
    obtain⟨v,⟨a',r,q1,q2,q3⟩,hg⟩:=bX h he
    have e:=h.eq q1 (qU hE h1)
    refine⟨r,?_,hg r q2⟩
    have:=q3 E H.get
    simp only [zS] at this ⊢
    rw [e,d2.1];exact this
  ·cases he
 case un op x =>
  split at he
  ·rename_i x' h1
   exact qBA he fun q hq=>by simp only [zS];exact qKB h.ok (qU hE h1) hq
  ·cases he
 case conv cv x =>
  split at he
  ·rename_i x' h1
   exact qBA he fun q hq=>by simp only [zS];exact qHW h.ok (qU hE h1) hq
  ·cases he
 case fn f as bs =>
  split at he
  ·rename_i x y h1 h2
   exact⟨_,by simp only [zS];rfl,zH h he (by simp only [D];exact⟨_,_,rfl,uI hE h1,uI hE h2⟩)⟩
  ·cases he
 case build zs parts =>
  split at he
  ·rename_i hz
   rw [Option.bind_eq_some_iff] at he
   obtain⟨cs,hcs,he⟩:=he
   obtain⟨r,hr,hd⟩:=qCL hE (cG hz) hcs
   exact⟨_,by simp only [zS,hr];rfl,zH h he (by simp only [D];exact⟨_,rfl,hd⟩)⟩
  ·cases he
 case slArr n sz x lo hi mx =>
  split at he
  ·rename_i j o h1
   have d1:=qU hE h1
   simp only [D] at d1
   obtain⟨l,bs0,hl,ha⟩:=d1
   split at he
   ·rename_i cs wr lo' hi' mx' hf e1 e2 e3
    obtain⟨l',b',pre,ds,post,wr',k1,k2,k3,k4,_⟩:=h.ok.heap _ _ _ hf
    rw [hl] at k1
    cases k1
    rw [Option.bind_eq_some_iff] at e1 e2 e3
    obtain⟨u1,e1,e1'⟩:=e1
    obtain⟨u2,e2,e2'⟩:=e2
    obtain⟨u3,e3,e3'⟩:=e3
    have g1:=gG (yE hE e1) e1'
    have g2:=gG (yE hE e2) e2'
    have g3:=gG (yE hE e3) e3'
    split at he
    ·rename_i hlen
     split at he
     ·rename_i a hh m hb
      refine⟨.slice l (bs0+o+a * sz) (hh - a) (m - a) sz,?_,zH h he (by simp only [D];exact⟨l,bs0,hl,by rw [Nat.add_assoc]⟩)⟩
      simp only [zS,ha,k2]
      rw [if_pos (by simp only [List.length_append,k3,<- k4.len];omega),g1,g2,g3,hb]
     ·cases he
    ·cases he
   ·cases he
  ·cases he
 case slSl sz x lo hi mx =>
  split at he
  ·rename_i j o len cap sz' lo' hi' mx' h1 e1 e2 e3
   have d1:=qU hE h1
   simp only [D] at d1
   obtain⟨l,bs0,hl,ha⟩:=d1
   split at he
   ·rename_i lo2 hi2 mx2 f1 f2 f3
    have g1:=gG (yE hE e1) f1
    have g2:=gG (yE hE e2) f2
    have g3:=gG (yE hE e3) f3
    split at he
    ·rename_i hsz
     split at he
     ·rename_i a hh m hb
      refine⟨.slice l (bs0+o+a * sz) (hh - a) (m - a) sz,?_,zH h he (by simp only [D];exact⟨l,bs0,hl,by rw [Nat.add_assoc]⟩)⟩
      simp only [zS,ha]
      rw [if_pos hsz,g1,g2,g3,hb]
     ·cases he
    ·cases he
   ·cases he
  ·rename_i lo' hi' mx' h1 e1 e2 e3
   have d1:=qU hE h1
   simp only [D] at d1
   split at he
   ·rename_i lo2 hi2 mx2 f1 f2 f3
    have g1:=gG (yE hE e1) f1
    have g2:=gG (yE hE e2) f2
    have g3:=gG (yE hE e3) f3
    split at he
    ·rename_i q hb
     refine⟨.nilslice,?_,zH h he (by unfold D;exact⟨rfl,rfl⟩)⟩
     simp only [zS,d1.1]
     rw [g1,g2,g3,hb]
    ·cases he
   ·cases he
  ·rename_i x' lo' hi' _ _ h1 e1 e2 e3
   obtain⟨v,⟨a',b',d',r,q1,q2,q3,q4,q5⟩,hg⟩:=bX h he
   have e:=h.eq q1 (qU hE h1)
   have e4:=h.eqO q2 (yE hE e1)
   have e5:=h.eqO q3 (yE hE e2)
   have e6:=yE hE e3
   refine⟨r,?_,hg r q4⟩
   have:=q5 E H.get
   simp only [zS,qEa,Option.map_none] at this ⊢
   rw [e,e4,e5,show mx.map (·.ev E)=none from e6]
   exact this
  ·cases he
 case slStr x lo hi =>
  split at he
  ·rename_i x' lo' hi' h1 e1 e2
   obtain⟨v,⟨a',b',d',r,q1,q2,q3,q4,q5⟩,hg⟩:=bX h he
   have e:=h.eq q1 (qU hE h1)
   have e4:=h.eqO q2 (yE hE e1)
   have e5:=h.eqO q3 (yE hE e2)
   refine⟨r,?_,hg r q4⟩
   have:=q5 E H.get
   simp only [zS,qEa] at this ⊢
   rw [e,e4,e5]
   exact this
  ·cases he
 case faddr off x =>
  split at he
  ·rename_i j o h1
   have d1:=qU hE h1
   simp only [D] at d1
   obtain⟨l,bs0,hl,ha⟩:=d1
   exact⟨.ptr l (bs0+o+off),by simp only [zS,ha],zH h he (by simp only [D];exact⟨l,bs0,hl,by rw [Nat.add_assoc]⟩)⟩
  ·cases he
 case field ag off n x =>
  split at he
  ·rename_i cs h1
   have d1:=qU hE h1
   simp only [D] at d1
   obtain⟨ds,ha,d1⟩:=d1
   rw [Option.bind_eq_some_iff] at he
   obtain⟨v,hv,he⟩:=he
   obtain⟨r,hr,hd⟩:=qAV d1 hv
   exact⟨r,by simp only [zS,ha,hr],zH h he hd⟩
  ·cases he
 case iaArr len sz x i =>
  split at he
  ·rename_i j o i' h1 h2
   have d1:=qU hE h1
   simp only [D] at d1
   obtain⟨l,bs0,hl,ha⟩:=d1
   split at he
   ·rename_i n hn
    obtain⟨k,hi⟩:=pF (qU hE h2) hn
    split at he
    ·rename_i hlt
     refine⟨.ptr l (bs0+o+n * sz),?_,zH h he (by simp only [D];exact⟨l,bs0,hl,by rw [Nat.add_assoc]⟩)⟩
     simp only [zS,ha,hi]
     rw [if_pos ⟨by omega,by omega⟩,Int.toNat_natCast]
    ·cases he
   ·cases he
  ·cases he
 case iaSl sz x i =>
  split at he
  ·rename_i j o len cap sz' i' h1 h2
   have d1:=qU hE h1
   simp only [D] at d1
   obtain⟨l,bs0,hl,ha⟩:=d1
   split at he
   ·rename_i n hn
    obtain⟨k,hi⟩:=pF (qU hE h2) hn
    split at he
    ·rename_i hlt
     refine⟨.ptr l (bs0+o+n * sz),?_,zH h he (by simp only [D];exact⟨l,bs0,hl,by rw [Nat.add_assoc]⟩)⟩
     simp only [zS,ha,hi]
     rw [if_pos ⟨hlt.1,by omega,by omega⟩,Int.toNat_natCast]
    ·cases he
   ·cases he
  ·rename_i x' i' _ h1 h2
   obtain⟨v,⟨a',b',r,q1,q2,q3,q4⟩,hg⟩:=bX h he
   have e:=h.eq q1 (qU hE h1)
   have e':=h.eq q2 (qU hE h2)
   refine⟨r,?_,hg r q3⟩
   have:=q4 E H.get
   simp only [zS] at this ⊢
   rw [e,e'];exact this
  ·cases he
 case ixArr len ag sz x i =>
  split at he
  ·rename_i cs i' h1 h2
   have d1:=qU hE h1
   simp only [D] at d1
   obtain⟨ds,ha,d1⟩:=d1
   split at he
   ·rename_i n hn
    obtain⟨k,hi⟩:=pF (qU hE h2) hn
    split at he
    ·rename_i hlt
     rw [Option.bind_eq_some_iff] at he
     obtain⟨v,hv,he⟩:=he
     obtain⟨r,hr,hd⟩:=qAV d1 hv
     refine⟨r,?_,zH h he hd⟩
     simp only [zS,ha,hi]
     rw [if_pos ⟨by omega,by omega⟩,Int.toNat_natCast,hr]
    ·cases he
   ·cases he
  ·cases he
 case ixStr x i =>
  split at he
  ·rename_i x' i' h1 h2
   obtain⟨v,⟨a',b',r,q1,q2,q3,q4⟩,hg⟩:=bX h he
   have e:=h.eq q1 (qU hE h1)
   have e':=h.eq q2 (qU hE h2)
   refine⟨r,?_,hg r q3⟩
   have:=q4 E H.get
   simp only [zS] at this ⊢
   rw [e,e'];exact this
  ·cases he
 case extract i x =>
  split at he
  ·rename_i ws h1
   have d1:=qU hE h1
   simp only [D] at d1
   obtain⟨ds,ha,d1⟩:=d1
   rw [Option.bind_eq_some_iff] at he
   obtain⟨v,hv,he⟩:=he
   obtain⟨r,hr,hd⟩:=d1.get hv
   exact⟨r,by simp only [zS,ha,hr],zH h he hd⟩
  ·cases he
 case len x =>
  split at he
  ·rename_i j o n cap sz h1
   have d1:=qU hE h1
   simp only [D] at d1
   obtain⟨l,bs0,hl,ha⟩:=d1
   exact⟨_,by simp only [zS,ha];rfl,zH h he (by unfold D;exact⟨rfl,rfl⟩)⟩
  ·rename_i h1
   have d1:=qU hE h1
   simp only [D] at d1
   exact⟨_,by simp only [zS,d1.1];rfl,zH h he (by unfold D;exact⟨rfl,rfl⟩)⟩
  ·rename_i x' _ _ h1
   obtain⟨v,⟨a',r,q1,q2,q3⟩,hg⟩:=bX h he
   have e:=h.eq q1 (qU hE h1)
   refine⟨r,?_,hg r q2⟩
   have:=q3 E H.get
   simp only [zS] at this ⊢
   rw [e];exact this
  ·cases he
 case lenStr x =>
  split at he
  ·rename_i l h1
   have d1:=qU hE h1
   simp only [D] at d1
   exact⟨_,by simp only [zS,d1.1];rfl,zH h he (by unfold D;exact⟨rfl,rfl⟩)⟩
  ·rename_i x' _ h1
   obtain⟨v,⟨a',r,q1,q2,q3⟩,hg⟩:=bX h he
   have e:=h.eq q1 (qU hE h1)
   refine⟨r,?_,hg r q2⟩
   have:=q3 E H.get
   simp only [zS] at this ⊢
   rw [e];exact this
  ·cases he
 case lenC n=>exact⟨_,by simp only [zS];rfl,zH h he (by unfold D;exact⟨rfl,rfl⟩)⟩
 case cap x =>
  split at he
  ·rename_i j o n cap sz h1
   have d1:=qU hE h1
   simp only [D] at d1
   obtain⟨l,bs0,hl,ha⟩:=d1
   exact⟨_,by simp only [zS,ha];rfl,zH h he (by unfold D;exact⟨rfl,rfl⟩)⟩
  ·rename_i h1
   have d1:=qU hE h1
   simp only [D] at d1
   exact⟨_,by simp only [zS,d1.1];rfl,zH h he (by unfold D;exact⟨rfl,rfl⟩)⟩
  ·cases he
 case min2 x y =>
  split at he
  ·rename_i x' y' h1 h2
   exact qBA he fun q hq=>by simp only [zS];have:=qIf h.ok (qU hE h1) (qU hE h2) hq;simpa only [mmA,Bool.false_eq_true,if_false] using this
  ·cases he
 case max2 x y =>
  split at he
  ·rename_i x' y' h1 h2
   exact qBA he fun q hq=>by simp only [zS];have:=qIf h.ok (qU hE h1) (qU hE h2) hq;simpa only [mmA,if_true] using this
  ·cases he
 case iface t x =>
  split at he
  ·rename_i x' h1
   exact⟨_,by simp only [zS];rfl,zH h he (by simp only [D];exact⟨_,rfl,qU hE h1⟩)⟩
  ·cases he
end
end Go.Ab
end
/- Symbolic execution: effects, calls, bodies. -/
section
namespace Go.Ab
structure Pm where
  fl:Nat
  ru:List (RK × SV)
  tb:List (Nat × AFun)
  ap:List (Nat × Nat × List Kd × Kd)
  un:Nat
def newRow (cs:List SV) (s:St):St:={ s with heap:=(s.nl,cs,true) :: s.heap,nl:=s.nl+1 }
def putRow (j:Nat) (cs:List SV) (s:St):St:={ s with heap:=(j,cs,true) :: s.heap,wm:=if j < s.wm then j else s.wm }
def kW (d:ON) (v:SV) (s:St):St:=match d with
 | some d=>{ s with env:=(d,v) :: s.env }
 | none=>s
structure Step (c:Cx) (s:St) (vs:List AV) (ls:LN) (H:AHeap) (s' : St) (vs' : List AV) (ls' : LN) (H' : AHeap):Prop where
  inn:In c s' vs' ls' H'
  lev:LeL vs vs'
  lel:LeL ls ls'
  wm:s'.wm<=s.wm
  kept:Kept s'.wm ls H H'
  new:∀ j l b,ls.length<=j->ls'[j]? = some (l,b)->H.next<=l
section
variable {c:Cx} {s:St} {vs:List AV} {ls:LN} {H:AHeap} {E:Env}
theorem Step.refl (h:In c s vs ls H):Step c s vs ls H s vs ls H:=
 ⟨h,LeL.refl _,LeL.refl _,Nat.le_refl _,Kept.refl _ _ _,fun j l b hj e=>by rw [List.getElem?_eq_none hj] at e;cases e⟩
theorem Kept.trans {f g:Nat} {ls ls' : LN} {H H' H'' : AHeap} (hgf:g<=f) (hl:LeL ls ls') (hn:∀ j l b,ls.length<=j->ls'[j]? = some (l,b)->H.next<=l) (h:Kept f ls H H') (k:Kept g ls' H' H''):Kept g ls H H'':=by
 refine⟨Nat.le_trans h.1 k.1,fun l hlt hw=>?_⟩
 rw [k.2 l (Nat.lt_of_lt_of_le hlt h.1) ?_,h.2 l hlt fun j b hj=>hw j b (Nat.le_trans hgf hj)]
 intro j b hj e
 by_cases hjl:j < ls.length
 ·have:=hl j _ (List.getElem?_eq_getElem hjl)
  rw [e] at this
  have e2:ls[j]? = some (l,b):=by rw [List.getElem?_eq_getElem hjl];exact this.symm
  exact hw j b hj e2
 ·have:=hn j l b om e
  omega
theorem Step.trans {s1 s2:St} {vs1 vs2:List AV} {ls1 ls2:LN} {H1 H2:AHeap} (h:Step c s vs ls H s1 vs1 ls1 H1) (k:Step c s1 vs1 ls1 H1 s2 vs2 ls2 H2):Step c s vs ls H s2 vs2 ls2 H2:=by
 refine⟨k.inn,h.lev.trans k.lev,h.lel.trans k.lel,Nat.le_trans k.wm h.wm,Kept.trans k.wm h.lel h.new h.kept k.kept,?_⟩
 intro j l b hj e
 by_cases hjl:j < ls1.length
 ·have:=k.lel j _ (List.getElem?_eq_getElem hjl)
  rw [e] at this
  have e2:ls1[j]? = some (l,b):=by rw [List.getElem?_eq_getElem hjl];exact this.symm
  exact h.new j l b hj e2
 ·exact Nat.le_trans h.kept.1 (k.new j l b om e)
theorem Okk.env (h:Okk c.ρ c.φ s vs ls H) (env:List (Nat × SV)) (w:Nat):Okk c.ρ c.φ { s with env:=env,wm:=w } vs ls H:=⟨h.nn,h.ns,h.facts,h.nl,h.sep,h.lt,h.heap⟩
theorem In.env (h:In c s vs ls H) (env:List (Nat × SV)) (w:Nat):In c { s with env:=env,wm:=w } vs ls H:=⟨h.ok.env env w,h.lev,h.lel,h.kept,h.new,h.rules⟩
theorem Got.step (h:In c s vs ls H) {p:SV × St} {a:AV} (g:Got c.ρ c.φ s vs ls H p a):∃ vs',Step c s vs ls H p.2 vs' ls H/\D vs' ls p.1 a/\p.2.env=s.env:=by
 obtain⟨vs',h1,h2,h3,h4⟩:=g
 refine⟨vs',⟨⟨h2,h.lev.trans h1,h.lel,h.kept,h.new,h.rules⟩,h1,LeL.refl _,by rw [h4.2.2.2];exact Nat.le_refl _,Kept.refl _ _ _,fun j l b hj e=>by rw [List.getElem?_eq_none hj] at e;cases e⟩,h3,h4.1⟩
theorem qAT (h:In c s vs ls H) {cs:List SV} {ds:List AV} (hd:DL vs ls cs ds):Step c s vs ls H (newRow cs s) vs (ls ++ [(H.next,0)]) (H.new (.row ds true))/\(ls ++ [(H.next,0)])[s.nl]? = some (H.next,0):=by
 have le:LeL ls (ls ++ [(H.next,0)]):=LeL.app _ _
 have at' : (ls ++ [(H.next,0)])[s.nl]? = some (H.next,0):=by rw [h.ok.nl];simp
 have nw:∀ j l b,ls.length<=j->(ls ++ [(H.next,0)])[j]? = some (l,b)->j=ls.length/\l=H.next:=by
  intro j l b hj e
  rw [List.getElem?_append_right hj] at e
  rcases Nat.eq_zero_or_pos (j - ls.length) with h0 | h0
  ·rw [h0] at e;simp at e;exact⟨by omega,e.1.symm⟩
  ·rw [List.getElem?_eq_none (by simp;omega)] at e;cases e
 have old:∀ j l b,j < ls.length->(ls ++ [(H.next,0)])[j]? = some (l,b)->ls[j]? = some (l,b):=by
  intro j l b hj e;rwa [List.getElem?_append_left hj] at e
 refine⟨⟨⟨⟨h.ok.nn,h.ok.ns,h.ok.facts,?_,?_,?_,?_⟩,h.lev,h.lel.trans le,?_,?_,h.rules⟩,LeL.refl _,le,Nat.le_refl _,Kept.of_grew ((Grew.refl H).new _),fun j l b hj e=>by rw [(nw j l b hj e).2];exact Nat.le_refl _⟩,at'⟩
 ·simp [newRow,h.ok.nl]
 ·intro i j l b b' cs' hf hi hj
  unfold newRow at hf
  simp only [] at hf
  rw [vT] at hf
  have lt_of:∀ i l b,ls[i]? = some (l,b)->l < H.next:=fun i l b e=>h.ok.lt l b (List.mem_of_getElem? e)
  by_cases hi' : i < ls.length
  ·rw [if_neg (by rw [h.ok.nl];omega)] at hf
   have hi2:=old i l b hi' hi
   by_cases hj' : j < ls.length
   ·exact h.ok.sep i j l b b' cs' hf hi2 (old j l b' hj' hj)
   ·have:=lt_of _ _ _ hi2
    have:=(nw j l b' om hj).2
    omega
  ·obtain⟨e1,e2⟩:=nw i l b om hi
   by_cases hj' : j < ls.length
   ·have:=lt_of _ _ _ (old j l b' hj' hj)
    omega
   ·obtain⟨e3,_⟩:=nw j l b' om hj
    omega
 ·intro l b hl
  rw [AHeap.new_next]
  rcases List.mem_append.1 hl with hl | hl
  ·have:=h.ok.lt l b hl;omega
  ·simp at hl;omega
 ·intro j cs' wr hf
  unfold newRow at hf
  simp only [] at hf
  rw [vT] at hf
  split at hf
  ·rename_i hj
   subst hj
   cases hf
   exact⟨H.next,0,[],ds,[],true,at',by rw [AHeap.new_get,if_pos rfl];simp,rfl,hd.mono (LeL.refl _) le,fun _=>⟨rfl,rfl,rfl⟩⟩
  ·obtain⟨l,b,pre,ds',post,wr',h1,h2,h3,h4,h5⟩:=h.ok.heap _ _ _ hf
   have hl:=H.lt_of_get h2
   exact⟨l,b,pre,ds',post,wr',le _ _ h1,by rw [AHeap.new_get,if_neg om];exact h2,h3,h4.mono (LeL.refl _) le,h5⟩
 ·refine⟨by rw [AHeap.new_next];have:=h.kept.1;omega,fun l hl hw=>?_⟩
  rw [AHeap.new_get,if_neg (by have:=h.kept.1;omega)]
  exact h.kept.2 l hl hw
 ·intro j l b hj e
  by_cases hjl:j < ls.length
  ·exact h.new j l b hj (old j l b hjl e)
  ·rw [(nw j l b om e).2]
   exact h.kept.1
theorem qJg (h:In c s vs ls H) {j l b:Nat} (hj:ls[j]? = some (l,b)) (hf:c.fl<=j) {cs0:List SV} (hh:jS j s.heap=some (cs0,true)) {ds0:List AV} (hg:H.get l=some (.row ds0 true)) (hb:b=0) {cs:List SV} {ds:List AV} (hd:DL vs ls cs ds):Step c s vs ls H (putRow j cs s) vs ls (H.put l (.row ds true)):=by
 have hl:=H.lt_of_get hg
 have uniq:∀ j' b',ls[j']? = some (l,b')->j'=j:=fun j' b' e=>(h.ok.sep j j' l b b' cs0 hh hj e).symm
 have wmj:(putRow j cs s).wm<=j:=by
  show (if j < s.wm then j else s.wm)<=j
  split <;> omega
 refine⟨⟨⟨h.ok.nn,h.ok.ns,h.ok.facts,h.ok.nl,?_,h.ok.lt,?_⟩,h.lev,h.lel,?_,h.new,h.rules⟩,LeL.refl _,LeL.refl _,?_,?_,fun j l b hj e=>by rw [List.getElem?_eq_none hj] at e;cases e⟩
 ·intro i i' l' b1 b2 cs' hf' h1 h2
  unfold putRow at hf'
  simp only [] at hf'
  rw [vT] at hf'
  split at hf'
  ·rename_i e
   subst e
   rw [hj] at h1
   cases h1
   exact(uniq i' b2 h2).symm
  ·exact h.ok.sep i i' l' b1 b2 cs' hf' h1 h2
 ·intro j' cs' wr hf'
  unfold putRow at hf'
  simp only [] at hf'
  rw [vT] at hf'
  split at hf'
  ·rename_i e
   subst e
   cases hf'
   exact⟨l,b,[],ds,[],true,hj,by rw [cO rfl hl];simp,hb.symm,hd,fun _=>⟨rfl,rfl,rfl⟩⟩
  ·rename_i e
   obtain⟨l',b',pre,ds',post,wr',h1,h2,h3,h4,h5⟩:=h.ok.heap _ _ _ hf'
   refine⟨l',b',pre,ds',post,wr',h1,?_,h3,h4,h5⟩
   rw [pN]
   ·exact h2
   ·intro e';subst e';exact e (uniq _ _ h1)
 ·refine⟨h.kept.1,fun l' hl' hw=>?_⟩
  by_cases e:l'=l
  ·subst e
   by_cases hjc:j < c.ls.length
   ·have:=h.lel j _ (List.getElem?_eq_getElem hjc)
    rw [hj] at this
    have e2:c.ls[j]? = some (l',b):=by rw [List.getElem?_eq_getElem hjc];exact this.symm
    exact absurd e2 (hw j b hf)
   ·have:=h.new j l' b om hj
    omega
  ·rw [pN e];exact h.kept.2 l' hl' hw
 ·show (if j < s.wm then j else s.wm)<=s.wm
  split <;> omega
 ·refine⟨Nat.le_refl _,fun l' hl' hw=>?_⟩
  rw [pN]
  rintro rfl
  exact hw j b wmj hj
end
abbrev mC:=FuncId->List SV->St->Option (List (SV × St × Bool))
def r3 (p:SV × St):SV × St:=p
def sx1 (call:mC) (pm:Pm) (op:AOp) (s:St):Option (List (SV × St)):=
 match op with
 | .alloc zs=>if zs.all dA then some [(.ptr s.nl 0,newRow (zs.map .lit) s)] else none
 | .box x=>match (sev s.env x).bind qDz with
  | some cs=>some [(.ptr s.nl 0,newRow cs s)]
  | none=>none
 | .bslice sz len zs parts=>if zs.all dA then match qGX s.env (zs.map .lit) parts with
   | some cs=>some [(.sl s.nl 0 len len sz,newRow cs s)]
   | none=>none
  else none
 | .store n a x=>match sev s.env a,(sev s.env x).bind qDz with
  | some (.ptr j off),some us=>match jS j s.heap with
   | some (cs,true)=>if pm.fl<=j/\us.length=n/\off+n<=cs.length/\us.all qKJ=true then
     some [(.lit .undef,putRow j (cs.take off ++ us ++ cs.drop (off+us.length)) s)]
    else none
   | _=>none
  | _,_=>none
 | .mkSlice sz bytes zs x y=>match (sev s.env x).bind qBx,(sev s.env y).bind qBx with
  | some n,some m=>if n<=m/\bytes * m<=2^48/\m<=1000/\zs.all dA=true then
    some [(.sl s.nl 0 n m sz,newRow ((List.replicate m zs).flatten.map .lit) s)]
   else none
  | _,_=>none
 | .call f args=>match qJn s.env args with
  | some as=>(call f as s).map fun ps=>ps.map fun p=>(p.1,p.2.1)
  | none=>none
 | .callV g args=>match sev s.env g,qJn s.env args with
  | some (.fn f first cap),some as=>(call f (first ++ as ++ cap) s).map fun ps=>ps.map fun p=>(p.1,p.2.1)
  | _,_=>none
 | op=>sxq pm.ru op s
def qFM (call:mC) (pm:Pm) (o:AOper) (s:St):Option (List St):=
 match o.guard with
 | none=>(sx1 call pm o.op s).map fun ps=>ps.map fun p=>kW o.dst p.1 p.2
 | some (t,want)=>match jS t s.env with
  | some (.lit .undef)=>some [kW o.dst (.lit .undef) s]
  | some v=>match qBr v with
   | some .bool=>qLC (fun (p:Bool × St) =>
     if p.1=want then
      match o.op with
      | .call f args=>match qJn p.2.env args with
       | some as=>match call f as p.2 with
        | some ps=>if ps.all (fun q=>q.2.2) then some (ps.map fun q=>kW o.dst q.1 q.2.1) else none
        | none=>none
       | none=>none
      | .callV g args=>match sev p.2.env g,qJn p.2.env args with
       | some (.fn f first cap),some as=>match call f (first ++ as ++ cap) p.2 with
        | some ps=>if ps.all (fun q=>q.2.2) then some (ps.map fun q=>kW o.dst q.1 q.2.1) else none
        | none=>none
       | _,_=>none
      | op=>if op.quiet then (sxq pm.ru op p.2).map fun ps=>ps.map fun q=>kW o.dst q.1 q.2 else none
     else some [kW o.dst (.lit .undef) p.2]) (splitB v s)
   | _=>none
  | none=>none
def qIl (call:mC) (pm:Pm):List AOper->St->List (List AOper × St)
 | [],s=>[([],s)]
 | o :: rest,s=>match qFM call pm o s with
  | some ss=>(ss.map fun s1=>qIl call pm rest s1).flatten
  | none=>[(o :: rest,s)]
inductive Fr where
  | seq (b:ACode)
  | block (id:Nat)
  | loop (a:ACode)
inductive Pt where
  | ex (e:AExit)
  | ops (rest:List AOper) (fr:List Fr)
  | mixq (rest:List AOper) (kids:AKids) (fr:List Fr)
  | kids (ks:AKids) (fr:List Fr)
  | code (a:ACode) (fr:List Fr)
def Pt.push (f:Fr):Pt->Pt
 | .ex e=>.ex e
 | .ops r fr=>.ops r (fr ++ [f])
 | .mixq r k fr=>.mixq r k (fr ++ [f])
 | .kids k fr=>.kids k (fr ++ [f])
 | .code a fr=>.code a (fr ++ [f])
def zI (P:Program):List Fr->(PK)->PK
 | [],Q=>Q
 | .seq b :: fr,Q=>qIa P b (zI P fr Q)
 | .block id :: fr,Q=>gN id (zI P fr Q)
 | .loop a :: fr,Q=>tC (zM P (.loop a) (zI P fr Q)) (zI P fr Q)
def Res (P:Program) (o:Pt) (Q:PK) (E:Env) (H:AHeap):Prop:=match o with
 | .ex e=>Q e E H
 | .ops rest fr=>vE P rest E H (zI P fr Q .normal)
 | .mixq rest ks fr=>vE P rest E H (qGp P ks (zI P fr Q .normal))
 | .kids ks fr=>qGp P ks (zI P fr Q .normal) E H
 | .code a fr=>zM P a (zI P fr Q) E H
mutual
def qIk (call:mC) (pm:Pm):ATree->St->List (Pt × St)
 | .node qs ks,s=>((qIl call pm qs s).map fun p=>match p.1 with
  | []=>qEr call pm ks p.2
  | r=>[(.mixq r ks [],p.2)]).flatten
def qEr (call:mC) (pm:Pm):AKids->St->List (Pt × St)
 | .nil,s=>[(.ex .normal,s)]
 | .cons free o t rest,s=>match rest.isNil with
  | true=>match qFM call pm o { s with wm:=s.nl } with
   | some ss=>if ss.all (fun s1=>free || Nat.ble s.nl s1.wm) then (ss.map fun s1=>qIk call pm t { s1 with wm:=Nat.min s.wm s1.wm }).flatten else [(.kids (.cons free o t rest) [],s)]
   | none=>[(.kids (.cons free o t rest) [],s)]
  | false=>[(.kids (.cons free o t rest) [],s)]
end
def qBK (a:ACode) (body:St->List (Pt × St)):Nat->St->List (Pt × St)
 | 0,s=>[(.code (.loop a) [],s)]
 | n+1,s=>((body s).map fun p=>match p.1 with
  | .ex .normal=>qBK a body n p.2
  | .ex e=>[(.ex e,p.2)]
  | o=>[(o.push (.loop a),p.2)]).flatten
def vC (call:mC) (pm:Pm):ACode->St->List (Pt × St)
 | .skip,s=>[(.ex .normal,s)]
 | .run ops,s=>(qIl call pm ops s).map fun p=>(match p.1 with
  | []=>.ex .normal
  | r=>.ops r [],p.2)
 | .mix t,s=>qIk call pm t s
 | .seq a b,s=>((vC call pm a s).map fun p=>match p.1 with
  | .ex .normal=>vC call pm b p.2
  | .ex e=>[(.ex e,p.2)]
  | o=>[(o.push (.seq b),p.2)]).flatten
 | .cond c a b,s=>match sev s.env c with
  | some v=>match qBr v with
   | some .bool=>((splitB v s).map fun p=>if p.1=true then vC call pm a p.2 else vC call pm b p.2).flatten
   | _=>[(.code (.cond c a b) [],s)]
  | none=>[(.code (.cond c a b) [],s)]
 | .block id a,s=>(vC call pm a s).map fun p=>(match p.1 with
  | .ex (.exit i)=>if i=id then .ex .normal else .ex (.exit i)
  | .ex e=>.ex e
  | o=>o.push (.block id),p.2)
 | .loop a,s=>qBK a (fun s=>vC call pm a s) pm.un s
 | .exit id,s=>[(.ex (.exit id),s)]
 | .ret,s=>[(.ex .ret,s)]
def qAz (call:mC) (pm:Pm):List Fr->AExit->St->List (Pt × St)
 | [],e,s=>[(.ex e,s)]
 | .seq b :: fr,e,s=>match e with
  | .normal=>((vC call pm b s).map fun p=>match p.1 with
   | .ex e=>qAz call pm fr e p.2
   | o=>[(fr.foldl (fun o f=>o.push f) o,p.2)]).flatten
  | e=>qAz call pm fr e s
 | .block id :: fr,e,s=>match e with
  | .exit i=>qAz call pm fr (if i=id then .normal else .exit i) s
  | e=>qAz call pm fr e s
 | .loop a :: fr,e,s=>match e with
  | .normal=>((qBK a (fun s=>vC call pm a s) pm.un s).map fun p=>match p.1 with
   | .ex e=>qAz call pm fr e p.2
   | o=>[(fr.foldl (fun o f=>o.push f) o,p.2)]).flatten
  | e=>qAz call pm fr e s
def qJL (call:mC) (pm:Pm) (o:Pt) (s:St):List (Pt × St):=
 let go:=fun (outs:List (Pt × St)) (fr:List Fr)=>(outs.map fun p=>match p.1 with
   | .ex e=>qAz call pm fr e p.2
   | o=>[(fr.foldl (fun o f=>o.push f) o,p.2)]).flatten
 match o with
 | .ex e=>[(.ex e,s)]
 | .ops r fr=>go (vC call pm (.run r) s) fr
 | .mixq r ks fr=>go (qIk call pm (.node r ks) s) fr
 | .kids ks fr=>go (qEr call pm ks s) fr
 | .code a fr=>go (vC call pm a s) fr
def qKA (r:ARes) (s:St):Option SV:=match r with
 | .tmp t=>jS t s.env
 | .cell t ag n=>match jS t s.env with
  | some (.ptr j off)=>match jS j s.heap with
   | some (cs,_)=>qGt ag n off cs
   | none=>none
  | _=>none
def qJq (s:St):List ARes->Option (List SV)
 | []=>some []
 | r :: rs=>match qKA r s,qJq s rs with
  | some v,some vs=>some (v :: vs)
  | _,_=>none
def qLN:List SV->SV
 | [x]=>x
 | xs=>.tup xs
def qGv (rs:List ARes) (s:St):Option SV:=(qJq s rs).map qLN
def yF:Nat->List SV->List (Nat × SV)
 | _,[]=>[]
 | t,v :: vs=>(t,v) :: yF (t+1) vs
def qLi:Kd->Kd->Bool
 | a,b=>decide (a=b) || (decide (b=.flt .f64) && decide (a=.f64n))
def qDV:List SV->List Kd->Bool
 | [],[]=>true
 | x :: xs,k :: ks=>(match qBr x with
  | some k'=>qLi k' k
  | none=>false) && qDV xs ks
 | _,_=>false
def qIO (f:Nat) (as:List SV):List (Nat × Nat × List Kd × Kd)->Option (Nat × Kd)
 | []=>none
 | (f',g,ks,kd) :: rest=>match Nat.beq f f' && qDV as ks with
  | true=>some (g,kd)
  | false=>qIO f as rest
def qLK (rs:List ARes) (s:St):List (Pt × St)->Option (List (SV × St × Bool))
 | []=>some []
 | p :: rest =>
  match (match p.1 with
   | .ex .normal=>qGv rs p.2
   | .ex .ret=>qGv rs p.2
   | _=>none),qLK rs s rest with
  | some v,some ps=>match v.flat && Nat.ble s.nl p.2.wm with
   | true=>some ((v,{ p.2 with env:=s.env,heap:=s.heap,nl:=s.nl,wm:=s.wm },true) :: ps)
   | false=>some ((v,{ p.2 with env:=s.env,wm:=Nat.min s.wm p.2.wm },false) :: ps)
  | _,_=>none
def wK (pm:Pm):Nat->mC
 | d,f,args,s=>match cN (.call f args) pm.ru with
  | some v=>some [(v,s,true)]
  | none=>match qIO f args pm.ap with
   | some (0,kd)=>match args with
    | [x]=>some [((mk (.bits x) kd s).1,(mk (.bits x) kd s).2,true)]
    | _=>none
   | some (g+1,kd)=>some [((mk (.app (g+1) args) kd s).1,(mk (.app (g+1) args) kd s).2,true)]
   | none=>match d with
    | 0=>none
    | d+1=>match jS f pm.tb with
     | some af=>if args.length<=af.ntmps then
       qLK af.results s (vC (wK pm d) { pm with un:=1000 } af.body { s with env:=yF 0 args,wm:=s.nl })
      else none
     | none=>none
end Go.Ab
end
/- Symbolic execution: it says what the code does. -/
section
namespace Go.Ab
section
variable {c:Cx} {s:St} {vs:List AV} {ls:LN} {H:AHeap} {E:Env}
def tF (c:Cx) (call:mC):Prop:=∀ (f:FuncId) (args:List SV) (s:St) (vs:List AV) (ls:LN) (H:AHeap) (as:List AV) (ps:List (SV × St × Bool)),In c s vs ls H->DL vs ls args as->call f args s=some ps ->
 ∃ p ∈ ps,∃ vs' ls' H' r,Step c s vs ls H p.2.1 vs' ls' H'/\D vs' ls' p.1 r/\p.2.1.env=s.env/\(∀ k:VK,k r H'->qK c.P f as H k)/\(p.2.2=true->H'=H/\zG c.P f as H r)
def Eff (c:Cx) (s:St) (vs:List AV) (ls:LN) (H:AHeap) (E:Env) (op:AOp) (ps:List (SV × St)):Prop:=
 ∃ p ∈ ps,∃ vs' ls' H' r,Step c s vs ls H p.2 vs' ls' H'/\D vs' ls' p.1 r/\p.2.env=s.env /\ ∀ k:VK,k r H'->mE c.P E H k op
theorem qMa {op:AOp} (hq:op.quiet=true) {get:AV} (hv:zS E H.get op=some get) {k:VK} (h:k get H):mE c.P E H k op:=by
 cases op <;> first | (cases hq;done) | (simp only [mE];rw [hv];exact h)
theorem qIn {ru:List (RK × SV)} {op:AOp} {ps:List (SV × St)} (h:sxq ru op s=some ps):op.quiet=true:=by
 cases op <;> first | rfl | (simp [sxq] at h)
theorem qKD (h:In c s vs ls H) (hE:zB s.env vs ls E) {op:AOp} {ps:List (SV × St)} (he:sxq c.ru op s=some ps):Eff c s vs ls H E op ps:=by
 obtain⟨r,hr,p,hp,g⟩:=qIm h hE he
 obtain⟨vs',h1,h2,h3⟩:=g.step h
 exact⟨p,hp,vs',ls,H,r,h1,h2,h3,fun k hk=>qMa (qIn he) hr hk⟩
theorem qFB {zs:List AV} (h:zs.all dA=true):∀ m:Nat,(List.replicate m zs).flatten.all dA=true
 | 0=>rfl
 | m+1=>by rw [List.replicate_succ,List.flatten_cons,List.all_append,h,qFB h m];rfl
theorem qKC {call:mC} {pm:Pm} (hc:tF c call) (hru:pm.ru=c.ru) (hfl:pm.fl=c.fl) (h:In c s vs ls H) (hE:zB s.env vs ls E) {op:AOp} {ps:List (SV × St)} (he:sx1 call pm op s=some ps):Eff c s vs ls H E op ps:=by
 have quiet:sxq pm.ru op s=some ps->Eff c s vs ls H E op ps:=fun he=>qKD h hE (by rw [<- hru];exact he)
 have dptr:∀ {vs' : List AV} {ls' : LN} {l:Nat},ls'[s.nl]? = some (l,0)->D vs' ls' (.ptr s.nl 0) (.ptr l 0):=fun e=>by simp only [D];exact⟨_,_,e,rfl⟩
 cases op
 case alloc zs =>
  simp only [sx1] at he
  split at he
  ·rename_i hz
   cases he
   obtain⟨st,at'⟩:=qAT h (cG hz)
   exact⟨_,List.mem_singleton.2 rfl,_,_,_,_,st,dptr at',rfl,fun k hk=>hk⟩
  ·cases he
 case box x =>
  simp only [sx1] at he
  split at he
  ·rename_i cs hcs
   rw [Option.bind_eq_some_iff] at hcs
   obtain⟨v,hv,hcs⟩:=hcs
   obtain⟨ds,h1,h2⟩:=qBf (qU hE hv) hcs
   cases he
   obtain⟨st,at'⟩:=qAT h h2
   exact⟨_,List.mem_singleton.2 rfl,_,_,_,_,st,dptr at',rfl,fun k hk=>by simp only [mE,h1];exact hk⟩
  ·cases he
 case bslice sz len zs parts =>
  simp only [sx1] at he
  split at he
  ·rename_i hz
   split at he
   ·rename_i cs hcs
    obtain⟨ds,h1,h2⟩:=qCL hE (cG hz) hcs
    cases he
    obtain⟨st,at'⟩:=qAT h h2
    exact⟨_,List.mem_singleton.2 rfl,_,_,_,.slice H.next 0 len len sz,st,by simp only [D];exact⟨_,_,at',by simp⟩,rfl,fun k hk=>by simp only [mE,h1];exact hk⟩
   ·cases he
  ·cases he
 case store n a x =>
  simp only [sx1] at he
  split at he
  ·rename_i j off us h1 hus
   rw [Option.bind_eq_some_iff] at hus
   obtain⟨v,hv,hus⟩:=hus
   obtain⟨ds,g1,g2⟩:=qBf (qU hE hv) hus
   have d1:=qU hE h1
   simp only [D] at d1
   obtain⟨l,bs0,hl,ha⟩:=d1
   split at he
   ·rename_i cs hf
    split at he
    ·rename_i hok
     obtain⟨o1,o2,o3,o4⟩:=hok
     obtain⟨l',b',pre,es,post,wr',k1,k2,k4,k3,k5⟩:=h.ok.heap _ _ _ hf
     rw [hl] at k1
     cases k1
     obtain⟨rfl,rfl,rfl⟩:=k5 rfl
     simp only [List.nil_append,List.append_nil] at k2
     have hb0:bs0=0:=k4.symm
     subst hb0
     rw [Nat.zero_add] at ha
     cases he
     have hd:DL vs ls (cs.take off ++ us ++ cs.drop (off+us.length)) (laid es off ds):=by
      unfold laid
      rw [<- g2.len]
      exact((k3.take off).append g2).append (k3.drop _)
     refine⟨_,List.mem_singleton.2 rfl,_,_,_,.undef,qJg h hl (by rw [<- hfl];exact o1) hf k2 rfl hd,by unfold D;exact⟨rfl,rfl⟩,rfl,fun k hk=>?_⟩
     simp only [mE,ha,k2,g1]
     rw [if_pos ⟨by rw [<- g2.len];exact o2,by rw [<- k3.len];exact o3,qCh g2 o4⟩]
     exact hk
    ·cases he
   ·cases he
  ·cases he
 case mkSlice sz bytes zs x y =>
  simp only [sx1] at he
  split at he
  ·rename_i n m h1 h2
   rw [Option.bind_eq_some_iff] at h1 h2
   obtain⟨v,hv,h1⟩:=h1
   obtain⟨w,hw,h2⟩:=h2
   obtain⟨k1,e1⟩:=pF (qU hE hv) h1
   obtain⟨k2,e2⟩:=pF (qU hE hw) h2
   split at he
   ·rename_i hok
    obtain⟨o1,o2,o3,o4⟩:=hok
    cases he
    obtain⟨st,at'⟩:=qAT h (cG (qFB o4 m))
    refine⟨_,List.mem_singleton.2 rfl,_,_,_,.slice H.next 0 n m sz,st,by simp only [D];exact⟨_,_,at',by simp⟩,rfl,fun k hk=>?_⟩
    simp only [mE,e1,e2]
    rw [if_pos ⟨by omega,by omega,by exact_mod_cast o2,by omega⟩]
    simpa using hk
   ·cases he
  ·cases he
 case call f args =>
  simp only [sx1] at he
  split at he
  ·rename_i as has
   rw [Option.map_eq_some_iff] at he
   obtain⟨qs,hqs,rfl⟩:=he
   obtain⟨p,hp,vs',ls',H',r,g1,g2,g3,g4,_⟩:=hc f as s vs ls H _ qs h (uI hE has) hqs
   exact⟨(p.1,p.2.1),List.mem_map.2 ⟨p,hp,rfl⟩,vs',ls',H',r,g1,g2,g3,fun k hk=>by simp only [mE];exact g4 k hk⟩
  ·cases he
 case callV g args =>
  simp only [sx1] at he
  split at he
  ·rename_i f first cap as hg has
   rw [Option.map_eq_some_iff] at he
   obtain⟨qs,hqs,rfl⟩:=he
   have d1:=qU hE hg
   simp only [D] at d1
   obtain⟨xs,ys,ha,dx,dy⟩:=d1
   obtain⟨p,hp,vs',ls',H',r,g1,g2,g3,g4,_⟩:=hc f _ s vs ls H _ qs h ((dx.append (uI hE has)).append dy) hqs
   exact⟨(p.1,p.2.1),List.mem_map.2 ⟨p,hp,rfl⟩,vs',ls',H',r,g1,g2,g3,fun k hk=>by simp only [mE,ha];exact g4 k hk⟩
  ·cases he
 all_goals exact quiet (by simpa only [sx1] using he)
def Ends (c:Cx) (s:St) (vs:List AV) (ls:LN) (H:AHeap) (s' : St) (Ψ:Env->AHeap->Prop):Prop:=
 ∃ vs' ls' H' E',Step c s vs ls H s' vs' ls' H'/\zB s'.env vs' ls' E'/\Ψ E' H'
theorem Ends.mono {s' : St} {Ψ Ψ' : Env->AHeap->Prop} (h:Ends c s vs ls H s' Ψ) (hm:∀ E H,Ψ E H->Ψ' E H):Ends c s vs ls H s' Ψ':=by
 obtain⟨vs',ls',H',E',h1,h2,h3⟩:=h
 exact⟨vs',ls',H',E',h1,h2,hm _ _ h3⟩
theorem Ends.here (h:In c s vs ls H) (hE:zB s.env vs ls E) {Ψ:Env->AHeap->Prop} (hp:Ψ E H):Ends c s vs ls H s Ψ:=⟨vs,ls,H,E,.refl h,hE,hp⟩
theorem qEU (d:ON) (v:SV) (s:St):∃ env,kW d v s = { s with env:=env,wm:=s.wm }:=by
 cases d <;> exact⟨_,rfl⟩
theorem pW {s' : St} {vs' : List AV} {ls' : LN} {H' : AHeap} (st:Step c s vs ls H s' vs' ls' H') (hE:zB s.env vs ls E) (he:s'.env=s.env) {d:ON} {v:SV} {r:AV} (hd:D vs' ls' v r) {Ψ:Env->AHeap->Prop} (hp:Ψ (E.put d r) H') :
  Ends c s vs ls H (kW d v s') Ψ:=by
 obtain⟨env,e⟩:=qEU d v s'
 refine⟨vs',ls',H',E.put d r,⟨by rw [e];exact st.inn.env env s'.wm,st.lev,st.lel,by rw [e];exact st.wm,by rw [e];exact st.kept,st.new⟩,?_,hp⟩
 have h0:zB s'.env vs' ls' E:=by rw [he];exact hE.mono st.lev st.lel
 cases d with
 | none=>exact h0
 | some d=>exact h0.put hd
theorem gF {t:Nat} {want:Bool} {op:AOp} {d:ON} {rest:List AOper} {k:Env->AHeap->Prop} (hb:(E t).det) (hn:(E t).yb ≠ some want) (h:vE c.P rest (E.put d .undef) H k):vE c.P (⟨d,op,some (t,want)⟩ :: rest) E H k:=by
 simp only [vE]
 refine⟨hb,?_⟩
 unfold bZ
 cases op
 case call f args=>simp only [];exact⟨.undef,fun hc=>absurd hc hn,by rw [if_neg hn];exact h⟩
 case callV g args =>
  simp only []
  split
  ·exact⟨.undef,fun hc=>absurd hc hn,by rw [if_neg hn];exact h⟩
  ·exact⟨hn,h⟩
 all_goals
  simp only []
  split
  ·rw [if_neg hn];exact h
  ·exact⟨hn,h⟩
theorem qKR {P:Program} {E:Env} {H:AHeap} {rest:List AOper} {d:ON} {k:Env->AHeap->Prop} {t:Nat} {want:Bool} {g:Opd} {f:FuncId} {first cap:List AV} {args:List Opd} {r:AV} (hg:E t=.bool want) (ha:g.ev E=.func f first cap) (hc:zG P f (first ++ args.map (·.ev E) ++ cap) H r) (h:vE P rest (E.put d r) H k):vE P (⟨d,.callV g args,some (t,want)⟩ :: rest) E H k:=by
 simp only [vE]
 refine⟨by rw [hg];trivial,?_⟩
 unfold bZ
 simp only [ha]
 exact⟨r,fun _=>hc,by rw [hg];simp only [AV.yb,if_true];exact h⟩
theorem qBM {call:mC} {pm:Pm} (hc:tF c call) (hru:pm.ru=c.ru) (hfl:pm.fl=c.fl) (h:In c s vs ls H) (hE:zB s.env vs ls E) {o:AOper} {ss:List St} (he:qFM call pm o s=some ss) :
  ∃ s' ∈ ss,Ends c s vs ls H s' fun E' H'=>∀ rest k,vE c.P rest E' H' k->vE c.P (o :: rest) E H k:=by
 obtain⟨d,op,g⟩:=o
 unfold qFM at he
 split at he
 ·rename_i hg
  simp only at hg
  subst hg
  rw [Option.map_eq_some_iff] at he
  obtain⟨ps,hps,rfl⟩:=he
  obtain⟨p,hp,vs',ls',H',r,st,hd,he,hk⟩:=qKC hc hru hfl h hE hps
  refine⟨_,List.mem_map.2 ⟨p,hp,rfl⟩,pW st hE he hd ?_⟩
  intro rest k hr
  simp only [vE]
  exact hk _ hr
 ·rename_i t want hg
  simp only at hg
  subst hg
  split at he
  ·rename_i hf
   cases he
   have hd:=hE _ _ hf
   simp only [D] at hd
   refine⟨_,List.mem_singleton.2 rfl,pW (.refl h) hE rfl (r:=.undef) (by unfold D;exact⟨rfl,rfl⟩) ?_⟩
   intro rest k hr
   exact gF (by rw [hd.1];trivial) (by rw [hd.1];simp [AV.yb]) hr
  ·rename_i v _ hf
   split at he
   ·rename_i hk
    have hd:=hE _ _ hf
    obtain⟨b,hb⟩:=(jA hd hk).1
    rw [hb] at hd
    obtain⟨s1,m1,o1,e1⟩:=gC h.ok hd
    have i1:In c s1 vs ls H:=⟨o1,h.lev,h.lel,h.kept,h.new,h.rules⟩
    have hE1:zB s1.env vs ls E:=by rw [e1.1];exact hE
    have st1:Step c s vs ls H s1 vs ls H:=⟨i1,LeL.refl _,LeL.refl _,by rw [e1.2.2.2];exact Nat.le_refl _,Kept.refl _ _ _,fun j l b hj e=>by rw [List.getElem?_eq_none hj] at e;cases e⟩
    have lift:∀ {s'} {Ψ},Ends c s1 vs ls H s' Ψ->Ends c s vs ls H s' Ψ:=by
     rintro s' Ψ ⟨vs',ls',H',E',g1,g2,g3⟩
     exact⟨vs',ls',H',E',st1.trans g1,g2,g3⟩
    obtain⟨ys,y1,y2⟩:=qDk he (b,s1) m1
    simp only at y1
    split at y1
    ·rename_i hw
     subst hw
     have guardq:op.quiet=true->(sxq pm.ru op s1).map (fun ps=>ps.map fun q=>kW d q.1 q.2)=some ys -> ∃ s' ∈ ss,Ends c s vs ls H s' fun E' H'=>∀ rest k,vE c.P rest E' H' k->vE c.P (⟨d,op,some (t,b)⟩ :: rest) E H k:=by
      intro hq y1
      rw [Option.map_eq_some_iff] at y1
      obtain⟨ps,hps,rfl⟩:=y1
      rw [hru] at hps
      obtain⟨r,hr,p,hp,g⟩:=qIm i1 hE1 hps
      obtain⟨vs',g1,g2,g3⟩:=g.step i1
      refine⟨_,y2 _ (List.mem_map.2 ⟨p,hp,rfl⟩),lift (pW g1 hE1 g3 g2 ?_)⟩
      intro rest k hk
      exact qLT hb hq hr hk
     split at y1
     ·rename_i f args
      split at y1
      ·rename_i as has
       split at y1
       ·rename_i ps hps
        split at y1
        ·rename_i hall
         cases y1
         obtain⟨p,hp,vs',ls',H',r,g1,g2,g3,g4,g5⟩:=hc f as s1 vs ls H _ ps i1 (uI hE1 has) hps
         obtain⟨rfl,hpure⟩:=g5 (List.all_eq_true.1 hall p hp)
         refine⟨_,y2 _ (List.mem_map.2 ⟨p,hp,rfl⟩),lift (pW g1 hE1 g3 g2 ?_)⟩
         intro rest k hk
         exact qKQ hb hpure hk
        ·cases y1
       ·cases y1
      ·cases y1
     ·rename_i g args
      split at y1
      ·rename_i f first cap as hfn has
       split at y1
       ·rename_i ps hps
        split at y1
        ·rename_i hall
         cases y1
         have d1:=qU hE1 hfn
         simp only [D] at d1
         obtain⟨xs,ys,ha,dx,dy⟩:=d1
         obtain⟨p,hp,vs',ls',H',r,g1,g2,g3,g4,g5⟩:=hc f _ s1 vs ls H _ ps i1 ((dx.append (uI hE1 has)).append dy) hps
         obtain⟨rfl,hpure⟩:=g5 (List.all_eq_true.1 hall p hp)
         refine⟨_,y2 _ (List.mem_map.2 ⟨p,hp,rfl⟩),lift (pW g1 hE1 g3 g2 ?_)⟩
         intro rest k hk
         exact qKR hb ha hpure hk
        ·cases y1
       ·cases y1
      ·cases y1
     ·split at y1
      ·rename_i hq
       exact guardq hq y1
      ·cases y1
    ·rename_i hw
     cases y1
     refine⟨_,y2 _ (List.mem_singleton.2 rfl),lift (pW (.refl i1) hE1 rfl (r:=.undef) (by unfold D;exact⟨rfl,rfl⟩) ?_)⟩
     intro rest k hr
     exact gF (by rw [hb];trivial) (by rw [hb];simpa [AV.yb] using hw) hr
   ·cases he
  ·cases he
theorem xI {α β:Type} {f:α->List β} {l:List α} {a:α} {b:β} (ha:a ∈ l) (hb:b ∈ f a):b ∈ (l.map f).flatten:=List.mem_flatten.2 ⟨_,List.mem_map.2 ⟨a,ha,rfl⟩,hb⟩
theorem Ends.bind {s1 s2:St} {Ψ Ψ' : Env->AHeap->Prop} {α:Type} {l:List α} {g:α->St} {Φ:α->Env->AHeap->Prop}
  (h:Ends c s vs ls H s1 Ψ) (k:∀ vs' ls' H' E',In c s1 vs' ls' H'->zB s1.env vs' ls' E'->Ψ E' H' -> ∃ a ∈ l,Ends c s1 vs' ls' H' (g a) (Φ a)):∃ a ∈ l,Ends c s vs ls H (g a) (Φ a):=by
 obtain⟨vs',ls',H',E',h1,h2,h3⟩:=h
 obtain⟨a,ha,vs2,ls2,H2,E2,k1,k2,k3⟩:=k vs' ls' H' E' h1.inn h2 h3
 exact⟨a,ha,vs2,ls2,H2,E2,h1.trans k1,k2,k3⟩
theorem qAg {call:mC} {pm:Pm} (hc:tF c call) (hru:pm.ru=c.ru) (hfl:pm.fl=c.fl):∀ (ops:List AOper) {s:St} {vs:List AV} {ls:LN} {H:AHeap} {E:Env},In c s vs ls H->zB s.env vs ls E ->
  ∃ p ∈ qIl call pm ops s,Ends c s vs ls H p.2 fun E' H'=>∀ k,vE c.P p.1 E' H' k->vE c.P ops E H k
 | [],s,vs,ls,H,E,h,hE=>⟨_,List.mem_singleton.2 rfl,.here h hE fun k hk=>hk⟩
 | o :: rest,s,vs,ls,H,E,h,hE=>by
  unfold qIl
  split
  ·rename_i ss hss
   obtain⟨s1,m1,e1⟩:=qBM hc hru hfl h hE hss
   obtain⟨vs',ls',H',E',g1,g2,g3⟩:=e1
   obtain⟨p,hp,vs2,ls2,H2,E2,k1,k2,k3⟩:=qAg hc hru hfl rest g1.inn g2
   exact⟨p,xI m1 hp,vs2,ls2,H2,E2,g1.trans k1,k2,fun k hk=>g3 rest k (k3 k hk)⟩
  ·exact⟨_,List.mem_singleton.2 rfl,.here h hE fun k hk=>hk⟩
theorem kM {P:Program} {Q:PK} {f:Fr}:∀ {fr:List Fr},zI P (fr ++ [f]) Q=zI P fr (zI P [f] Q)
 | []=>rfl
 | .seq b :: fr=>by simp only [List.cons_append,zI];rw [kM (fr:=fr)]
 | .block id :: fr=>by simp only [List.cons_append,zI];rw [kM (fr:=fr)]
 | .loop a :: fr=>by simp only [List.cons_append,zI];rw [kM (fr:=fr)]
theorem gJ {P:Program} {Q:PK} {f:Fr} {o:Pt} (ho:∀ e,o ≠ .ex e):Res P (o.push f) Q E H=Res P o (zI P [f] Q) E H:=by
 cases o <;> simp only [Pt.push,Res]
 ·exact absurd rfl (ho _)
 all_goals rw [kM]
def qMv:Pt->Bool
 | .ex _=>true
 | _=>false
theorem Step.wmEnv {s' : St} {vs' : List AV} {ls' : LN} {H' : AHeap} {w:Nat} (h:Step c { s with wm:=s.nl } vs ls H s' vs' ls' H') (hw:w=Nat.min s.wm s'.wm):Step c s vs ls H { s' with wm:=w } vs' ls' H':=by
 subst hw
 refine⟨h.inn.env s'.env _,h.lev,h.lel,Nat.min_le_left _ _,?_,h.new⟩
 exact⟨h.kept.1,fun l hl hj=>h.kept.2 l hl fun j b e=>hj j b (Nat.le_trans (Nat.min_le_right _ _) e)⟩
mutual
theorem qAf {call:mC} {pm:Pm} (hc:tF c call) (hru:pm.ru=c.ru) (hfl:pm.fl=c.fl):∀ (t:ATree) {s:St} {vs:List AV} {ls:LN} {H:AHeap} {E:Env},In c s vs ls H->zB s.env vs ls E ->
  ∃ p ∈ qIk call pm t s,Ends c s vs ls H p.2 fun E' H'=>∀ Q,Res c.P p.1 Q E' H'->qDq c.P t E H (Q .normal)
 | .node qs ks,s,vs,ls,H,E,h,hE=>by
  obtain⟨⟨r,s1⟩,hp,vs',ls',H',E',g1,g2,g3⟩:=qAg hc hru hfl qs h hE
  unfold qIk
  cases r with
  | nil =>
   obtain⟨q,hq,vs2,ls2,H2,E2,k1,k2,k3⟩:=qBL hc hru hfl ks g1.inn g2
   refine⟨q,xI hp hq,vs2,ls2,H2,E2,g1.trans k1,k2,fun Q hQ=>?_⟩
   exact qGD (g3 _ (k3 Q hQ))
  | cons o rest =>
   refine⟨(.mixq (o :: rest) ks [],s1),xI hp (List.mem_singleton.2 rfl),vs',ls',H',E',g1,g2,fun Q hQ=>?_⟩
   exact qGD (g3 _ hQ)
theorem qBL {call:mC} {pm:Pm} (hc:tF c call) (hru:pm.ru=c.ru) (hfl:pm.fl=c.fl):∀ (ks:AKids) {s:St} {vs:List AV} {ls:LN} {H:AHeap} {E:Env},In c s vs ls H->zB s.env vs ls E ->
  ∃ p ∈ qEr call pm ks s,Ends c s vs ls H p.2 fun E' H'=>∀ Q,Res c.P p.1 Q E' H'->qGp c.P ks (Q .normal) E H
 | .nil,s,vs,ls,H,E,h,hE=>by
  unfold qEr
  exact⟨_,List.mem_singleton.2 rfl,.here h hE fun Q hQ=>qLl hQ⟩
 | .cons free o t rest,s,vs,ls,H,E,h,hE=>by
  have stuck:∃ p ∈ [((Pt.kids (.cons free o t rest) []:Pt),s)],Ends c s vs ls H p.2 fun E' H'=>∀ Q,Res c.P p.1 Q E' H'->qGp c.P (.cons free o t rest) (Q .normal) E H:=
   ⟨_,List.mem_singleton.2 rfl,.here h hE fun Q hQ=>hQ⟩
  unfold qEr
  split
  ·rename_i hn
   split
   ·rename_i ss hss
    split
    ·rename_i hall
     have h' : In c { s with wm:=s.nl } vs ls H:=h.env s.env s.nl
     obtain⟨s1,m1,vs',ls',H',E',g1,g2,g3⟩:=qBM hc hru hfl h' hE hss
     have g1' : Step c s vs ls H { s1 with wm:=Nat.min s.wm s1.wm } vs' ls' H':=g1.wmEnv rfl
     obtain⟨p,hp,vs2,ls2,H2,E2,k1,k2,k3⟩:=qAf hc hru hfl t g1'.inn g2
     refine⟨p,xI m1 hp,vs2,ls2,H2,E2,g1'.trans k1,k2,fun Q hQ=>?_⟩
     have hkid:qMj c.P free H t (Q .normal) E' H':=by
      refine⟨?_,k3 Q hQ⟩
      have:=List.all_eq_true.1 hall s1 m1
      rw [Bool.or_eq_true] at this
      rcases this with h1 | h1
      ·exact .inl h1
      ·exact .inr (g1.kept.grew (by rw [<- h.ok.nl];exact Nat.le_of_ble_eq_true h1))
     cases rest with
     | nil=>exact qHD (g3 [] _ hkid)
     | cons=>cases hn
    ·exact stuck
   ·exact stuck
  ·exact stuck
end
theorem uK {a:ACode} {body:St->List (Pt × St)}
  (hb:∀ {s:St} {vs:List AV} {ls:LN} {H:AHeap} {E:Env},In c s vs ls H->zB s.env vs ls E -> ∃ p ∈ body s,Ends c s vs ls H p.2 fun E' H'=>∀ Q,Res c.P p.1 Q E' H'->zM c.P a Q E H) :
  ∀ (n:Nat) {s:St} {vs:List AV} {ls:LN} {H:AHeap} {E:Env},In c s vs ls H->zB s.env vs ls E ->
  ∃ p ∈ qBK a body n s,Ends c s vs ls H p.2 fun E' H'=>∀ Q,Res c.P p.1 Q E' H'->zM c.P (.loop a) Q E H
 | 0,s,vs,ls,H,E,h,hE=>⟨_,List.mem_singleton.2 rfl,.here h hE fun Q hQ=>hQ⟩
 | n+1,s,vs,ls,H,E,h,hE=>by
  obtain⟨⟨o,s1⟩,hp,vs',ls',H',E',g1,g2,g3⟩:=hb h hE
  unfold qBK
  have push:(∀ e,o ≠ .ex e)->(o.push (.loop a),s1) ∈ (match o with
   | .ex .normal=>qBK a body n s1
   | .ex e=>[(.ex e,s1)]
   | o=>[(o.push (.loop a),s1)]) -> ∃ p ∈ ((body s).map fun p=>match p.1 with
   | .ex .normal=>qBK a body n p.2
   | .ex e=>[(.ex e,p.2)]
   | o=>[(o.push (.loop a),p.2)]).flatten,Ends c s vs ls H p.2 fun E' H'=>∀ Q,Res c.P p.1 Q E' H'->zM c.P (.loop a) Q E H:=by
   intro ho hm
   refine⟨(o.push (.loop a),s1),xI hp hm,vs',ls',H',E',g1,g2,fun Q hQ=>?_⟩
   rw [gJ ho] at hQ
   exact qCF (g3 _ hQ)
  cases o with
  | ex e =>
   cases e with
   | normal =>
    obtain⟨q,hq,vs2,ls2,H2,E2,k1,k2,k3⟩:=uK hb n g1.inn g2
    exact⟨q,xI hp hq,vs2,ls2,H2,E2,g1.trans k1,k2,fun Q hQ=>qCF (g3 (tC (zM c.P (.loop a) Q) Q) (k3 Q hQ))⟩
   | exit id=>exact⟨(.ex (.exit id),s1),xI hp (List.mem_singleton.2 rfl),vs',ls',H',E',g1,g2,fun Q hQ=>qCF (g3 (tC (zM c.P (.loop a) Q) Q) hQ)⟩
   | ret=>exact⟨(.ex .ret,s1),xI hp (List.mem_singleton.2 rfl),vs',ls',H',E',g1,g2,fun Q hQ=>qCF (g3 (tC (zM c.P (.loop a) Q) Q) hQ)⟩
  | ops=>exact push (by simp) (List.mem_singleton.2 rfl)
  | mixq=>exact push (by simp) (List.mem_singleton.2 rfl)
  | kids=>exact push (by simp) (List.mem_singleton.2 rfl)
  | code=>exact push (by simp) (List.mem_singleton.2 rfl)
theorem qIg (h:In c s vs ls H) {v:SV} {b:Bool} (hd:D vs ls v (.bool b)):∃ s',(b,s') ∈ splitB v s/\Step c s vs ls H s' vs ls H/\s'.env=s.env:=by
 obtain⟨s1,m1,o1,e1⟩:=gC h.ok hd
 exact⟨s1,m1,⟨⟨o1,h.lev,h.lel,h.kept,h.new,h.rules⟩,LeL.refl _,LeL.refl _,by rw [e1.2.2.2];exact Nat.le_refl _,Kept.refl _ _ _,fun j l b hj e=>by rw [List.getElem?_eq_none hj] at e;cases e⟩,e1.1⟩
theorem yS {call:mC} {pm:Pm} (hc:tF c call) (hru:pm.ru=c.ru) (hfl:pm.fl=c.fl):∀ (a:ACode) {s:St} {vs:List AV} {ls:LN} {H:AHeap} {E:Env},In c s vs ls H->zB s.env vs ls E ->
  ∃ p ∈ vC call pm a s,Ends c s vs ls H p.2 fun E' H'=>∀ Q,Res c.P p.1 Q E' H'->zM c.P a Q E H:=by
 intro a
 induction a with
 | skip=>intro s vs ls H E h hE;exact⟨_,List.mem_singleton.2 rfl,.here h hE fun Q hQ=>hQ⟩
 | run ops =>
  intro s vs ls H E h hE
  obtain⟨⟨r,s1⟩,hp,vs',ls',H',E',g1,g2,g3⟩:=qAg hc hru hfl ops h hE
  refine⟨_,List.mem_map.2 ⟨(r,s1),hp,rfl⟩,vs',ls',H',E',g1,g2,fun Q hQ=>qKU (g3 _ ?_)⟩
  cases r with
  | nil=>exact hQ
  | cons=>exact hQ
 | mix t =>
  intro s vs ls H E h hE
  obtain⟨p,hp,e⟩:=qAf hc hru hfl t h hE
  exact⟨p,hp,e.mono fun E' H' k Q hQ=>qKT (k Q hQ)⟩
 | seq a b iha ihb =>
  intro s vs ls H E h hE
  obtain⟨⟨o,s1⟩,hp,vs',ls',H',E',g1,g2,g3⟩:=iha h hE
  simp only [vC]
  have push:(∀ e,o ≠ .ex e)->(o.push (.seq b),s1) ∈ (match o with
   | .ex .normal=>vC call pm b s1
   | .ex e=>[(.ex e,s1)]
   | o=>[(o.push (.seq b),s1)]) -> ∃ p ∈ ((vC call pm a s).map fun p=>match p.1 with
   | .ex .normal=>vC call pm b p.2
   | .ex e=>[(.ex e,p.2)]
   | o=>[(o.push (.seq b),p.2)]).flatten,Ends c s vs ls H p.2 fun E' H'=>∀ Q,Res c.P p.1 Q E' H'->zM c.P (.seq a b) Q E H:=by
   intro ho hm
   refine⟨(o.push (.seq b),s1),xI hp hm,vs',ls',H',E',g1,g2,fun Q hQ=>?_⟩
   rw [gJ ho] at hQ
   exact qFg (g3 _ hQ)
  cases o with
  | ex e =>
   cases e with
   | normal =>
    obtain⟨q,hq,vs2,ls2,H2,E2,k1,k2,k3⟩:=ihb g1.inn g2
    exact⟨q,xI hp hq,vs2,ls2,H2,E2,g1.trans k1,k2,fun Q hQ=>qFg (g3 (qIa c.P b Q) (k3 Q hQ))⟩
   | exit id=>exact⟨(.ex (.exit id),s1),xI hp (List.mem_singleton.2 rfl),vs',ls',H',E',g1,g2,fun Q hQ=>qFg (g3 (qIa c.P b Q) hQ)⟩
   | ret=>exact⟨(.ex .ret,s1),xI hp (List.mem_singleton.2 rfl),vs',ls',H',E',g1,g2,fun Q hQ=>qFg (g3 (qIa c.P b Q) hQ)⟩
  | ops=>exact push (by simp) (List.mem_singleton.2 rfl)
  | mixq=>exact push (by simp) (List.mem_singleton.2 rfl)
  | kids=>exact push (by simp) (List.mem_singleton.2 rfl)
  | code=>exact push (by simp) (List.mem_singleton.2 rfl)
 | cond x a b iha ihb =>
  intro s vs ls H E h hE
  have stuck:∃ p ∈ [((Pt.code (.cond x a b) []:Pt),s)],Ends c s vs ls H p.2 fun E' H'=>∀ Q,Res c.P p.1 Q E' H'->zM c.P (.cond x a b) Q E H:=
   ⟨_,List.mem_singleton.2 rfl,.here h hE fun Q hQ=>hQ⟩
  simp only [vC]
  split
  ·rename_i v hv
   split
   ·rename_i hk
    have hd:=qU hE hv
    obtain⟨t,ht⟩:=(jA hd hk).1
    rw [ht] at hd
    obtain⟨s1,m1,st,e1⟩:=qIg h hd
    have hE1:zB s1.env vs ls E:=by rw [e1];exact hE
    cases t with
    | true =>
     obtain⟨q,hq,vs2,ls2,H2,E2,k1,k2,k3⟩:=iha st.inn hE1
     exact⟨q,xI (f:=fun p:Bool × St=>if p.1=true then vC call pm a p.2 else vC call pm b p.2) m1 (by simpa using hq),vs2,ls2,H2,E2,st.trans k1,k2,fun Q hQ=>qIC ht (k3 Q hQ)⟩
    | false =>
     obtain⟨q,hq,vs2,ls2,H2,E2,k1,k2,k3⟩:=ihb st.inn hE1
     exact⟨q,xI (f:=fun p:Bool × St=>if p.1=true then vC call pm a p.2 else vC call pm b p.2) m1 (by simpa using hq),vs2,ls2,H2,E2,st.trans k1,k2,fun Q hQ=>qIB ht (k3 Q hQ)⟩
   ·exact stuck
  ·exact stuck
 | block id a iha =>
  intro s vs ls H E h hE
  obtain⟨⟨o,s1⟩,hp,vs',ls',H',E',g1,g2,g3⟩:=iha h hE
  simp only [vC]
  refine⟨_,List.mem_map.2 ⟨(o,s1),hp,rfl⟩,vs',ls',H',E',g1,g2,fun Q hQ=>qIA (g3 (gN id Q) ?_)⟩
  cases o with
  | ex e =>
   cases e with
   | normal=>exact qGJ (id:=id) hQ
   | exit i =>
    simp only at hQ
    split at hQ
    ·rename_i hi;subst hi;exact qGI (id:=i) hQ
    ·rename_i hi;exact qFh (id:=id) hi hQ
   | ret=>exact qKV (id:=id) hQ
  | ops r fr=>rw [gJ (by simp)] at hQ;exact hQ
  | mixq r k fr=>rw [gJ (by simp)] at hQ;exact hQ
  | kids k fr=>rw [gJ (by simp)] at hQ;exact hQ
  | code a fr=>rw [gJ (by simp)] at hQ;exact hQ
 | loop a iha =>
  intro s vs ls H E h hE
  exact uK (fun h hE=>iha h hE) pm.un h hE
 | exit id=>intro s vs ls H E h hE;exact⟨_,List.mem_singleton.2 rfl,.here h hE fun Q hQ=>hQ⟩
 | ret=>intro s vs ls H E h hE;exact⟨_,List.mem_singleton.2 rfl,.here h hE fun Q hQ=>hQ⟩
end
end Go.Ab
end
