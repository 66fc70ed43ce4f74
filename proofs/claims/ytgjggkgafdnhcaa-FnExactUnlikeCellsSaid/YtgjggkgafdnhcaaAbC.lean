/- Every operation is sound: maps, and all of them together. -/
import Derived.Test.YtgjggkgafdnhcaaAbB
import Derived.Still
set_option linter.unusedVariables false
set_option linter.unusedSimpArgs false
section
namespace Go.Ab
section
variable {P:Program} {μ:Mu} {E:Env} {a:Act} {F:Nat->Prop} {H:AHeap} {w:World} {k:VK}
theorem qCX {x y:AV} {u v:Value} (h:wZ 0 x y=some true) (hx:R μ x u) (hy:R μ y v):∃ kk n,u=.int kk n/\v=.int kk n:=by
 unfold wZ at h
 split at h
 ·split at h
  ·rename_i hh
   obtain⟨rfl,_⟩:=hh
   simp only [Option.some.injEq,decide_eq_true_eq] at h
   subst h
   exact⟨_,_,zK hx,zK hy⟩
  ·cases h
 ·split at h
  ·rename_i hh;cases hh.2
  ·cases h
 ·cases h
 ·cases h
 ·cases h
theorem qCp {k0:IntKind}:∀ {es:List (AV × AV)} {ms:List MapEntry} {x v:AV} {u:Value} {es' : List (AV × AV)} (i:Nat),qGq es x v=some es'->R μ x u->es.length=ms.length ->
  (∀ (j:Nat) (e:AV × AV) (m:MapEntry),es[j]? = some e->ms[j]? = some m->R μ e.1 m.key/\R μ e.2 m.val) ->
  (Instr.findNow (.int k0) u ms i=some none/\es'=es ++ [(x,v)]) \/
   (∃ j m kk n,Instr.findNow (.int k0) u ms i=some (some (i+j,m.val))/\ms[j]? = some m/\es'=es.set j (x,v)/\m.key=.int kk n/\u=.int kk n)
 | [],ms,x,v,u,es',i,h,hk,hl,hr=>by
  cases ms with
  | nil=>simp [qGq] at h;subst h;exact .inl ⟨rfl,rfl⟩
  | cons _ _=>cases hl
 | (p,q) :: es,ms,x,v,u,es',i,h,hk,hl,hr=>by
  cases ms with
  | nil=>cases hl
  | cons m ms =>
   obtain⟨h1,h2⟩:=hr 0 (p,q) m rfl rfl
   simp only at h1 h2
   simp only [qGq] at h
   split at h
   ·rename_i hc
    cases h
    obtain⟨kk,n,e1,e2⟩:=qCX hc hk h1
    exact .inr ⟨0,m,kk,n,qBi (yT hc hk h1),rfl,rfl,e2,e1⟩
   ·rename_i hc
    simp only [Option.map_eq_some_iff] at h
    obtain⟨es1,g1,rfl⟩:=h
    have ih:=qCp (k0:=k0) (i+1) g1 hk (by simpa using hl) (fun j e m' he hm=>hr (j+1) e m' (by simpa using he) (by simpa using hm))
    rw [qAo (yT hc hk h1)]
    rcases ih with ⟨a1,a2⟩ | ⟨j,m',kk,n,a1,a2,a3,a4,a5⟩
    ·exact .inl ⟨a1,by rw [a2];rfl⟩
    ·exact .inr ⟨j+1,m',kk,n,by rw [a1,show i+1+j=i+(j+1) by omega],by simpa using a2,by rw [a3];rfl,a4,a5⟩
   ·cases h
theorem qBv (hs:Sim F μ H w) {t key elem:TypeId} {k0:IntKind} (hu:P.underlying t=some (.map key elem)) (hk:P.underlying key=some (.int k0)) {l:Nat} {es es' : List (AV × AV)} (hg:H.get l=some (.mp es))
  {v u z:Value} {x y:AV} (hv:R μ (.map l) v) (hx:R μ x u) (hy:R μ y z) (hset:qGq es x y=some es') :
  ∃ w',(Instr.mapUpdate t v u z).run P w=.ok () w'/\Sim F μ (H.put l (.mp es')) w'/\Keeps F w w':=by
 cases hv with
 | map hm hb =>
  rename_i li b
  subst hb
  obtain⟨ms,ck,hh,hsz,hes⟩:=hs.mp l li es hg hm
  have hget:(getObj li.blk).run P w=.ok (.map ms ck) w:=by simp [getObj,Sem.run,hh]
  have hck:(Instr.checkKey false 10000 key u).run P w=.ok () w:=qAm hk 9999
  have hset' : ∀ o:Obj,(setObj li.blk o).run P w=.ok () { w with heap:=w.heap.setIfInBounds li.blk o }:=fun o=>by simp [setObj,Sem.run,hh]
  rcases qCp (k0:=k0) (ms:=ms.toList) 0 hset hx (by simp [hsz]) (fun j e m he hm=>hes j e m he (by simpa using hm)) with ⟨a1,a2⟩ | ⟨j,m,kk,n,a1,a2,a3,a4,a5⟩
  ·have hfk:(Instr.findKey key u ms.toList).run P w=.ok none w:=by
    unfold Instr.findKey
    rw [bind_ok (qG hk),a1];rfl
   obtain⟨s1,s2⟩:=qHA (ms':=ms.push { key:=u,val:=z,born:=ck }) (ck':=ck+1) (es':=es') hs hg hm (by rw [a2];simp [hsz]) (by
    intro i e m' he hm'
    rw [a2] at he
    rw [Array.getElem?_push] at hm'
    split at hm'
    ·cases hm'
     rw [List.getElem?_append_right om] at he
     have:i - es.length=0:=by omega
     rw [this] at he
     simp at he
     subst he
     exact⟨hx,hy⟩
    ·rename_i hne
     have hlt:i < ms.size:=by
      rcases Nat.lt_or_ge i ms.size with h | h
      ·exact h
      ·rw [Array.getElem?_eq_none h] at hm';cases hm'
     rw [List.getElem?_append_left om] at he
     exact hes i e m' he hm') hh
   refine⟨_,?_,s1,s2⟩
   unfold Instr.mapUpdate
   rw [bind_ok (qG hu)]
   simp only []
   rw [bind_ok hget]
   simp only []
   rw [bind_ok hck,bind_ok hfk]
   exact hset' _
  ·have hfk:(Instr.findKey key u ms.toList).run P w=.ok (some (0+j,m.val)) w:=by
    unfold Instr.findKey
    rw [bind_ok (qG hk),a1];rfl
   have hj:j < ms.size:=by
    rcases Nat.lt_or_ge j ms.size with h | h
    ·exact h
    ·rw [List.getElem?_eq_none (by simpa using h)] at a2;cases a2
   have hmj:ms[j]? = some m:=by simpa using a2
   obtain⟨s1,s2⟩:=qHA (ms':=ms.modify (0+j) fun e=>{ e with key:=u,val:=z }) (ck':=ck) (es':=es') hs hg hm (by rw [a3];simp [hsz]) (by
    intro i e m' he hm'
    rw [a3] at he
    rw [Nat.zero_add,Array.getElem?_modify] at hm'
    rw [List.getElem?_set] at he
    split at hm'
    ·rename_i hij
     subst hij
     rw [if_pos rfl,if_pos om] at he
     cases he
     rw [hmj] at hm'
     cases hm'
     exact⟨hx,hy⟩
    ·rename_i hij
     rw [if_neg hij] at he
     exact hes i e m' he hm') hh
   refine⟨_,?_,s1,s2⟩
   unfold Instr.mapUpdate
   rw [bind_ok (qG hu)]
   simp only []
   rw [bind_ok hget]
   simp only []
   rw [bind_ok hck,bind_ok hfk]
   simp only []
   have hkeep:(Instr.keyThatStays (((ms[0+j]?).map (·.key)).getD u) u).run P w=.ok u w:=by
    rw [Nat.zero_add,hmj]
    simp only [Option.map_some,Option.getD_some,a4,a5]
    unfold Instr.keyThatStays
    simp [Instr.sameBits,Sem.run_pure]
   rw [bind_ok hkeep]
   exact hset' _
theorem qAn {E:Env}:∀ {ps:List (Nat × Nat × Opd)} {cs ds:List AV},uY E cs ps=some ds->ds.length=cs.length
 | [],cs,ds,h=>by simp [uY] at h;rw [h]
 | (off,size,x) :: ps,cs,ds,h=>by
  simp only [uY] at h
  split at h
  ·split at h
   ·rename_i hh
    rw [qAn h]
    unfold laid
    simp
    omega
   ·cases h
  ·cases h
theorem dF {o:Oper} {ao:AOp} (hc:jH P o.op=some ao) (h:mE P E H k ao) (hs:Sim F μ H w) (he:RE μ E a):vX P (Out F μ H w k) ((execOp a.eval o).run P w):=by
 have quiet:∀ {r:AV},zS E H.get ao=some r->k r H->vX P (Out F μ H w k) ((execOp a.eval o).run P w):=by
  intro r hv hk
  obtain⟨v,w',h1,h2,h3⟩:=cK hc hv hs he
  rw [h1]
  exact Out.drew hk hs h3 h2
 have dflt:(match zS E H.get ao with | some r=>k r H | none=>False)->vX P (Out F μ H w k) ((execOp a.eval o).run P w):=by
  intro hd
  split at hd
  ·rename_i r hr;exact quiet hr hd
  ·exact hd.elim
 cases ao
 case move=>exact dflt h
 case pick=>exact dflt h
 case load=>exact dflt h
 case nilCheck=>exact dflt h
 case bin=>exact dflt h
 case eqAgg=>exact dflt h
 case eqBool=>exact dflt h
 case eqNilI=>exact dflt h
 case eqNilS=>exact dflt h
 case un=>exact dflt h
 case conv=>exact dflt h
 case fn=>exact dflt h
 case build=>exact dflt h
 case slArr=>exact dflt h
 case slSl=>exact dflt h
 case slStr=>exact dflt h
 case faddr=>exact dflt h
 case field=>exact dflt h
 case iaArr=>exact dflt h
 case iaSl=>exact dflt h
 case ixArr=>exact dflt h
 case ixStr=>exact dflt h
 case extract=>exact dflt h
 case len=>exact dflt h
 case lenStr=>exact dflt h
 case lenC=>exact dflt h
 case cap=>exact dflt h
 case min2=>exact dflt h
 case max2=>exact dflt h
 case max4=>exact dflt h
 case lookup=>exact dflt h
 case iface=>exact dflt h
 all_goals clear quiet dflt
 all_goals obtain⟨dst,op,type,pos,after,guard⟩:=o
 all_goals simp only at hc
 case alloc zs =>
  obtain⟨t,rfl,hz⟩:=qCk hc
  obtain⟨z,hz1,hz2⟩:=gM (μ:=μ) (w:=w) hz
  have hrun:(execOp a.eval ⟨dst,.alloc t,type,pos,after,guard⟩).run P w=.ok (.value (.pointer (some ⟨w.heap.size,0,none⟩))) { w with heap:=w.heap.push (.cells z.cells t) }:=by
   simp only [execOp,Instr.alloc]
   rw [bind_ok (s:=zeroValue t >>= _) (a:=.pointer (some ⟨w.heap.size,0,none⟩)) (w':={ w with heap:=w.heap.push (.cells z.cells t) })]
   ·rfl
   ·rw [bind_ok hz1];rfl
  rw [hrun]
  obtain⟨h1,h2⟩:=RL.full hz2
  exact qAa hs w.drawn h1 h2 h (.ptr (wB _ _ _) rfl)
 case box y =>
  obtain⟨t,x,rfl,hy⟩:=qIE hc
  simp only [mE] at h
  split at h
  ·rename_i cs hcs
   obtain⟨h1,h2⟩:=RL.full (qEF (vG hy he) hcs)
   exact qAa hs w.drawn h1 h2 h (.ptr (wB _ _ _) rfl)
  ·exact h.elim
 case bslice sz len zs ps =>
  obtain⟨t,parts,elem,zs0,rfl,hu,hsz,hz,hzl,hlim,rfl,hps⟩:=qEH hc
  simp only [mE] at h
  split at h
  ·rename_i cs hcs
   obtain⟨z,hz1,hz2⟩:=gM (μ:=μ) (w:=w) hz
   have hps' : parts.toList.mapM (fun (i,x)=>do let y <- jE x;let p <- (fun i:Nat=>some (i * sz,sz)) i;some (p.1,p.2,y))=some ps:=by
    refine qAR ?_ hps
    rintro⟨i,x⟩ y hy
    simp only [Option.bind_eq_bind,Option.bind_eq_some_iff,Option.some.injEq] at hy ⊢
    obtain⟨x',hx',rfl⟩:=hy
    exact⟨x',hx',(i * sz,sz),rfl,rfl⟩
   have hcl:cs.length=len * sz:=by
    rw [qAn hcs]
    simp [hzl]
   have fin:∀ (zr:Array Value),RL μ (List.replicate len zs0).flatten ((Array.range (len * sz)).map fun i=>zr[i % zr.size]!).toList ->
     (Instr.buildSlice t len (parts.map fun (i,x)=>(i,a.eval x))).run P w=(match Instr.fill (fun i=>some (i * sz,sz)) ((Array.range (len * sz)).map fun i=>zr[i % zr.size]!) (parts.map fun (i,x)=>(i,a.eval x)).toList with
      | some cells=>do pure (Value.slice (some (<- newRow elem cells)) len len)
      | _ => stuck "buildSlice: a part of the wrong size" : Sem Value).run P w ->
     vX P (Out F μ H w k) ((execOp a.eval ⟨dst,.buildSlice t len parts,type,pos,after,guard⟩).run P w):=by
    intro zr hzr hrun
    obtain⟨us,h1,h2⟩:=pL (place:=fun i:Nat=>some (i * sz,sz)) hps' he hzr hcs
    have e:(parts.map fun (i,x)=>(i,a.eval x)).toList=parts.toList.map fun (i,x)=>(i,a.eval x):=by simp
    rw [e,h1] at hrun
    have hb:(Instr.buildSlice t len (parts.map fun (i,x)=>(i,a.eval x))).run P w=.ok (.slice (some ⟨w.heap.size,0,none⟩) len len) { w with heap:=w.heap.push (.cells us elem) }:=hrun
    simp only [execOp]
    rw [bind_ok hb]
    obtain⟨g1,g2⟩:=RL.full h2
    exact qAa hs w.drawn g1 g2 h (.slice (wB _ _ _) rfl rfl (.inr rfl) (by simp only [Nat.zero_add];rw [<- hcl];exact g1) (Nat.le_refl _))
   by_cases h0:len * sz=0
   ·refine fin #[] ?_ ?_
    ·have:(List.replicate len zs0).flatten=[]:=by
      apply List.eq_nil_of_length_eq_zero
      simp [hzl,h0]
     rw [this,h0]
     simpa using RL.nil
    ·unfold Instr.buildSlice
     rw [bind_ok (qG hu)]
     simp only []
     rw [bind_ok (vB hsz),if_neg om,if_pos h0];rfl
   ·refine fin z.cells (qCz hz2 hzl len) ?_
    unfold Instr.buildSlice
    rw [bind_ok (qG hu)]
    simp only []
    rw [bind_ok (vB hsz),if_neg om,if_neg h0,bind_ok hz1];rfl
  ·exact h.elim
 case store n x y =>
  obtain⟨t,p,q,rfl,hn,hx,hy⟩:=qFW hc
  simp only [mE] at h
  have hR:=vG hx he
  split at h
  ·rename_i l off hl
   rw [hl] at hR
   obtain⟨li,hm,e2⟩:=uH hR
   split at h
   ·rename_i cs hg
    split at h
    ·rename_i vs hvs
     split at h
     ·rename_i hh
      obtain⟨hlen,hle,hone⟩:=hh
      have hcr:=qEF (vG hy he) hvs
      obtain⟨c,e,lo,hi,g1,g2,g3,g4,g5⟩:=hs.row l li cs true hg hm
      obtain⟨w',hst,hsim,hkeep⟩:=bG (P:=P) (o:=off) hs hg hm hcr hone om om
      have hsz:(a.eval q).cells.size=n:=by rw [<- hlen,hcr.1];simp
      have hrun:(Instr.storeAt t (a.eval p) (a.eval q)).run P w=.ok () w':=by
       unfold Instr.storeAt
       rw [e2,bind_ok (show (Instr.sureAddr (.pointer (some ⟨li.blk,li.base+off,none⟩))).run P w=.ok ⟨li.blk,li.base+off,none⟩ w from rfl)]
       unfold storeVar
       rw [bind_ok (vB hn),if_neg om]
       exact hst
      simp only [execOp]
      rw [bind_ok hrun]
      exact⟨μ,_,_,h,by rw [AHeap.put_next];exact Nat.le_refl _,Mu.ext_refl _ _,hsim,.undef,hkeep⟩
     ·exact h.elim
    ·exact h.elim
   ·exact h.elim
  ·exact h.elim
 case mkSlice sz bytes zs x y =>
  obtain⟨t,l,c,elem,rfl,hu,hsz,hb,hz,hzl,hx,hy⟩:=qDC hc
  simp only [mE] at h
  have h1:=vG hx he
  have h2:=vG hy he
  split at h
  ·rename_i k1 n k2 m e1 e2
   rw [e1] at h1
   rw [e2] at h2
   split at h
   ·rename_i hh
    obtain⟨hn0,hnm,hbm,hmx⟩:=hh
    obtain⟨z,hz1,hz2⟩:=gM (μ:=μ) (w:=w) hz
    have w1:IntKind.i64.wrap n=n:=by unfold IntKind.wrap IntKind.bits IntKind.signed;simp;omega
    have w2:IntKind.i64.wrap m=m:=by unfold IntKind.wrap IntKind.bits IntKind.signed;simp;omega
    obtain⟨i,hi,rfl⟩:∃ i,P.info? elem=some i/\i.bytes=bytes:=by
     unfold uL at hb
     cases hi:P.info? elem with
     | none=>rw [hi] at hb;cases hb
     | some i=>rw [hi] at hb;exact⟨i,rfl,by simpa using hb⟩
    have fin:∀ (zr:Array Value),RL μ (List.replicate m.toNat zs).flatten ((Array.range (m.toNat * sz)).map fun i=>zr[i % zr.size]!).toList ->
      (Instr.makeSlice t (a.eval l) (a.eval c)).run P w=(do
       let ad <- newRow elem ((Array.range (m.toNat * sz)).map fun i=>zr[i % zr.size]!)
       pure (.slice (some ad) n.toNat m.toNat):Sem Value).run P w ->
      vX P (Out F μ H w k) ((execOp a.eval ⟨dst,.makeSlice t l c,type,pos,after,guard⟩).run P w):=by
     intro zr hzr hrun
     have hb:(Instr.makeSlice t (a.eval l) (a.eval c)).run P w=.ok (.slice (some ⟨w.heap.size,0,none⟩) n.toNat m.toNat) { w with heap:=w.heap.push (.cells ((Array.range (m.toNat * sz)).map fun i=>zr[i % zr.size]!) elem) }:=hrun
     simp only [execOp]
     rw [bind_ok hb]
     obtain⟨g1,g2⟩:=RL.full hzr
     have hcl:(List.replicate m.toNat zs).flatten.length=m.toNat * sz:=by simp [hzl]
     exact qAa hs w.drawn g1 g2 h (.slice (wB _ _ _) rfl rfl (.inr rfl) (by simp only [Nat.zero_add];exact Nat.le_trans (Nat.le_of_eq hcl.symm) g1) om)
    have hpre:(Instr.makeSlice t (a.eval l) (a.eval c)).run P w=(do
      let zero <- if m.toNat * sz=0 then pure #[] else do pure (<- zeroValue elem).cells
      let ad <- newRow elem ((Array.range (m.toNat * sz)).map fun i=>zero[i % zero.size]!)
      pure (.slice (some ad) n.toNat m.toNat):Sem Value).run P w:=by
     unfold Instr.makeSlice
     rw [zK h1,zK h2,bind_ok (qG hu)]
     simp only []
     rw [bind_ok (show (asInt (.int k1 n)).run P w=.ok n w from rfl),bind_ok (show (asInt (.int k2 m)).run P w=.ok m w from rfl),bind_ok (qBa hi)]
     simp only [w1,w2]
     rw [if_neg (by simp only [Bool.or_eq_true,decide_eq_true_eq,not_or];omega)]
     rw [bind_ok (qEC _),bind_ok (vB hsz)]
    by_cases h0:m.toNat * sz=0
    ·refine fin #[] ?_ ?_
     ·have:(List.replicate m.toNat zs).flatten=[]:=by
       apply List.eq_nil_of_length_eq_zero
       simp only [List.length_flatten,List.map_replicate,List.sum_replicate_nat,hzl,h0]
      rw [this,h0]
      simpa using RL.nil
     ·rw [hpre,if_pos h0];rfl
    ·refine fin z.cells (qCz hz2 hzl m.toNat) ?_
     rw [hpre,if_neg h0,bind_ok hz1];rfl
   ·exact h.elim
  ·exact h.elim
 case append sz bytes x y =>
  obtain⟨c,t,u,p,q,elem,i,z,zs,⟨rfl,rfl⟩,hu,hk,hi,hz,hzs,hzl,hb,rfl,rfl,hx,hy⟩:=qEG hc
  simp only [mE] at h
  obtain⟨v',w',hrun,hout⟩:=qDt (ty:=type) hs hu hi hz hzs hzl hb hk (vG hx he) (vG hy he) h
  rw [builtin_run (s:=Builtin.append_ #[t,u] type #[a.eval p,a.eval q]) (by simp [builtin]) hrun]
  exact hout
 case callI t want f args=>exact(qFT hc).elim
 case appendZ sz bytes zs x y =>
  obtain⟨c,t,u,p,q,elem,i,z,kn,⟨rfl,rfl⟩,hu,hk,hi,hz,hzs,hzl,hb,rfl,rfl,hx,hy⟩:=qDA hc
  simp only [mE] at h
  obtain⟨v',w',hrun,hout⟩:=qCD (ty:=type) hs hu hk hi hz hzs hzl hb (vG hx he) (vG hy he) h
  rw [builtin_run (s:=Builtin.append_ #[t,u] type #[a.eval p,a.eval q]) (by simp [builtin]) hrun]
  exact hout
 case copy sz x y =>
  obtain⟨c,t,u,p,q,elem,⟨rfl,rfl⟩,hu,hsz,hx,hy⟩:=qGP hc
  simp only [mE] at h
  have h1:=vG hx he
  have h2:=vG hy he
  have run:∀ {v' : Value} {w' : World},(Builtin.copy_ #[t,u] type #[a.eval p,a.eval q]).run P w=.ok v' w'->Out F μ H w k v' w'->vX P (Out F μ H w k) ((execOp a.eval ⟨dst,.call ⟨.builtin .copy,#[p,q],#[t,u]⟩,type,pos,after,guard⟩).run P w):=by
   intro v' w' hrun hout
   rw [builtin_run (s:=Builtin.copy_ #[t,u] type #[a.eval p,a.eval q]) (by simp [builtin]) hrun]
   exact hout
  split at h
  ·rename_i l o n cap sz' e1
   rw [e1] at h1
   split at h
   ·rename_i hss
    subst hss
    split at h
    ·rename_i ys m hsrc
     obtain⟨pp,hv,hlc⟩:=slice_form h1
     obtain⟨g1,g2,g3⟩:=qFb (P:=P) hs hsrc h2
     obtain⟨us,g4,g5⟩:=g3 (Nat.min m n) (Nat.min_le_left _ _)
     have hmm:Nat.min (Nat.min m n) n=Nat.min m n:=Nat.min_eq_left (Nat.min_le_right _ _)
     have hpre:(Builtin.copy_ #[t,u] type #[a.eval p,a.eval q]).run P w=(do
       if let some ad:=pp then storeCells ad us
       pure (goInt (Nat.min m n)):Sem Value).run P w:=by
      unfold Builtin.copy_
      simp only [List.getElem?_toArray,List.getElem?_cons_zero,List.getElem?_cons_succ]
      rw [bind_ok (qG hu)]
      simp only []
      rw [hv]
      simp only []
      rw [bind_ok g1,bind_ok (vB hsz),bind_ok (g4 w.drawn)]
      cases pp <;> rfl
     split at h
     ·rename_i hm0
      have hus:us=[]:=by
       apply List.eq_nil_of_length_eq_zero
       rw [<- g5.1,hm0];simp
      subst hus
      refine run (v':=.int .i64 0) (w':=w) ?_ (Out.same h hs (.int _ _))
      rw [hpre,hm0]
      cases pp <;> rfl
     ·rename_i hm0
      split at h
      ·rename_i cs hg
       split at h
       ·rename_i hh
        obtain⟨hle,hone⟩:=hh
        have hn0:n ≠ 0:=by
         rintro rfl
         exact hm0 (Nat.min_zero _)
        have hc0:cap ≠ 0:=by omega
        obtain⟨li,hm,hv',hlim,_⟩:=pZ h1 hc0
        rw [hv] at hv'
        cases hv'
        have hmn:Nat.min m n<=n:=Nat.min_le_right _ _
        have hmul:Nat.min m n * sz<=n * sz:=Nat.mul_le_mul_right _ hmn
        have htl:(ys.take (Nat.min m n * sz)).length<=Nat.min m n * sz:=List.length_take_le _ _
        obtain⟨c,e,lo,hi,k1,k2,k3,k4,k5⟩:=hs.row l li cs true hg hm
        obtain⟨w',hst,hsim,hkeep⟩:=bG (P:=P) (o:=o) hs hg hm g5 hone om om
        refine run (v':=.int .i64 (Nat.min m n)) (w':=w') ?_ ⟨μ,_,_,h,by rw [AHeap.put_next];exact Nat.le_refl _,Mu.ext_refl _ _,hsim,.int _ _,hkeep⟩
        rw [hpre]
        simp only []
        rw [bind_ok hst];rfl
       ·exact h.elim
      ·exact h.elim
    ·exact h.elim
   ·exact h.elim
  ·exact h.elim
 case clear sz zs x =>
  obtain⟨c,t,p,elem,⟨rfl,rfl⟩,hu,hsz,hz,hx⟩:=qFV hc
  simp only [mE] at h
  have h1:=vG hx he
  have run:∀ {v' : Value} {w' : World},(Builtin.clear_ #[t] type #[a.eval p]).run P w=.ok v' w'->Out F μ H w k v' w'->vX P (Out F μ H w k) ((execOp a.eval ⟨dst,.call ⟨.builtin .clear,#[p],#[t]⟩,type,pos,after,guard⟩).run P w):=by
   intro v' w' hrun hout
   rw [builtin_run (s:=Builtin.clear_ #[t] type #[a.eval p]) (by simp [builtin]) hrun]
   exact hout
  split at h
  ·rename_i e1
   rw [e1] at h1
   refine run (v':=Go.undef) (w':=w) ?_ (Out.same h hs .undef)
   rw [xB h1]
   unfold Builtin.clear_
   simp only [List.getElem?_toArray,List.getElem?_cons_zero]
   rw [bind_ok (qG hu)];rfl
  ·rename_i l o n cap sz' e1
   rw [e1] at h1
   split at h
   ·rename_i hn
    subst hn
    obtain⟨pp,hv,_⟩:=slice_form h1
    refine run (v':=Go.undef) (w':=w) ?_ (Out.same h hs .undef)
    rw [hv]
    unfold Builtin.clear_
    simp only [List.getElem?_toArray,List.getElem?_cons_zero]
    rw [bind_ok (qG hu)]
    cases pp <;> rfl
   ·rename_i hn
    split at h
    ·rename_i hss
     subst hss
     split at h
     ·rename_i cs hg
      split at h
      ·rename_i hh
       obtain⟨hle,hzl,hone⟩:=hh
       obtain⟨pp,hv0,hlc⟩:=slice_form h1
       obtain⟨li,hm,hv,hlim,_⟩:=pZ h1 om
       obtain⟨z,hz1,hz2⟩:=gM (μ:=μ) (w:=w) hz
       have hzsz:z.cells.size=sz:=by rw [<- hzl,hz2.1];simp
       have hRL:RL μ (List.replicate n zs).flatten (Builtin.zeroCells z.cells n).toList:=by
        unfold Builtin.zeroCells
        rw [qAd]
        exact hz2.replicate n
       have hrl:(List.replicate n zs).flatten.length=n * sz:=by simp [hzl]
       have hall:(List.replicate n zs).flatten.all AV.one=true:=by
        rw [List.all_eq_true]
        intro x hx
        simp only [List.mem_flatten,List.mem_replicate] at hx
        obtain⟨l',⟨_,rfl⟩,hx⟩:=hx
        exact List.all_eq_true.1 hone x hx
       obtain⟨c,e,lo,hi,k1,k2,k3,k4,k5⟩:=hs.row l li cs true hg hm
       obtain⟨w',hst,hsim,hkeep⟩:=bG (P:=P) (o:=o) hs hg hm hRL hall om om
       refine run (v':=Go.undef) (w':=w') ?_ ⟨μ,_,_,h,by rw [AHeap.put_next];exact Nat.le_refl _,Mu.ext_refl _ _,hsim,.undef,hkeep⟩
       rw [hv]
       unfold Builtin.clear_
       simp only [List.getElem?_toArray,List.getElem?_cons_zero]
       rw [bind_ok (qG hu)]
       cases n with
       | zero=>exact absurd rfl hn
       | succ n =>
        simp only []
        rw [bind_ok hz1,bind_ok hst];rfl
      ·exact h.elim
     ·exact h.elim
    ·exact h.elim
  ·exact h.elim
 case makeMap =>
  obtain⟨t,rfl⟩:=qDB hc
  exact⟨_,_,_,h,by rw [AHeap.new_next];omega,Mu.plus_ext _ _ _,hs.pushMap,.map (wB _ _ _) rfl,cX hs.fresh _ _⟩
 case mapUpdate x y z =>
  obtain⟨t,m,q,v,key,elem,k0,hop,hu,hk,hx,hy,hz⟩:=qBT hc
  simp only [mE] at h
  have h1:=vG hx he
  split at h
  ·rename_i l e1
   rw [e1] at h1
   split at h
   ·rename_i es hg
    split at h
    ·rename_i es' hset
     obtain⟨w',hrun,hsim,hkeep⟩:=qBv hs hu hk hg h1 (vG hy he) (vG hz he) hset
     have:(execOp a.eval ⟨dst,op,type,pos,after,guard⟩).run P w=.ok .skip w':=by
      rcases hop with rfl | rfl <;> (simp only [execOp];rw [bind_ok hrun];rfl)
     rw [this]
     exact⟨μ,_,_,h,by rw [AHeap.put_next];exact Nat.le_refl _,Mu.ext_refl _ _,hsim,.undef,hkeep⟩
    ·exact h.elim
   ·exact h.elim
  ·exact h.elim
 case call f as =>
  obtain⟨c,rfl,hcal,has⟩:=qGO hc
  have hl:=qAN has he
  have:=h F μ w _ hs hl
  have hrun:(execOp a.eval ⟨dst,.call c,type,pos,after,guard⟩).run P w=(callFunc f (c.args.map a.eval)).run P w:=by
   simp only [execOp]
   have hres:(resolve a.eval c type).run P w=.ok { target:=.fn (.func f) #[],args:=c.args.map a.eval } w:=by
    unfold resolve
    rw [hcal]
    simp [Act.eval,Deferred.ofValue,Sem.run_pure]
   rw [bind_ok hres]
   simp [invoke]
  rw [hrun]
  rwa [Array.toArray_toList] at this
 case callV g as =>
  obtain⟨c,g',rfl,hcal,hg,has⟩:=qFU hc
  simp only [mE] at h
  have h1:=vG hg he
  split at h
  ·rename_i f first cap e1
   rw [e1] at h1
   have hl:=qAN has he
   generalize hv:a.eval g'=v at h1
   cases h1 with
   | @func f as' bs' vs us h1 g1 h2 g2 =>
    have r1:RL μ first vs.toList:=⟨by simpa using h1,fun i a v ha hv=>g1 i a v ha (by simpa using hv)⟩
    have r2:RL μ cap us.toList:=⟨by simpa using h2,fun i a v ha hv=>g2 i a v ha (by simpa using hv)⟩
    have:=h F μ w _ hs ((r1.append hl).append r2)
    have hrun:(execOp a.eval ⟨dst,.call c,type,pos,after,guard⟩).run P w=(callFunc f (vs ++ c.args.map a.eval ++ us)).run P w:=by
     simp only [execOp]
     have hres:(resolve a.eval c type).run P w=.ok { target:=.fn (.func f) us,args:=vs ++ c.args.map a.eval } w:=by
      unfold resolve
      rw [hcal]
      simp [hv,Deferred.ofValue,Sem.run_pure]
     rw [bind_ok hres]
     simp [invoke]
    rw [hrun]
    have e:(vs.toList ++ (c.args.map a.eval).toList ++ us.toList).toArray=vs ++ c.args.map a.eval ++ us:=by
     apply Array.ext';simp
    rw [e] at this
    exact this
  ·exact h.elim
 where
 builtin_run {P:Program} {a:Act} {w w' : World} {b:Builtin} {args:Array Operand} {argTypes:Array TypeId} {dst:Option Tmp} {type:TypeId} {pos:String} {after:Array Edge} {guard:Option (Nat × Bool)} {s:Sem Value} {v:Value}
   (e:builtin b argTypes type (args.map fun | .const _=>true | _=>false) (args.map a.eval)=(s >>= fun v=>pure (Next.value v))) (h:s.run P w=.ok v w') :
   (execOp a.eval ⟨dst,.call ⟨.builtin b,args,argTypes⟩,type,pos,after,guard⟩).run P w=.ok (.value v) w':=by
  simp only [execOp]
  rw [bind_ok (show (resolve a.eval ⟨.builtin b,args,argTypes⟩ type).run P w=.ok { target:=.builtin b argTypes type (args.map fun | .const _=>true | _=>false),args:=args.map a.eval } w from rfl)]
  simp only [invoke]
  rw [e,bind_ok h];rfl
end
end Go.Ab
end
/- Regions: operations one behind the other. -/
section
namespace Go.Ab
structure AOper where
  dst:ON
  op:AOp
  guard:Option (Nat × Bool)
def Env.put (E:Env) (d:ON) (v:AV):Env:=fun t=>if d=some t then v else E t
theorem Env.put_some (E:Env) (d:Nat) (v:AV) (t:Nat):E.put (some d) v t=if d=t then v else E t:=by
 unfold Env.put
 by_cases h:d=t <;> simp [h]
def AV.det:AV->Prop
 | .bool _=>True
 | .undef=>True
 | _=>False
def AV.yb:AV->Option Bool
 | .bool b=>some b
 | _=>none
def zG (P:Program) (f:FuncId) (args:List AV) (H:AHeap) (r:AV):Prop:=qK P f args H fun r' H'=>r'=r/\H'=H
def bZ (P:Program) (E:Env) (H:AHeap) (c:Prop) [Decidable c] (op:AOp) (k:AV->Prop):Prop:=
 match op with
 | .call f args=>∃ r,(c->zG P f (args.map (·.ev E)) H r)/\k (if c then r else .undef)
 | .callV g args=>match g.ev E with
  | .func f first cap=>∃ r,(c->zG P f (first ++ args.map (·.ev E) ++ cap) H r)/\k (if c then r else .undef)
  | _=>¬ c/\k .undef
 | op=>match zS E H.get op with
  | some r=>k (if c then r else .undef)
  | none=>¬ c/\k .undef
def vE (P:Program):List AOper->Env->AHeap->(Env->AHeap->Prop)->Prop
 | [],E,H,k=>k E H
 | o :: rest,E,H,k=>match o.guard with
  | none=>mE P E H (fun r H'=>vE P rest (E.put o.dst r) H' k) o.op
  | some (t,want)=>(E t).det/\bZ P E H ((E t).yb=some want) o.op fun r=>vE P rest (E.put o.dst r) H k
section
variable (P:Program) (N:Nat)
def qJS (d:ON):Bool:=match d with
 | none=>true
 | some d=>d < N
def qBS (ops:Array Oper) (o:Oper):Option AOper:=
 match o.guard with
 | none=>do if qJS N o.dst then some { dst:=o.dst,op:=<- jH P o.op,guard:=none } else none
 | some (j,want)=>do
  let g <- ops[j]?
  let t <- g.dst
  if qJS N o.dst && t < N then some { dst:=o.dst,op:=<- jH P o.op,guard:=some (t,want) } else none
def qGM (f:FuncId):Bool:=match P.funcs[f]? with
 | some fn => fn.nfree == 0 && (fn.params.size == 2 && (fn.resultTypes.size == 1 && fn.name == "(*loop.example/g01204/impl.LandMap).put"))
 | none=>false
def qEt (o:AOper):AOper:=match o.guard with
 | some (t,want)=>match o.op with
  | .call f args=>if qGM P f then ⟨o.dst,.callI t want f args,none⟩ else o
  | _=>o
 | none=>o
end
section
variable {P:Program} {N:Nat} {μ:Mu} {E:Env} {a:Act} {F:Nat->Prop} {H:AHeap} {w:World}
theorem RE.put (he:RE μ E a) {d:ON} (hd:qJS a.tmps.size d=true) {x:AV} {v:Value} (hr:R μ x v):RE μ (E.put d x) (a.put d v):=by
 cases d with
 | none=>exact he
 | some d =>
  intro t
  rw [Env.put_some]
  simp only [Act.put,Array.getD_eq_getD_getElem?,Array.getElem?_setIfInBounds]
  simp only [qJS,decide_eq_true_eq] at hd
  split
  ·rename_i h;subst h;simpa [hd] using hr
  ·have:=he t
   rwa [Array.getD_eq_getD_getElem?] at this
theorem qAX (a:Act) (d:ON) (v:Value):(a.put d v).tmps.size=a.tmps.size:=by
 cases d <;> simp [Act.put]
theorem put_defers (a:Act) (d:ON) (v:Value):(a.put d v).defers=a.defers:=by
 cases d <;> simp [Act.put]
theorem RE.ext (hs:Sim F μ H w) (he:RE μ E a) {μ' : Mu} (hx:Mu.ext H.next μ μ'):RE μ' E a:=fun t=>hs.lift hx (he t)
structure At (F:Nat->Prop) (N n0:Nat) (μ0:Mu) (w0:World) (μ:Mu) (E:Env) (H:AHeap) (a:Act) (w:World):Prop where
  sim:Sim F μ H w
  env:RE μ E a
  size:a.tmps.size=N
  defers:a.defers=[]
  keeps:Keeps F w0 w
  ext:Mu.ext n0 μ0 μ
  next:n0<=H.next
def qIu (F:Nat->Prop) (N n0:Nat) (μ0:Mu) (w0:World) (k:Env->AHeap->Prop) (a:Act) (w:World):Prop:=
 ∃ μ E H,k E H/\At F N n0 μ0 w0 μ E H a w
theorem qIu.mono {n0:Nat} {μ0:Mu} {w0:World} {k k' : Env->AHeap->Prop} (h:qIu F N n0 μ0 w0 k a w) (hk:∀ E H,k E H->k' E H):qIu F N n0 μ0 w0 k' a w:=by
 obtain⟨μ,E,H,h1,h2⟩:=h
 exact⟨μ,E,H,hk _ _ h1,h2⟩
theorem qEw {o:Oper} {next:Act->World->Prop} {Q:Exit->Act->World->Prop} {r:Result Next} (h:vX P (fun v w'=>next (a.put o.dst v) w') r):o.upon P a next Q r:=by
 cases r with
 | ok n w' =>
  cases n <;> simp only [vX] at h
  case value v=>exact h
  case skip=>exact h
  case enter f args =>
   refine Calls.mono h ?_
   rintro e w'' ⟨v,rfl,hv⟩
   exact hv
 | halt x w'=>exact h.elim
theorem pJ {o:Oper} {k:VK} {next:Act->World->Prop} {Q:Exit->Act->World->Prop} (h:vX P (Out F μ H w k) ((execOp a.eval o).run P w))
  (hn:∀ v w',Out F μ H w k v w'->next (a.put o.dst v) w'):o.wp P a w next Q:=
 qEw (h.mono hn)
theorem At.step {n0:Nat} {μ0:Mu} {w0:World} (h:At F N n0 μ0 w0 μ E H a w) {o:Oper} (hd:qJS N o.dst=true) {μ' : Mu} {r:AV} {H' : AHeap} {v:Value} {w' : World}
  (hn:H.next<=H'.next) (hx:Mu.ext H.next μ μ') (hs:Sim F μ' H' w') (hr:R μ' r v) (hk:Keeps F w w'):At F N n0 μ0 w0 μ' (E.put o.dst r) H' (a.put o.dst v) w':=
 ⟨hs,(RE.ext h.sim h.env hx).put (by rw [h.size];exact hd) hr,by rw [qAX];exact h.size,by rw [put_defers];exact h.defers,h.keeps.trans hk,Mu.ext_trans h.ext hx h.next,Nat.le_trans h.next hn⟩
theorem qLI {ops:Array Oper} {j t:Nat} {g:Oper} (hj:ops[j]? = some g) (hg:g.dst=some t) (ht:t < a.tmps.size) (he:RE μ E a) (hd:(E t).det):yielded ops a.tmps j=(E t).yb:=by
 have h:=he t
 have hv:a.tmps[t]? = some (a.tmps.getD t Go.undef):=by
  rw [Array.getD_eq_getD_getElem?,Array.getElem?_eq_getElem ht];rfl
 unfold yielded
 rw [hj]
 simp only [Option.bind_some,hg,hv]
 generalize a.tmps.getD t Go.undef=v at h
 cases hE:E t <;> rw [hE] at h hd <;> simp only [AV.det] at hd
 ·cases h;rfl
 ·cases h;rfl
theorem uC {ops:Array Oper} {o:Oper} {j t:Nat} {want:Bool} {g:Oper} (hg:o.guard=some (j,want)) (hj:ops[j]? = some g) (hgd:g.dst=some t) (ht:t < N) (hdst:qJS N o.dst=true) {ao:AOp} (hc:jH P o.op=some ao)
  {n0:Nat} {μ0:Mu} {w0:World} (h:At F N n0 μ0 w0 μ E H a w) (hdet:(E t).det) {k:AV->Prop} (hk:bZ P E H ((E t).yb=some want) ao k) {next:Act->World->Prop} {Q:Exit->Act->World->Prop}
  (hn:∀ r μ' a' w',k r->a'.tmps.size=N->At F N n0 μ0 w0 μ' (E.put o.dst r) H a' w'->Mu.ext H.next μ μ'->next a' w') :
  if Region.wanted o (yielded ops a.tmps) then o.wp P a w next Q \/ (o.asks P a w/\LetsOut Q) else next (a.put o.dst Go.undef) w:=by
 have hy:yielded ops a.tmps j=(E t).yb:=qLI hj hgd (by rw [h.size];exact ht) h.env hdet
 have hw:Region.wanted o (yielded ops a.tmps)=((E t).yb == some want):=by unfold Region.wanted;rw [hg,<- hy]
 rw [hw]
 by_cases hc' : (E t).yb=some want
 ·rw [if_pos (by simp [hc'])]
  left
  have fin:∀ {r:AV},k r->vX P (Out F μ H w fun r' H'=>r'=r/\H'=H) ((execOp a.eval o).run P w)->o.wp P a w next Q:=by
   intro r hkr hok
   refine pJ hok ?_
   rintro v w' ⟨μ',r',H',⟨rfl,rfl⟩,h1,h2,h3,h4,h5⟩
   exact hn _ μ' _ _ hkr (by rw [qAX];exact h.size) (h.step hdst h1 h2 h3 h4 h5) h2
  unfold bZ at hk
  split at hk
  ·rename_i f args
   obtain⟨r,hp,hk⟩:=hk
   rw [if_pos hc'] at hk
   exact fin hk (dF hc (hp hc') h.sim h.env)
  ·rename_i g' args
   split at hk
   ·rename_i f first cap hE
    obtain⟨r,hp,hk⟩:=hk
    rw [if_pos hc'] at hk
    refine fin hk (dF hc ?_ h.sim h.env)
    simp only [mE,hE]
    exact hp hc'
   ·exact absurd hc' hk.1
  ·split at hk
   ·rename_i r hr
    rw [if_pos hc'] at hk
    obtain⟨v,w',h1,h2,h3⟩:=cK hc hr h.sim h.env
    refine fin hk ?_
    rw [h1]
    exact Out.drew ⟨rfl,rfl⟩ h.sim h3 h2
   ·exact absurd hc' hk.1
 ·rw [if_neg (by simpa using hc')]
  have hk' : k .undef:=by
   unfold bZ at hk
   split at hk
   ·obtain⟨r,hp,hk⟩:=hk;rwa [if_neg hc'] at hk
   ·split at hk
    ·obtain⟨r,hp,hk⟩:=hk;rwa [if_neg hc'] at hk
    ·exact hk.2
   ·split at hk
    ·rwa [if_neg hc'] at hk
    ·exact hk.2
  exact hn _ μ _ _ hk' (by rw [qAX];exact h.size) (h.step hdst (Nat.le_refl _) (Mu.ext_refl _ _) h.sim .undef (Keeps.refl _ _)) (Mu.ext_refl _ _)
theorem dG {ops:Array Oper} {n0:Nat} {μ0:Mu} {w0:World} {Q:Exit->Act->World->Prop} {k:Env->AHeap->Prop} (hQ:∀ a w,qIu F N n0 μ0 w0 k a w->Q .normal a w) :
  ∀ (l:List Oper) (cl:List AOper) (i:Nat) (μ:Mu) (E:Env) (H:AHeap) (a:Act) (w:World),(∀ j,l[j]? = ops[i+j]?)->l.mapM (qBS P N ops)=some cl->At F N n0 μ0 w0 μ E H a w->vE P (cl.map (qEt P)) E H k ->
   wpOps P ops Q (List.range' i l.length) a w
 | [],cl,i,μ,E,H,a,w,_,hm,h,hr=>by
  simp at hm;subst hm
  exact hQ a w ⟨μ,E,H,hr,h⟩
 | o :: l,cl,i,μ,E,H,a,w,hl,hm,h,hr=>by
  have h0:ops[i]? = some o:=by simpa using (hl 0).symm
  simp only [List.mapM_cons,Option.bind_eq_bind,Option.bind_eq_some_iff,Option.pure_def,Option.some.injEq] at hm
  obtain⟨co,hco,cl',hcl,rfl⟩:=hm
  have hl' : ∀ j,l[j]? = ops[i+1+j]?:=fun j=>by have:=hl (j+1);simpa [Nat.add_assoc,Nat.add_comm 1 j] using this
  simp only [List.length_cons,List.range'_succ]
  simp only [wpOps,h0]
  unfold qBS at hco
  cases hg:o.guard with
  | none =>
   rw [hg] at hco
   simp only at hco
   split at hco
   ·rename_i hd
    simp only [Option.bind_eq_bind,Option.bind_eq_some_iff,Option.some.injEq] at hco
    obtain⟨ao,hc,rfl⟩:=hco
    rw [List.map_cons,show qEt P ⟨o.dst,ao,none⟩=⟨o.dst,ao,none⟩ from rfl] at hr
    simp only [vE] at hr
    have hw:Region.wanted o (yielded ops a.tmps)=true:=by unfold Region.wanted;rw [hg]
    rw [if_pos hw]
    left
    refine pJ (dF hc hr h.sim h.env) ?_
    rintro v w' ⟨μ',r,H',h1,h2,h3,h4,h5,h6⟩
    exact dG hQ l cl' (i+1) μ' _ H' _ w' hl' hcl (h.step hd h2 h3 h4 h5 h6) h1
   ·cases hco
  | some jw =>
   obtain⟨j,want⟩:=jw
   rw [hg] at hco
   simp only [Option.bind_eq_bind,Option.bind_eq_some_iff] at hco
   obtain⟨g,hj,t,hgd,hco⟩:=hco
   split at hco
   ·rename_i hd
    simp only [Bool.and_eq_true,decide_eq_true_eq] at hd
    simp only [Option.bind_eq_some_iff,Option.some.injEq] at hco
    obtain⟨ao,hc,rfl⟩:=hco
    rw [List.map_cons] at hr
    by_cases hch:∃ f args,ao=.call f args/\qGM P f=true
    ·obtain⟨f,args,rfl,hch⟩:=hch
     rw [show qEt P ⟨o.dst,.call f args,some (t,want)⟩=⟨o.dst,.callI t want f args,none⟩ by simp only [qEt];rw [if_pos hch]] at hr
     simp only [vE,mE] at hr
     have hdet:(E t).det:=by
      cases hE:E t <;> rw [hE] at hr <;> first | trivial | exact hr.elim
     have hy:yielded ops a.tmps j=(E t).yb:=qLI hj hgd (by rw [h.size];exact hd.2) h.env hdet
     have hw:Region.wanted o (yielded ops a.tmps)=((E t).yb == some want):=by unfold Region.wanted;rw [hg,<- hy]
     rw [hw]
     by_cases hc' : (E t).yb=some want
     ·rw [if_pos (by simp [hc'])]
      left
      have hE:E t=.bool want:=by
       cases hE:E t <;> rw [hE] at hc' <;> simp only [AV.yb] at hc' <;> first | (cases hc';rfl) | cases hc'
      rw [hE] at hr
      simp only [if_true] at hr
      refine pJ (dF hc hr h.sim h.env) ?_
      rintro v w' ⟨μ',r,H',h1,h2,h3,h4,h5,h6⟩
      exact dG hQ l cl' (i+1) μ' _ H' _ w' hl' hcl (h.step hd.1 h2 h3 h4 h5 h6) h1
     ·rw [if_neg (by simpa using hc')]
      have hk' : vE P (cl'.map (qEt P)) (E.put o.dst .undef) H k:=by
       cases hE:E t <;> rw [hE] at hr hc' <;> first | exact hr.elim | exact hr | skip
       simp only [] at hr
       rw [if_neg (fun e=>hc' (by rw [e];rfl))] at hr
       exact hr
      exact dG hQ l cl' (i+1) μ _ H _ w hl' hcl (h.step hd.1 (Nat.le_refl _) (Mu.ext_refl _ _) h.sim .undef (Keeps.refl _ _)) hk'
    rw [show qEt P ⟨o.dst,ao,some (t,want)⟩=⟨o.dst,ao,some (t,want)⟩ by
     unfold qEt
     cases ao <;> first | rfl | skip
     rename_i f args
     simp only []
     rw [if_neg (fun e=>hch ⟨f,args,rfl,e⟩)]] at hr
    simp only [vE] at hr
    exact uC hg hj hgd hd.2 hd.1 hc h hr.1 hr.2 (fun r μ' a' w' hk _ hat _=>dG hQ l cl' (i+1) μ' _ H _ w' hl' hcl hat hk)
   ·cases hco
end
end Go.Ab
end
/- Regions whose order is drawn: operations that are ready are done ahead. -/
section
namespace Go.Ab
structure Grew (H H' : AHeap):Prop where
  next:H.next<=H'.next
  get:∀ l,l < H.next->H'.get l=H.get l
theorem Grew.refl (H:AHeap):Grew H H:=⟨Nat.le_refl _,fun _ _=>rfl⟩
theorem Grew.trans {A B C:AHeap} (h:Grew A B) (k:Grew B C):Grew A C:=⟨Nat.le_trans h.next k.next,fun l hl=>(k.get l (Nat.lt_of_lt_of_le hl h.next)).trans (h.get l hl)⟩
theorem Grew.new {H H' : AHeap} (h:Grew H H') (b:HB):Grew H (H'.new b):=
 ⟨by rw [AHeap.new_next];have:=h.next;omega,fun l hl=>by rw [AHeap.new_get,if_neg (by have:=h.next;omega)];exact h.get l hl⟩
theorem Grew.put {H H' : AHeap} (h:Grew H H') {l:Nat} (hl:H.next<=l) (b:HB):Grew H (H'.put l b):=
 ⟨h.next,fun l' hl'=>by rw [AHeap.put_get,if_neg om];exact h.get l' hl'⟩
theorem Grew.del {H H' : AHeap} (h:Grew H H') {l:Nat} (hl:H.next<=l):Grew H (H'.del l):=
 ⟨h.next,fun l' hl'=>by rw [AHeap.del_get,if_neg om];exact h.get l' hl'⟩
theorem Grew.at {H H' : AHeap} (h:Grew H H') {l:Nat} {b:HB} (hg:H.get l=some b):H'.get l=some b:=by rw [h.get l (H.lt_of_get hg)];exact hg
/-! ### What an operation reads -/
def Opd.reads:Opd->List Nat
 | .tmp t=>[t]
 | .const _=>[]
def wS:Option Opd->List Nat
 | some x=>x.reads
 | none=>[]
def kV (ps:List (Nat × Nat × Opd)):List Nat:=ps.flatMap fun p=>p.2.2.reads
def AOp.reads:AOp->List Nat
 | .move x=>x.reads
 | .pick c a b=>c.reads ++ a.reads ++ b.reads
 | .load _ _ a=>a.reads
 | .nilCheck x=>x.reads
 | .bin _ x y=>x.reads ++ y.reads
 | .eqAgg _ _ _ x y=>x.reads ++ y.reads
 | .eqBool _ x y=>x.reads ++ y.reads
 | .eqNilI _ x y=>x.reads ++ y.reads
 | .eqNilS _ x y=>x.reads ++ y.reads
 | .un _ x=>x.reads
 | .conv _ x=>x.reads
 | .fn _ as bs=>as.flatMap Opd.reads ++ bs.flatMap Opd.reads
 | .build _ ps=>kV ps
 | .slArr _ _ x lo hi mx=>x.reads ++ wS lo ++ wS hi ++ wS mx
 | .slSl _ x lo hi mx=>x.reads ++ wS lo ++ wS hi ++ wS mx
 | .slStr x lo hi=>x.reads ++ wS lo ++ wS hi
 | .faddr _ x=>x.reads
 | .field _ _ _ x=>x.reads
 | .iaArr _ _ x i=>x.reads ++ i.reads
 | .iaSl _ x i=>x.reads ++ i.reads
 | .ixArr _ _ _ x i=>x.reads ++ i.reads
 | .ixStr x i=>x.reads ++ i.reads
 | .extract _ x=>x.reads
 | .len x=>x.reads
 | .lenStr x=>x.reads
 | .lenC _=>[]
 | .cap x=>x.reads
 | .min2 x y=>x.reads ++ y.reads
 | .max2 x y=>x.reads ++ y.reads
 | .max4 x y z w=>x.reads ++ y.reads ++ (z.reads ++ w.reads)
 | .lookup _ _ x k=>x.reads ++ k.reads
 | .iface _ x=>x.reads
 | .alloc _=>[]
 | .box x=>x.reads
 | .bslice _ _ _ ps=>kV ps
 | .store _ a x=>a.reads ++ x.reads
 | .mkSlice _ _ _ x y=>x.reads ++ y.reads
 | .append _ _ x y=>x.reads ++ y.reads
 | .appendZ _ _ _ x y=>x.reads ++ y.reads
 | .copy _ x y=>x.reads ++ y.reads
 | .clear _ _ x=>x.reads
 | .makeMap=>[]
 | .mapUpdate x k v=>x.reads ++ k.reads ++ v.reads
 | .call _ as=>as.flatMap Opd.reads
 | .callV f as=>f.reads ++ as.flatMap Opd.reads
 | .callI t _ _ as=>t :: as.flatMap Opd.reads
def AOp.quiet:AOp->Bool
 | .alloc _=>false
 | .box _=>false
 | .bslice _ _ _ _=>false
 | .store _ _ _=>false
 | .mkSlice _ _ _ _ _=>false
 | .append _ _ _ _=>false
 | .appendZ _ _ _ _ _=>false
 | .copy _ _ _=>false
 | .clear _ _ _=>false
 | .makeMap=>false
 | .mapUpdate _ _ _=>false
 | .call _ _=>false
 | .callV _ _=>false
 | .callI _ _ _ _=>false
 | _=>true
def AOp.free:AOp->Bool
 | .load _ _ _=>false
 | .conv _ _=>false
 | .slArr _ _ _ _ _ _=>false
 | .lookup _ _ _ _=>false
 | op=>op.quiet
theorem Opd.agree {E E' : Env} {x:Opd} (h:∀ t ∈ x.reads,E t=E' t):x.ev E=x.ev E':=by
 cases x with
 | tmp t=>exact h t (by simp [Opd.reads])
 | const a=>rfl
theorem yZ {E E' : Env} {x:Option Opd} (h:∀ t ∈ wS x,E t=E' t):x.map (·.ev E)=x.map (·.ev E'):=by
 cases x with
 | none=>rfl
 | some x=>exact congrArg some (Opd.agree h)
theorem vR {E E' : Env}:∀ {as:List Opd},(∀ t ∈ as.flatMap Opd.reads,E t=E' t)->as.map (·.ev E)=as.map (·.ev E')
 | [],_=>rfl
 | a :: as,h=>by
  simp only [List.flatMap_cons,List.mem_append] at h
  simp only [List.map_cons]
  rw [Opd.agree fun t ht=>h t (.inl ht),vR fun t ht=>h t (.inr ht)]
theorem cM {E E' : Env}:∀ {ps:List (Nat × Nat × Opd)} {cs:List AV},(∀ t ∈ kV ps,E t=E' t)->uY E cs ps=uY E' cs ps
 | [],cs,_=>rfl
 | (o,s,x) :: ps,cs,h=>by
  simp only [kV,List.flatMap_cons,List.mem_append] at h
  simp only [uY]
  rw [Opd.agree fun t ht=>h t (.inl ht)]
  cases (x.ev E').cells with
  | none=>rfl
  | some vs =>
   simp only []
   split
   ·exact cM fun t ht=>h t (.inr ht)
   ·rfl
theorem yN {E E' : Env} {g:Nat->Option HB} {op:AOp} (h:∀ t ∈ op.reads,E t=E' t):zS E g op=zS E' g op:=by
 cases op <;> simp only [AOp.reads,List.mem_append] at h <;> simp only [zS] <;> first | rfl | skip
 case fn f as bs=>rw [vR fun t ht=>h t (.inl ht),vR fun t ht=>h t (.inr ht)]
 case build zs ps=>rw [cM h]
 case slArr n sz x lo hi mx=>rw [Opd.agree fun t ht=>h t (.inl (.inl (.inl ht))),yZ fun t ht=>h t (.inl (.inl (.inr ht))),yZ fun t ht=>h t (.inl (.inr ht)),yZ fun t ht=>h t (.inr ht)]
 case slSl sz x lo hi mx=>rw [Opd.agree fun t ht=>h t (.inl (.inl (.inl ht))),yZ fun t ht=>h t (.inl (.inl (.inr ht))),yZ fun t ht=>h t (.inl (.inr ht)),yZ fun t ht=>h t (.inr ht)]
 case slStr x lo hi=>rw [Opd.agree fun t ht=>h t (.inl (.inl ht)),yZ fun t ht=>h t (.inl (.inr ht)),yZ fun t ht=>h t (.inr ht)]
 case pick c a b=>rw [Opd.agree fun t ht=>h t (.inl (.inl ht)),Opd.agree fun t ht=>h t (.inl (.inr ht)),Opd.agree fun t ht=>h t (.inr ht)]
 case max4 x y z w=>rw [Opd.agree fun t ht=>h t (.inl (.inl ht)),Opd.agree fun t ht=>h t (.inl (.inr ht)),Opd.agree fun t ht=>h t (.inr (.inl ht)),Opd.agree fun t ht=>h t (.inr (.inr ht))]
 all_goals first
  | rw [Opd.agree h]
  | rw [Opd.agree fun t ht=>h t (.inl ht),Opd.agree fun t ht=>h t (.inr ht)]
theorem qDu {E:Env} {g g' : Nat->Option HB} {op:AOp} (h:op.free=true):zS E g op=zS E g' op:=by
 cases op <;> first | rfl | cases h
theorem qGG {E:Env} {H H' : AHeap} (hg:Grew H H') {op:AOp} {r:AV} (h:zS E H.get op=some r):zS E H'.get op=some r:=by
 by_cases hf:op.free=true
 ·rw [<- qDu (g:=H.get) hf];exact h
 ·cases op <;> first | (exact absurd rfl hf) | (simp only [zS] at h;cases h;done) | skip
  case load ag n a =>
   simp only [zS] at h ⊢
   split at h
   ·rename_i l off ha
    split at h
    ·rename_i cs wr hb;rw [hg.at hb];exact h
    ·cases h
   ·cases h
  case conv c x =>
   simp only [zS] at h ⊢
   generalize x.ev E=v at h
   cases c <;> cases v <;> simp only [dS] at h ⊢ <;> first | exact h | (cases h;done) | skip
   split at h
   ·rename_i hc
    rw [if_pos hc]
    split at h
    ·rename_i cs wr hb;rw [hg.at hb];exact h
    ·cases h
   ·rename_i hc;rw [if_neg hc];exact h
  case slArr n sz x lo hi mx =>
   simp only [zS] at h ⊢
   split at h
   ·split at h
    ·rename_i cs wr hb;rw [hg.at hb];exact h
    ·cases h
   ·cases h
  case lookup z ok x k =>
   simp only [zS] at h ⊢
   split at h
   ·split at h
    ·rename_i es hb;rw [hg.at hb];exact h
    ·cases h
   ·cases h
theorem qFP {P:Program} {E E' : Env} {H:AHeap} {k:VK} {op:AOp} (h:∀ t ∈ op.reads,E t=E' t):mE P E H k op=mE P E' H k op:=by
 by_cases hq:op.quiet=true
 ·have:=yN (g:=H.get) h
  cases op <;> first | (cases hq;done) | (simp only [mE];rw [this])
 ·cases op <;> first | (exact absurd rfl hq) | skip
  all_goals simp only [AOp.reads,List.mem_append] at h;simp only [mE]
  case box x=>rw [Opd.agree h]
  case bslice a b c d=>rw [cM h]
  case clear a b x=>rw [Opd.agree h]
  case mapUpdate x y z=>rw [Opd.agree fun t ht=>h t (.inl (.inl ht)),Opd.agree fun t ht=>h t (.inl (.inr ht)),Opd.agree fun t ht=>h t (.inr ht)]
  case call f as=>rw [vR h]
  case callV f as=>rw [Opd.agree fun t ht=>h t (.inl ht),vR fun t ht=>h t (.inr ht)]
  case callI t0 w f as=>rw [h t0 (List.mem_cons_self ..),vR fun t ht=>h t (List.mem_cons_of_mem _ ht)]
  all_goals rw [Opd.agree fun t ht=>h t (.inl ht),Opd.agree fun t ht=>h t (.inr ht)]
theorem qEJ {P:Program} {E E' : Env} {H:AHeap} {c:Prop} [Decidable c] {k:AV->Prop} {op:AOp} (h:∀ t ∈ op.reads,E t=E' t):bZ P E H c op k=bZ P E' H c op k:=by
 have hv:=yN (g:=H.get) h
 cases op
 case call f as =>
  simp only [AOp.reads] at h
  simp only [bZ]
  rw [vR h]
 case callV f as =>
  simp only [AOp.reads,List.mem_append] at h
  simp only [bZ]
  rw [Opd.agree fun t ht=>h t (.inl ht),vR fun t ht=>h t (.inr ht)]
 all_goals
  unfold bZ
  simp only []
  rw [hv]
/-! ### Plans -/
mutual
inductive STree where
  | node (qs:List Nat) (kids:SKids)
inductive SKids where
  | nil
  | cons (i:Nat) (free:Bool) (t:STree) (rest:SKids)
end
mutual
inductive ATree where
  | node (qs:List AOper) (kids:AKids)
inductive AKids where
  | nil
  | cons (free:Bool) (o:AOper) (t:ATree) (rest:AKids)
end
def SKids.ids:SKids->List Nat
 | .nil=>[]
 | .cons i _ _ rest=>i :: rest.ids
def AKids.isNil:AKids->Bool
 | .nil=>true
 | .cons _ _ _ _=>false
mutual
def qFZ (cos:Nat->AOper):STree->ATree
 | .node qs kids=>.node (qs.map cos) (qDG cos kids)
def qDG (cos:Nat->AOper):SKids->AKids
 | .nil=>.nil
 | .cons i free t rest=>.cons free (cos i) (qFZ cos t) (qDG cos rest)
end
mutual
def qDq (P:Program):ATree->Env->AHeap->(Env->AHeap->Prop)->Prop
 | .node qs kids,E,H,k=>vE P qs E H fun E H=>(kids.isNil=true->k E H)/\qAB P kids E H k
def qAB (P:Program):AKids->Env->AHeap->(Env->AHeap->Prop)->Prop
 | .nil,_,_,_=>True
 | .cons free o t rest,E,H,k=>vE P [o] E H (fun E' H'=>(free=true \/ Grew H H')/\qDq P t E' H' k)/\qAB P rest E H k
end
def AOper.readsG (o:AOper):List Nat:=o.op.reads ++ (match o.guard with | some (t,_)=>[t] | none=>[])
def AOper.ahead (o:AOper):Bool:=o.op.quiet || (match o.op with | .alloc _=>o.guard.isNone && o.dst.isSome | _=>false)
def wF (preds:Nat->List Nat):Nat->List Nat->List Nat
 | 0,l=>l
 | f+1,l=>l ++ wF preds f (l.flatMap preds)
theorem qAw {preds:Nat->List Nat} {Q:Nat->Prop} (hc:∀ j,Q j -> ∀ k ∈ preds j,Q k):∀ (f:Nat) {l:List Nat},(∀ j ∈ l,Q j) -> ∀ j ∈ wF preds f l,Q j
 | 0,_,h,j,hj=>h j hj
 | f+1,l,h,j,hj=>by
  simp only [wF,List.mem_append] at hj
  rcases hj with hj | hj
  ·exact h j hj
  ·refine qAw hc f (fun k hk=>?_) j hj
   obtain⟨x,hx,hk⟩:=List.mem_flatMap.1 hk
   exact hc x (h x hx) k hk
section
variable (n:Nat) (cos:Nat->AOper) (preds:Nat->List Nat)
def qEA (done:List Nat) (i:Nat):Bool:=
  decide (i < n) && !done.contains i &&
  (match (cos i).dst with
   | none=>true
   | some d=>!(cos i).readsG.contains d && done.all fun j=>(!(cos j).readsG.contains d || (preds i).contains j) && !((cos j).dst == some d))
def qFq (done:List Nat) (i:Nat):Bool:=
 match (cos i).dst with
 | none=>true
 | some d=>(done.all fun j=>!(cos j).readsG.contains d) && (List.range n).all fun q=>!(cos q).readsG.contains d || (preds q).contains i
def okQ:List Nat->List Nat->Bool
 | _,[]=>true
 | done,i :: qs=>qEA n cos preds done i && (cos i).ahead && (preds i).all done.contains && qFq n cos preds done i && okQ (done ++ [i]) qs
def qGQ (done:List Nat) (kids:SKids):Bool:=
 (List.range n).all (fun i=>done.contains i || !(preds i).all done.contains || kids.ids.contains i) && (!kids.ids.isEmpty || (List.range n).all done.contains)
mutual
def okT (done ah:List Nat):STree->Bool
 | .node qs kids=>okQ n cos preds done qs && qGQ n preds (done ++ qs) kids && okK (done ++ qs) (ah ++ qs) kids
def okK (done ah:List Nat):SKids->Bool
 | .nil=>true
 | .cons i free t rest=>qEA n cos preds done i && (!free || ah.all fun j=>(wF preds 12 (preds i)).contains j || (cos j).op.free) && okT (done ++ [i]) ah t && okK done ah rest
end
end
def qLd (o:AOper):Bool:=match o.op with | .append _ _ _ _=>true | _=>false
def qHf (o:AOper):Bool:=match o.op with | .call _ _=>true | _=>false
def qLe (cos:Nat->AOper) (preds:Nat->List Nat) (i:Nat):Bool:=qHf (cos i) && (preds i).any fun j=>match (cos j).op with | .bslice _ _ _ _=>true | _=>false
def qIP (o:AOper):Bool:=match o.op with | .store _ _ _=>true | _=>false
def qLZ (cos:Nat->AOper) (preds:Nat->List Nat) (all:List Nat):Bool:=
 all.any fun i=>qIP (cos i) && all.any fun k=>(cos k).op.quiet && !(cos k).op.free && !(wF preds 12 (preds i)).contains k && !(wF preds 12 (preds k)).contains i && (wF preds 12 (preds k)).all fun j=>(cos j).ahead
def qLY (cos:Nat->AOper) (preds:Nat->List Nat) (all:List Nat):Bool:=
 qLZ cos preds all || match (all.filter fun i=>qHf (cos i)) with
 | []=>false
 | [_]=>false
 | calls=>calls.any fun i =>
  let r:=wF preds 12 (preds i)
  calls.any (fun j=>r.contains j) && all.any fun k=>(cos k).op.quiet && !(cos k).op.free && !r.contains k && !(wF preds 12 (preds k)).contains i
def qLq (late:Bool) (cos:Nat->AOper) (preds:Nat->List Nat):Nat->List Nat->List Nat->List Nat
 | 0,_,_=>[]
 | f+1,all,done=>match all.find? (fun i=>!done.contains i && (cos i).ahead && (!late || (cos i).op.free || !(cos i).op.quiet) && (preds i).all done.contains && (match (cos i).dst with | none=>true | some d=>(done.all fun j=>!(cos j).readsG.contains d) && all.all fun q=>!(cos q).readsG.contains d || (preds q).contains i)) with
  | some i=>i :: qLq late cos preds f all (done ++ [i])
  | none=>[]
def qHs (cos:Nat->AOper) (preds:Nat->List Nat) (done ah:List Nat) (sub:List Nat->STree):List Nat->SKids
 | []=>.nil
 | i :: rest=>if !done.contains i && (preds i).all done.contains then .cons i ((ah.all fun j=>(preds i).contains j || (cos j).op.free) || ((qLd (cos i) || qLe cos preds i) && ah.all fun j=>(wF preds 12 (preds i)).contains j || (cos j).op.free)) (sub (done ++ [i])) (qHs cos preds done ah sub rest) else qHs cos preds done ah sub rest
def qMk (late:Bool) (cos:Nat->AOper) (preds:Nat->List Nat) (all:List Nat):Nat->List Nat->List Nat->STree
 | 0,_,_=>.node [] .nil
 | f+1,ah,done =>
  let qs:=qLq late cos preds all.length all done
  .node qs (qHs cos preds (done ++ qs) (if late then ah ++ qs else done ++ qs) (qMk late cos preds all f (ah ++ qs)) all)
end Go.Ab
end
/- Drawn regions are sound. -/
section
namespace Go.Ab
section
variable {F:Nat->Prop} {μ:Mu} {H:AHeap} {w:World} {P:Program}
theorem Sim.realise (hs:Sim F μ H w) {l:Nat} {cs:List AV} {c:Array Value} {e:TypeId} (hg:H.get l=some (.row cs true)) (hm:μ l=none) (hl:cs.length<=c.size) (hr:∀ (i:Nat) (a:AV),cs[i]? = some a -> ∃ v,c[i]? = some v/\R μ a v) (n:Nat) :
  Sim F (μ.plus l ⟨w.heap.size,0,c.size⟩) H { w with heap:=w.heap.push (.cells c e),drawn:=n }:=by
 have hle:μ.le (μ.plus l ⟨w.heap.size,0,c.size⟩):=fun l' li' h=>by
  unfold Mu.plus
  rw [if_neg (fun e=>by subst e;rw [hm] at h;cases h)];exact h
 have hnew:∀ l',l' ≠ l->μ.plus l ⟨w.heap.size,0,c.size⟩ l'=μ l':=fun l' h=>by unfold Mu.plus;rw [if_neg h]
 have hat:μ.plus l ⟨w.heap.size,0,c.size⟩ l=some ⟨w.heap.size,0,c.size⟩:=by unfold Mu.plus;rw [if_pos rfl]
 have hpush:∀ b,b < w.heap.size->({ w with heap:=w.heap.push (.cells c e),drawn:=n }:World).heap[b]? = w.heap[b]?:=fun b hb=>pV _ _ _ hb
 refine⟨?_,?_,?_,?_,?_,?_⟩
 ·intro l' li h
  by_cases hl' : l'=l
  ·subst hl'
   rw [hat] at h
   cases h
   exact⟨H.lt_of_get hg,by simp⟩
  ·rw [hnew l' hl'] at h
   obtain⟨h1,h2⟩:=hs.dom l' li h
   exact⟨h1,by simp;omega⟩
 ·intro l' li cs' wr hg' hm'
  by_cases hl' : l'=l
  ·subst hl'
   rw [hg] at hg'
   cases hg'
   rw [hat] at hm'
   cases hm'
   refine⟨c,e,0,0,by simp,by simp,hl,?_,?_⟩
   ·intro i a hi
    obtain⟨v,hv,hR⟩:=hr i a hi
    exact⟨v,by simpa using hv,hR.mono hle⟩
   ·intro _ o _;omega
  ·rw [hnew l' hl'] at hm'
   obtain⟨c',e',lo,hi,h1,h2,h3,h4,h5⟩:=hs.row l' li cs' wr hg' hm'
   refine⟨c',e',lo,hi,by rw [hpush _ (hs.dom l' li hm').2];exact h1,h2,h3,?_,h5⟩
   intro i a hi'
   obtain⟨v,hv,hR⟩:=h4 i a hi'
   exact⟨v,hv,hR.mono hle⟩
 ·intro l' li es hg' hm'
  by_cases hl' : l'=l
  ·subst hl';rw [hg] at hg';cases hg'
  ·rw [hnew l' hl'] at hm'
   obtain⟨ms,ck,h1,h2,h3⟩:=hs.mp l' li es hg' hm'
   exact⟨ms,ck,by rw [hpush _ (hs.dom l' li hm').2];exact h1,h2,fun i e m he hm'=>⟨(h3 i e m he hm').1.mono hle,(h3 i e m he hm').2.mono hle⟩⟩
 ·intro l1 l2 b1 b2 li1 li2 hne hg1 hw hg2 hm1 hm2
  by_cases h1:l1=l
  ·subst h1
   rw [hat] at hm1
   cases hm1
   rw [hnew l2 (Ne.symm hne)] at hm2
   have:=(hs.dom l2 li2 hm2).2
   simp only [ne_eq];omega
  ·rw [hnew l1 h1] at hm1
   by_cases h2:l2=l
   ·subst h2
    rw [hat] at hm2
    cases hm2
    have:=(hs.dom l1 li1 hm1).2
    simp only [ne_eq];omega
   ·rw [hnew l2 h2] at hm2
    exact hs.sep l1 l2 b1 b2 li1 li2 hne hg1 hw hg2 hm1 hm2
 ·intro l1 b li hg1 hw hm1
  by_cases h1:l1=l
  ·subst h1
   rw [hat] at hm1
   cases hm1
   exact hs.fresh _ (Nat.le_refl _)
  ·rw [hnew l1 h1] at hm1
   exact hs.may l1 b li hg1 hw hm1
 ·intro b hb
  exact hs.fresh b (by simp at hb;omega)
end
section
variable (cos:Nat->AOper)
def vW (pend:List Nat) (E:Env):Env:=fun t=>if pend.any (fun p=>(cos p).dst == some t)=true then .any else E t
def qDp (n0:Nat) (E:Env) (H:AHeap) (μ:Mu) (o:AOper):Prop:=
 (o.op.quiet=true/\match o.guard with
  | none=>∃ r,zS E H.get o.op=some r /\ ∀ d,o.dst=some d->E d=r
  | some (t,want)=>(E t).det/\if (E t).yb=some want then ∃ r,zS E H.get o.op=some r /\ ∀ d,o.dst=some d->E d=r else ∀ d,o.dst=some d->E d=.undef) \/
 (∃ zs d l,o.op=.alloc zs/\o.guard=none/\o.dst=some d/\E d=.ptr l 0/\H.get l=some (.row zs true)/\μ l=none/\n0<=l)
end
section
variable {P:Program} {N:Nat} {cos:Nat->AOper} {F:Nat->Prop} {n0:Nat} {μ0:Mu} {w0:World}
theorem qDp.stable {E E' : Env} {H H' : AHeap} {μ μ' : Mu} {o:AOper} (h:qDp n0 E H μ o) (hr:∀ t ∈ o.readsG,E t=E' t) (hd:∀ d,o.dst=some d->E' d=E d) (hg:Grew H H' \/ o.op.free=true) (hm:∀ l,l < H.next->μ' l=μ l):qDp n0 E' H' μ' o:=by
 have hop:∀ t ∈ o.op.reads,E t=E' t:=fun t ht=>hr t (by unfold AOper.readsG;exact List.mem_append_left _ ht)
 have hval:∀ r,zS E H.get o.op=some r->zS E' H'.get o.op=some r:=by
  intro r h
  rw [yN hop] at h
  rcases hg with hg | hg
  ·exact qGG hg h
  ·rw [<- qDu (g:=H.get) hg];exact h
 rcases h with ⟨hq,h⟩ | ⟨zs,d,l,h1,h2,h3,h4,h5,h6,h7⟩
 ·left
  refine⟨hq,?_⟩
  cases hgd:o.guard with
  | none =>
   rw [hgd] at h
   obtain⟨r,h1,h2⟩:=h
   exact⟨r,hval r h1,fun d e=>(hd d e).trans (h2 d e)⟩
  | some tw =>
   obtain⟨t,want⟩:=tw
   rw [hgd] at h
   have ht:E t=E' t:=hr t (by unfold AOper.readsG;rw [hgd];simp)
   simp only [] at h ⊢
   rw [<- ht]
   refine⟨h.1,?_⟩
   have h2:=h.2
   split
   ·rename_i hc
    rw [if_pos hc] at h2
    obtain⟨r,h1,h2⟩:=h2
    exact⟨r,hval r h1,fun d e=>(hd d e).trans (h2 d e)⟩
   ·rename_i hc
    rw [if_neg hc] at h2
    exact fun d e=>(hd d e).trans (h2 d e)
 ·right
  have hl:=H.lt_of_get h5
  refine⟨zs,d,l,h1,h2,h3,(hd d h3).trans h4,?_,(hm l hl).trans h6,h7⟩
  rcases hg with hg | hg
  ·exact hg.at h5
  ·rw [h1] at hg;cases hg
theorem vO {pend:List Nat} {E:Env} {t:Nat} (h:∀ p ∈ pend,(cos p).dst ≠ some t):vW cos pend E t=E t:=by
 unfold vW
 rw [if_neg]
 intro hc
 rw [List.any_eq_true] at hc
 obtain⟨p,hp,he⟩:=hc
 exact h p hp (by simpa using he)
theorem pE {pend:List Nat} {E:Env} {t p:Nat} (hp:p ∈ pend) (h:(cos p).dst=some t):vW cos pend E t=.any:=by
 unfold vW
 rw [if_pos]
 rw [List.any_eq_true]
 exact⟨p,hp,by simpa using h⟩
structure Mid (n:Nat) (cos:Nat->AOper) (preds:Nat->List Nat) (F:Nat->Prop) (N n0:Nat) (μ0:Mu) (w0:World) (done pend:List Nat) (μ:Mu) (E:Env) (H:AHeap) (a:Act) (w:World):Prop where
  at_:At F N n0 μ0 w0 μ (vW cos pend E) H a w
  sub:∀ p ∈ pend,p ∈ done
  lt:∀ p ∈ done,p < n
  nodup:pend.Nodup
  ok:∀ p ∈ pend,qDp n0 E H μ (cos p)
  inj:∀ p ∈ pend,∀ q ∈ pend,p ≠ q -> ∀ zs zs' d d' l,(cos p).op=.alloc zs->(cos q).op=.alloc zs'->(cos p).dst=some d->(cos q).dst=some d'->E d=.ptr l 0->E d' ≠ .ptr l 0
  -- what has been done ahead only later operations read
  strong:∀ p ∈ pend,∀ d,(cos p).dst=some d -> ∀ q,q < n->d ∈ (cos q).readsG->p ∈ preds q
  apart:∀ i ∈ done,∀ j ∈ done,i ≠ j -> ∀ d,(cos i).dst=some d->(cos j).dst ≠ some d
theorem dD {n:Nat} {preds:Nat->List Nat} {done:List Nat} {i:Nat} (h:qEA n cos preds done i=true) :
  i < n/\i ∉ done /\ ∀ d,(cos i).dst=some d->d ∉ (cos i).readsG /\ ∀ j ∈ done,(d ∈ (cos j).readsG->j ∈ preds i)/\(cos j).dst ≠ some d:=by
 unfold qEA at h
 simp only [Bool.and_eq_true,decide_eq_true_eq,Bool.not_eq_true',List.all_eq_true] at h
 obtain⟨⟨h1,h2⟩,h4⟩:=h
 refine⟨h1,by simpa using h2,fun d hd=>?_⟩
 rw [hd] at h4
 simp only [Bool.and_eq_true,Bool.not_eq_true',List.all_eq_true,Bool.or_eq_true] at h4
 refine⟨by simpa using h4.1,fun j hj=>?_⟩
 have:=h4.2 j hj
 refine⟨fun hr=>?_,by simpa using this.2⟩
 rcases this.1 with h | h
 ·exact absurd hr (by simpa using h)
 ·simpa using h
theorem qEK {n:Nat} {preds:Nat->List Nat} {done:List Nat} {i:Nat} (h:qFq n cos preds done i=true) :
  ∀ d,(cos i).dst=some d->(∀ j ∈ done,d ∉ (cos j).readsG) /\ ∀ q,q < n->d ∈ (cos q).readsG->i ∈ preds q:=by
 intro d hd
 unfold qFq at h
 rw [hd] at h
 simp only [Bool.and_eq_true,List.all_eq_true,Bool.not_eq_true',Bool.or_eq_true] at h
 refine⟨fun j hj=>by simpa using h.1 j hj,fun q hq hr=>?_⟩
 rcases h.2 q (by simpa using hq) with h' | h'
 ·exact absurd hr (by simpa using h')
 ·simpa using h'
theorem Mid.add {n:Nat} {preds:Nat->List Nat} {done pend:List Nat} {μ:Mu} {E E' : Env} {H H' : AHeap} {a:Act} {w:World} (m:Mid n cos preds F N n0 μ0 w0 done pend μ E H a w) {i:Nat} (hi:qEA n cos preds done i=true) (hd:qFq n cos preds done i=true)
  (hE:∀ t,(cos i).dst ≠ some t->E' t=E t) (hs:Sim F μ H' w) (hg:Grew H H') (hok:qDp n0 E' H' μ (cos i))
  (hloc:∀ zs d l,(cos i).op=.alloc zs->(cos i).dst=some d->E' d=.ptr l 0->H.next<=l):Mid n cos preds F N n0 μ0 w0 (done ++ [i]) (i :: pend) μ E' H' a w:=by
 obtain⟨h1,h2,h4⟩:=dD hi
 have h5:=qEK hd
 have hip:i ∉ pend:=fun h=>h2 (m.sub i h)
 have stay:∀ p ∈ done,∀ d,(cos p).dst=some d->E' d=E d:=fun p hp d hd=>hE d fun he=>(h4 d he).2 p hp |>.2 hd
 have rd:∀ p ∈ done,∀ t ∈ (cos p).readsG,E t=E' t:=fun p hp t ht=>(hE t fun he=>(h5 t he).1 p hp ht).symm
 refine⟨⟨hs,?_,m.at_.size,m.at_.defers,m.at_.keeps,m.at_.ext,Nat.le_trans m.at_.next hg.next⟩,?_,?_,?_,?_,?_,?_,?_⟩
 ·intro t
  by_cases ht:∃ p ∈ i :: pend,(cos p).dst=some t
  ·obtain⟨p,hp,he⟩:=ht
   rw [pE hp he];exact .any _
  ·have hno:∀ p ∈ i :: pend,(cos p).dst ≠ some t:=fun p hp he=>ht ⟨p,hp,he⟩
   rw [vO hno,hE t (hno i (by simp))]
   have:=m.at_.env t
   rwa [vO fun p hp=>hno p (by simp [hp])] at this
 ·intro p hp
  rcases List.mem_cons.1 hp with rfl | hp
  ·simp
  ·exact List.mem_append_left _ (m.sub p hp)
 ·intro p hp
  rcases List.mem_append.1 hp with hp | hp
  ·exact m.lt p hp
  ·rw [List.mem_singleton] at hp;subst hp;exact h1
 ·exact List.nodup_cons.2 ⟨hip,m.nodup⟩
 ·intro p hp
  rcases List.mem_cons.1 hp with rfl | hp
  ·exact hok
  ·exact(m.ok p hp).stable (rd p (m.sub p hp)) (stay p (m.sub p hp)) (.inl hg) (fun _ _=>rfl)
 ·have old:∀ p ∈ pend,∀ zs d l,(cos p).op=.alloc zs->(cos p).dst=some d->E' d=.ptr l 0->l < H.next:=by
   intro p hp zs d l e1 e2 e3
   rcases m.ok p hp with ⟨hq,_⟩ | ⟨zs',d',l',k1,k2,k3,k4,k5,_⟩
   ·rw [e1] at hq;cases hq
   ·rw [e2] at k3
    cases k3
    rw [stay p (m.sub p hp) d e2,k4] at e3
    cases e3
    exact H.lt_of_get k5
  intro p hp q hq hne zs zs' d d' l e1 e2 e3 e4 e5 e6
  rcases List.mem_cons.1 hp with ep | hp' <;> rcases List.mem_cons.1 hq with eq | hq'
  ·exact hne (ep.trans eq.symm)
  ·subst ep
   have k1:=hloc zs d l e1 e3 e5
   have k2:=old q hq' zs' d' l e2 e4 e6
   omega
  ·subst eq
   have k1:=hloc zs' d' l e2 e4 e6
   have k2:=old p hp' zs d l e1 e3 e5
   omega
  ·rw [stay p (m.sub p hp') d e3] at e5
   rw [stay q (m.sub q hq') d' e4] at e6
   exact m.inj p hp' q hq' hne zs zs' d d' l e1 e2 e3 e4 e5 e6
 ·intro j hj d hd' q hq hr
  rcases List.mem_cons.1 hj with hj | hj
  ·subst hj;exact(h5 d hd').2 q hq hr
  ·exact m.strong j hj d hd' q hq hr
 ·intro p hp q hq hne d e1 e2
  rcases List.mem_append.1 hp with hp' | hp' <;> rcases List.mem_append.1 hq with hq' | hq'
  ·exact m.apart p hp' q hq' hne d e1 e2
  ·rw [List.mem_singleton] at hq';rw [hq'] at e2;exact((h4 d e2).2 p hp').2 e1
  ·rw [List.mem_singleton] at hp';rw [hp'] at e1;exact((h4 d e1).2 q hq').2 e2
  ·rw [List.mem_singleton] at hp' hq';exact hne (hp'.trans hq'.symm)
theorem Mid.run {n:Nat} {preds:Nat->List Nat} {a:Act} {w:World} {μ:Mu}:∀ {qs done pend:List Nat} {E:Env} {H:AHeap} {K:Env->AHeap->Prop},Mid n cos preds F N n0 μ0 w0 done pend μ E H a w->okQ n cos preds done qs=true->vE P (qs.map cos) E H K ->
  ∃ pend' E' H',K E' H'/\Mid n cos preds F N n0 μ0 w0 (done ++ qs) pend' μ E' H' a w /\ ∀ p,p ∈ pend' ↔ p ∈ pend \/ p ∈ qs
 | [],done,pend,E,H,K,m,_,h=>⟨pend,E,H,h,by simpa using m,by simp⟩
 | i :: qs,done,pend,E,H,K,m,hq,h=>by
  simp only [okQ,Bool.and_eq_true] at hq
  obtain⟨⟨⟨⟨hadd,hah⟩,hpre⟩,hhd⟩,hrest⟩:=hq
  obtain⟨k1,k2,k4⟩:=dD hadd
  simp only [List.map_cons,vE] at h
  have fin:∀ {E' : Env} {H' : AHeap},Mid n cos preds F N n0 μ0 w0 (done ++ [i]) (i :: pend) μ E' H' a w->vE P (qs.map cos) E' H' K ->
    ∃ pend' E' H',K E' H'/\Mid n cos preds F N n0 μ0 w0 (done ++ i :: qs) pend' μ E' H' a w /\ ∀ p,p ∈ pend' ↔ p ∈ pend \/ p ∈ i :: qs:=by
   intro E' H' m' h'
   obtain⟨pend',E2,H2,q1,q2,q3⟩:=Mid.run m' hrest h'
   refine⟨pend',E2,H2,q1,by simpa using q2,fun p=>?_⟩
   rw [q3 p]
   simp only [List.mem_cons]
   exact⟨fun h=>by rcases h with (h | h) | h <;> simp [h],fun h=>by rcases h with h | h | h <;> simp [h]⟩
  have self:∀ d,(cos i).dst=some d->d ∉ (cos i).op.reads:=fun d hd hc=>(k4 d hd).1 (by unfold AOper.readsG;exact List.mem_append_left _ hc)
  have putE:∀ (r:AV) t,(cos i).dst ≠ some t->(E.put (cos i).dst r) t=E t:=by
   intro r t ht
   unfold Env.put
   rw [if_neg ht]
  have putD:∀ (r:AV) d,(cos i).dst=some d->(E.put (cos i).dst r) d=r:=by
   intro r d hd
   unfold Env.put
   rw [if_pos hd]
  have rdE:∀ (r:AV),∀ t ∈ (cos i).readsG,E t=(E.put (cos i).dst r) t:=by
   intro r t ht
   rw [putE r t fun he=>(k4 t he).1 ht]
  have opE:∀ (r:AV),∀ t ∈ (cos i).op.reads,E t=(E.put (cos i).dst r) t:=fun r t ht=>rdE r t (by unfold AOper.readsG;exact List.mem_append_left _ ht)
  cases hgd:(cos i).guard with
  | none =>
   rw [hgd] at h
   simp only at h
   by_cases hqu:(cos i).op.quiet=true
   ·have:∃ r,zS E H.get (cos i).op=some r/\vE P (qs.map cos) (E.put (cos i).dst r) H K:=by
     revert h hqu
     cases (cos i).op <;> intro h hqu <;> first | (cases hqu;done) | skip
     all_goals
      simp only [mE] at h
      split at h
      ·rename_i r hr;exact⟨r,hr,h⟩
      ·exact h.elim
    obtain⟨r,hr,h⟩:=this
    refine fin (m.add hadd hhd (putE r) m.at_.sim (Grew.refl _) (.inl ⟨hqu,?_⟩) ?_) h
    ·rw [hgd]
     exact⟨r,by rw [<- yN (opE r)];exact hr,putD r⟩
    ·intro zs d l e1
     rw [e1] at hqu;cases hqu
   ·simp only [AOper.ahead,hqu,Bool.false_or] at hah
    split at hah
    ·rename_i zs hop
     simp only [Bool.and_eq_true,Option.isSome_iff_exists] at hah
     obtain⟨_,d,hd⟩:=hah
     rw [hop] at h
     simp only [mE] at h
     refine fin (m.add hadd hhd (putE _) (m.at_.sim.ghost _) ((Grew.refl _).new _) (.inr ⟨zs,d,H.next,hop,hgd,hd,putD _ d hd,by rw [AHeap.new_get,if_pos rfl],?_,m.at_.next⟩) ?_) h
     ·cases hm:μ H.next with
      | none=>rfl
      | some li=>have:=(m.at_.sim.dom _ _ hm).1;omega
     ·intro zs' d' l e1 e2 e3
      rw [putD _ d' e2] at e3
      cases e3
      exact Nat.le_refl _
    ·cases hah
  | some tw =>
   obtain⟨t,want⟩:=tw
   rw [hgd] at h
   simp only at h
   obtain⟨hdet,h⟩:=h
   have hqu:(cos i).op.quiet=true:=by
    simp only [AOper.ahead,hgd] at hah
    cases hq:(cos i).op.quiet with
    | true=>rfl
    | false=>rw [hq] at hah;split at hah <;> simp at hah
   have ht:t ∈ (cos i).readsG:=by unfold AOper.readsG;rw [hgd];simp
   have:∃ r,((E t).yb=some want -> ∃ r',zS E H.get (cos i).op=some r'/\r=r')/\(¬ (E t).yb=some want->r=.undef)/\vE P (qs.map cos) (E.put (cos i).dst r) H K:=by
    revert h hqu
    unfold bZ
    cases (cos i).op <;> intro h hqu <;> first | (cases hqu;done) | skip
    all_goals
     simp only [] at h
     split at h
     ·rename_i r hr
      exact⟨_,fun hc=>⟨r,hr,by rw [if_pos hc]⟩,fun hc=>by rw [if_neg hc],h⟩
     ·exact⟨.undef,fun hc=>absurd hc h.1,fun _=>rfl,h.2⟩
   obtain⟨r,h1,h2,h⟩:=this
   refine fin (m.add hadd hhd (putE r) m.at_.sim (Grew.refl _) (.inl ⟨hqu,?_⟩) ?_) h
   ·rw [hgd]
    simp only []
    rw [<- rdE r t ht]
    refine⟨hdet,?_⟩
    split
    ·rename_i hc
     obtain⟨r',hr',rfl⟩:=h1 hc
     exact⟨r,by rw [<- yN (opE r)];exact hr',putD r⟩
    ·rename_i hc
     intro d hd
     rw [putD r d hd]
     exact h2 hc
   ·intro zs d l e1
    rw [e1] at hqu;cases hqu
end
end Go.Ab
end
/- Drawn regions are sound: the orders. -/
section
namespace Go.Ab
section
variable {P:Program} {N:Nat} {cos:Nat->AOper} {F:Nat->Prop} {n0:Nat} {μ0:Mu} {w0:World} {ops:Array Oper}
def xL (ops:Array Oper) (i:Nat):List Nat:=match ops[i]? with
 | some o=>o.after.toList.filterMap fun e=>if Region.binds .any e then some e.on else none
 | none=>[]
theorem qDD {o:Oper} {c:AOper} (h:qBS P N ops o=some c):∃ ao,jH P o.op=some ao/\c.dst=o.dst/\c.op=ao/\qJS N o.dst=true /\
  (o.guard=none/\c.guard=none \/ ∃ j want g t,o.guard=some (j,want)/\ops[j]? = some g/\g.dst=some t/\t < N/\c.guard=some (t,want)):=by
 unfold qBS at h
 cases hg:o.guard with
 | none =>
  rw [hg] at h
  simp only at h
  split at h
  ·rename_i hd
   simp only [Option.bind_eq_bind,Option.bind_eq_some_iff,Option.some.injEq] at h
   obtain⟨ao,hc,rfl⟩:=h
   exact⟨ao,hc,rfl,rfl,hd,.inl ⟨rfl,rfl⟩⟩
  ·cases h
 | some jw =>
  obtain⟨j,want⟩:=jw
  rw [hg] at h
  simp only [Option.bind_eq_bind,Option.bind_eq_some_iff] at h
  obtain⟨g,hj,t,hgd,h⟩:=h
  split at h
  ·rename_i hd
   simp only [Bool.and_eq_true,decide_eq_true_eq] at hd
   simp only [Option.bind_eq_some_iff,Option.some.injEq] at h
   obtain⟨ao,hc,rfl⟩:=h
   exact⟨ao,hc,rfl,rfl,hd.1,.inr ⟨j,want,g,t,rfl,hj,hgd,hd.2,rfl⟩⟩
  ·cases h
theorem qJa {pend:List Nat} {E:Env} {i:Nat} {r:AV} (hnd:pend.Nodup) (hok:∀ d,(cos i).dst=some d->E d=r) (hap:∀ p ∈ pend,p ≠ i -> ∀ d,(cos i).dst=some d->(cos p).dst ≠ some d) :
  (vW cos pend E).put (cos i).dst r=vW cos (pend.erase i) E:=by
 funext t
 have hmem:∀ p,p ∈ pend.erase i ↔ p ≠ i/\p ∈ pend:=fun p=>hnd.mem_erase_iff
 by_cases ht:(cos i).dst=some t
 ·have e1:(vW cos pend E).put (cos i).dst r t=r:=by unfold Env.put;rw [if_pos ht]
  rw [e1,vO fun p hp=>hap p ((hmem p).1 hp).2 ((hmem p).1 hp).1 t ht,hok t ht]
 ·have e1:(vW cos pend E).put (cos i).dst r t=vW cos pend E t:=by unfold Env.put;rw [if_neg ht]
  rw [e1]
  by_cases hx:∃ p ∈ pend,(cos p).dst=some t
  ·obtain⟨p,hp,he⟩:=hx
   have hpi:p ≠ i:=fun h=>ht (h ▸ he)
   rw [pE hp he,pE ((hmem p).2 ⟨hpi,hp⟩) he]
  ·have hno:∀ p ∈ pend,(cos p).dst ≠ some t:=fun p hp he=>hx ⟨p,hp,he⟩
   rw [vO hno,vO fun p hp=>hno p ((hmem p).1 hp).2]
theorem Mid.drop {n:Nat} {preds:Nat->List Nat} {done pend:List Nat} {μ μ' : Mu} {E:Env} {H:AHeap} {a a' : Act} {w w' : World} (m:Mid n cos preds F N n0 μ0 w0 done pend μ E H a w) {i:Nat} {r:AV}
  (hi:i ∈ pend) (hok:∀ d,(cos i).dst=some d->E d=r) (hat:At F N n0 μ0 w0 μ' ((vW cos pend E).put (cos i).dst r) H a' w')
  (hm:∀ p ∈ pend,p ≠ i -> ∀ zs d l,(cos p).op=.alloc zs->(cos p).dst=some d->E d=.ptr l 0->μ' l=μ l):Mid n cos preds F N n0 μ0 w0 done (pend.erase i) μ' E H a' w':=by
 have hmem:∀ p,p ∈ pend.erase i ↔ p ≠ i/\p ∈ pend:=fun p=>m.nodup.mem_erase_iff
 rw [qJa m.nodup hok (fun p hp hne d hd he=>m.apart i (m.sub i hi) p (m.sub p hp) (Ne.symm hne) d hd he)] at hat
 refine⟨hat,fun p hp=>m.sub p ((hmem p).1 hp).2,m.lt,m.nodup.erase i,?_,?_,?_,m.apart⟩
 ·intro p hp
  obtain⟨hne,hp⟩:=(hmem p).1 hp
  rcases m.ok p hp with h | ⟨zs,d,l,h1,h2,h3,h4,h5,h6,h7⟩
  ·exact .inl h
  ·exact .inr ⟨zs,d,l,h1,h2,h3,h4,h5,(hm p hp hne zs d l h1 h3 h4).trans h6,h7⟩
 ·intro p hp q hq
  exact m.inj p ((hmem p).1 hp).2 q ((hmem q).1 hq).2
 ·intro p hp
  exact m.strong p ((hmem p).1 hp).2
theorem qIh {n:Nat} {preds:Nat->List Nat} {done pend:List Nat} {μ:Mu} {E:Env} {H:AHeap} {a:Act} {w:World} (m:Mid n cos preds F N n0 μ0 w0 done pend μ E H a w) {i:Nat} {o:Oper}
  (hi:i ∈ pend) (ho:ops[i]? = some o) (hco:qBS P N ops o=some (cos i)) (hrd:∀ t ∈ (cos i).readsG,∀ p ∈ pend,(cos p).dst ≠ some t) {Q:Exit->Act->World->Prop} {K:Act->World->Prop}
  (hK:∀ μ' a' w',Mid n cos preds F N n0 μ0 w0 done (pend.erase i) μ' E H a' w'->K a' w'):wpOp P ops Q i K a w:=by
 obtain⟨ao,hc,hdst,hop,hcd,hgd⟩:=qDD hco
 have unm:∀ t ∈ (cos i).readsG,vW cos pend E t=E t:=fun t ht=>vO (hrd t ht)
 have unop:∀ t ∈ (cos i).op.reads,E t=vW cos pend E t:=fun t ht=>(unm t (by unfold AOper.readsG;exact List.mem_append_left _ ht)).symm
 unfold wpOp
 rw [ho]
 simp only []
 rcases m.ok i hi with ⟨hqu,hval⟩ | ⟨zs,d,l,h1,h2,h3,h4,h5,h6,h7⟩
 ·rcases hgd with ⟨g1,g2⟩ | ⟨j,want,g,t,g1,g2,g3,g4,g5⟩
  ·rw [g2] at hval
   obtain⟨r,hr,hE⟩:=hval
   rw [yN unop,hop] at hr
   have hw:Region.wanted o (yielded ops a.tmps)=true:=by unfold Region.wanted;rw [g1]
   rw [if_pos hw]
   left
   obtain⟨v,w',q1,q2,q3⟩:=cK hc hr m.at_.sim m.at_.env
   refine pJ (F:=F) (μ:=μ) (H:=H) (k:=fun r' H'=>r'=r/\H'=H) (by rw [q1];exact Out.drew ⟨rfl,rfl⟩ m.at_.sim q3 q2) ?_
   rintro v' w'' ⟨μ',r',H',⟨rfl,rfl⟩,k1,k2,k3,k4,k5⟩
   refine hK μ' _ _ (m.drop hi hE (by rw [hdst];exact m.at_.step hcd k1 k2 k3 k4 k5) ?_)
   intro p hp _ zs d l e1 e2 e3
   rcases m.ok p hp with ⟨hq',_⟩ | ⟨zs',d',l',p1,p2,p3,p4,p5,p6,p7⟩
   ·rw [e1] at hq';cases hq'
   ·rw [e2] at p3;cases p3;rw [p4] at e3;cases e3;exact k2 _ (H'.lt_of_get p5)
  ·rw [g5] at hval
   simp only [] at hval
   have ht:t ∈ (cos i).readsG:=by unfold AOper.readsG;rw [g5];simp
   rw [<- unm t ht] at hval
   obtain⟨hdet,hval⟩:=hval
   refine uC (k:=fun r=>∀ d,(cos i).dst=some d->E d=r) g1 g2 g3 g4 hcd hc m.at_ hdet ?_ ?_
   ·rw [<- hop]
    have:∀ op:AOp,op.quiet=true->((vW cos pend E t).yb=some want -> ∃ r,zS (vW cos pend E) H.get op=some r /\ ∀ d,(cos i).dst=some d->E d=r)->(¬ (vW cos pend E t).yb=some want -> ∀ d,(cos i).dst=some d->E d=.undef) ->
      bZ P (vW cos pend E) H ((vW cos pend E t).yb=some want) op fun r=>∀ d,(cos i).dst=some d->E d=r:=by
     intro op hq' v1 v2
     unfold bZ
     cases op <;> first | (cases hq';done) | skip
     all_goals
      simp only []
      split
      ·rename_i r hr
       split
       ·rename_i hc'
        obtain⟨r',h1,h2⟩:=v1 hc'
        rw [hr] at h1
        cases h1
        exact h2
       ·rename_i hc';exact v2 hc'
      ·rename_i hr
       by_cases hc' : (vW cos pend E t).yb=some want
       ·obtain⟨r',h1,_⟩:=v1 hc';rw [hr] at h1;cases h1
       ·exact⟨hc',v2 hc'⟩
    refine this _ hqu ?_ ?_
    ·intro hc'
     rw [if_pos hc'] at hval
     obtain⟨r,hr,hE⟩:=hval
     exact⟨r,by rw [<- yN unop];exact hr,hE⟩
    ·intro hc'
     rw [if_neg hc'] at hval
     exact hval
   ·intro r μ' a' w' hE _ hat k2
    refine hK μ' a' w' (m.drop hi hE (by rw [hdst];exact hat) ?_)
    intro p hp _ zs d l e1 e2 e3
    rcases m.ok p hp with ⟨hq',_⟩ | ⟨zs',d',l',p1,p2,p3,p4,p5,p6,p7⟩
    ·rw [e1] at hq';cases hq'
    ·rw [e2] at p3;cases p3;rw [p4] at e3;cases e3;exact k2 _ (H.lt_of_get p5)
 ·-- an alloc
  have g1:o.guard=none:=by
   rcases hgd with ⟨g1,_⟩ | ⟨_,_,_,_,_,_,_,_,g5⟩
   ·exact g1
   ·rw [h2] at g5;cases g5
  have hw:Region.wanted o (yielded ops a.tmps)=true:=by unfold Region.wanted;rw [g1]
  rw [if_pos hw]
  left
  rw [<- hop,h1] at hc
  obtain⟨t,hot,hz⟩:=qCk hc
  obtain⟨z,hz1,hz2⟩:=gM (μ:=μ) (w:=w) hz
  have hrun:(execOp a.eval o).run P w=.ok (.value (.pointer (some ⟨w.heap.size,0,none⟩))) { w with heap:=w.heap.push (.cells z.cells t) }:=by
   obtain⟨dst,op,type,pos,after,guard⟩:=o
   simp only at hot
   subst hot
   simp only [execOp,Instr.alloc]
   rw [bind_ok (s:=zeroValue t >>= _) (a:=.pointer (some ⟨w.heap.size,0,none⟩)) (w':={ w with heap:=w.heap.push (.cells z.cells t) })]
   ·rfl
   ·rw [bind_ok hz1];rfl
  obtain⟨f1,f2⟩:=RL.full hz2
  have hreal:=m.at_.sim.realise (e:=t) h5 h6 f1 f2 w.drawn
  unfold Oper.wp
  rw [hrun]
  have hplus:∀ l',l' ≠ l->(μ.plus l ⟨w.heap.size,0,z.cells.size⟩) l'=μ l':=fun l' h=>by unfold Mu.plus;rw [if_neg h]
  have hle:μ.le (μ.plus l ⟨w.heap.size,0,z.cells.size⟩):=fun l' li' h=>by rw [hplus l' (fun e=>by subst e;rw [h6] at h;cases h)];exact h
  show K (a.put o.dst _) _
  refine hK (μ.plus l ⟨w.heap.size,0,z.cells.size⟩) _ _ (m.drop (r:=.ptr l 0) hi (fun d' hd'=>by rw [h3] at hd';cases hd';exact h4) ⟨hreal,?_,by rw [qAX];exact m.at_.size,by rw [put_defers];exact m.at_.defers,m.at_.keeps.trans (cX m.at_.sim.fresh _ _),?_,m.at_.next⟩ ?_)
  ·rw [hdst]
   have he' : RE (μ.plus l ⟨w.heap.size,0,z.cells.size⟩) (vW cos pend E) a:=fun t=>(m.at_.env t).mono hle
   refine he'.put (by rw [m.at_.size];exact hcd) (.ptr (li:=⟨w.heap.size,0,z.cells.size⟩) ?_ rfl)
   unfold Mu.plus;rw [if_pos rfl]
  ·exact Mu.ext_trans m.at_.ext (fun l' hl'=>hplus l' om) (Nat.le_refl _)
  ·intro p hp hne zs' d' l' e1 e2 e3
   refine hplus l' ?_
   intro he
   rw [he] at e3
   exact m.inj p hp i hi hne zs' zs d' d l e1 h1 e2 h3 e3 h4
theorem qJr {n:Nat} {preds:Nat->List Nat} {done pend:List Nat} {μ:Mu} {E:Env} {H:AHeap} {a:Act} {w:World} (m:Mid n cos preds F N n0 μ0 w0 done pend μ E H a w) {i:Nat} {o:Oper} {free:Bool}
  (hadd:qEA n cos preds done i=true) (ho:ops[i]? = some o) (hco:qBS P N ops o=some (cos i)) (hpre:∀ j ∈ preds i,j ∉ pend) {ah:List Nat} (hpa:∀ p ∈ pend,p ∈ ah) (hfree:free=true -> ∀ j ∈ ah,j ∉ pend \/ (cos j).op.free=true)
  {C:Env->AHeap->Prop} (hrun:vE P [cos i] E H fun E' H'=>(free=true \/ Grew H H')/\C E' H') {Q:Exit->Act->World->Prop} {K:Act->World->Prop}
  (hK:∀ μ' E' H' a' w',C E' H'->Mid n cos preds F N n0 μ0 w0 (done ++ [i]) pend μ' E' H' a' w'->K a' w'):wpOp P ops Q i K a w:=by
 obtain⟨k1,k2,k4⟩:=dD hadd
 obtain⟨ao,hc,hdst,hop,hcd,hgd⟩:=qDD hco
 have unm:∀ t ∈ (cos i).readsG,vW cos pend E t=E t:=fun t ht=>vO fun p hp he=>hpre p (m.strong p hp t he i k1 ht) hp
 have unop:∀ t ∈ (cos i).op.reads,E t=vW cos pend E t:=fun t ht=>(unm t (by unfold AOper.readsG;exact List.mem_append_left _ ht)).symm
 have putE:∀ (r:AV) t,(cos i).dst ≠ some t->(E.put (cos i).dst r) t=E t:=by
  intro r t ht
  unfold Env.put
  rw [if_neg ht]
 have mput:∀ r,(vW cos pend E).put (cos i).dst r=vW cos pend (E.put (cos i).dst r):=by
  intro r
  funext t
  by_cases ht:(cos i).dst=some t
  ·have e1:(vW cos pend E).put (cos i).dst r t=r:=by unfold Env.put;rw [if_pos ht]
   have e2:(E.put (cos i).dst r) t=r:=by unfold Env.put;rw [if_pos ht]
   rw [e1,vO fun p hp he=>((k4 t ht).2 p (m.sub p hp)).2 he,e2]
  ·have e1:(vW cos pend E).put (cos i).dst r t=vW cos pend E t:=by unfold Env.put;rw [if_neg ht]
   rw [e1]
   by_cases hx:∃ p ∈ pend,(cos p).dst=some t
   ·obtain⟨p,hp,he⟩:=hx
    rw [pE hp he,pE hp he]
   ·have hno:∀ p ∈ pend,(cos p).dst ≠ some t:=fun p hp he=>hx ⟨p,hp,he⟩
    rw [vO hno,vO hno,putE r t ht]
 have next:∀ {r:AV} {H' : AHeap} {μ' : Mu} {a' : Act} {w' : World},(free=true \/ Grew H H')/\C (E.put (cos i).dst r) H'->Mu.ext H.next μ μ'->At F N n0 μ0 w0 μ' ((vW cos pend E).put o.dst r) H' a' w'->K a' w':=by
  rintro r H' μ' a' w' ⟨hf,hC⟩ hx hat
  rw [<- hdst,mput r] at hat
  have stay:∀ p ∈ done,∀ d,(cos p).dst=some d->(E.put (cos i).dst r) d=E d:=fun p hp d hd=>putE r d fun he=>(k4 d he).2 p hp |>.2 hd
  have rd:∀ p ∈ pend,∀ t ∈ (cos p).readsG,E t=(E.put (cos i).dst r) t:=fun p hp t ht=>(putE r t fun he=>hpre p ((k4 t he).2 p (m.sub p hp) |>.1 ht) hp).symm
  refine hK μ' _ H' a' w' hC ⟨hat,fun p hp=>List.mem_append_left _ (m.sub p hp),?_,m.nodup,?_,?_,?_,?_⟩
  ·intro p hp
   rcases List.mem_append.1 hp with hp | hp
   ·exact m.lt p hp
   ·rw [List.mem_singleton] at hp;subst hp;exact k1
  ·intro p hp
   refine(m.ok p hp).stable (rd p hp) (stay p (m.sub p hp)) ?_ hx
   rcases hf with hf | hf
   ·rcases hfree hf p (hpa p hp) with h | h
    ·exact absurd hp h
    ·exact .inr h
   ·exact .inl hf
  ·intro p hp q hq hne zs zs' d d' l e1 e2 e3 e4 e5 e6
   rw [stay p (m.sub p hp) d e3] at e5
   rw [stay q (m.sub q hq) d' e4] at e6
   exact m.inj p hp q hq hne zs zs' d d' l e1 e2 e3 e4 e5 e6
  ·exact m.strong
  ·intro p hp q hq hne d e1 e2
   rcases List.mem_append.1 hp with hp' | hp' <;> rcases List.mem_append.1 hq with hq' | hq'
   ·exact m.apart p hp' q hq' hne d e1 e2
   ·rw [List.mem_singleton] at hq';rw [hq'] at e2;exact((k4 d e2).2 p hp').2 e1
   ·rw [List.mem_singleton] at hp';rw [hp'] at e1;exact((k4 d e1).2 q hq').2 e2
   ·rw [List.mem_singleton] at hp' hq';exact hne (hp'.trans hq'.symm)
 unfold wpOp
 rw [ho]
 simp only []
 simp only [vE] at hrun
 rcases hgd with ⟨g1,g2⟩ | ⟨j,want,g,t,g1,g2,g3,g4,g5⟩
 ·have hw:Region.wanted o (yielded ops a.tmps)=true:=by unfold Region.wanted;rw [g1]
  rw [if_pos hw]
  left
  rw [g2] at hrun
  simp only [] at hrun
  rw [qFP unop,hop] at hrun
  refine pJ (dF hc hrun m.at_.sim m.at_.env) ?_
  rintro v w' ⟨μ',r,H',h1,h2,h3,h4,h5,h6⟩
  exact next h1 h3 (m.at_.step hcd h2 h3 h4 h5 h6)
 ·rw [g5] at hrun
  simp only [] at hrun
  have ht:t ∈ (cos i).readsG:=by unfold AOper.readsG;rw [g5];simp
  rw [<- unm t ht] at hrun
  obtain⟨hdet,hrun⟩:=hrun
  rw [qEJ unop,hop] at hrun
  exact uC g1 g2 g3 g4 hcd hc m.at_ hdet hrun fun r μ' a' w' hk _ hat hx=>next hk hx hat
end
end Go.Ab
end
/- Drawn regions are sound. -/
section
namespace Go.Ab
section
variable {P:Program} {N:Nat} {cos:Nat->AOper} {F:Nat->Prop} {n0:Nat} {μ0:Mu} {w0:World} {ops:Array Oper}
theorem qBz {n:Nat} {preds:Nat->List Nat}:∀ {qs done:List Nat},okQ n cos preds done qs=true -> ∀ i ∈ qs,i ∉ done/\i < n
 | [],_,_,i,hi=>by cases hi
 | q :: qs,done,h,i,hi=>by
  simp only [okQ,Bool.and_eq_true] at h
  obtain⟨⟨⟨⟨hadd,_⟩,_⟩,_⟩,hrest⟩:=h
  obtain⟨k1,k2,_⟩:=dD hadd
  rcases List.mem_cons.1 hi with e | hi
  ·rw [e];exact⟨k2,k1⟩
  ·have:=qBz hrest i hi
   exact⟨fun h=>this.1 (List.mem_append_left _ h),this.2⟩
theorem qJC {n:Nat} {preds:Nat->List Nat} {done ah:List Nat} {E:Env} {H:AHeap} {k:Env->AHeap->Prop} {i:Nat}:∀ {kids:SKids},okK n cos preds done ah kids=true->qAB P (qDG cos kids) E H k->i ∈ kids.ids ->
  ∃ free t,qEA n cos preds done i=true/\(free=true -> ∀ j ∈ ah,j ∈ wF preds 12 (preds i) \/ (cos j).op.free=true)/\okT n cos preds (done ++ [i]) ah t=true/\vE P [cos i] E H fun E' H'=>(free=true \/ Grew H H')/\qDq P (qFZ cos t) E' H' k
 | .nil,_,_,hi=>by cases hi
 | .cons q free t rest,h,ha,hi=>by
  simp only [okK,Bool.and_eq_true] at h
  obtain⟨⟨⟨h1,h2⟩,h3⟩,h4⟩:=h
  simp only [qDG,qAB] at ha
  rcases List.mem_cons.1 hi with e | hi
  ·subst e
   refine⟨free,t,h1,fun hf j hj=>?_,h3,ha.1⟩
   rw [hf] at h2
   simp only [Bool.not_true,Bool.false_or,List.all_eq_true] at h2
   simpa using h2 j hj
  ·exact qJC h4 ha.2 hi
theorem qBU {listed:Array Bool} {i:Nat} (hi:i < listed.size) (hf:listed.getD i true=false):(listed.setIfInBounds i true).toList.count false+1=listed.toList.count false:=by
 rw [Array.toList_setIfInBounds,List.count_set (by simpa using hi)]
 have e:listed.toList[i]'(by simpa using hi)=false:=by
  rw [Array.getD_eq_getD_getElem?,Array.getElem?_eq_getElem hi] at hf
  simpa using hf
 rw [e]
 have hpos:0 < listed.toList.count false:=List.count_pos_iff.2 (by rw [<- e];exact List.getElem_mem _)
 rw [if_pos (by rfl),if_neg (by decide)]
 omega
theorem qKl {n:Nat} (hn:ops.size=n) (hco:∀ i o,ops[i]? = some o->qBS P N ops o=some (cos i)) (hlow:∀ i,i < n -> ∀ j ∈ xL ops i,j < i) {k:Env->AHeap->Prop} {Q:Exit->Act->World->Prop} (hQ:∀ a w,qIu F N n0 μ0 w0 k a w->Q .normal a w) :
  ∀ (fuel:Nat) (listed:Array Bool) (kids:SKids) (done ah pend:List Nat) (μ:Mu) (E:Env) (H:AHeap) (a:Act) (w:World),Mid n cos (xL ops) F N n0 μ0 w0 done pend μ E H a w->listed.size=n ->
   (∀ i,i < n->(listed.getD i true=true ↔ i ∈ done/\i ∉ pend))->listed.toList.count false<=fuel->qGQ n (xL ops) done kids=true->(∀ p ∈ pend,p ∈ ah)->(∀ j,j ∈ done/\j ∉ pend -> ∀ q ∈ xL ops j,q ∈ done/\q ∉ pend)->okK n cos (xL ops) done ah kids=true ->
   ((qDG cos kids).isNil=true->k E H)->qAB P (qDG cos kids) E H k->wpAny P .any ops Q fuel listed a w:=by
 have stop:∀ (listed:Array Bool) (kids:SKids) (done ah pend:List Nat) (μ:Mu) (E:Env) (H:AHeap) (a:Act) (w:World),Mid n cos (xL ops) F N n0 μ0 w0 done pend μ E H a w->listed.size=n ->
   (∀ i,i < n->(listed.getD i true=true ↔ i ∈ done/\i ∉ pend))->okK n cos (xL ops) done ah kids=true->((qDG cos kids).isNil=true->k E H)->Region.ready .any ops listed=[]->Q .normal a w:=by
  intro listed kids done ah pend μ E H a w m hsz hl hok hk hr
  have all:∀ i,i < n->listed.getD i true=true:=by
   intro i
   induction i using Nat.strongRecOn with
   | _ i ih =>
    intro hi
    cases hc:listed.getD i true with
    | true=>rfl
    | false =>
     exfalso
     have hio:i < ops.size:=hn ▸ hi
     have:i ∈ Region.ready .any ops listed:=by
      rw [mem_ready]
      refine⟨hc,ops[i],Array.getElem?_eq_getElem hio,fun e he hb=>?_⟩
      have hj:e.on ∈ xL ops i:=by
       unfold xL
       rw [Array.getElem?_eq_getElem hio]
       simp only [List.mem_filterMap]
       exact⟨e,by simpa using he,by rw [if_pos hb]⟩
      have hlt:=hlow i hi _ hj
      have:=ih e.on hlt om
      rw [Array.getD_eq_getD_getElem?,Array.getElem?_eq_getElem om] at this ⊢
      simpa using this
     rw [hr] at this
     cases this
  have hpend:pend=[]:=by
   cases pend with
   | nil=>rfl
   | cons p ps =>
    have hp:p ∈ p :: ps:=by simp
    exact absurd hp ((hl p (m.lt p (m.sub p hp))).1 (all p (m.lt p (m.sub p hp)))).2
  subst hpend
  have hnil:(qDG cos kids).isNil=true:=by
   cases kids with
   | nil=>rfl
   | cons i free t rest =>
    simp only [okK,Bool.and_eq_true] at hok
    obtain⟨k1,k2,_⟩:=dD hok.1.1.1
    exact absurd ((hl i k1).1 (all i k1)).1 k2
  refine hQ a w ⟨μ,E,H,hk hnil,?_⟩
  have e:vW cos [] E=E:=by funext t;exact vO fun p hp=>by cases hp
  have:=m.at_
  rwa [e] at this
 intro fuel
 induction fuel with
 | zero =>
  intro listed kids done ah pend μ E H a w m hsz hl hc hcov hpa hcl hok hk ha
  have hr:Region.ready .any ops listed=[]:=by
   cases hr:Region.ready .any ops listed with
   | nil=>rfl
   | cons i is =>
    exfalso
    have hi:i ∈ Region.ready .any ops listed:=by rw [hr];simp
    rw [mem_ready] at hi
    obtain⟨h1,o,ho,_⟩:=hi
    have hio:i < ops.size:=(Array.getElem?_eq_some_iff.1 ho).1
    have:i < listed.size:=by omega
    have e:listed[i]=false:=by
     rw [Array.getD_eq_getD_getElem?,Array.getElem?_eq_getElem this] at h1
     simpa using h1
    have:0 < listed.toList.count false:=List.count_pos_iff.2 (by rw [<- e];exact Array.getElem_mem_toList this)
    omega
  exact⟨hr,stop listed kids done ah pend μ E H a w m hsz hl hok hk hr⟩
 | succ fuel ih =>
  intro listed kids done ah pend μ E H a w m hsz hl hc hcov hpa hcl hok hk ha
  refine⟨fun hr=>stop listed kids done ah pend μ E H a w m hsz hl hok hk hr,fun i hi=>?_⟩
  rw [mem_ready] at hi
  obtain⟨h1,o,ho,hpre⟩:=hi
  have hio:i < ops.size:=(Array.getElem?_eq_some_iff.1 ho).1
  have hin:i < n:=hn ▸ hio
  have hpre' : ∀ j ∈ xL ops i,j ∈ done/\j ∉ pend:=by
   intro j hj
   unfold xL at hj
   rw [ho] at hj
   simp only [List.mem_filterMap] at hj
   obtain⟨e,he,hb⟩:=hj
   split at hb
   ·rename_i hbb
    cases hb
    have hx:=hpre e (by simpa using he) hbb
    have hlt:e.on < listed.size:=by
     rcases Nat.lt_or_ge e.on listed.size with h | h
     ·exact h
     ·rw [Array.getD_eq_getD_getElem?,Array.getElem?_eq_none h] at hx;cases hx
    refine(hl e.on om).1 ?_
    rw [Array.getD_eq_getD_getElem?,Array.getElem?_eq_getElem hlt] at hx ⊢
    simpa using hx
   ·cases hb
  have hset:∀ j,j < n->((listed.setIfInBounds i true).getD j true=true ↔ j=i \/ listed.getD j true=true):=by
   intro j hj
   rw [Array.getD_eq_getD_getElem?,Array.getElem?_setIfInBounds]
   by_cases hji:i=j
   ·subst hji;simp [hsz,hin]
   ·rw [if_neg hji,<- Array.getD_eq_getD_getElem?]
    constructor
    ·exact .inr
    ·rintro(h | h)
     ·exact absurd h.symm hji
     ·exact h
  have hcnt:(listed.setIfInBounds i true).toList.count false<=fuel:=by
   have:=qBU om h1
   omega
  have hnl:¬ (i ∈ done/\i ∉ pend):=fun h=>by rw [(hl i hin).2 h] at h1;cases h1
  by_cases hd:i ∈ done
  ·have hp:i ∈ pend:=Classical.byContradiction fun h=>hnl ⟨hd,h⟩
   refine qIh m hp ho (hco i o ho) (fun t ht p hpp he=>(hpre' p (m.strong p hpp t he i hin ht)).2 hpp) fun μ' a' w' m'=>?_
   refine ih _ kids done ah (pend.erase i) μ' E H a' w' m' (by simpa using hsz) (fun j hj=>?_) hcnt hcov (fun p hp=>hpa p (List.mem_of_mem_erase hp)) (fun j hj q hq=>by
    by_cases hji:j=i
    ·subst hji
     exact⟨(hpre' q hq).1,fun h=>(hpre' q hq).2 (List.mem_of_mem_erase h)⟩
    ·have hx:=hcl j ⟨hj.1,fun h=>hj.2 (m.nodup.mem_erase_iff.2 ⟨hji,h⟩)⟩ q hq
     exact⟨hx.1,fun h=>hx.2 (List.mem_of_mem_erase h)⟩) hok hk ha
   rw [hset j hj,hl j hj,m.nodup.mem_erase_iff]
   constructor
   ·rintro(h | h)
    ·subst h;exact⟨hd,fun h=>h.1 rfl⟩
    ·exact⟨h.1,fun h'=>h.2 h'.2⟩
   ·rintro⟨h,h'⟩
    by_cases hji:j=i
    ·exact .inl hji
    ·exact .inr ⟨h,fun hx=>h' ⟨hji,hx⟩⟩
  ·have hkid:i ∈ kids.ids:=by
    unfold qGQ at hcov
    simp only [Bool.and_eq_true,List.all_eq_true] at hcov
    have:=hcov.1 i (by simpa using hin)
    simp only [Bool.or_eq_true,Bool.not_eq_true'] at this
    rcases this with (h | h) | h
    ·exact absurd (by simpa using h) hd
    ·exfalso
     rw [<- Bool.not_eq_true,List.all_eq_true] at h
     exact h fun j hj=>by simpa using (hpre' j hj).1
    ·simpa using h
   obtain⟨free,t,q1,q2,q3,q4⟩:=qJC hok ha hkid
   have hrc:∀ j ∈ wF (xL ops) 12 (xL ops i),j ∈ done/\j ∉ pend:=qAw (Q:=fun j=>j ∈ done/\j ∉ pend) hcl 12 hpre'
   refine qJr m q1 ho (hco i o ho) (fun j hj=>(hpre' j hj).2) hpa (fun hf j hj=>(q2 hf j hj).imp (fun h=>(hrc j h).2) id) q4 fun μ' E' H' a' w' hmix m'=>?_
   obtain⟨qs,kids'⟩:=t
   simp only [qFZ,qDq] at hmix
   simp only [okT,Bool.and_eq_true] at q3
   obtain⟨⟨r1,r2⟩,r3⟩:=q3
   obtain⟨pend',E2,H2,⟨s1,s2⟩,s3,s4⟩:=m'.run r1 hmix
   refine ih _ kids' _ (ah ++ qs) pend' μ' E2 H2 a' w' s3 (by simpa using hsz) (fun j hj=>?_) hcnt r2 (fun p hp=>List.mem_append.2 (((s4 p).1 hp).imp (hpa p) id)) (fun j hj q hq=>by
    have frq:=fun (x:Nat) (h:x ∈ qs)=>qBz r1 x h
    have key:∀ x,x ∈ done ++ [i]->x ∉ pend->x ∈ (done ++ [i]) ++ qs/\x ∉ pend':=fun x hx hp=>⟨List.mem_append_left _ hx,fun h=>by
     rcases(s4 x).1 h with h | h
     ·exact hp h
     ·exact(frq x h).1 hx⟩
    obtain⟨hj1,hj2⟩:=hj
    have hjq:j ∉ qs:=fun h=>hj2 ((s4 j).2 (.inr h))
    have hjp:j ∉ pend:=fun h=>hj2 ((s4 j).2 (.inl h))
    have hjd:j ∈ done ++ [i]:=(List.mem_append.1 hj1).resolve_right hjq
    rcases List.mem_append.1 hjd with hjd | hjd
    ·have hx:=hcl j ⟨hjd,hjp⟩ q hq
     exact key q (List.mem_append_left _ hx.1) hx.2
    ·rw [List.mem_singleton] at hjd
     subst hjd
     have hx:=hpre' q hq
     exact key q (List.mem_append_left _ hx.1) hx.2) r3 s1 s2
   rw [hset j hj,hl j hj,s4 j]
   have fr:=fun h=>qBz r1 j h
   have hip:i ∉ pend:=fun h=>hd (m.sub i h)
   simp only [List.mem_append,List.mem_singleton] at fr ⊢
   constructor
   ·rintro(h | ⟨h,h'⟩)
    ·subst h
     exact⟨.inl (.inr rfl),fun h=>by
      rcases h with h | h
      ·exact hip h
      ·exact(fr h).1 (.inr rfl)⟩
    ·exact⟨.inl (.inl h),fun hx=>by
      rcases hx with hx | hx
      ·exact h' hx
      ·exact(fr hx).1 (.inl h)⟩
   ·rintro⟨(h | h) | h,h'⟩
    ·exact .inr ⟨h,fun hx=>h' (.inl hx)⟩
    ·exact .inl h
    ·exact absurd (.inr h) h'
theorem qHC {n:Nat} (hn:ops.size=n) (hfol:P.follows .mixedOrders=true) (hco:∀ i o,ops[i]? = some o->qBS P N ops o=some (cos i)) (hlow:∀ i,i < n -> ∀ j ∈ xL ops i,j < i) {t:STree} (ht:okT n cos (xL ops) [] [] t=true)
  {k:Env->AHeap->Prop} {Q:Exit->Act->World->Prop} (hQ:∀ a w,qIu F N n0 μ0 w0 k a w->Q .normal a w) {μ:Mu} {E:Env} {H:AHeap} {a:Act} {w:World} (h:At F N n0 μ0 w0 μ E H a w) (hm:qDq P (qFZ cos t) E H k) {id:Nat} :
  (Code.region id ops true).wp P Q a w:=by
 refine wp_region_any hfol ?_
 obtain⟨qs,kids⟩:=t
 simp only [qFZ,qDq] at hm
 simp only [okT,Bool.and_eq_true,List.nil_append] at ht
 obtain⟨⟨r1,r2⟩,r3⟩:=ht
 have m0:Mid n cos (xL ops) F N n0 μ0 w0 [] [] μ E H a { w with drawn:=w.drawn+1 }:=by
  have e:vW cos [] E=E:=by funext t;exact vO fun p hp=>by cases hp
  refine⟨by rw [e];exact⟨h.sim.drew _,h.env,h.size,h.defers,h.keeps.trans (Keeps.drew w _),h.ext,h.next⟩,fun p hp=>(by cases hp),fun p hp=>(by cases hp),List.nodup_nil,fun p hp=>(by cases hp),fun p hp=>(by cases hp),fun p hp=>(by cases hp),fun p hp=>(by cases hp)⟩
 obtain⟨pend',E2,H2,⟨s1,s2⟩,s3,s4⟩:=m0.run r1 hm
 simp only [List.nil_append] at s3
 refine qKl hn hco hlow hQ ops.size _ kids qs qs pend' μ E2 H2 a _ s3 (by simpa using hn) (fun j hj=>?_) ?_ r2 (fun p hp=>by simpa using (s4 p).1 hp) (fun j hj=>absurd ((s4 j).2 (.inr hj.1)) hj.2) r3 s1 s2
 ·rw [Array.getD_eq_getD_getElem?,Array.getElem?_replicate,if_pos om,s4 j]
  simp
 ·simp [hn]
end
end Go.Ab
end
