/- All quiet operations, together. -/
import Derived.Test.YtgjggkgafdnhcaaAbA
import Derived.Deep.AppendSrc
set_option linter.unusedVariables false
set_option linter.unusedSimpArgs false
section
namespace Go.Ab
section
variable {P:Program} {μ:Mu} {E:Env} {a:Act} {F:Nat->Prop} {H:AHeap} {w:World}
theorem qGo (k:FloatKind) {b c:Nat} (hb:b < 2^k.format.width) (hc:c < 2^k.format.width):qV P μ w (Builtin.min2 (.float k b) (.float k c)) (.flt k (match dT k (nrm k b) (nrm k c) with
  | none=>none
  | some .lt=>nrm k b
  | some .gt=>nrm k c
  | some .eq=>if (k.decode ((nrm k b).getD 0)).neg then nrm k b else nrm k c)):=by
 have e:Builtin.min2 (.float k b) (.float k c)=(match k.format.order b c with
  | none=>do pure (.float k (<- choose (.nanMinMax k false b c)))
  | some .lt=>pure (.float k b)
  | some .gt=>pure (.float k c)
  | some .eq=>pure (.float k (if (k.decode b).neg then b else c))):=rfl
 rw [e,pM]
 cases ho:k.format.order b c with
 | none =>
  have hch:=run_choose (P:=P) (w:=w) (.nanMinMax k false b c) rfl
  refine⟨_,_,?_,.inr ⟨w.drawn+1,rfl⟩,.flt (wP k false b c (w.tape w.drawn (.nanMinMax k false b c))).1 (wP k false b c (w.tape w.drawn (.nanMinMax k false b c))).2⟩
  simp only []
  rw [bind_ok hch];rfl
 | some o =>
  cases o with
  | lt=>exact qV.pure (.flt rfl hb)
  | gt=>exact qV.pure (.flt rfl hc)
  | eq =>
   have hn:nrm k b=some b:=by
    cases hx' : nrm k b with
    | none=>rw [<- pM,hx'] at ho;cases ho
    | some b'=>rw [(vA hx').1]
   simp only [hn,Option.getD_some]
   split
   ·exact qV.pure (.flt (by first | exact hn | rfl) hb)
   ·exact qV.pure (.flt (by first | exact hn | rfl) hc)
theorem qGn {x y r:AV} {v u:Value} {ts:Array TypeId} {t:TypeId} (h:qGm x y=some r) (hx:R μ x v) (hy:R μ y u):qV P μ w (Builtin.min_ ts t #[v,u]) r:=by
 have e:Builtin.min_ ts t #[v,u]=(Builtin.min2 v u >>= fun z=>pure z):=rfl
 have go:qV P μ w (Builtin.min2 v u) r:=by
  unfold qGm at h
  split at h
  ·obtain rfl:=zK hx
   obtain rfl:=zK hy
   split at h
   ·cases h;exact qV.pure (.int _ _)
   ·cases h
  ·obtain⟨b,rfl,rfl,hb⟩:=yB hx
   obtain⟨c,rfl,rfl,hc⟩:=yB hy
   split at h
   ·rename_i hk
    subst hk
    cases h
    exact qGo _ hb hc
   ·cases h
  ·cases h
 obtain⟨z,w',h1,h2,h3⟩:=go
 exact⟨z,w',by rw [e,bind_ok h1];rfl,h2,h3⟩
theorem qGl (k:FloatKind) {b c:Nat} (hb:b < 2^k.format.width) (hc:c < 2^k.format.width):qV P μ w (Builtin.max2 (.float k b) (.float k c)) (.flt k (match dT k (nrm k b) (nrm k c) with
  | none=>none
  | some .lt=>nrm k c
  | some .gt=>nrm k b
  | some .eq=>if (k.decode ((nrm k b).getD 0)).neg then nrm k c else nrm k b)):=by
 have e:Builtin.max2 (.float k b) (.float k c)=(match k.format.order b c with
  | none=>do pure (.float k (<- choose (.nanMinMax k true b c)))
  | some .lt=>pure (.float k c)
  | some .gt=>pure (.float k b)
  | some .eq=>pure (.float k (if (k.decode b).neg then c else b))):=rfl
 rw [e,pM]
 cases ho:k.format.order b c with
 | none =>
  have hch:=run_choose (P:=P) (w:=w) (.nanMinMax k true b c) rfl
  refine⟨_,_,?_,.inr ⟨w.drawn+1,rfl⟩,.flt (wP k true b c (w.tape w.drawn (.nanMinMax k true b c))).1 (wP k true b c (w.tape w.drawn (.nanMinMax k true b c))).2⟩
  simp only []
  rw [bind_ok hch];rfl
 | some o =>
  cases o with
  | lt=>exact qV.pure (.flt rfl hc)
  | gt=>exact qV.pure (.flt rfl hb)
  | eq =>
   have hn:nrm k b=some b:=by
    cases hx' : nrm k b with
    | none=>rw [<- pM,hx'] at ho;cases ho
    | some b'=>rw [(vA hx').1]
   simp only [hn,Option.getD_some]
   split
   ·exact qV.pure (.flt (by first | exact hn | rfl) hc)
   ·exact qV.pure (.flt (by first | exact hn | rfl) hb)
theorem qGj {x y r:AV} {v u:Value} {ts:Array TypeId} {t:TypeId} (h:qGi x y=some r) (hx:R μ x v) (hy:R μ y u):qV P μ w (Builtin.max_ ts t #[v,u]) r:=by
 have e:Builtin.max_ ts t #[v,u]=(Builtin.max2 v u >>= fun z=>pure z):=rfl
 have go:qV P μ w (Builtin.max2 v u) r:=by
  unfold qGi at h
  split at h
  ·obtain rfl:=zK hx
   obtain rfl:=zK hy
   split at h
   ·cases h;exact qV.pure (.int _ _)
   ·cases h
  ·obtain⟨b,rfl,rfl,hb⟩:=yB hx
   obtain⟨c,rfl,rfl,hc⟩:=yB hy
   split at h
   ·rename_i hk
    subst hk
    cases h
    exact qGl _ hb hc
   ·cases h
  ·cases h
 obtain⟨z,w',h1,h2,h3⟩:=go
 exact⟨z,w',by rw [e,bind_ok h1];rfl,h2,h3⟩
theorem qGk {x y z t r:AV} {v u s q:Value} {ts:Array TypeId} {ty:TypeId} (h:qKk x y z t=some r) (hx:R μ x v) (hy:R μ y u) (hz:R μ z s) (ht:R μ t q):qV P μ w (Builtin.max_ ts ty #[v,u,s,q]) r:=by
 have e:Builtin.max_ ts ty #[v,u,s,q]=(Builtin.max2 v u >>= fun a=>Builtin.max2 a s >>= fun b=>Builtin.max2 b q >>= fun z=>pure z):=rfl
 unfold qKk at h
 split at h
 ·obtain rfl:=zK hx
  obtain rfl:=zK hy
  obtain rfl:=zK hz
  obtain rfl:=zK ht
  split at h
  ·rename_i hk
   obtain⟨rfl,rfl,rfl⟩:=hk
   cases h
   have g:∀ k (a b:Int),(Builtin.max2 (.int k a) (.int k b)).run P w=.ok (.int k (if a < b then b else a)) w:=fun k a b=>by
    simp only [Builtin.max2,if_true]
    rfl
   exact⟨_,w,by rw [e,bind_ok (g _ _ _),bind_ok (g _ _ _),bind_ok (g _ _ _)];rfl,.inl rfl,.int _ _⟩
  ·cases h
 ·cases h
/-! a map keyed by integers, looked into -/
theorem qBi {d:TypeDesc} {u:Value} {m:MapEntry} {ms:List MapEntry} {i:Nat} (h:Instr.sameNow d u m.key=some true):Instr.findNow d u (m :: ms) i=some (some (i,m.val)):=by
 simp [Instr.findNow,h]
theorem qAo {d:TypeDesc} {u:Value} {m:MapEntry} {ms:List MapEntry} {i:Nat} (h:Instr.sameNow d u m.key=some false):Instr.findNow d u (m :: ms) i=Instr.findNow d u ms (i+1):=by
 simp [Instr.findNow,h]
theorem yT {k0:IntKind} {k x:AV} {u v:Value} {b:Bool} (h:wZ 0 k x=some b) (hk:R μ k u) (hx:R μ x v):Instr.sameNow (.int k0) u v=some b:=by
 unfold wZ at h
 split at h
 ·split at h
  ·rename_i hh
   obtain⟨rfl,_⟩:=hh
   rw [zK hk,zK hx]
   cases h
   simp [Instr.sameNow,qED]
  ·cases h
 ·split at h
  ·rename_i hh;cases hh.2
  ·cases h
 ·cases h
 ·cases h
 ·cases h
theorem qCm {k0:IntKind}:∀ {es:List (AV × AV)} {ms:List MapEntry} {k:AV} {u:Value} {r:Option AV} (i:Nat),qGh es k=some r->R μ k u->es.length=ms.length ->
  (∀ (j:Nat) (e:AV × AV) (m:MapEntry),es[j]? = some e->ms[j]? = some m->R μ e.1 m.key/\R μ e.2 m.val) ->
  match r with
  | none=>Instr.findNow (.int k0) u ms i=some none
  | some x=>∃ j v,Instr.findNow (.int k0) u ms i=some (some (i+j,v))/\R μ x v/\j < ms.length
 | [],ms,k,u,r,i,h,hk,hl,hr=>by
  cases ms with
  | nil=>simp [qGh] at h;subst h;rfl
  | cons _ _=>cases hl
 | (x,y) :: es,ms,k,u,r,i,h,hk,hl,hr=>by
  cases ms with
  | nil=>cases hl
  | cons m ms =>
   obtain⟨h1,h2⟩:=hr 0 (x,y) m rfl rfl
   simp only at h1 h2
   simp only [qGh] at h
   split at h
   ·rename_i hc
    cases h
    exact⟨0,m.val,qBi (yT hc hk h1),h2,by simp⟩
   ·rename_i hc
    have ih:=qCm (k0:=k0) (i+1) h hk (by simpa using hl) (fun j e m' he hm=>hr (j+1) e m' (by simpa using he) (by simpa using hm))
    rw [qAo (yT hc hk h1)]
    cases r with
    | none=>exact ih
    | some x =>
     obtain⟨j,v,g1,g2,g3⟩:=ih
     exact⟨j+1,v,by rw [g1,show i+1+j=i+(j+1) by omega],g2,by simp;omega⟩
   ·cases h
theorem qAm {key:TypeId} {k0:IntKind} (hk:P.underlying key=some (.int k0)) {b:Bool} {u:Value} (d:Nat):(Instr.checkKey b (d+1) key u).run P w=.ok () w:=by
 simp only [Instr.checkKey]
 rw [bind_ok (qG hk)]
 cases u <;> rfl
theorem qJV {t:TypeId} {ms:Array (String × TypeId)} (hu:P.underlying t=some (.interface ms)) (d:Nat):(Op.equalIn (d+1) t .nilIface .nilIface).run P w=.ok true w:=by
 simp only [Op.equalIn];rw [bind_ok (qG hu)];rfl
theorem qIJ {t t1:TypeId} {v1:Value} {ms:Array (String × TypeId)} (hu:P.underlying t=some (.interface ms)) (d:Nat):(Op.equalIn (d+1) t (.iface t1 v1) .nilIface).run P w=.ok false w:=by
 simp only [Op.equalIn];rw [bind_ok (qG hu)];rfl
theorem qJW {t e:TypeId} (hu:P.underlying t=some (.slice e)) {p:Option Addr} {n c:Nat} (d:Nat):(Op.equalIn (d+1) t (.slice p n c) (.slice none 0 0)).run P w=.ok p.isNone w:=by
 simp only [Op.equalIn];rw [bind_ok (qG hu)]
 cases p <;> rfl
theorem qDZ {t key elem:TypeId} {k0:IntKind} {z:Value} {zero:AV} (hu:P.underlying t=some (.map key elem)) (hk:P.underlying key=some (.int k0)) (hz:(P.info? elem).bind (·.zero)=some z) (hz0:vY z=some zero)
  {l:Nat} {es:List (AV × AV)} (hg:H.get l=some (.mp es)) (hs:Sim F μ H w) {v u:Value} (hv:R μ (.map l) v) {k:AV} (hku:R μ k u) {r:Option AV} (hr:qGh es k=some r) (ok:Bool) :
  qV P μ w (Instr.lookup t v u ok) (if ok then .tuple [r.getD zero,.bool r.isSome] else r.getD zero):=by
 cases hv with
 | map hm hb =>
  rename_i li b
  subst hb
  obtain⟨ms,ck,hh,hsz,hes⟩:=hs.mp l li es hg hm
  unfold Instr.lookup
  refine qV.bind (qG hu) ?_
  simp only []
  have hget:(getObj li.blk).run P w=.ok (.map ms ck) w:=by simp [getObj,Sem.run,hh]
  refine qV.bind hget ?_
  refine qV.bind (x:=ms) rfl ?_
  have hck:(Instr.checkKey ms.isEmpty 10000 key u).run P w=.ok () w:=qAm hk 9999
  refine qV.bind hck ?_
  have hf:=qCm (k0:=k0) (ms:=ms.toList) 0 hr hku (by simp [hsz]) (fun j e m he hm=>hes j e m he (by simpa using hm))
  have hzr:(zeroValue elem).run P w=.ok z w:=by
   cases hi:P.info? elem with
   | none=>rw [hi] at hz;cases hz
   | some i =>
    rw [hi] at hz
    unfold zeroValue
    rw [bind_ok (qBa hi),show i.zero=some z from hz];rfl
  cases r with
  | none =>
   have hfk:(Instr.findKey key u ms.toList).run P w=.ok none w:=by
    unfold Instr.findKey
    rw [bind_ok (qG hk)]
    simp only at hf
    rw [hf];rfl
   refine qV.bind hfk ?_
   simp only []
   refine qV.bind hzr ?_
   cases ok
   ·exact qV.pure (wV hz0)
   ·exact qV.pure (R.tupleL (RL.cons (wV hz0) (RL.cons (.bool _) RL.nil)))
  | some x =>
   obtain⟨j,val,hfn,hR,_⟩:=hf
   have hfk:(Instr.findKey key u ms.toList).run P w=.ok (some (0+j,val)) w:=by
    unfold Instr.findKey
    rw [bind_ok (qG hk),hfn];rfl
   refine qV.bind hfk ?_
   simp only []
   cases ok
   ·exact qV.pure hR
   ·exact qV.pure (R.tupleL (RL.cons hR (RL.cons (.bool _) RL.nil)))
def qCg (P:Program) (μ:Mu) (w:World) (s:Sem Next) (r:AV):Prop:=∃ v w',s.run P w=.ok (.value v) w'/\qKL w w'/\R μ r v
theorem qV.next {s:Sem Value} {r:AV} (h:qV P μ w s r):qCg P μ w (s >>= fun v=>Pure.pure (Next.value v)) r:=by
 obtain⟨v,w',h1,h2,h3⟩:=h
 exact⟨v,w',by rw [bind_ok h1];rfl,h2,h3⟩
theorem yV {b:Builtin} {args:Array Operand} {argTypes:Array TypeId} {dst:Option Tmp} {type:TypeId} {pos:String} {after:Array Edge} {guard:Option (Nat × Bool)} {s:Sem Value} {r:AV} (h:qV P μ w s r)
  (e:builtin b argTypes type (args.map fun | .const _=>true | _=>false) (args.map a.eval)=(s >>= fun v=>pure (Next.value v))) :
  qCg P μ w (execOp a.eval ⟨dst,.call ⟨.builtin b,args,argTypes⟩,type,pos,after,guard⟩) r:=by
 obtain⟨v,w',h1,h2,h3⟩:=h
 refine⟨v,w',?_,h2,h3⟩
 simp only [execOp]
 rw [bind_ok (show (resolve a.eval ⟨.builtin b,args,argTypes⟩ type).run P w=.ok { target:=.builtin b argTypes type (args.map fun | .const _=>true | _=>false),args:=args.map a.eval } w from rfl)]
 simp only [invoke]
 rw [e,bind_ok h1];rfl
theorem vS {elem:TypeId} {x y:Operand} {ao:AOp} (h:qF P elem x y=some ao):∃ i z zs x' y',P.info? elem=some i/\i.zero=some z/\z.cells.toList.mapM vY=some zs/\zs.length=i.size/\0 < i.bytes/\jE x=some x'/\jE y=some y'/\ao=.append i.size i.bytes x' y':=by
 unfold qF at h
 simp only [Option.bind_eq_bind,Option.bind_eq_some_iff] at h
 obtain⟨sz,hsz,bytes,hbytes,zs,hzs,h⟩:=h
 split at h
 ·rename_i hh
  simp only [Option.bind_eq_some_iff,Option.some.injEq] at h
  obtain⟨x',hx,y',hy,rfl⟩:=h
  unfold xH at hsz
  unfold uL at hbytes
  unfold wL at hzs
  cases hi:P.info? elem with
  | none=>rw [hi] at hsz;cases hsz
  | some i =>
   rw [hi] at hsz hbytes hzs
   cases hsz;cases hbytes
   split at hzs
   ·rename_i z hz
    exact⟨i,z,zs,x',y',rfl,hz,hzs,hh.1,hh.2,hx,hy,rfl⟩
   ·cases hzs
 ·cases h
theorem gD {elem:TypeId} {x y:Operand} {ao:AOp} (h:qE P elem x y=some ao):∃ i z zs x' y',P.info? elem=some i/\i.zero=some z/\z.cells.toList.mapM vY=some zs/\zs.length=i.size/\0 < i.bytes/\jE x=some x'/\jE y=some y'/\ao=.appendZ i.size i.bytes zs x' y':=by
 unfold qE at h
 simp only [Option.bind_eq_bind,Option.bind_eq_some_iff] at h
 obtain⟨sz,hsz,bytes,hbytes,zs,hzs,h⟩:=h
 split at h
 ·rename_i hh
  simp only [Option.bind_eq_some_iff,Option.some.injEq] at h
  obtain⟨x',hx,y',hy,rfl⟩:=h
  unfold xH at hsz
  unfold uL at hbytes
  unfold wL at hzs
  cases hi:P.info? elem with
  | none=>rw [hi] at hsz;cases hsz
  | some i =>
   rw [hi] at hsz hbytes hzs
   cases hsz;cases hbytes
   split at hzs
   ·rename_i z hz
    exact⟨i,z,zs,x',y',rfl,hz,hzs,hh.1,hh.2,hx,hy,rfl⟩
   ·cases hzs
 ·cases h
theorem xB {v:Value} (h:R μ .nilslice v):v=.slice none 0 0:=by cases h;rfl
theorem slice_form {l o len cap sz:Nat} {v:Value} (h:R μ (.slice l o len cap sz) v):∃ p,v=.slice p len cap/\len<=cap:=by
 generalize hs:AV.slice l o len cap sz=s at h
 cases h with
 | slice h hb hsp ho hl hc=>cases hs;exact⟨_,rfl,hc⟩
 | slice0 p=>cases hs;exact⟨some p,rfl,Nat.le_refl _⟩
 | _=>cases hs
theorem cK {o:Oper} {ao:AOp} (hc:jH P o.op=some ao) {r:AV} (hv:zS E H.get ao=some r) (hs:Sim F μ H w) (he:RE μ E a):qCg P μ w (execOp a.eval o) r:=by
 obtain⟨dst,op,type,pos,after,guard⟩:=o
 simp only at hc
 have hO:∀ {x:Operand} {y:Opd},jE x=some y->R μ (y.ev E) (a.eval x):=fun h=>vG h he
 cases op with
 | move x =>
  simp only [jH,Option.bind_eq_bind,Option.bind_eq_some_iff,Option.some.injEq] at hc
  obtain⟨y,hy,rfl⟩:=hc
  simp only [zS,Option.some.injEq] at hv
  subst hv
  exact⟨_,w,rfl,.inl rfl,hO hy⟩
 | assign x =>
  simp only [jH,Option.bind_eq_bind,Option.bind_eq_some_iff,Option.some.injEq] at hc
  obtain⟨y,hy,rfl⟩:=hc
  simp only [zS,Option.some.injEq] at hv
  subst hv
  exact⟨_,w,rfl,.inl rfl,hO hy⟩
 | pick c x y =>
  simp only [jH,Option.bind_eq_bind,Option.bind_eq_some_iff,Option.some.injEq] at hc
  obtain⟨c',hc',x',hx,y',hy,rfl⟩:=hc
  simp only [zS] at hv
  have hR:=hO hc'
  split at hv
  ·rename_i t ht
   cases hv
   rw [ht] at hR
   have hb:=bK hR
   refine⟨if t=true then a.eval x else a.eval y,w,?_,.inl rfl,by cases t <;> simp [hO hx,hO hy]⟩
   simp only [execOp,hb]
   rw [bind_ok (show (asBool (.bool t)).run P w=.ok t w from rfl)]
   cases t <;> rfl
  ·cases hv
 | load t x =>
  simp only [jH,Option.bind_eq_bind,Option.bind_eq_some_iff,Option.some.injEq] at hc
  obtain⟨⟨ag,n⟩,ht,y,hy,rfl⟩:=hc
  simp only [zS] at hv
  have hR:=hO hy
  split at hv
  ·rename_i l off hl
   rw [hl] at hR
   split at hv
   ·rename_i cs wr hg
    exact qV.next (qGg hs ht hR hg hv)
   ·cases hv
  ·cases hv
 | nilCheck x =>
  simp only [jH,Option.bind_eq_bind,Option.bind_eq_some_iff,Option.some.injEq] at hc
  obtain⟨y,hy,rfl⟩:=hc
  simp only [zS] at hv
  have hR:=hO hy
  split at hv
  ·rename_i l off hl
   cases hv
   rw [hl] at hR
   obtain⟨li,hm,e⟩:=uH hR
   refine⟨_,w,?_,.inl rfl,hR⟩
   simp only [execOp,e];rfl
  ·rename_i g hl
   cases hv
   rw [hl] at hR
   cases hR' : a.eval x <;> rw [hR'] at hR <;> cases hR
   exact⟨_,w,by simp only [execOp,hR'];rfl,.inl rfl,.glob⟩
  ·rename_i f as bs hl
   cases hv
   rw [hl] at hR
   cases hR' : a.eval x <;> rw [hR'] at hR <;> first | (cases hR;done) | skip
   have hR2:=hR
   cases hR
   exact⟨_,w,by simp only [execOp,hR'];rfl,.inl rfl,hR2⟩
  ·cases hv
 | binOp op t x y yt =>
  simp only [jH] at hc
  split at hc
  ·rename_i hop
   split at hc
   iterate 3
    ·simp only [Option.bind_eq_bind,Option.bind_eq_some_iff,Option.some.injEq] at hc
     obtain⟨x',hx,y',hy,rfl⟩:=hc
     simp only [zS] at hv
     exact qV.next (qDv hv (hO hx) (hO hy))
   ·rename_i hu
    simp only [Option.bind_eq_bind,Option.bind_eq_some_iff,Option.some.injEq] at hc
    obtain⟨x',hx,y',hy,rfl⟩:=hc
    simp only [zS] at hv
    have h1:=hO hx
    have h2:=hO hy
    split at hv
    ·rename_i b c e1 e2
     cases hv
     rw [e1] at h1
     rw [e2] at h2
     have h1:=bK h1
     have h2:=bK h2
     refine qV.next ?_
     rw [h1,h2]
     refine qV.bind (pP (by rintro⟨_,_,h,_⟩;cases h) (by rintro⟨h,_⟩;cases h)) ?_
     have he:=run_equal_bool (P:=P) w t b c hu
     rcases hop with rfl | rfl
     ·refine⟨_,w,?_,.inl rfl,.bool _⟩
      simp only [binOp]
      rw [bind_ok he]
      simp [Sem.run_pure]
     ·refine⟨_,w,?_,.inl rfl,.bool _⟩
      simp only [binOp]
      rw [bind_ok he]
      simp [Sem.run_pure]
    ·cases hv
   ·rename_i n e hu
    split at hc
    ·cases hc
    ·rename_i hgt
     simp only [Option.bind_eq_bind,Option.bind_eq_some_iff,Option.some.injEq] at hc
     obtain⟨kind,hk,x',hx,y',hy,rfl⟩:=hc
     simp only [zS] at hv
     have h1:=hO hx
     have h2:=hO hy
     split at hv
     ·rename_i as bs e1 e2
      rw [e1] at h1
      rw [e2] at h2
      split at hv
      ·rename_i hlen
       simp only [Option.map_eq_some_iff] at hv
       obtain⟨b,hb,rfl⟩:=hv
       obtain⟨vs,e3,hr1⟩:=agg_inv h1
       obtain⟨us,e4,hr2⟩:=agg_inv h2
       refine qV.next ?_
       rw [e3,e4]
       have hg:(eqGuard op t x y (.agg vs) (.agg us)).run P w=.ok () w:=by
        unfold eqGuard
        rcases hop with rfl | rfl <;>
        ·simp only [Bool.not_true,Bool.false_eq_true,if_false]
         rw [bind_ok (show program.run P w=.ok P w from rfl),bind_ok (show program.run P w=.ok P w from rfl)]
         simp only [Bool.not_eq_true] at hgt
         rw [hgt];rfl
       refine qV.bind hg ?_
       have he:=qGU (w:=w) hu hk hlen hb hr1 hr2
       rcases hop with rfl | rfl
       ·refine⟨_,w,?_,.inl rfl,.bool _⟩
        simp only [binOp]
        rw [bind_ok he]
        simp [Sem.run_pure]
       ·refine⟨_,w,?_,.inl rfl,.bool _⟩
        simp only [binOp]
        rw [bind_ok he]
        simp [Sem.run_pure]
      ·cases hv
     ·cases hv
   ·rename_i ms hu
    split at hc
    ·rename_i cy
     simp only [Option.bind_eq_bind,Option.bind_eq_some_iff,Option.some.injEq] at hc
     obtain⟨x',hx,y',hy,rfl⟩:=hc
     simp only [zS] at hv
     have h1:=hO hx
     have h2:=hO hy
     split at hv
     ·rename_i e1 e2
      cases hv
      rw [e1] at h1
      rw [e2] at h2
      cases hR' : a.eval x <;> rw [hR'] at h1 <;> cases h1
      cases hR2:a.eval (.const cy) <;> rw [hR2] at h2 <;> cases h2
      refine qV.next ?_
      rw [hR',hR2]
      have hg:(eqGuard op t x (.const cy) .nilIface .nilIface).run P w=.ok () w:=by
       unfold eqGuard
       rcases hop with rfl | rfl <;> simp <;> rfl
      refine qV.bind hg ?_
      have he:(Op.equal t .nilIface .nilIface).run P w=.ok true w:=qJV hu 9999
      rcases hop with rfl | rfl
      ·refine⟨_,w,?_,.inl rfl,.bool _⟩
       simp only [binOp];rw [bind_ok he];simp [Sem.run_pure]
      ·refine⟨_,w,?_,.inl rfl,.bool _⟩
       simp only [binOp];rw [bind_ok he];simp [Sem.run_pure]
     ·rename_i tt xx e1 e2
      cases hv
      rw [e1] at h1
      rw [e2] at h2
      cases hR' : a.eval x <;> rw [hR'] at h1 <;> first | (cases h1;done) | skip
      cases hR2:a.eval (.const cy) <;> rw [hR2] at h2 <;> first | (cases h2;done) | skip
      rename_i t1 v1
      refine qV.next ?_
      rw [hR',hR2]
      refine qV.bind (pP (by rintro⟨_,_,h,_⟩;cases h) (by rintro⟨h,_⟩;cases h)) ?_
      have he:(Op.equal t (.iface t1 v1) .nilIface).run P w=.ok false w:=qIJ hu 9999
      rcases hop with rfl | rfl
      ·refine⟨_,w,?_,.inl rfl,.bool _⟩
       simp only [binOp];rw [bind_ok he];simp [Sem.run_pure]
      ·refine⟨_,w,?_,.inl rfl,.bool _⟩
       simp only [binOp];rw [bind_ok he];simp [Sem.run_pure]
     ·cases hv
    ·cases hc
   ·rename_i el hu
    split at hc
    ·rename_i cy
     simp only [Option.bind_eq_bind,Option.bind_eq_some_iff,Option.some.injEq] at hc
     obtain⟨x',hx,y',hy,rfl⟩:=hc
     simp only [zS] at hv
     have h1:=hO hx
     have h2:=hO hy
     have key:∀ {p:Option Addr} {n c:Nat} {b:Bool},a.eval x=.slice p n c->a.eval (.const cy)=.slice none 0 0->p.isNone=b->qCg P μ w (execOp a.eval ⟨dst,.binOp op t x (.const cy) yt,type,pos,after,guard⟩) (.bool (b != decide (op=.neq))):=by
      intro p n c b e1 e2 hb
      refine qV.next ?_
      rw [e1,e2]
      refine qV.bind (pP (by rintro⟨_,_,h,_⟩;cases h) (by rintro⟨h,_⟩;cases h)) ?_
      have he:(Op.equal t (.slice p n c) (.slice none 0 0)).run P w=.ok b w:=hb ▸ qJW hu 9999
      rcases hop with rfl | rfl
      ·refine⟨_,w,?_,.inl rfl,.bool _⟩
       simp only [binOp];rw [bind_ok he];simp [Sem.run_pure]
      ·refine⟨_,w,?_,.inl rfl,.bool _⟩
       simp only [binOp];rw [bind_ok he];simp [Sem.run_pure]
     split at hv
     ·rename_i e1 e2
      cases hv
      rw [e1] at h1
      rw [e2] at h2
      exact key (xB h1) (xB h2) rfl
     ·rename_i l off len cap sz e1 e2
      rw [e1] at h1
      rw [e2] at h2
      cases hv
      generalize hv' : a.eval x=v at h1
      generalize hsl:AV.slice l off len cap sz=s at h1
      cases h1 with
      | slice h hb hsp ho hl hc'=>cases hsl;exact key hv' (xB h2) rfl
      | slice0 p=>cases hsl;exact key hv' (xB h2) rfl
      | _=>cases hsl
     ·cases hv
    ·cases hc
   ·cases hc
  ·simp only [Option.bind_eq_bind,Option.bind_eq_some_iff,Option.some.injEq] at hc
   obtain⟨x',hx,y',hy,rfl⟩:=hc
   simp only [zS] at hv
   exact qV.next (qDv hv (hO hx) (hO hy))
 | unOp op t x =>
  simp only [jH,Option.bind_eq_bind,Option.bind_eq_some_iff,Option.some.injEq] at hc
  obtain⟨y,hy,rfl⟩:=hc
  simp only [zS] at hv
  have h1:=hO hy
  unfold unA at hv
  refine qV.next ?_
  split at hv
  ·rename_i e1
   cases hv
   rw [e1] at h1
   rw [zK h1]
   exact qV.pure (.int _ _)
  ·rename_i e1
   cases hv
   rw [e1] at h1
   obtain⟨b,e2,rfl,hb⟩:=yB h1
   rw [e2]
   exact qV.pure (neg_R hb)
  ·rename_i e1
   cases hv
   rw [e1] at h1
   rw [bK h1]
   exact qV.pure (.bool _)
  ·cases hv
 | convert src dst' x =>
  have hcv:∃ c y,ao=.conv c y:=by
   simp only [jH] at hc
   split at hc
   iterate 4
    ·simp only [Option.bind_eq_bind,Option.bind_eq_some_iff,Option.some.injEq] at hc
     obtain⟨y,hy,rfl⟩:=hc
     exact⟨_,_,rfl⟩
   ·split at hc
    ·simp only [Option.bind_eq_bind,Option.bind_eq_some_iff,Option.some.injEq] at hc
     obtain⟨y,hy,rfl⟩:=hc
     exact⟨_,_,rfl⟩
    ·cases hc
   ·cases hc
  obtain⟨c,y,rfl⟩:=hcv
  simp only [zS] at hv
  exact qV.next (qFX hc hv hs he)
 | makeFunc fn first captured =>
  cases fn <;> simp only [jH,Option.bind_eq_bind,Option.bind_eq_some_iff,Option.some.injEq,reduceCtorEq] at hc
  obtain⟨as,has,bs,hbs,rfl⟩:=hc
  simp only [zS,Option.some.injEq] at hv
  subst hv
  have h1:=qAN has he
  have h2:=qAN hbs he
  refine qV.next (qV.pure ?_)
  exact .func (by simpa using h1.1) (fun i a v ha hv=>h1.2 i a v ha (by simpa using hv)) (by simpa using h2.1) (fun i a v ha hv=>h2.2 i a v ha (by simpa using hv))
 | build t parts =>
  simp only [jH] at hc
  split at hc
  ·rename_i fields hu
   simp only [Option.bind_eq_bind,Option.bind_eq_some_iff,Option.some.injEq] at hc
   obtain⟨zs,hz,ps,hps,fs,hfs,rfl⟩:=hc
   simp only [zS,Option.map_eq_some_iff] at hv
   obtain⟨ds,hds,rfl⟩:=hv
   obtain⟨z,hz1,hz2⟩:=gM (μ:=μ) (w:=w) hz
   refine qV.next ?_
   unfold Instr.build
   refine qV.bind hz1 (qV.bind (qG hu) ?_)
   simp only []
   have hpl:(fields.mapM fun (f:Field)=>(do pure (f.offset,<- sizeOf f.type):Sem (Nat × Nat))).run P w=.ok (fields.map fun f=>(f.offset,(xH P f.type).getD 0)) w:=by
    rw [Array.mapM_eq_mapM_toList]
    have:(fields.toList.mapM fun f=>(do pure (f.offset,<- sizeOf f.type):Sem (Nat × Nat))).run P w=.ok (fields.toList.map fun f=>(f.offset,(xH P f.type).getD 0)) w:=by
     refine qFv (f:=fun f=>(xH P f.type).map fun n=>(f.offset,n)) ?_ ?_
     ·intro f y hf
      simp only [Option.map_eq_some_iff] at hf
      obtain⟨n,hn,rfl⟩:=hf
      rw [bind_ok (vB hn)];rfl
     ·clear hps hds
      generalize fields.toList=l at hfs
      induction l generalizing fs with
      | nil=>rfl
      | cons f l ih =>
       simp only [List.mapM_cons,Option.bind_eq_bind,Option.bind_eq_some_iff,Option.pure_def,Option.some.injEq] at hfs ⊢
       obtain⟨n,hn,ns,hns,rfl⟩:=hfs
       exact⟨(f.offset,n),by rw [hn];rfl,_,ih _ hns,by simp [hn]⟩
    rw [map_ok (f:=List.toArray) this]
    congr 1
    apply Array.ext'
    simp
   refine qV.bind hpl ?_
   have hps' : parts.toList.mapM (fun (i,x)=>do let y <- jE x;let p <- (fields.map fun f=>(f.offset,(xH P f.type).getD 0))[i]?;some (p.1,p.2,y))=some ps:=by
    refine qAR ?_ hps
    rintro⟨i,x⟩ y hy
    simp only [Option.bind_eq_bind,Option.bind_eq_some_iff,Option.some.injEq] at hy ⊢
    obtain⟨f,hf,n,hn,x',hx',rfl⟩:=hy
    exact⟨x',hx',(f.offset,n),by simp [hf,hn],rfl⟩
   obtain⟨us,h1,h2⟩:=pL hps' he hz2 hds
   have e:(parts.map fun (i,x)=>(i,a.eval x)).toList=parts.toList.map fun (i,x)=>(i,a.eval x):=by simp
   rw [e,h1]
   exact qV.pure (R.aggL.2 h2)
  ·rename_i len elem hu
   simp only [Option.bind_eq_bind,Option.bind_eq_some_iff,Option.some.injEq] at hc
   obtain⟨zs,hz,sz,hsz,ps,hps,rfl⟩:=hc
   simp only [zS,Option.map_eq_some_iff] at hv
   obtain⟨ds,hds,rfl⟩:=hv
   obtain⟨z,hz1,hz2⟩:=gM (μ:=μ) (w:=w) hz
   refine qV.next ?_
   unfold Instr.build
   refine qV.bind hz1 (qV.bind (qG hu) ?_)
   simp only []
   refine qV.bind (vB hsz) ?_
   have hps' : parts.toList.mapM (fun (i,x)=>do let y <- jE x;let p <- (fun i:Nat=>some (i * sz,sz)) i;some (p.1,p.2,y))=some ps:=by
    refine qAR ?_ hps
    rintro⟨i,x⟩ y hy
    simp only [Option.bind_eq_bind,Option.bind_eq_some_iff,Option.some.injEq] at hy ⊢
    obtain⟨x',hx',rfl⟩:=hy
    exact⟨x',hx',(i * sz,sz),rfl,rfl⟩
   obtain⟨us,h1,h2⟩:=pL (place:=fun i:Nat=>some (i * sz,sz)) hps' he hz2 hds
   have e:(parts.map fun (i,x)=>(i,a.eval x)).toList=parts.toList.map fun (i,x)=>(i,a.eval x):=by simp
   rw [e,h1]
   exact qV.pure (R.aggL.2 h2)
  ·cases hc
 | slice t x lo hi mx =>
  simp only [jH] at hc
  split at hc
  ·rename_i n elem hu
   simp only [Option.bind_eq_bind,Option.bind_eq_some_iff,Option.some.injEq] at hc
   obtain⟨sz,hsz,x',hx,lo',hlo,hi',hhi,mx',hmx,rfl⟩:=hc
   simp only [zS] at hv
   have h1:=hO hx
   split at hv
   ·rename_i l o e1
    rw [e1] at h1
    split at hv
    ·rename_i cs wr hg
     split at hv
     ·rename_i hln
      split at hv
      ·rename_i i h m hb
       cases hv
       obtain⟨li,hm,e2⟩:=uH h1
       obtain⟨hr,hih,hhm,hmc⟩:=pK (P:=P) (w:=w) (isSlice:=false) hb (Nat.le_refl _) (mM hlo he) (mM hhi he) (mM hmx he)
       obtain⟨c,e,lo1,hi1,hbk,hsz',hlim,hcc,_⟩:=hs.row l li cs wr hg hm
       refine qV.next ?_
       unfold Instr.sliceAt
       refine qV.bind (qG hu) ?_
       simp only []
       rw [e2]
       refine qV.bind (x:=⟨li.blk,li.base+o,none⟩) rfl (qV.bind hr (qV.bind (vB hsz) (qV.pure ?_)))
       have hR:R μ (.slice l o n n sz) (.slice (some ⟨li.blk,li.base+o,none⟩) n n):=.slice hm rfl rfl (.inr rfl) om (Nat.le_refl _)
       have:=qKX hR hih hhm hmc
       by_cases hmi:m=i
       ·simpa [hmi] using this
       ·simpa [hmi] using this
      ·cases hv
     ·cases hv
    ·cases hv
   ·cases hv
  ·rename_i elem hu
   simp only [Option.bind_eq_bind,Option.bind_eq_some_iff,Option.some.injEq] at hc
   obtain⟨sz,hsz,x',hx,lo',hlo,hi',hhi,mx',hmx,rfl⟩:=hc
   simp only [zS] at hv
   have h1:=hO hx
   split at hv
   ·rename_i l o len cap sz' e1
    rw [e1] at h1
    split at hv
    ·rename_i hss
     subst hss
     split at hv
     ·rename_i i h m hb
      cases hv
      obtain⟨p,e2,hlc⟩:=slice_form h1
      obtain⟨hr,hih,hhm,hmc⟩:=pK (P:=P) (w:=w) (isSlice:=true) hb hlc (mM hlo he) (mM hhi he) (mM hmx he)
      refine qV.next ?_
      unfold Instr.sliceAt
      refine qV.bind (qG hu) ?_
      simp only []
      rw [e2] at h1 ⊢
      unfold Instr.slice
      refine qV.bind (qG hu) ?_
      simp only []
      exact qV.bind hr (qV.bind (vB hsz) (qV.pure (qKX h1 hih hhm hmc)))
     ·cases hv
    ·cases hv
   ·rename_i e1
    rw [e1] at h1
    split at hv
    ·rename_i ihm hb
     obtain⟨i,h,m⟩:=ihm
     cases hv
     have e2:=xB h1
     obtain⟨hr,hih,hhm,hmc⟩:=pK (P:=P) (w:=w) (isSlice:=true) hb (Nat.le_refl _) (mM hlo he) (mM hhi he) (mM hmx he)
     refine qV.next ?_
     unfold Instr.sliceAt
     refine qV.bind (qG hu) ?_
     simp only []
     rw [e2]
     unfold Instr.slice
     refine qV.bind (qG hu) ?_
     simp only []
     refine qV.bind hr (qV.bind (vB hsz) (qV.pure ?_))
     obtain rfl:m=0:=by omega
     obtain rfl:h=0:=by omega
     obtain rfl:i=0:=by omega
     exact .nilslice
    ·cases hv
   ·cases hv
  ·rename_i hu
   split at hc
   ·cases hc
   ·rename_i hmx0
    simp only [Option.bind_eq_bind,Option.bind_eq_some_iff,Option.some.injEq] at hc
    obtain⟨x',hx,lo',hlo,hi',hhi,rfl⟩:=hc
    simp only [zS] at hv
    have h1:=hO hx
    split at hv
    ·rename_i s e1
     rw [e1] at h1
     split at hv
     ·rename_i i h m hb
      cases hv
      obtain⟨bs,e2,hbs⟩:=dB h1
      obtain rfl:mx=none:=by cases mx with | none=>rfl | some _=>simp at hmx0
      subst hbs
      obtain⟨hr,hih,hhm,hmc⟩:=pK (P:=P) (w:=w) (isSlice:=false) hb (Nat.le_refl _) (mM hlo he) (mM hhi he) (OptR.mk (fun _ h=>by cases h) (fun _=>rfl))
      refine qV.next ?_
      unfold Instr.sliceAt
      refine qV.bind (qG hu) ?_
      simp only []
      rw [e2]
      unfold Instr.slice
      refine qV.bind (qG hu) ?_
      simp only [Option.map_none,Option.isSome_none,Bool.false_eq_true,if_false]
      refine qV.bind hr (qV.pure (.str ?_))
      simp [ByteArray.data_extract,List.extract,List.drop_take]
     ·cases hv
    ·cases hv
  ·cases hc
 | fieldAddr st x i =>
  simp only [jH] at hc
  split at hc
  ·rename_i fields hu
   simp only [Option.bind_eq_bind,Option.bind_eq_some_iff] at hc
   obtain⟨f,hf,n,hn,hc⟩:=hc
   split at hc
   ·cases hc
   ·rename_i hn0
    simp only [Option.bind_eq_some_iff,Option.some.injEq] at hc
    obtain⟨y,hy,rfl⟩:=hc
    simp only [zS] at hv
    have h1:=hO hy
    split at hv
    ·rename_i l o e1
     cases hv
     rw [e1] at h1
     obtain⟨li,hm,e2⟩:=uH h1
     refine qV.next ?_
     unfold Instr.fieldAt
     refine qV.bind (qG hu) ?_
     simp only [hf]
     rw [e2]
     refine qV.bind (x:=⟨li.blk,li.base+o,none⟩) rfl ?_
     have hp:(fieldPlace ⟨li.blk,li.base+o,none⟩ f).run P w=.ok ⟨li.blk,li.base+o+f.offset,none⟩ w:=by
      unfold fieldPlace
      rw [bind_ok (vB hn),if_neg hn0,addr_add];rfl
     exact qV.bind hp (qV.pure (.ptr hm (by rw [Nat.add_assoc])))
    ·cases hv
  ·cases hc
 | field t x i =>
  simp only [jH] at hc
  split at hc
  ·rename_i fields hu
   simp only [Option.bind_eq_bind,Option.bind_eq_some_iff,Option.some.injEq] at hc
   obtain⟨f,hf,⟨ag,n⟩,ht,y,hy,rfl⟩:=hc
   simp only [zS] at hv
   have h1:=hO hy
   split at hv
   ·rename_i cs e1
    rw [e1] at h1
    obtain⟨vs,e2,hr⟩:=agg_inv h1
    refine qV.next ?_
    unfold Instr.field
    refine qV.bind (qG hu) ?_
    simp only [hf]
    rw [e2]
    exact qV.bind (x:=vs) rfl (qCu ht hr hv)
   ·cases hv
  ·cases hc
 | indexAddr t x i =>
  simp only [jH] at hc
  split at hc
  ·rename_i len elem hu
   simp only [Option.bind_eq_bind,Option.bind_eq_some_iff,Option.some.injEq] at hc
   obtain⟨sz,hsz,x',hx,i',hi,rfl⟩:=hc
   simp only [zS] at hv
   have h1:=hO hx
   have h2:=hO hi
   split at hv
   ·rename_i l o k n e1 e2
    rw [e1] at h1
    rw [e2] at h2
    split at hv
    ·rename_i hb
     cases hv
     obtain⟨li,hm,e3⟩:=uH h1
     refine qV.next ?_
     unfold Instr.indexAt
     rw [e3,zK h2]
     refine qV.bind (x:=(k,n)) rfl (qV.bind (qG hu) ?_)
     refine qV.bind (x:=⟨li.blk,li.base+o,none⟩) rfl ?_
     refine qV.bind (x:=(some (⟨li.blk,li.base+o,none⟩:Addr),len,elem)) rfl ?_
     refine qV.bind (qG hu) ?_
     simp only [hb,and_self,if_true]
     refine qV.bind (vB hsz) (qV.pure (.ptr hm (by rw [addr_add,Nat.add_assoc])))
    ·cases hv
   ·cases hv
  ·rename_i elem hu
   simp only [Option.bind_eq_bind,Option.bind_eq_some_iff,Option.some.injEq] at hc
   obtain⟨sz,hsz,x',hx,i',hi,rfl⟩:=hc
   simp only [zS] at hv
   have h1:=hO hx
   have h2:=hO hi
   split at hv
   ·rename_i l o len cap sz' k n e1 e2
    rw [e1] at h1
    rw [e2] at h2
    split at hv
    ·rename_i hb
     obtain⟨rfl,hb0,hb1⟩:=hb
     cases hv
     generalize hxv:a.eval x=v at h1
     generalize hsl:AV.slice l o len cap sz=s at h1
     cases h1 with
     | @slice l' o' len' cap' sz' li ad hμ hbl hsp ho hl hc' =>
      cases hsl
      have ho' : ad.off=li.base+o:=ho.resolve_left om
      refine qV.next ?_
      unfold Instr.indexAt
      rw [hxv,zK h2]
      refine qV.bind (x:=(k,n)) rfl (qV.bind (qG hu) ?_)
      refine qV.bind (x:=(some ad,len,elem)) rfl ?_
      refine qV.bind (qG hu) ?_
      simp only [hb0,hb1,and_self,if_true]
      refine qV.bind (vB hsz) (qV.pure (.ptr hμ ?_))
      rw [uN hsp,hbl,ho',Nat.add_assoc]
     | slice0 p=>cases hsl;omega
     | _=>cases hsl
    ·cases hv
   ·cases hv
  ·cases hc
 | index t x i =>
  simp only [jH] at hc
  split at hc
  ·rename_i len elem hu
   simp only [Option.bind_eq_bind,Option.bind_eq_some_iff,Option.some.injEq] at hc
   obtain⟨⟨ag,n⟩,ht,x',hx,i',hi,rfl⟩:=hc
   simp only [zS] at hv
   have h1:=hO hx
   have h2:=hO hi
   split at hv
   ·rename_i cs k m e1 e2
    rw [e1] at h1
    rw [e2] at h2
    split at hv
    ·rename_i hb
     obtain⟨vs,e3,hr⟩:=agg_inv h1
     refine qV.next ?_
     unfold Instr.index
     rw [e3,zK h2]
     refine qV.bind (x:=(k,m)) rfl (qV.bind (qG hu) ?_)
     simp only [hb,and_self,if_true]
     exact qV.bind (qAe ht).2 (qCu ht hr hv)
    ·cases hv
   ·cases hv
  ·rename_i hu
   simp only [Option.bind_eq_bind,Option.bind_eq_some_iff,Option.some.injEq] at hc
   obtain⟨x',hx,i',hi,rfl⟩:=hc
   simp only [zS] at hv
   have h1:=hO hx
   have h2:=hO hi
   split at hv
   ·rename_i s k m e1 e2
    rw [e1] at h1
    rw [e2] at h2
    split at hv
    ·rename_i hb
     simp only [Option.map_eq_some_iff] at hv
     obtain⟨c,hc',rfl⟩:=hv
     obtain⟨bs,e3,rfl⟩:=dB h1
     refine qV.next ?_
     unfold Instr.index
     rw [e3,zK h2]
     refine qV.bind (x:=(k,m)) rfl (qV.bind (qG hu) ?_)
     have hg:bs[m.toNat]? = some c:=by
      rw [<- hc']
      show (if h:m.toNat < bs.size then some bs[m.toNat] else none)=_
      by_cases hlt:m.toNat < bs.size
      ·rw [dif_pos hlt,List.getElem?_eq_getElem (by exact hlt)];rfl
      ·rw [dif_neg hlt,List.getElem?_eq_none (by exact Nat.le_of_not_lt hlt)]
     simp only [hb,if_true,hg]
     exact qV.pure (.int _ _)
    ·cases hv
   ·cases hv
  ·cases hc
 | lookup t x k ok =>
  simp only [jH] at hc
  split at hc
  ·rename_i key elem hu
   split at hc
   ·rename_i k0 z hk hz
    simp only [Option.bind_eq_bind,Option.bind_eq_some_iff,Option.some.injEq] at hc
    obtain⟨zero,hz0,x',hx,k',hkk,rfl⟩:=hc
    simp only [zS] at hv
    have h1:=hO hx
    have h2:=hO hkk
    split at hv
    ·rename_i l e1
     rw [e1] at h1
     split at hv
     ·rename_i es hg
      simp only [Option.map_eq_some_iff] at hv
      obtain⟨r',hr',rfl⟩:=hv
      exact qV.next (qDZ hu hk hz hz0 hg hs h1 h2 hr' ok)
     ·cases hv
    ·cases hv
   ·cases hc
  ·cases hc
 | extract t i =>
  simp only [jH,Option.bind_eq_bind,Option.bind_eq_some_iff,Option.some.injEq] at hc
  obtain⟨y,hy,rfl⟩:=hc
  simp only [zS] at hv
  have h1:=hO hy
  split at hv
  ·rename_i as e1
   rw [e1] at h1
   obtain⟨vs,e2,hr⟩:=R.tuple_inv h1
   obtain⟨v,hv',hR⟩:=hr.get hv
   refine qV.next ?_
   rw [e2]
   simp only [Array.getElem?_toList] at hv'
   simp only [Instr.extract,hv']
   exact qV.pure hR
  ·cases hv
 | makeInterface t x =>
  simp only [jH] at hc
  split at hc
  ·cases hc
  ·rename_i d hne hu
   simp only [Option.bind_eq_bind,Option.bind_eq_some_iff,Option.some.injEq] at hc
   obtain⟨y,hy,rfl⟩:=hc
   simp only [zS,Option.some.injEq] at hv
   subst hv
   refine qV.next ?_
   unfold Instr.makeInterface
   refine qV.bind (qG hu) ?_
   split
   ·exact(hne _ rfl).elim
   ·exact qV.pure (.iface (hO hy))
  ·cases hc
 | call c =>
  obtain⟨callee,args,argTypes⟩:=c
  cases callee with
  | value f =>
   cases f <;> simp only [jH,Option.bind_eq_bind,Option.bind_eq_some_iff,Option.some.injEq] at hc
   case func f=>obtain⟨as,_,rfl⟩:=hc;cases hv
   all_goals (obtain⟨f',_,as,_,rfl⟩:=hc;cases hv)
  | invoke=>simp only [jH,reduceCtorEq] at hc
  | builtin b =>
   simp only [jH] at hc
   split at hc
   ·rename_i x t hat hay
    obtain rfl:args = #[x]:=by cases args;simpa using hat
    obtain rfl:argTypes = #[t]:=by cases argTypes;simpa using hay
    have run:∀ {r:AV},qV P μ w (Builtin.len_ #[t] type #[a.eval x]) r->qCg P μ w (execOp a.eval ⟨dst,.call ⟨.builtin .len,#[x],#[t]⟩,type,pos,after,guard⟩) r:=fun h=>yV h (by simp [builtin])
    split at hc
    ·rename_i n e hu
     cases hc
     simp only [zS,Option.some.injEq] at hv
     subst hv
     refine run ?_
     unfold Builtin.len_
     exact qV.bind (qG hu) (qV.pure (.int _ _))
    ·rename_i e hu
     simp only [Option.bind_eq_bind,Option.bind_eq_some_iff,Option.some.injEq] at hc
     obtain⟨y,hy,rfl⟩:=hc
     simp only [zS] at hv
     have h1:=hO hy
     refine run ?_
     unfold Builtin.len_
     refine qV.bind (qG hu) ?_
     split at hv
     ·rename_i e1
      cases hv
      rw [e1] at h1
      obtain⟨p,e2,_⟩:=slice_form h1
      rw [e2]
      exact qV.pure (.int _ _)
     ·rename_i e1
      cases hv
      rw [e1] at h1
      rw [xB h1]
      exact qV.pure (.int _ _)
     ·cases hv
    ·rename_i hu
     simp only [Option.bind_eq_bind,Option.bind_eq_some_iff,Option.some.injEq] at hc
     obtain⟨y,hy,rfl⟩:=hc
     simp only [zS] at hv
     have h1:=hO hy
     refine run ?_
     unfold Builtin.len_
     refine qV.bind (qG hu) ?_
     split at hv
     ·rename_i s e1
      cases hv
      rw [e1] at h1
      obtain⟨bs,e2,rfl⟩:=dB h1
      rw [e2]
      exact qV.pure (.int _ _)
     ·cases hv
    ·cases hc
   ·rename_i x t hat hay
    obtain rfl:args = #[x]:=by cases args;simpa using hat
    obtain rfl:argTypes = #[t]:=by cases argTypes;simpa using hay
    have run:∀ {r:AV},qV P μ w (Builtin.cap_ #[t] type #[a.eval x]) r->qCg P μ w (execOp a.eval ⟨dst,.call ⟨.builtin .cap,#[x],#[t]⟩,type,pos,after,guard⟩) r:=fun h=>yV h (by simp [builtin])
    split at hc
    ·rename_i n e hu
     cases hc
     simp only [zS,Option.some.injEq] at hv
     subst hv
     refine run ?_
     unfold Builtin.cap_
     exact qV.bind (qG hu) (qV.pure (.int _ _))
    ·rename_i e hu
     simp only [Option.bind_eq_bind,Option.bind_eq_some_iff,Option.some.injEq] at hc
     obtain⟨y,hy,rfl⟩:=hc
     simp only [zS] at hv
     have h1:=hO hy
     refine run ?_
     unfold Builtin.cap_
     refine qV.bind (qG hu) ?_
     split at hv
     ·rename_i e1
      cases hv
      rw [e1] at h1
      obtain⟨p,e2,_⟩:=slice_form h1
      rw [e2]
      exact qV.pure (.int _ _)
     ·rename_i e1
      cases hv
      rw [e1] at h1
      rw [xB h1]
      exact qV.pure (.int _ _)
     ·cases hv
    ·cases hc
   ·rename_i x y hat
    obtain rfl:args = #[x,y]:=by cases args;simpa using hat
    simp only [Option.bind_eq_bind,Option.bind_eq_some_iff,Option.some.injEq] at hc
    obtain⟨x',hx,y',hy,rfl⟩:=hc
    simp only [zS] at hv
    exact yV (qGn (ts:=argTypes) (t:=type) hv (hO hx) (hO hy)) (by simp [builtin])
   ·rename_i x y hat
    obtain rfl:args = #[x,y]:=by cases args;simpa using hat
    simp only [Option.bind_eq_bind,Option.bind_eq_some_iff,Option.some.injEq] at hc
    obtain⟨x',hx,y',hy,rfl⟩:=hc
    simp only [zS] at hv
    exact yV (qGj (ts:=argTypes) (t:=type) hv (hO hx) (hO hy)) (by simp [builtin])
   ·rename_i x y z w hat
    obtain rfl:args = #[x,y,z,w]:=by cases args;simpa using hat
    simp only [Option.bind_eq_bind,Option.bind_eq_some_iff,Option.some.injEq] at hc
    obtain⟨x',hx,y',hy,z',hz,w',hw,rfl⟩:=hc
    simp only [zS] at hv
    exact yV (qGk (ts:=argTypes) (ty:=type) hv (hO hx) (hO hy) (hO hz) (hO hw)) (by simp [builtin])
   ·split at hc
    ·obtain⟨_,_,_,_,_,_,_,_,_,_,_,_,rfl⟩:=vS hc;cases hv
    ·obtain⟨_,_,_,_,_,_,_,_,_,_,_,_,rfl⟩:=vS hc;cases hv
    ·obtain⟨_,_,_,_,_,_,_,_,_,_,_,_,rfl⟩:=gD hc;cases hv
    ·cases hc
   ·split at hc
    ·simp only [Option.bind_eq_bind,Option.bind_eq_some_iff,Option.some.injEq] at hc
     obtain⟨_,_,_,_,_,_,rfl⟩:=hc;cases hv
    ·cases hc
   ·split at hc
    ·simp only [Option.bind_eq_bind,Option.bind_eq_some_iff,Option.some.injEq] at hc
     obtain⟨_,_,_,_,_,_,rfl⟩:=hc;cases hv
    ·cases hc
   ·cases hc
 | alloc t =>
  simp only [jH,Option.bind_eq_bind,Option.bind_eq_some_iff,Option.some.injEq] at hc
  obtain⟨_,_,rfl⟩:=hc;cases hv
 | box t x =>
  simp only [jH,Option.bind_eq_bind,Option.bind_eq_some_iff,Option.some.injEq] at hc
  obtain⟨_,_,rfl⟩:=hc;cases hv
 | buildSlice t len parts =>
  simp only [jH] at hc
  split at hc
  ·simp only [Option.bind_eq_bind,Option.bind_eq_some_iff] at hc
   obtain⟨_,_,_,_,_,_,hc⟩:=hc
   split at hc
   ·cases hc;cases hv
   ·cases hc
  ·cases hc
 | store t x y =>
  simp only [jH,Option.bind_eq_bind,Option.bind_eq_some_iff,Option.some.injEq] at hc
  obtain⟨_,_,_,_,_,_,rfl⟩:=hc;cases hv
 | makeSlice t l c =>
  simp only [jH] at hc
  split at hc
  ·simp only [Option.bind_eq_bind,Option.bind_eq_some_iff] at hc
   obtain⟨_,_,_,_,_,_,hc⟩:=hc
   split at hc
   ·simp only [Option.bind_eq_some_iff,Option.some.injEq] at hc
    obtain⟨_,_,_,_,rfl⟩:=hc;cases hv
   ·cases hc
  ·cases hc
 | mapUpdate t m k x =>
  simp only [jH] at hc
  split at hc
  ·split at hc
   ·simp only [Option.bind_eq_bind,Option.bind_eq_some_iff,Option.some.injEq] at hc
    obtain⟨_,_,_,_,_,_,rfl⟩:=hc;cases hv
   ·cases hc
  ·cases hc
 | insert t m k x =>
  simp only [jH] at hc
  split at hc
  ·split at hc
   ·simp only [Option.bind_eq_bind,Option.bind_eq_some_iff,Option.some.injEq] at hc
    obtain⟨_,_,_,_,_,_,rfl⟩:=hc;cases hv
   ·cases hc
  ·cases hc
 | makeMap t r =>
  cases r <;> simp only [jH,Option.some.injEq,reduceCtorEq] at hc
  subst hc;cases hv
 | ready=>simp only [jH,reduceCtorEq] at hc
 | waits=>simp only [jH,reduceCtorEq] at hc
 | sliceToArrayPointer=>simp only [jH,reduceCtorEq] at hc
 | makeChan=>simp only [jH,reduceCtorEq] at hc
 | mapEntry=>simp only [jH,reduceCtorEq] at hc
 | entryStore=>simp only [jH,reduceCtorEq] at hc
 | range=>simp only [jH,reduceCtorEq] at hc
 | next=>simp only [jH,reduceCtorEq] at hc
 | entry=>simp only [jH,reduceCtorEq] at hc
 | typeAssert=>simp only [jH,reduceCtorEq] at hc
 | go=>simp only [jH,reduceCtorEq] at hc
 | defer=>simp only [jH,reduceCtorEq] at hc
 | panic=>simp only [jH,reduceCtorEq] at hc
 | send=>simp only [jH,reduceCtorEq] at hc
 | recv=>simp only [jH,reduceCtorEq] at hc
 | select=>simp only [jH,reduceCtorEq] at hc
 where
 bind_ok' {α β:Type} {P:Program} {s:Sem α} {f:α->Sem β} {w w' : World} {a:α} (h:s.run P w=.ok a w'):(s >>= f).run P w=(f a).run P w':=bind_ok h
 map_ok {α β:Type} {P:Program} {s:Sem α} {f:α->β} {w w' : World} {a:α} (h:s.run P w=.ok a w'):(f <$> s).run P w=.ok (f a) w':=bind_ok (f:=fun a=>pure (f a)) h
 neg_R {μ:Mu} {k:FloatKind} {b:Nat} (hb:b < 2^k.format.width):R μ (.flt k (qLm k (nrm k b))) (.float k (Op.negFloat k b)):=by
  have hrung:∀ f:Ieee.Format,(b ^^^ 2^(f.exponentBits+f.fractionBits)) % f.signWeight=b % f.signWeight:=fun f=>by
   unfold Ieee.Format.signWeight
   rw [Nat.xor_mod_two_pow,Nat.mod_self,Nat.xor_zero]
  have hnan:(k.decode (Op.negFloat k b)).isNaN=(k.decode b).isNaN:=by
   unfold FloatKind.decode Ieee.Format.read Op.negFloat
   simp only [hrung]
   split
   ·rfl
   ·split
    ·rfl
    ·split <;> rfl
  refine .flt ?_ ?_
  ·unfold nrm
   rw [hnan]
   split <;> rfl
  ·unfold Op.negFloat
   refine Nat.xor_lt_two_pow hb ?_
   unfold Ieee.Format.width
   exact Nat.pow_lt_pow_right om om
end
end Go.Ab
end
/- Operations with effects: what they do to the abstract heap. -/
section
namespace Go.Ab
def AV.one:AV->Bool
 | .any | .undef | .agg _ | .tuple _=>false
 | _=>true
def vX (P:Program) (Φ:Value->World->Prop):Result Next->Prop
 | .ok (.value v) w'=>Φ v w'
 | .ok .skip w'=>Φ Go.undef w'
 | .ok (.enter f args) w'=>Calls P f args w' (fun e w''=>∃ v,e=.returned v/\Φ v w'')
 | _=>False
theorem vX.mono {P:Program} {Φ Ψ:Value->World->Prop} {r:Result Next} (h:vX P Φ r) (hm:∀ v w,Φ v w->Ψ v w):vX P Ψ r:=by
 cases r with
 | ok n w =>
  cases n <;> simp only [vX] at h ⊢
  case value v=>exact hm _ _ h
  case skip=>exact hm _ _ h
  case enter f args=>exact h.mono fun e w' ⟨v,he,hv⟩=>⟨v,he,hm _ _ hv⟩
 | halt x w=>exact h
def Out (F:Nat->Prop) (μ:Mu) (H:AHeap) (w:World) (k:VK) (v:Value) (w' : World):Prop:=
 ∃ (μ' : Mu) (r:AV) (H' : AHeap),k r H'/\H.next<=H'.next/\Mu.ext H.next μ μ'/\Sim F μ' H' w'/\R μ' r v/\Keeps F w w'
theorem Out.mono {F:Nat->Prop} {μ:Mu} {H:AHeap} {w:World} {k k' : VK} {v:Value} {w' : World} (h:Out F μ H w k v w') (hk:∀ r H',k r H'->k' r H'):Out F μ H w k' v w':=by
 obtain⟨μ',r,H',h1,h2⟩:=h
 exact⟨μ',r,H',hk _ _ h1,h2⟩
def qK (P:Program) (f:FuncId) (args:List AV) (H:AHeap) (Q:VK):Prop:=
 ∀ (F:Nat->Prop) (μ:Mu) (w:World) (vs:List Value),Sim F μ H w->RL μ args vs->vX P (Out F μ H w Q) ((callFunc f vs.toArray).run P w)
theorem qK.mono {P:Program} {f:FuncId} {args:List AV} {H:AHeap} {Q Q' : VK} (h:qK P f args H Q) (hq:∀ r H',Q r H'->Q' r H'):qK P f args H Q':=
 fun F μ w vs hs ha=>(h F μ w vs hs ha).mono fun _ _ ho=>ho.mono hq
def byteCells (s:List UInt8):List AV:=s.map fun b=>.int .u8 b.toNat
def jX (get:Nat->Option HB) (sz:Nat):AV->Option (List AV × Nat)
 | .nilslice=>some ([],0)
 | .slice l o n _ sz' =>
  if sz=sz' then
   if n=0 then some ([],0) else
    match get l with
    | some (.row cs _)=>if o+n * sz<=cs.length then some ((cs.drop o).take (n * sz),n) else none
    | _=>none
  else none
 | .str s=>if sz=1 then some (byteCells s,s.length) else none
 | _=>none
def qGq (es:List (AV × AV)) (k v:AV):Option (List (AV × AV)):=
 match es with
 | []=>some [(k,v)]
 | (a,b) :: rest=>match wZ 0 k a with
  | some true=>some ((k,v) :: rest)
  | some false=>(qGq rest k v).map ((a,b) :: ·)
  | none=>none
def qDJ (H:AHeap) (os ys:List AV) (need bytes sz:Nat) (k:VK):Prop:=
 (2 * need+192) * bytes<=2^48/\ys.all AV.one=true /\ ∀ c,need<=c->k (.slice H.next 0 need c sz) (H.new (.row (os ++ ys) true))
def tZ (H:AHeap) (sz bytes:Nat) (x y:AV) (k:VK):Prop:=
 match jX H.get sz y with
 | none=>False
 | some (ys,n) =>
  match x with
  | .nilslice=>if n=0 then k .nilslice H else qDJ H [] ys n bytes sz k
  | .slice l o len cap sz' =>
   if sz=sz' then
    if cap=0 then (if n=0 then k (.slice l o len cap sz') H else qDJ H [] ys n bytes sz k) else
     match H.get l with
     | some (.row cs true) =>
      if o+len * sz=cs.length then qDJ (H.del l) (cs.drop o) ys (len+n) bytes sz k
      else if o+(len+n) * sz<=cs.length/\len+n<=cap/\ys.all AV.one=true then k (.slice l o (len+n) cap sz) (H.put l (.row (laid cs (o+len * sz) ys) true))
      else False
     | some (.row cs false) =>
      if cap < len+n/\o+len * sz<=cs.length then qDJ H ((cs.drop o).take (len * sz)) ys (len+n) bytes sz k else False
     | _=>False
   else False
  | _=>False
def qAM (H:AHeap) (sz bytes:Nat) (zs:List AV) (x y:AV) (k:VK):Prop:=
 match x,y with
 | .slice l o len cap sz',.int _ n=>if sz=sz'/\0 < sz/\0 < n/\cap < len+n.toNat/\cap ≠ 0 then
   match H.get l with
   | some (.row cs _)=>if o+len * sz<=cs.length then qDJ H ((cs.drop o).take (len * sz)) (List.replicate n.toNat zs).flatten (len+n.toNat) bytes sz k else False
   | _=>False
  else False
 | _,_=>False
def mE (P:Program) (E:Env) (H:AHeap) (k:VK) (op:AOp):Prop:=
 match op with
 | .alloc zs=>k (.ptr H.next 0) (H.new (.row zs true))
 | .box x=>match (x.ev E).cells with
  | some cs=>k (.ptr H.next 0) (H.new (.row cs true))
  | none=>False
 | .bslice sz len zs parts=>match uY E zs parts with
  | some cs=>k (.slice H.next 0 len len sz) (H.new (.row cs true))
  | none=>False
 | .store n x y=>match x.ev E with
  | .ptr l off=>match H.get l with
   | some (.row cs true)=>match (y.ev E).cells with
    | some vs=>if vs.length=n/\off+n<=cs.length/\vs.all AV.one=true then k .undef (H.put l (.row (laid cs off vs) true)) else False
    | none=>False
   | _=>False
  | _=>False
 | .mkSlice sz bytes zs x y=>match x.ev E,y.ev E with
  | .int _ n,.int _ c=>if 0<=n/\n<=c/\(bytes:Int) * c<=2^48/\c<=9223372036854775807 then k (.slice H.next 0 n.toNat c.toNat sz) (H.new (.row (List.replicate c.toNat zs).flatten true)) else False
  | _,_=>False
 | .append sz bytes x y=>tZ H sz bytes (x.ev E) (y.ev E) k
 | .appendZ sz bytes zs x y=>qAM H sz bytes zs (x.ev E) (y.ev E) k
 | .copy sz x y=>match x.ev E,y.ev E with
  | .slice l o n _ sz',y=>if sz=sz' then
    match jX H.get sz y with
    | some (ys,m)=>if Nat.min m n=0 then k (.int .i64 0) H else
      match H.get l with
      | some (.row cs true)=>if o+n * sz<=cs.length/\(ys.take (Nat.min m n * sz)).all AV.one=true then k (.int .i64 (Nat.min m n)) (H.put l (.row (laid cs o (ys.take (Nat.min m n * sz))) true)) else False
      | _=>False
    | none=>False
   else False
  | _,_=>False
 | .clear sz zs x=>match x.ev E with
  | .nilslice=>k .undef H
  | .slice l o n _ sz'=>if n=0 then k .undef H else if sz=sz' then
    match H.get l with
    | some (.row cs true)=>if o+n * sz<=cs.length/\zs.length=sz/\zs.all AV.one=true then k .undef (H.put l (.row (laid cs o (List.replicate n zs).flatten) true)) else False
    | _=>False
   else False
  | _=>False
 | .makeMap=>k (.map H.next) (H.new (.mp []))
 | .mapUpdate x y z=>match x.ev E with
  | .map l=>match H.get l with
   | some (.mp es)=>match qGq es (y.ev E) (z.ev E) with
    | some es'=>k .undef (H.put l (.mp es'))
    | none=>False
   | _=>False
  | _=>False
 | .call f args=>qK P f (args.map (·.ev E)) H k
 | .callV g args=>match g.ev E with
  | .func f first cap=>qK P f (first ++ args.map (·.ev E) ++ cap) H k
  | _=>False
 | .callI t want f args=>match E t with
  | .bool b=>if b=want then qK P f (args.map (·.ev E)) H k else k .undef H
  | .undef=>k .undef H
  | _=>False
 | op=>match zS E H.get op with
  | some r=>k r H
  | none=>False
section
variable {P:Program} {μ:Mu} {E:Env} {a:Act} {F:Nat->Prop} {H:AHeap} {w:World}
theorem one_cell {x:AV} {v:Value} (h:R μ x v) (ho:x.one=true):v.oneCell'=true:=by
 cases h <;> first | rfl | cases ho
theorem qGB {vs:List AV} {us:List Value} (h:RL μ vs us) (ho:vs.all AV.one=true):∀ u ∈ us,u.oneCell'=true:=by
 intro u hu
 obtain⟨i,hi,he⟩:=List.getElem_of_mem hu
 have hi' : i < vs.length:=h.1 ▸ hi
 have:=h.2 i vs[i] u (List.getElem?_eq_getElem hi') (by rw [List.getElem?_eq_getElem hi,he])
 exact one_cell this (List.all_eq_true.1 ho _ (List.getElem_mem hi'))
def Mu.plus (μ:Mu) (l:Nat) (li:LI):Mu:=fun l'=>if l'=l then some li else μ l'
theorem Mu.plus_ext (μ:Mu) (n:Nat) (li:LI):Mu.ext n μ (μ.plus n li):=fun l hl=>by unfold Mu.plus;rw [if_neg om]
theorem pV (h:Array Obj) (o:Obj) (b:Nat) (hb:b < h.size):(h.push o)[b]? = h[b]?:=by
 rw [Array.getElem?_push,if_neg om]
theorem cX (hf:∀ b,w.heap.size<=b->F b) (o:Obj) (n:Nat):Keeps F w { w with heap:=w.heap.push o,drawn:=n }:=
 ⟨rfl,rfl,rfl,by simp,fun b hb _=>pV _ _ _ hb⟩
theorem Sim.push (hs:Sim F μ H w) {cs:List AV} {c:Array Value} {e:TypeId} (hl:cs.length<=c.size) (hr:∀ (i:Nat) (a:AV),cs[i]? = some a -> ∃ v,c[i]? = some v/\R μ a v) (n:Nat) :
  Sim F (μ.plus H.next ⟨w.heap.size,0,c.size⟩) (H.new (.row cs true)) { w with heap:=w.heap.push (.cells c e),drawn:=n }:=by
 have lift:∀ {a:AV} {v:Value},R μ a v->R (μ.plus H.next ⟨w.heap.size,0,c.size⟩) a v:=fun h=>hs.lift (Mu.plus_ext _ _ _) h
 have hnew:∀ l,l ≠ H.next->μ.plus H.next ⟨w.heap.size,0,c.size⟩ l=μ l:=fun l h=>by unfold Mu.plus;rw [if_neg h]
 have hat:μ.plus H.next ⟨w.heap.size,0,c.size⟩ H.next=some ⟨w.heap.size,0,c.size⟩:=by unfold Mu.plus;rw [if_pos rfl]
 refine⟨?_,?_,?_,?_,?_,?_⟩
 ·intro l li h
  by_cases hl' : l=H.next
  ·subst hl'
   rw [hat] at h
   cases h
   exact⟨by rw [AHeap.new_next];omega,by simp⟩
  ·rw [hnew l hl'] at h
   obtain⟨h1,h2⟩:=hs.dom l li h
   exact⟨by rw [AHeap.new_next];omega,by simp;omega⟩
 ·intro l li cs' wr hg hm
  rw [AHeap.new_get] at hg
  by_cases hl' : l=H.next
  ·subst hl'
   rw [if_pos rfl] at hg
   cases hg
   rw [hat] at hm
   cases hm
   refine⟨c,e,0,0,by simp,by simp,hl,?_,?_⟩
   ·intro i a hi
    obtain⟨v,hv,hR⟩:=hr i a hi
    exact⟨v,by simpa using hv,lift hR⟩
   ·intro _ o _;omega
  ·rw [if_neg hl'] at hg
   rw [hnew l hl'] at hm
   obtain⟨c',e',lo,hi,h1,h2,h3,h4,h5⟩:=hs.row l li cs' wr hg hm
   refine⟨c',e',lo,hi,?_,h2,h3,?_,h5⟩
   ·rw [show ({ w with heap:=w.heap.push (.cells c e),drawn:=n }:World).heap=w.heap.push (.cells c e) from rfl,pV _ _ _ (hs.dom l li hm).2];exact h1
   ·intro i a hi'
    obtain⟨v,hv,hR⟩:=h4 i a hi'
    exact⟨v,hv,lift hR⟩
 ·intro l li es hg hm
  rw [AHeap.new_get] at hg
  by_cases hl' : l=H.next
  ·subst hl';rw [if_pos rfl] at hg;cases hg
  ·rw [if_neg hl'] at hg
   rw [hnew l hl'] at hm
   obtain⟨ms,ck,h1,h2,h3⟩:=hs.mp l li es hg hm
   refine⟨ms,ck,?_,h2,fun i e m he hm'=>⟨lift (h3 i e m he hm').1,lift (h3 i e m he hm').2⟩⟩
   rw [show ({ w with heap:=w.heap.push (.cells c e),drawn:=n }:World).heap=w.heap.push (.cells c e) from rfl,pV _ _ _ (hs.dom l li hm).2];exact h1
 ·intro l l' b b' li li' hne hg hw hg' hm hm'
  rw [AHeap.new_get] at hg hg'
  by_cases h1:l=H.next
  ·subst h1
   rw [hat] at hm
   cases hm
   rw [if_neg (Ne.symm hne)] at hg'
   rw [hnew l' (Ne.symm hne)] at hm'
   have:=(hs.dom l' li' hm').2
   simp only [ne_eq];omega
  ·rw [if_neg h1] at hg
   rw [hnew l h1] at hm
   by_cases h2:l'=H.next
   ·subst h2
    rw [hat] at hm'
    cases hm'
    have:=(hs.dom l li hm).2
    simp only [ne_eq];omega
   ·rw [if_neg h2] at hg'
    rw [hnew l' h2] at hm'
    exact hs.sep l l' b b' li li' hne hg hw hg' hm hm'
 ·intro l b li hg hw hm
  rw [AHeap.new_get] at hg
  by_cases h1:l=H.next
  ·subst h1
   rw [hat] at hm
   cases hm
   exact hs.fresh _ (Nat.le_refl _)
  ·rw [if_neg h1] at hg
   rw [hnew l h1] at hm
   exact hs.may l b li hg hw hm
 ·intro b hb
  exact hs.fresh b (by simp at hb;omega)
theorem Sim.pushMap (hs:Sim F μ H w):Sim F (μ.plus H.next ⟨w.heap.size,0,0⟩) (H.new (.mp [])) { w with heap:=w.heap.push (.map #[] 0) }:=by
 have lift:∀ {a:AV} {v:Value},R μ a v->R (μ.plus H.next ⟨w.heap.size,0,0⟩) a v:=fun h=>hs.lift (Mu.plus_ext _ _ _) h
 have hnew:∀ l,l ≠ H.next->μ.plus H.next ⟨w.heap.size,0,0⟩ l=μ l:=fun l h=>by unfold Mu.plus;rw [if_neg h]
 have hat:μ.plus H.next ⟨w.heap.size,0,0⟩ H.next=some ⟨w.heap.size,0,0⟩:=by unfold Mu.plus;rw [if_pos rfl]
 refine⟨?_,?_,?_,?_,?_,?_⟩
 ·intro l li h
  by_cases hl' : l=H.next
  ·subst hl'
   rw [hat] at h
   cases h
   exact⟨by rw [AHeap.new_next];omega,by simp⟩
  ·rw [hnew l hl'] at h
   obtain⟨h1,h2⟩:=hs.dom l li h
   exact⟨by rw [AHeap.new_next];omega,by simp;omega⟩
 ·intro l li cs' wr hg hm
  rw [AHeap.new_get] at hg
  by_cases hl' : l=H.next
  ·subst hl';rw [if_pos rfl] at hg;cases hg
  ·rw [if_neg hl'] at hg
   rw [hnew l hl'] at hm
   obtain⟨c',e',lo,hi,h1,h2,h3,h4,h5⟩:=hs.row l li cs' wr hg hm
   refine⟨c',e',lo,hi,?_,h2,h3,?_,h5⟩
   ·rw [show ({ w with heap:=w.heap.push (.map #[] 0) }:World).heap=w.heap.push (.map #[] 0) from rfl,pV _ _ _ (hs.dom l li hm).2];exact h1
   ·intro i a hi'
    obtain⟨v,hv,hR⟩:=h4 i a hi'
    exact⟨v,hv,lift hR⟩
 ·intro l li es hg hm
  rw [AHeap.new_get] at hg
  by_cases hl' : l=H.next
  ·subst hl'
   rw [if_pos rfl] at hg
   cases hg
   rw [hat] at hm
   cases hm
   exact⟨#[],0,by simp,rfl,fun i e m he=>by simp at he⟩
  ·rw [if_neg hl'] at hg
   rw [hnew l hl'] at hm
   obtain⟨ms,ck,h1,h2,h3⟩:=hs.mp l li es hg hm
   refine⟨ms,ck,?_,h2,fun i e m he hm'=>⟨lift (h3 i e m he hm').1,lift (h3 i e m he hm').2⟩⟩
   rw [show ({ w with heap:=w.heap.push (.map #[] 0) }:World).heap=w.heap.push (.map #[] 0) from rfl,pV _ _ _ (hs.dom l li hm).2];exact h1
 ·intro l l' b b' li li' hne hg hw hg' hm hm'
  rw [AHeap.new_get] at hg hg'
  by_cases h1:l=H.next
  ·subst h1
   rw [hat] at hm
   cases hm
   rw [if_neg (Ne.symm hne)] at hg'
   rw [hnew l' (Ne.symm hne)] at hm'
   have:=(hs.dom l' li' hm').2
   simp only [ne_eq];omega
  ·rw [if_neg h1] at hg
   rw [hnew l h1] at hm
   by_cases h2:l'=H.next
   ·subst h2
    rw [hat] at hm'
    cases hm'
    have:=(hs.dom l li hm).2
    simp only [ne_eq];omega
   ·rw [if_neg h2] at hg'
    rw [hnew l' h2] at hm'
    exact hs.sep l l' b b' li li' hne hg hw hg' hm hm'
 ·intro l b li hg hw hm
  rw [AHeap.new_get] at hg
  by_cases h1:l=H.next
  ·subst h1
   rw [hat] at hm
   cases hm
   exact hs.fresh _ (Nat.le_refl _)
  ·rw [if_neg h1] at hg
   rw [hnew l h1] at hm
   exact hs.may l b li hg hw hm
 ·intro b hb
  exact hs.fresh b (by simp at hb;omega)
theorem qEq {b o:Nat} {e:TypeId} {lo hi:Nat}:∀ (vs:List Value) (i:Nat) (c:Array Value) (w:World),w.heap[b]? = some (.cells c e (lo,hi))->o+i+vs.length<=c.size ->
  (∀ j,o+i<=j->j < o+i+vs.length -> ¬ (lo<=j/\j < hi))->(∀ v ∈ vs,v.oneCell'=true) ->
  ∃ c' : Array Value,(storeCells ⟨b,o,none⟩ vs i).run P w=.ok () { w with heap:=w.heap.setIfInBounds b (.cells c' e (lo,hi)) }/\c'.toList=c.toList.take (o+i) ++ vs ++ c.toList.drop (o+i+vs.length)
 | [],i,c,w,hb,_,_,_=>by
  refine⟨c,?_,by simp⟩
  have hlt:b < w.heap.size:=by
   rcases Nat.lt_or_ge b w.heap.size with h | h
   ·exact h
   ·rw [Array.getElem?_eq_none h] at hb;cases hb
  have:w.heap.setIfInBounds b (.cells c e (lo,hi))=w.heap:=by
   apply Array.ext'
   rw [Array.toList_setIfInBounds]
   apply List.ext_getElem?
   intro j
   rw [List.getElem?_set]
   split
   ·rename_i hj;subst hj
    simp only [Array.length_toList,hlt,if_true]
    rw [Array.getElem?_toList,hb]
   ·rfl
  rw [this];rfl
 | v :: vs,i,c,w,hb,hsz,hf,h1=>by
  have hlt:b < w.heap.size:=by
   rcases Nat.lt_or_ge b w.heap.size with h | h
   ·exact h
   ·rw [Array.getElem?_eq_none h] at hb;cases hb
  simp only [List.length_cons] at hsz hf
  have hcell:w.cell? ⟨b,o+i,none⟩=some (c[o+i]'om):=by
   rw [cell_of hb,Array.getElem?_eq_getElem om]
  have hfr:w.frozen? ⟨b,o+i,none⟩=false:=by
   rw [qHe hb]
   have:=hf (o+i) om om
   simp only [Bool.and_eq_false_iff,decide_eq_false_iff_not]
   omega
  have hset:w.setCell ⟨b,o+i,none⟩ v = { w with heap:=w.heap.setIfInBounds b (.cells (c.setIfInBounds (o+i) v) e (lo,hi)) }:=by
   simp only [World.setCell]
   congr 1
   apply Array.ext_getElem?
   intro j
   rw [Array.getElem?_modify,Array.getElem?_setIfInBounds]
   by_cases hj:b=j
   ·subst hj
    have hv:w.heap[b]'hlt=.cells c e (lo,hi):=by
     rw [Array.getElem?_eq_getElem hlt] at hb
     exact Option.some.inj hb
    simp [hlt,hv]
   ·simp [hj]
  have hst:(store ((⟨b,o,none⟩:Addr).add i) v).run P w=.ok () (w.setCell ⟨b,o+i,none⟩ v):=by
   rw [addr_add,run_store P w _ v _ (h1 v (by simp))]
   simp [hcell,hfr]
  rw [hset] at hst
  have hb' : ({ w with heap:=w.heap.setIfInBounds b (.cells (c.setIfInBounds (o+i) v) e (lo,hi)) }:World).heap[b]? = some (.cells (c.setIfInBounds (o+i) v) e (lo,hi)):=by
   simp [hlt]
  obtain⟨c',hr,hc'⟩:=qEq (o:=o) vs (i+1) (c.setIfInBounds (o+i) v) _ hb' (by simp only [Array.size_setIfInBounds];omega) (fun j h h'=>hf j om om) (fun u hu=>h1 u (by simp [hu]))
  refine⟨c',?_,?_⟩
  ·simp only [storeCells]
   rw [bind_ok hst,hr]
   simp
  ·rw [hc']
   simp only [Array.toList_setIfInBounds,List.length_cons]
   apply List.ext_getElem?
   intro j
   simp only [List.getElem?_append,List.getElem?_take,List.getElem?_drop,List.length_append,List.length_take,List.length_set,List.getElem?_set,Array.length_toList]
   have m1:min (o+(i+1)) c.size=o+i+1:=by omega
   have m2:min (o+i) c.size=o+i:=by omega
   rw [m1,m2]
   by_cases j1:j < o+i
   ·simp [j1,show j < o+i+1+vs.length by omega,show j < o+i+1 by omega,show j < o+(i+1) by omega,show ¬ o+i=j by omega,show j < o+i+(vs.length+1) by omega]
   ·by_cases j2:j=o+i
    ·subst j2
     simp [show o+i < o+i+1+vs.length by omega,show o+i < o+(i+1) by omega,show o+i < c.size by omega]
    ·by_cases j3:j < o+i+1+vs.length
     ·have e1:j - (o+i)=(j - (o+i+1))+1:=by omega
      simp [j1,j3,show ¬ j < o+i+1 by omega,show j < o+i+(vs.length+1) by omega,e1]
     ·simp [j1,j3,show ¬ j < o+i+(vs.length+1) by omega,show ¬ o+i=o+(i+1)+vs.length+(j - (o+i+1+vs.length)) by omega]
      congr 1
      omega
theorem Sim.write (hs:Sim F μ H w) {l:Nat} {li:LI} {cs ds:List AV} {c c' : Array Value} {e:TypeId} {lo hi:Nat} (hg:H.get l=some (.row cs true)) (hm:μ l=some li)
  (hb:w.heap[li.blk]? = some (.cells c e (lo,hi))) (hsz:c'.size=c.size) (hl:ds.length<=li.lim) (hr:∀ (i:Nat) (a:AV),ds[i]? = some a -> ∃ v,c'[li.base+i]? = some v/\R μ a v) :
  Sim F μ (H.put l (.row ds true)) { w with heap:=w.heap.setIfInBounds li.blk (.cells c' e (lo,hi)) }/\Keeps F w { w with heap:=w.heap.setIfInBounds li.blk (.cells c' e (lo,hi)) }:=by
 have hln:l < H.next:=H.lt_of_get hg
 have hblk:=(hs.dom l li hm).2
 have hother:∀ b,b ≠ li.blk->(w.heap.setIfInBounds li.blk (.cells c' e (lo,hi)))[b]? = w.heap[b]?:=fun b h=>by
  rw [Array.getElem?_setIfInBounds,if_neg (Ne.symm h)]
 have hself:(w.heap.setIfInBounds li.blk (.cells c' e (lo,hi)))[li.blk]? = some (.cells c' e (lo,hi)):=by simp [hblk]
 obtain⟨c0,e0,lo0,hi0,g1,g2,g3,g4,g5⟩:=hs.row l li cs true hg hm
 rw [hb] at g1
 cases g1
 have hget:∀ l',l' ≠ l->(H.put l (.row ds true)).get l'=H.get l':=fun l' h=>by rw [AHeap.put_get,if_neg om]
 have hgets:(H.put l (.row ds true)).get l=some (.row ds true):=by rw [AHeap.put_get,if_pos ⟨rfl,hln⟩]
 refine⟨⟨?_,?_,?_,?_,?_,?_⟩,?_⟩
 ·intro l' li' h
  have:=hs.dom l' li' h
  exact⟨this.1,by simpa using this.2⟩
 ·intro l' li' cs' wr hg' hm'
  by_cases h:l'=l
  ·subst h
   rw [hgets] at hg'
   cases hg'
   rw [hm] at hm'
   cases hm'
   exact⟨c',e,lo,hi,hself,by omega,hl,hr,g5⟩
  ·rw [hget l' h] at hg'
   obtain⟨c1,e1,lo1,hi1,k1,k2,k3,k4,k5⟩:=hs.row l' li' cs' wr hg' hm'
   have hne:li.blk ≠ li'.blk:=hs.sep l l' _ _ li li' (Ne.symm h) hg rfl hg' hm hm'
   exact⟨c1,e1,lo1,hi1,by show (w.heap.setIfInBounds li.blk _)[li'.blk]? = _;rw [hother _ (Ne.symm hne)];exact k1,k2,k3,k4,k5⟩
 ·intro l' li' es hg' hm'
  by_cases h:l'=l
  ·subst h;rw [hgets] at hg';cases hg'
  ·rw [hget l' h] at hg'
   obtain⟨ms,ck,k1,k2,k3⟩:=hs.mp l' li' es hg' hm'
   have hne:li.blk ≠ li'.blk:=hs.sep l l' _ _ li li' (Ne.symm h) hg rfl hg' hm hm'
   exact⟨ms,ck,by show (w.heap.setIfInBounds li.blk _)[li'.blk]? = _;rw [hother _ (Ne.symm hne)];exact k1,k2,k3⟩
 ·intro l1 l2 b1 b2 li1 li2 hne h1 hw h2 hm1 hm2
  have key:∀ l' b',(H.put l (.row ds true)).get l'=some b' -> ∃ b'',H.get l'=some b''/\(b'.wr=true->b''.wr=true):=by
   intro l' b' h'
   by_cases h:l'=l
   ·subst h
    exact⟨_,hg,fun _=>rfl⟩
   ·rw [hget l' h] at h'
    exact⟨b',h',id⟩
  obtain⟨c1,k1,k2⟩:=key l1 b1 h1
  obtain⟨c2,k3,_⟩:=key l2 b2 h2
  exact hs.sep l1 l2 c1 c2 li1 li2 hne k1 (k2 hw) k3 hm1 hm2
 ·intro l1 b1 li1 h1 hw hm1
  by_cases h:l1=l
  ·subst h
   exact hs.may l1 _ li1 hg rfl hm1
  ·rw [hget l1 h] at h1
   exact hs.may l1 b1 li1 h1 hw hm1
 ·intro b hb'
  exact hs.fresh b (by simpa using hb')
 ·exact⟨rfl,rfl,rfl,by simp,fun b _ hF=>hother b (fun h=>hF (h ▸ hs.may l _ li hg rfl hm))⟩
end
end Go.Ab
end
/- Operations with effects are sound. -/
section
namespace Go.Ab
theorem AHeap.ext {H H' : AHeap} (h:H.next=H'.next) (g:∀ l,H.get l=H'.get l):H=H':=by
 cases H;cases H'
 simp only at h g
 subst h
 have:=funext g
 subst this
 rfl
section
variable {P:Program} {μ:Mu} {E:Env} {a:Act} {F:Nat->Prop} {H:AHeap} {w:World} {k:VK}
theorem Sim.retail (hs:Sim F μ H w) {l:Nat} {li:LI} {cs:List AV} (hg:H.get l=some (.row cs true)) (hm:μ l=some li) {o:Nat} (ho:o<=cs.length) :
  Sim F (μ.plus H.next ⟨li.blk,li.base+o,li.lim - o⟩) ((H.del l).new (.row (cs.drop o) true)) w:=by
 have hln:l < H.next:=H.lt_of_get hg
 have lift:∀ {a:AV} {v:Value},R μ a v->R (μ.plus H.next ⟨li.blk,li.base+o,li.lim - o⟩) a v:=fun h=>hs.lift (Mu.plus_ext _ _ _) h
 have hnew:∀ l',l' ≠ H.next->μ.plus H.next ⟨li.blk,li.base+o,li.lim - o⟩ l'=μ l':=fun l' h=>by unfold Mu.plus;rw [if_neg h]
 have hat:μ.plus H.next ⟨li.blk,li.base+o,li.lim - o⟩ H.next=some ⟨li.blk,li.base+o,li.lim - o⟩:=by unfold Mu.plus;rw [if_pos rfl]
 obtain⟨c,e,lo,hi,g1,g2,g3,g4,g5⟩:=hs.row l li cs true hg hm
 have hget:∀ l',l' ≠ H.next->((H.del l).new (.row (cs.drop o) true)).get l'=if l'=l then none else H.get l':=fun l' h=>by
  rw [AHeap.new_get,AHeap.del_next,if_neg h,AHeap.del_get]
 have hgat:((H.del l).new (.row (cs.drop o) true)).get H.next=some (.row (cs.drop o) true):=by rw [AHeap.new_get,AHeap.del_next,if_pos rfl]
 refine⟨?_,?_,?_,?_,?_,hs.fresh⟩
 ·intro l' li' h
  by_cases hl' : l'=H.next
  ·subst hl';rw [hat] at h;cases h
   exact⟨by rw [AHeap.new_next,AHeap.del_next];omega,(hs.dom l li hm).2⟩
  ·rw [hnew l' hl'] at h
   obtain⟨h1,h2⟩:=hs.dom l' li' h
   exact⟨by rw [AHeap.new_next,AHeap.del_next];omega,h2⟩
 ·intro l' li' cs' wr hg' hm'
  by_cases hl' : l'=H.next
  ·subst hl'
   rw [hgat] at hg';cases hg'
   rw [hat] at hm';cases hm'
   refine⟨c,e,lo,hi,g1,by simp only;omega,by simp;omega,?_,fun _ j h1=>g5 rfl j (by simp only at h1;omega)⟩
   intro i x hi'
   rw [List.getElem?_drop] at hi'
   obtain⟨v,hv,hR⟩:=g4 (o+i) x hi'
   exact⟨v,by simp only [Nat.add_assoc] at hv ⊢;exact hv,lift hR⟩
  ·rw [hget l' hl'] at hg'
   rw [hnew l' hl'] at hm'
   split at hg'
   ·cases hg'
   ·obtain⟨c',e',lo',hi',h1,h2,h3,h4,h5⟩:=hs.row l' li' cs' wr hg' hm'
    exact⟨c',e',lo',hi',h1,h2,h3,fun i x hx=>by obtain⟨v,hv,hR⟩:=h4 i x hx;exact⟨v,hv,lift hR⟩,h5⟩
 ·intro l' li' es hg' hm'
  by_cases hl' : l'=H.next
  ·subst hl';rw [hgat] at hg';cases hg'
  ·rw [hget l' hl'] at hg'
   rw [hnew l' hl'] at hm'
   split at hg'
   ·cases hg'
   ·obtain⟨ms,ck,h1,h2,h3⟩:=hs.mp l' li' es hg' hm'
    exact⟨ms,ck,h1,h2,fun i e m he hm'=>⟨lift (h3 i e m he hm').1,lift (h3 i e m he hm').2⟩⟩
 ·intro l1 l2 b1 b2 li1 li2 hne h1 hw h2 hm1 hm2
  by_cases e1:l1=H.next
  ·subst e1
   rw [hat] at hm1;cases hm1
   rw [hget l2 (Ne.symm hne)] at h2
   rw [hnew l2 (Ne.symm hne)] at hm2
   split at h2
   ·cases h2
   ·rename_i hl2
    exact hs.sep l l2 _ b2 li li2 (Ne.symm hl2) hg rfl h2 hm hm2
  ·rw [hget l1 e1] at h1
   rw [hnew l1 e1] at hm1
   split at h1
   ·cases h1
   ·rename_i hl1
    by_cases e2:l2=H.next
    ·subst e2
     rw [hat] at hm2;cases hm2
     exact hs.sep l1 l b1 _ li1 li hl1 h1 hw hg hm1 hm
    ·rw [hget l2 e2] at h2
     rw [hnew l2 e2] at hm2
     split at h2
     ·cases h2
     ·exact hs.sep l1 l2 b1 b2 li1 li2 hne h1 hw h2 hm1 hm2
 ·intro l1 b1 li1 h1 hw hm1
  by_cases e1:l1=H.next
  ·subst e1
   rw [hat] at hm1;cases hm1
   exact hs.may l _ li hg rfl hm
  ·rw [hget l1 e1] at h1
   rw [hnew l1 e1] at hm1
   split at h1
   ·cases h1
   ·exact hs.may l1 b1 li1 h1 hw hm1
theorem Sim.ghost (hs:Sim F μ H w) (b:HB):Sim F μ (H.new b) w:=by
 have hne:∀ l li,μ l=some li->l ≠ H.next:=fun l li h=>by have:=(hs.dom l li h).1;omega
 refine⟨fun l li h=>⟨by rw [AHeap.new_next];have:=(hs.dom l li h).1;omega,(hs.dom l li h).2⟩,?_,?_,?_,?_,hs.fresh⟩
 ·intro l li cs wr hg hm
  rw [AHeap.new_get,if_neg (hne l li hm)] at hg
  exact hs.row l li cs wr hg hm
 ·intro l li es hg hm
  rw [AHeap.new_get,if_neg (hne l li hm)] at hg
  exact hs.mp l li es hg hm
 ·intro l l' b b' li li' h hg hw hg' hm hm'
  rw [AHeap.new_get,if_neg (hne l li hm)] at hg
  rw [AHeap.new_get,if_neg (hne l' li' hm')] at hg'
  exact hs.sep l l' b b' li li' h hg hw hg' hm hm'
 ·intro l b li hg hw hm
  rw [AHeap.new_get,if_neg (hne l li hm)] at hg
  exact hs.may l b li hg hw hm
theorem Sim.forget (hs:Sim F μ H w) (l:Nat):Sim F μ (H.del l) w:=by
 have hg:∀ l' b,(H.del l).get l'=some b->H.get l'=some b:=fun l' b h=>by
  rw [AHeap.del_get] at h
  split at h
  ·cases h
  ·exact h
 exact⟨hs.dom,fun l' li cs wr h=>hs.row l' li cs wr (hg _ _ h),fun l' li es h=>hs.mp l' li es (hg _ _ h),
  fun l1 l2 b1 b2 li1 li2 h h1 hw h2=>hs.sep l1 l2 b1 b2 li1 li2 h (hg _ _ h1) hw (hg _ _ h2),fun l1 b1 li1 h1=>hs.may l1 b1 li1 (hg _ _ h1),hs.fresh⟩
theorem Out.same {r:AV} {v:Value} (hk:k r H) (hs:Sim F μ H w) (hr:R μ r v):Out F μ H w k v w:=⟨μ,r,H,hk,Nat.le_refl _,Mu.ext_refl _ _,hs,hr,Keeps.refl _ _⟩
theorem Out.drew {r:AV} {v:Value} {w' : World} (hk:k r H) (hs:Sim F μ H w) (hr:R μ r v) (hd:qKL w w'):Out F μ H w k v w':=by
  rcases hd with rfl | ⟨n,rfl⟩
  · exact Out.same hk hs hr
  · exact⟨μ,r,H,hk,Nat.le_refl _,Mu.ext_refl _ _,hs.drew n,hr,Keeps.drew _ _⟩
theorem qAa (hs:Sim F μ H w) {cs:List AV} {c:Array Value} {e:TypeId} {r:AV} {v:Value} (n:Nat) (hl:cs.length<=c.size) (hr:∀ (i:Nat) (a:AV),cs[i]? = some a -> ∃ v,c[i]? = some v/\R μ a v)
  (hk:k r (H.new (.row cs true))) (hR:R (μ.plus H.next ⟨w.heap.size,0,c.size⟩) r v):Out F μ H w k v { w with heap:=w.heap.push (.cells c e),drawn:=n }:=
 ⟨_,r,_,hk,by rw [AHeap.new_next];omega,Mu.plus_ext _ _ _,hs.push hl hr n,hR,cX hs.fresh _ n⟩
theorem RL.full {cs:List AV} {c:Array Value} (h:RL μ cs c.toList):cs.length<=c.size /\ ∀ (i:Nat) (a:AV),cs[i]? = some a -> ∃ v,c[i]? = some v/\R μ a v:=
 ⟨by rw [h.1];simp,fun i a ha=>by obtain⟨v,hv,hR⟩:=h.get ha;exact⟨v,by rw [<- Array.getElem?_toList];exact hv,hR⟩⟩
theorem wB (μ:Mu) (n:Nat) (li:LI):μ.plus n li n=some li:=by unfold Mu.plus;rw [if_pos rfl]
theorem qAd (z:Array Value) (n:Nat):((Array.range (n * z.size)).map fun i=>z[i % z.size]!).toList=(List.replicate n z.toList).flatten:=by
 rw [Array.toList_map,Array.toList_range]
 induction n with
 | zero=>simp
 | succ n ih =>
  rw [Nat.succ_mul,List.range_add,List.map_append,ih,List.replicate_succ',List.flatten_append,List.map_map]
  congr 1
  simp only [List.flatten_cons,List.flatten_nil,List.append_nil]
  apply List.ext_getElem
  ·simp
  ·intro i h1 h2
   simp only [List.length_map,List.length_range] at h1
   have e:(n * z.size+i) % z.size=i:=by rw [Nat.mul_comm,Nat.mul_add_mod,Nat.mod_eq_of_lt h1]
   simp only [List.getElem_map,List.getElem_range,Function.comp_apply,e]
   rw [getElem!_pos z i h1]
   rfl
theorem RL.replicate {zs:List AV} {us:List Value} (h:RL μ zs us) (n:Nat):RL μ (List.replicate n zs).flatten (List.replicate n us).flatten:=by
 induction n with
 | zero=>exact RL.nil
 | succ n ih=>rw [List.replicate_succ,List.replicate_succ];exact RL.append h ih
theorem qCz {zs:List AV} {z:Array Value} (h:RL μ zs z.toList) {sz:Nat} (hz:zs.length=sz) (n:Nat) :
  RL μ (List.replicate n zs).flatten ((Array.range (n * sz)).map fun i=>z[i % z.size]!).toList:=by
 have:z.size=sz:=by rw [<- hz,h.1];simp
 rw [<- this,qAd]
 exact h.replicate n
theorem nextslicecap_le {need cap:Nat} (h:cap < need):Builtin.nextslicecap need cap<=2 * need+192:=by
 have grow:∀ r c,c<=need+(need+768) / 4->Builtin.growBy need r c<=need+(need+768) / 4:=by
  intro r
  induction r with
  | zero=>intro c hc;exact hc
  | succ r ih =>
   intro c hc
   simp only [Builtin.growBy]
   split
   ·exact hc
   ·rename_i hlt
    refine ih _ ?_
    have:(c+768) / 4<=(need+768) / 4:=Nat.div_le_div_right om
    omega
 unfold Builtin.nextslicecap
 split
 ·omega
 ·split
  ·omega
  ·have:=grow 4 cap om
   omega
theorem qFb (hs:Sim F μ H w) {sz n:Nat} {y:AV} {ys:List AV} {v:Value} (h:jX H.get sz y=some (ys,n)) (hr:R μ y v) :
  (Builtin.lenOf v).run P w=.ok n w/\ys.length=n * sz /\ ∀ m,m<=n -> ∃ us:List Value,(∀ dn,(Builtin.firstCells sz m v).run P { w with drawn:=dn }=.ok us.toArray { w with drawn:=dn })/\RL μ (ys.take (m * sz)) us:=by
 unfold jX at h
 split at h
 ·cases h
  obtain rfl:=xB hr
  exact⟨rfl,by simp,fun m hm=>⟨[],fun _=>rfl,by simpa using RL.nil⟩⟩
 ·rename_i l o nn cap sz'
  split at h
  ·rename_i hsz
   subst hsz
   split at h
   ·rename_i hn
    subst hn
    cases h
    obtain⟨p,rfl,_⟩:=slice_form hr
    refine⟨rfl,by simp,fun m hm=>⟨[],?_,by simpa using RL.nil⟩⟩
    obtain rfl:m=0:=by omega
    intro dn
    cases p with
    | none=>rfl
    | some ad=>simp only [Builtin.firstCells,Nat.zero_mul];rfl
   ·rename_i hn
    split at h
    ·rename_i cs wr hg
     split at h
     ·rename_i hl
      cases h
      generalize hsl:AV.slice l o n cap sz=s at hr
      cases hr with
      | @slice l' o' n'' cap' sz'' li ad hm hb hsp ho hlim hc =>
       cases hsl
       have ho' : ad.off=li.base+o:=ho.resolve_left om
       have had:ad=⟨li.blk,li.base+o,none⟩:=by cases ad;simp at *;simp [hb,ho',hsp]
       subst had
       refine⟨rfl,by simp;omega,fun m hmn=>?_⟩
       have hle:m * sz<=n * sz:=Nat.mul_le_mul_right sz hmn
       obtain⟨us,hul,hur,huc⟩:=bF (off:=o) (n:=m * sz) hs hg hm (Nat.le_trans (Nat.add_le_add_left hle o) hl)
       refine⟨us,?_,?_⟩
       ·intro dn
        simp only [Builtin.firstCells]
        rw [<- hul]
        exact jY (w:={ w with drawn:=dn }) huc
       ·rw [List.take_take,Nat.min_eq_left hle];exact hur
      | slice0 p=>cases hsl;omega
      | _=>cases hsl
     ·cases h
    ·cases h
  ·cases h
 ·rename_i s
  split at h
  ·rename_i hsz
   subst hsz
   cases h
   obtain⟨b,rfl,rfl⟩:=dB hr
   refine⟨rfl,by simp [byteCells],fun m hm=>⟨((b.extract 0 m).data.map fun b=>Value.int .u8 b.toNat).toList,fun dn=>by rw [Array.toArray_toList];rfl,?_⟩⟩
   have:∀ l:List UInt8,RL μ (byteCells l) (l.map fun b=>Value.int .u8 b.toNat):=by
    intro l
    induction l with
    | nil=>exact RL.nil
    | cons c l ih=>exact RL.cons (.int _ _) ih
   have h2:=this (b.data.toList.take m)
   have e1:byteCells (b.data.toList.take m)=(byteCells b.data.toList).take (m * 1):=by simp [byteCells,List.map_take]
   rw [<- e1]
   have e2:((b.extract 0 m).data.map fun b=>Value.int .u8 b.toNat).toList=(b.data.toList.take m).map fun b=>Value.int .u8 b.toNat:=by
    simp [ByteArray.data_extract,List.extract]
   rw [e2]
   exact h2
  ·cases h
 ·cases h
theorem qEC (n:Nat):(askRoom n).run P w=.ok () w:=by
 unfold askRoom
 split <;> rfl
end
end Go.Ab
end
/- Operations with effects, together. -/
section
namespace Go.Ab
section
variable {P:Program} {μ:Mu} {E:Env} {a:Act} {F:Nat->Prop} {H:AHeap} {w:World} {k:VK}
theorem bG (hs:Sim F μ H w) {l o:Nat} {li:LI} {cs vs:List AV} {us:List Value} (hg:H.get l=some (.row cs true)) (hm:μ l=some li) (hr:RL μ vs us) (h1:vs.all AV.one=true)
  (hl:o<=cs.length) (hlim:o+vs.length<=li.lim) :
  ∃ w',(storeCells ⟨li.blk,li.base+o,none⟩ us).run P w=.ok () w'/\Sim F μ (H.put l (.row (laid cs o vs) true)) w'/\Keeps F w w':=by
 obtain⟨c,e,lo,hi,g1,g2,g3,g4,g5⟩:=hs.row l li cs true hg hm
 have hlen:=hr.1
 obtain⟨c',hst,hc'⟩:=qEq (P:=P) (o:=li.base+o) us 0 c w g1 om (fun j h _=>g5 rfl j om) (qGB hr h1)
 have hsz:c'.size=c.size:=by
  have:=congrArg List.length hc'
  simp at this
  omega
 obtain⟨hsim,hk⟩:=hs.write (ds:=laid cs o vs) hg hm g1 hsz (by unfold laid;simp;omega) (by
  intro i x hx
  have hg' : c'[li.base+i]? = (c.toList.take (li.base+o+0) ++ us ++ c.toList.drop (li.base+o+0+us.length))[li.base+i]?:=by rw [<- Array.getElem?_toList,hc']
  unfold laid at hx
  rw [hg']
  simp only [Nat.add_zero,List.getElem?_append,List.getElem?_take,List.getElem?_drop,List.length_append,List.length_take,Array.length_toList] at hx ⊢
  have m1:min o cs.length=o:=by omega
  have m2:min (li.base+o) c.size=li.base+o:=by omega
  rw [m1] at hx
  rw [m2]
  by_cases i1:i < o
  ·rw [if_pos om,if_pos om,if_pos om] at hx
   obtain⟨v,hv,hR⟩:=g4 i x hx
   exact⟨v,by rw [if_pos om,if_pos om,if_pos om,Array.getElem?_toList];exact hv,hR⟩
  ·by_cases i2:i < o+vs.length
   ·rw [if_pos om,if_neg om] at hx
    obtain⟨v,hv,hR⟩:=hr.get hx
    exact⟨v,by rw [if_pos om,if_neg om,show li.base+i - (li.base+o)=i - o by omega];exact hv,hR⟩
   ·rw [if_neg om] at hx
    have e1:o+vs.length+(i - (o+vs.length))=i:=by omega
    rw [e1] at hx
    obtain⟨v,hv,hR⟩:=g4 i x hx
    refine⟨v,?_,hR⟩
    rw [if_neg om]
    have e2:li.base+o+us.length+(li.base+i - (li.base+o+us.length))=li.base+i:=by omega
    rw [e2,Array.getElem?_toList];exact hv)
 exact⟨_,hst,hsim,hk⟩
theorem qIV (cs vs:List AV):laid cs cs.length vs=cs ++ vs:=by
 unfold laid
 rw [List.take_length,List.drop_eq_nil_of_le om,List.append_nil]
theorem qEo (hs:Sim F μ H w) {sz n:Nat} {tx:TypeId} {y:AV} {ys:List AV} {v:Value} (h:jX H.get sz y=some (ys,n)) (hr:R μ y v) (h1:ys.all AV.one=true)
  (hk:(∃ e',P.underlying tx=some (.slice e')) \/ P.underlying tx=some .string):∃ us,Src P sz tx v n us w/\RL μ ys us:=by
 obtain⟨hl,hlen,hc⟩:=qFb (P:=P) hs h hr
 obtain⟨us,hrun,hR⟩:=hc n (Nat.le_refl _)
 rw [List.take_of_length_le om] at hR
 refine⟨us,⟨hk,?_,hrun w.drawn,hrun (w.drawn+1),by rw [<- hR.1];exact hlen,qGB hR h1⟩,hR⟩
 intro w'
 cases v <;> first | (cases hl;done) | skip
 all_goals (cases hl;rfl)
theorem qBc (t tx ty e:TypeId) {i:TypeInfo} (ht:P.underlying t=some (.slice e)) (hi:P.info? e=some i) {p:Addr} {sLen sCap n:Nat} {x:Value} {news:List Value} (hs:Src P i.size tx x n news w)
  (hroom:sLen+n<=sCap) {w' : World} (hst:(storeCells (p.add (sLen * i.size)) news).run P w=.ok () w') :
  (Builtin.append_ #[t,tx] ty #[.slice (some p) sLen sCap,x]).run P w=.ok (.slice (some p) (sLen+n) sCap) w':=by
 rcases hs.kind with ⟨e',hk⟩ | hk <;> simp [Builtin.append_,run_underlying ht,run_underlying hk,sizeOf,typeInfo,hi,hs.len,hroom,hs.cells,hst]
theorem qBQ (t tx ty e:TypeId) {i:TypeInfo} (ht:P.underlying t=some (.slice e)) (hi:P.info? e=some i) {p:Option Addr} {x:Value} (hs:Src P i.size tx x 0 [] w) :
  (Builtin.append_ #[t,tx] ty #[.slice p 0 0,x]).run P w=.ok (.slice p 0 0) w:=by
 cases p <;> rcases hs.kind with ⟨e',hk⟩ | hk <;> simp [Builtin.append_,run_underlying ht,run_underlying hk,sizeOf,typeInfo,hi,hs.len,hs.cells,storeCells]
theorem gL (z:Array Value) (n:Nat):(Builtin.zeroCells z n).size=n * z.size:=by simp [Builtin.zeroCells]
theorem cQ (hs:Sim F μ H w) {t tx ty e:TypeId} {i:TypeInfo} {z:Value} (ht:P.underlying t=some (.slice e)) (hi:P.info? e=some i) (hz:i.zero=some z) (hzs:z.cells.size=i.size) {H1:AHeap} (hs1:Sim F μ H1 w) (hn1:H1.next=H.next)
  {p:Option Addr} {sLen sCap n:Nat} {os ys:List AV} {olds us:List Value} {x:Value} (hold:∀ dn,(Builtin.firstCells i.size sLen (.slice p sLen sCap)).run P { w with drawn:=dn }=.ok olds.toArray { w with drawn:=dn })
  (ho:RL μ os olds) (hol:os.length=sLen * i.size) (hsrc:Src P i.size tx x n us w) (hy:RL μ ys us) (hg:sCap < sLen+n) (hb:0 < i.bytes) (hfit:(2 * (sLen+n)+192) * i.bytes<=2^48)
  (hk:∀ c,sLen+n<=c->k (.slice H.next 0 (sLen+n) c i.size) (H1.new (.row (os ++ ys) true))) :
  ∃ v w',(Builtin.append_ #[t,tx] ty #[.slice p sLen sCap,x]).run P w=.ok v w'/\Out F μ H w k v w':=by
 have hnc:=Ab.nextslicecap_le hg
 have hmul:Builtin.nextslicecap (sLen+n) sCap * i.bytes<=(2 * (sLen+n)+192) * i.bytes:=Nat.mul_le_mul_right _ hnc
 have hone:sLen+n<=(2 * (sLen+n)+192) * i.bytes:=Nat.le_trans om (Nat.le_mul_of_pos_right _ hb)
 have hrun:=run_append_grow_src (P:=P) w t tx ty e i z ht hi hz p sLen sCap olds (hold (w.drawn+1)) x n us hsrc hg om om
 have hcap:sLen+n<=grownCap w (sLen+n) sCap e:=by unfold grownCap Question.cut;exact Nat.le_add_right _ _
 refine⟨_,_,hrun,?_⟩
 generalize grownCap w (sLen+n) sCap e=cp at hcap
 have hul:us.length=n * i.size:=hsrc.newsLen
 have hyl:ys.length=n * i.size:=by rw [hy.1];exact hul
 have hoo:olds.length=sLen * i.size:=by rw [<- ho.1];exact hol
 have hsz:((olds ++ us).toArray ++ Builtin.zeroCells z.cells (cp - (sLen+n))).size=cp * i.size:=by
  simp only [Array.size_append,List.size_toArray,List.length_append,gL,hzs,hul,hoo]
  rw [<- Nat.add_mul,<- Nat.add_mul]
  congr 1
  omega
 have hcs:(sLen+n) * i.size<=cp * i.size:=Nat.mul_le_mul_right _ hcap
 have hal:(os ++ ys).length=(sLen+n) * i.size:=by rw [List.length_append,hol,hyl,Nat.add_mul]
 have:=qAa (F:=F) (μ:=μ) (H:=H1) (w:=w) (k:=k) (cs:=os ++ ys) (c:=(olds ++ us).toArray ++ Builtin.zeroCells z.cells (cp - (sLen+n))) (e:=e) (r:=.slice H.next 0 (sLen+n) cp i.size)
  (v:=.slice (some ⟨w.heap.size,0,none⟩) (sLen+n) cp) hs1 (w.drawn+1) (by rw [hsz,hal];exact hcs) (by
   intro j x hx
   have hR:=RL.append ho hy
   obtain⟨v,hv,hR'⟩:=hR.get hx
   refine⟨v,?_,hR'⟩
   rw [Array.getElem?_append_left]
   ·simpa using hv
   ·have:j < (olds ++ us).length:=by
     rcases Nat.lt_or_ge j (olds ++ us).length with h | h
     ·exact h
     ·rw [List.getElem?_eq_none h] at hv;cases hv
    simpa using this) (hk cp hcap) (by
   rw [hn1]
   exact .slice (wB _ _ _) rfl rfl (.inr rfl) (by simp only [Nat.zero_add];rw [hsz];exact Nat.le_refl _) hcap)
 obtain⟨μ',r,H',a1,a2,a3,a4⟩:=this
 exact⟨μ',r,H',a1,by rw [<- hn1];exact a2,by rw [<- hn1];exact a3,a4⟩
end
end Go.Ab
end
/- Every operation is sound. -/
section
namespace Go.Ab
section
variable {P:Program} {μ:Mu} {E:Env} {a:Act} {F:Nat->Prop} {H:AHeap} {w:World} {k:VK}
theorem qKr (H:AHeap) (l:Nat) (b:HB):(H.put l b).del l=H.del l:=
 AHeap.ext rfl fun l'=>by
  rw [AHeap.del_get,AHeap.del_get,AHeap.put_get]
  by_cases h:l'=l
  ·simp [h]
  ·simp [h]
theorem pZ {l o len cap sz:Nat} {v:Value} (h:R μ (.slice l o len cap sz) v) (hc:cap ≠ 0):∃ li,μ l=some li/\v=.slice (some ⟨li.blk,li.base+o,none⟩) len cap/\o+cap * sz<=li.lim/\len<=cap:=by
 generalize hs:AV.slice l o len cap sz=s at h
 cases h with
 | @slice l' o' len' cap' sz' li ad hm hb hsp ho hl hc' =>
  cases hs
  have ho':=ho.resolve_left hc
  exact⟨li,hm,by cases ad;simp at *;simp [hb,ho',hsp],hl,hc'⟩
 | slice0 p=>cases hs;exact absurd rfl hc
 | _=>cases hs
theorem qJo {get:Nat->Option HB} {sz:Nat} {y:AV} {ys:List AV} (h:jX get sz y=some (ys,0)):ys=[]:=by
  unfold jX at h
  split at h
  · cases h;rfl
  · split at h
    · split at h
      · cases h;rfl
      · rename_i hn
        split at h
        · split at h
          · cases h;exact absurd rfl hn
          · cases h
        · cases h
    · cases h
  · rename_i s
    split at h
    · cases s with
      | nil=>cases h;rfl
      | cons b s=>simp at h
    · cases h
  · cases h
theorem qDt (hs:Sim F μ H w) {t tx ty e:TypeId} {i:TypeInfo} {z:Value} {zs:List AV} (ht:P.underlying t=some (.slice e)) (hi:P.info? e=some i) (hz:i.zero=some z) (hzs:z.cells.toList.mapM vY=some zs) (hzl:zs.length=i.size)
  (hb:0 < i.bytes) (hk:(∃ e',P.underlying tx=some (.slice e')) \/ P.underlying tx=some .string) {x y:AV} {v u:Value} (hx:R μ x v) (hy:R μ y u) (h:tZ H i.size i.bytes x y k) :
  ∃ v' w',(Builtin.append_ #[t,tx] ty #[v,u]).run P w=.ok v' w'/\Out F μ H w k v' w':=by
 have hzs' : z.cells.size=i.size:=by
  have:=(qBu (μ:=μ) (fun v x=>wV) hzs).1
  simp at this;omega
 unfold tZ at h
 split at h
 ·exact h.elim
 ·rename_i ys n hsrc
  have hsl:=(qFb (P:=P) hs hsrc hy).2.1
  -- a slice of no capacity
  have empty:∀ {p:Option Addr},(if n=0 then k x H else qDJ H [] ys n i.bytes i.size k)->v=.slice p 0 0 -> ∃ v' w',(Builtin.append_ #[t,tx] ty #[v,u]).run P w=.ok v' w'/\Out F μ H w k v' w':=by
   intro p hg hv
   subst hv
   by_cases hn:n=0
   ·subst hn
    rw [if_pos rfl] at hg
    have hys:ys=[]:=qJo hsrc
    subst hys
    obtain⟨us,hS,hyR⟩:=qEo (P:=P) (tx:=tx) hs hsrc hy rfl hk
    have hus:us=[]:=by have:=hS.newsLen;simp at this;exact this
    subst hus
    refine⟨_,w,qBQ t tx ty e ht hi hS,?_⟩
    exact⟨μ,_,_,hg,Nat.le_refl _,Mu.ext_refl _ _,hs,hx,Keeps.refl _ _⟩
   ·rw [if_neg hn] at hg
    obtain⟨hfit,hone,hk'⟩:=hg
    obtain⟨us,hS,hyR⟩:=qEo (P:=P) (tx:=tx) hs hsrc hy hone hk
    have hold:∀ dn,(Builtin.firstCells i.size 0 (.slice p 0 0)).run P { w with drawn:=dn }=.ok ([]:List Value).toArray { w with drawn:=dn }:=by
     intro dn
     cases p with
     | none=>rfl
     | some ad=>simp only [Builtin.firstCells,Nat.zero_mul];rfl
    refine cQ hs ht hi hz hzs' hs rfl hold (os:=[]) RL.nil (by simp) hS hyR om hb (by simpa using hfit) ?_
    intro c hc
    have:=hk' c om
    simpa using this
  split at h
  ·exact empty (by rw [<- (show AV.nilslice=_ from rfl)];exact h) (xB hx)
  ·rename_i l o len cap sz'
   split at h
   ·rename_i hsz
    subst hsz
    split at h
    ·rename_i hc0
     subst hc0
     obtain⟨p,hv,hl0⟩:=slice_form hx
     obtain rfl:len=0:=by omega
     exact empty h hv
    ·rename_i hc0
     obtain⟨li,hm,hv,hlim,hlc⟩:=pZ hx hc0
     subst hv
     split at h
     ·rename_i cs hg
      obtain⟨c,ce,lo,hi',g1,g2,g3,g4,g5⟩:=hs.row l li cs true hg hm
      split at h
      ·rename_i htail
       obtain⟨hfit,hone,hk'⟩:=h
       obtain⟨us,hS,hyR⟩:=qEo (P:=P) (tx:=tx) hs hsrc hy hone hk
       by_cases hroom:len+n<=cap
       ·have hmul:(len+n) * i.size<=cap * i.size:=Nat.mul_le_mul_right _ hroom
        rw [Nat.add_mul] at hmul
        obtain⟨w',hst,hsim,hkeep⟩:=bG (P:=P) (o:=cs.length) hs hg hm hyR hone (Nat.le_refl _) om
        have hst' : (storeCells ((⟨li.blk,li.base+o,none⟩:Addr).add (len * i.size)) us).run P w=.ok () w':=by
         rw [addr_add,show li.base+o+len * i.size=li.base+cs.length by omega];exact hst
        refine⟨_,w',qBc t tx ty e ht hi hS hroom hst',?_⟩
        have hgp:(H.put l (.row (laid cs cs.length ys) true)).get l=some (.row (cs ++ ys) true):=by
         rw [AHeap.put_get,if_pos ⟨rfl,H.lt_of_get hg⟩,qIV]
        have hre:=hsim.retail hgp hm (o:=o) (by simp;omega)
        rw [AHeap.put_next,qKr,List.drop_append_of_le_length om] at hre
        refine⟨_,_,_,hk' cap hroom,by rw [AHeap.new_next,AHeap.del_next];omega,Mu.plus_ext _ _ _,hre,?_,hkeep⟩
        exact .slice (wB _ _ _) rfl rfl (.inr rfl) (by simp only [Nat.zero_add];omega) hroom
       ·obtain⟨olds,hol,hor,hoc⟩:=bF (off:=o) (n:=len * i.size) hs hg hm om
        have e1:(cs.drop o).take (len * i.size)=cs.drop o:=List.take_of_length_le (by simp;omega)
        rw [e1] at hor
        have hold:∀ dn,(Builtin.firstCells i.size len (.slice (some ⟨li.blk,li.base+o,none⟩) len cap)).run P { w with drawn:=dn }=.ok olds.toArray { w with drawn:=dn }:=by
         intro dn
         simp only [Builtin.firstCells]
         rw [<- hol]
         exact jY (w:={ w with drawn:=dn }) hoc
        exact cQ hs ht hi hz hzs' (hs.forget l) rfl hold hor (by simp;omega) hS hyR om hb hfit hk'
      ·rename_i htail
       split at h
       ·rename_i hin
        obtain⟨h1,h2,hone⟩:=hin
        obtain⟨us,hS,hyR⟩:=qEo (P:=P) (tx:=tx) hs hsrc hy hone hk
        have e2:(len+n) * i.size=len * i.size+n * i.size:=Nat.add_mul _ _ _
        obtain⟨w',hst,hsim,hkeep⟩:=bG (P:=P) (o:=o+len * i.size) hs hg hm hyR hone om om
        have hst' : (storeCells ((⟨li.blk,li.base+o,none⟩:Addr).add (len * i.size)) us).run P w=.ok () w':=by
         rw [addr_add,Nat.add_assoc];exact hst
        refine⟨_,w',qBc t tx ty e ht hi hS h2 hst',?_⟩
        exact⟨μ,_,_,h,by rw [AHeap.put_next];exact Nat.le_refl _,Mu.ext_refl _ _,hsim,.slice hm rfl rfl (.inr rfl) hlim h2,hkeep⟩
       ·exact h.elim
     ·rename_i cs hg
      split at h
      ·rename_i hh
       obtain⟨hcap,hle⟩:=hh
       obtain⟨hfit,hone,hk'⟩:=h
       obtain⟨us,hS,hyR⟩:=qEo (P:=P) (tx:=tx) hs hsrc hy hone hk
       obtain⟨olds,hol,hor,hoc⟩:=bF (off:=o) (n:=len * i.size) hs hg hm hle
       have hold:∀ dn,(Builtin.firstCells i.size len (.slice (some ⟨li.blk,li.base+o,none⟩) len cap)).run P { w with drawn:=dn }=.ok olds.toArray { w with drawn:=dn }:=by
        intro dn
        simp only [Builtin.firstCells]
        rw [<- hol]
        exact jY (w:={ w with drawn:=dn }) hoc
       exact cQ hs ht hi hz hzs' hs rfl hold hor (by simp;omega) hS hyR hcap hb hfit hk'
      ·exact h.elim
     ·exact h.elim
   ·exact h.elim
  ·exact h.elim
theorem qIs {n:Int} (h0:0<=n) (h:n<=9223372036854775807):IntKind.i64.wrap n=n:=by rw [IntKind.wrap_i64];omega
theorem qCD (hs:Sim F μ H w) {t tx ty e:TypeId} {i:TypeInfo} {z:Value} {kn:IntKind} {zs:List AV} (ht:P.underlying t=some (.slice e)) (htx:P.underlying tx=some (.int kn)) (hi:P.info? e=some i) (hz:i.zero=some z) (hzs:z.cells.toList.mapM vY=some zs) (hzl:zs.length=i.size)
  (hb:0 < i.bytes) {x y:AV} {v u:Value} (hx:R μ x v) (hy:R μ y u) (h:qAM H i.size i.bytes zs x y k) :
  ∃ v' w',(Builtin.append_ #[t,tx] ty #[v,u]).run P w=.ok v' w'/\Out F μ H w k v' w':=by
 have hzR:=qBu (μ:=μ) (fun v x=>wV) hzs
 have hzs' : z.cells.size=i.size:=by
  have:=hzR.1
  simp at this;omega
 unfold qAM at h
 split at h
 ·rename_i l o len cap sz' kk n
  split at h
  ·rename_i hh
   obtain⟨rfl,hs0,hn0,hcap,hc0⟩:=hh
   split at h
   ·rename_i cs wr hg
    split at h
    ·rename_i hle
     obtain⟨hfit,hone,hk'⟩:=h
     obtain rfl:=zK hy
     obtain⟨m,rfl⟩:∃ m:Nat,n=(m:Int):=⟨n.toNat,by omega⟩
     simp only [Int.toNat_natCast] at hcap hfit hone hk'
     have hm0:0 < m:=by omega
     obtain⟨li,hm,hv,hlim,hlc⟩:=pZ hx hc0
     subst hv
     obtain⟨olds,hol,hor,hoc⟩:=bF (off:=o) (n:=len * i.size) hs hg hm hle
     have hold:(Builtin.firstCells i.size len (.slice (some ⟨li.blk,li.base+o,none⟩) len cap)).run P w.drew=.ok olds.toArray w.drew:=by
      simp only [Builtin.firstCells]
      rw [<- hol]
      exact jY (w:=w.drew) hoc
     have hnc:=Ab.nextslicecap_le hcap
     have hmul:Builtin.nextslicecap (len+m) cap * i.bytes<=(2 * (len+m)+192) * i.bytes:=Nat.mul_le_mul_right _ hnc
     have hone' : len+m<=(2 * (len+m)+192) * i.bytes:=Nat.le_trans om (Nat.le_mul_of_pos_right _ hb)
     have hmb:m * i.bytes<=(2 * (len+m)+192) * i.bytes:=Nat.mul_le_mul_right _ om
     have hw:IntKind.i64.wrap (m:Int)=m:=qIs om om
     have hn:¬ (len+m<=cap):=by omega
     have h63' : ¬ (9223372036854775807 < ((len:Int)+(m:Int))):=by omega
     have h48' : ¬ (281474976710656 < Builtin.nextslicecap (len+m) cap * i.bytes):=by omega
     have h48i:¬ (281474976710656 < (m:Int) * (i.bytes:Int)):=by rw [<- Int.natCast_mul];omega
     have hneg:¬ ((m:Int) < 0):=by omega
     have hns:¬ (m * i.size=0):=Nat.mul_ne_zero om om
     have hns' : ¬ (m=0 \/ i.size=0):=by omega
     have hrun:(Builtin.append_ #[t,tx] ty #[.slice (some ⟨li.blk,li.base+o,none⟩) len cap,.int kk m]).run P w =
       .ok (.slice (some ⟨w.heap.size,0,none⟩) (len+m) (grownCap w (len+m) cap e)) (w.drew.alloc (.cells (olds.toArray ++ Builtin.zeroCells z.cells m ++ Builtin.zeroCells z.cells (grownCap w (len+m) cap e - (len+m))) e)):=by
      simp [Builtin.append_,run_underlying ht,run_underlying htx,sizeOf,typeInfo,zeroValue,hi,hz,asInt,asIntOf,hw,hn,hneg,hns,hns',h63',h48',h48i,Question.forced,hold,newRow,grownCap]
     have hcap' : len+m<=grownCap w (len+m) cap e:=by unfold grownCap Question.cut;exact Nat.le_add_right _ _
     refine⟨_,_,hrun,?_⟩
     generalize grownCap w (len+m) cap e=cp at hcap'
     have hoo:olds.length=len * i.size:=hol
     have hsz:(olds.toArray ++ Builtin.zeroCells z.cells m ++ Builtin.zeroCells z.cells (cp - (len+m))).size=cp * i.size:=by
      simp only [Array.size_append,List.size_toArray,gL,hzs',hoo]
      rw [<- Nat.add_mul,<- Nat.add_mul]
      congr 1
      omega
     have hor' : RL μ ((cs.drop o).take (len * i.size)) olds:=hor
     have hzz:RL μ (List.replicate m zs).flatten (Builtin.zeroCells z.cells m).toList:=by
      unfold Builtin.zeroCells
      rw [qAd]
      exact hzR.replicate m
     have hal:((cs.drop o).take (len * i.size) ++ (List.replicate m zs).flatten).length=(len+m) * i.size:=by
      rw [List.length_append,hor'.1,hoo,hzz.1,Nat.add_mul]
      simp [gL,hzs']
     have hcs:(len+m) * i.size<=cp * i.size:=Nat.mul_le_mul_right _ hcap'
     exact qAa (F:=F) (μ:=μ) (H:=H) (w:=w) (k:=k) (cs:=(cs.drop o).take (len * i.size) ++ (List.replicate m zs).flatten) (c:=olds.toArray ++ Builtin.zeroCells z.cells m ++ Builtin.zeroCells z.cells (cp - (len+m))) (e:=e) (r:=.slice H.next 0 (len+m) cp i.size)
      (v:=.slice (some ⟨w.heap.size,0,none⟩) (len+m) cp) hs (w.drawn+1) (by rw [hsz,hal];exact hcs) (by
       intro j x hx
       have hR:=RL.append hor' hzz
       obtain⟨v,hv,hR'⟩:=hR.get hx
       refine⟨v,?_,hR'⟩
       rw [Array.getElem?_append_left]
       ·rw [<- Array.getElem?_toList];simpa using hv
       ·have:j < (olds ++ (Builtin.zeroCells z.cells m).toList).length:=by
         rcases Nat.lt_or_ge j (olds ++ (Builtin.zeroCells z.cells m).toList).length with h | h
         ·exact h
         ·rw [List.getElem?_eq_none h] at hv;cases hv
        simpa using this) (hk' cp hcap') (.slice (wB _ _ _) rfl rfl (.inr rfl) (by simp only [Nat.zero_add];rw [hsz];exact Nat.le_refl _) hcap')
    ·exact h.elim
   ·exact h.elim
  ·exact h.elim
 ·exact h.elim
theorem qHA {l:Nat} {li:LI} {es es' : List (AV × AV)} {ms ms' : Array MapEntry} {ck ck' : Nat} (hs:Sim F μ H w) (hg:H.get l=some (.mp es)) (hm:μ l=some li) (hsz:ms'.size=es'.length)
  (hr:∀ (i:Nat) (e:AV × AV) (m:MapEntry),es'[i]? = some e->ms'[i]? = some m->R μ e.1 m.key/\R μ e.2 m.val) (hh:w.heap[li.blk]? = some (.map ms ck)) :
  Sim F μ (H.put l (.mp es')) { w with heap:=w.heap.setIfInBounds li.blk (.map ms' ck') }/\Keeps F w { w with heap:=w.heap.setIfInBounds li.blk (.map ms' ck') }:=by
 have hln:l < H.next:=H.lt_of_get hg
 have hblk:=(hs.dom l li hm).2
 have hother:∀ b,b ≠ li.blk->(w.heap.setIfInBounds li.blk (.map ms' ck'))[b]? = w.heap[b]?:=fun b h=>by
  rw [Array.getElem?_setIfInBounds,if_neg (Ne.symm h)]
 have hself:(w.heap.setIfInBounds li.blk (.map ms' ck'))[li.blk]? = some (.map ms' ck'):=by simp [hblk]
 have hget:∀ l',l' ≠ l->(H.put l (.mp es')).get l'=H.get l':=fun l' h=>by rw [AHeap.put_get,if_neg om]
 have hgets:(H.put l (.mp es')).get l=some (.mp es'):=by rw [AHeap.put_get,if_pos ⟨rfl,hln⟩]
 refine⟨⟨?_,?_,?_,?_,?_,?_⟩,?_⟩
 ·intro l' li' h
  have:=hs.dom l' li' h
  exact⟨this.1,by simpa using this.2⟩
 ·intro l' li' cs' wr hg' hm'
  by_cases h:l'=l
  ·subst h;rw [hgets] at hg';cases hg'
  ·rw [hget l' h] at hg'
   obtain⟨c1,e1,lo1,hi1,k1,k2,k3,k4,k5⟩:=hs.row l' li' cs' wr hg' hm'
   have hne:li.blk ≠ li'.blk:=hs.sep l l' _ _ li li' (Ne.symm h) hg rfl hg' hm hm'
   exact⟨c1,e1,lo1,hi1,by show (w.heap.setIfInBounds li.blk _)[li'.blk]? = _;rw [hother _ (Ne.symm hne)];exact k1,k2,k3,k4,k5⟩
 ·intro l' li' es1 hg' hm'
  by_cases h:l'=l
  ·subst h
   rw [hgets] at hg';cases hg'
   rw [hm] at hm';cases hm'
   exact⟨ms',ck',hself,hsz,hr⟩
  ·rw [hget l' h] at hg'
   obtain⟨ms1,ck1,k1,k2,k3⟩:=hs.mp l' li' es1 hg' hm'
   have hne:li.blk ≠ li'.blk:=hs.sep l l' _ _ li li' (Ne.symm h) hg rfl hg' hm hm'
   exact⟨ms1,ck1,by show (w.heap.setIfInBounds li.blk _)[li'.blk]? = _;rw [hother _ (Ne.symm hne)];exact k1,k2,k3⟩
 ·intro l1 l2 b1 b2 li1 li2 hne h1 hw h2 hm1 hm2
  have key:∀ l' b',(H.put l (.mp es')).get l'=some b' -> ∃ b'',H.get l'=some b''/\(b'.wr=true->b''.wr=true):=by
   intro l' b' h'
   by_cases h:l'=l
   ·subst h
    exact⟨_,hg,fun _=>rfl⟩
   ·rw [hget l' h] at h'
    exact⟨b',h',id⟩
  obtain⟨c1,k1,k2⟩:=key l1 b1 h1
  obtain⟨c2,k3,_⟩:=key l2 b2 h2
  exact hs.sep l1 l2 c1 c2 li1 li2 hne k1 (k2 hw) k3 hm1 hm2
 ·intro l1 b1 li1 h1 hw hm1
  by_cases h:l1=l
  ·subst h
   exact hs.may l1 _ li1 hg rfl hm1
  ·rw [hget l1 h] at h1
   exact hs.may l1 b1 li1 h1 hw hm1
 ·intro b hb'
  exact hs.fresh b (by simpa using hb')
 ·exact⟨rfl,rfl,rfl,by simp,fun b _ hF=>hother b (fun h=>hF (h ▸ hs.may l _ li hg rfl hm))⟩
end
end Go.Ab
end
section
namespace Go.Ab
section
variable {P:Program}
theorem qCk {op:Op} {zs:List AV} (h:jH P op=some (.alloc zs)):∃ t,op=.alloc t/\wL P t=some zs:=by
 cases op
 case alloc t =>
  simp only [jH,Option.bind_eq_bind,Option.bind_eq_some_iff,Option.some.injEq,AOp.alloc.injEq] at h
  obtain⟨z,hz,rfl⟩:=h;exact⟨t,rfl,hz⟩
 all_goals exfalso
 all_goals simp only [jH,qF,qE] at h
 all_goals repeat' split at h
 all_goals first | contradiction | (simp [Option.bind_eq_some_iff] at h;done) | (simp [Option.bind_eq_some_iff] at h;contradiction)
theorem qIE {op:Op} {y:Opd} (h:jH P op=some (.box y)):∃ t x,op=.box t x/\jE x=some y:=by
 cases op
 case box t x =>
  simp only [jH,Option.bind_eq_bind,Option.bind_eq_some_iff,Option.some.injEq,AOp.box.injEq] at h
  obtain⟨z,hz,rfl⟩:=h;exact⟨t,x,rfl,hz⟩
 all_goals exfalso
 all_goals simp only [jH,qF,qE] at h
 all_goals repeat' split at h
 all_goals first | contradiction | (simp [Option.bind_eq_some_iff] at h;done) | (simp [Option.bind_eq_some_iff] at h;contradiction)
theorem qEH {op:Op} {sz len:Nat} {zs:List AV} {ps:List (Nat × Nat × Opd)} (h:jH P op=some (.bslice sz len zs ps)) :
  ∃ t parts elem zs0,op=.buildSlice t len parts/\P.underlying t=some (.slice elem)/\xH P elem=some sz/\wL P elem=some zs0/\zs0.length=sz/\len * sz<=2^24/\zs=(List.replicate len zs0).flatten /\
   parts.toList.mapM (fun (i,x)=>do some (i * sz,sz,<- jE x))=some ps:=by
 cases op
 case buildSlice t len' parts =>
  simp only [jH] at h
  split at h
  ·rename_i elem hu
   simp only [Option.bind_eq_bind,Option.bind_eq_some_iff] at h
   obtain⟨sz',hsz,zs0,hzs,ps',hps,h⟩:=h
   split at h
   ·rename_i hh
    simp only [Option.some.injEq,AOp.bslice.injEq] at h
    obtain⟨rfl,rfl,rfl,rfl⟩:=h
    exact⟨t,parts,elem,zs0,rfl,hu,hsz,hzs,hh.2,hh.1,rfl,hps⟩
   ·cases h
  ·cases h
 all_goals exfalso
 all_goals simp only [jH,qF,qE] at h
 all_goals repeat' split at h
 all_goals first | contradiction | (simp [Option.bind_eq_some_iff] at h;done) | (simp [Option.bind_eq_some_iff] at h;contradiction)
theorem qFW {op:Op} {n:Nat} {x y:Opd} (h:jH P op=some (.store n x y)):∃ t p q,op=.store t p q/\xH P t=some n/\jE p=some x/\jE q=some y:=by
 cases op
 case store t p q =>
  simp only [jH,Option.bind_eq_bind,Option.bind_eq_some_iff,Option.some.injEq,AOp.store.injEq] at h
  obtain⟨n',hn,x',hx,y',hy,rfl,rfl,rfl⟩:=h;exact⟨t,p,q,rfl,hn,hx,hy⟩
 all_goals exfalso
 all_goals simp only [jH,qF,qE] at h
 all_goals repeat' split at h
 all_goals first | contradiction | (simp [Option.bind_eq_some_iff] at h;done) | (simp [Option.bind_eq_some_iff] at h;contradiction)
theorem qDC {op:Op} {sz bytes:Nat} {zs:List AV} {x y:Opd} (h:jH P op=some (.mkSlice sz bytes zs x y)) :
  ∃ t l c elem,op=.makeSlice t l c/\P.underlying t=some (.slice elem)/\xH P elem=some sz/\uL P elem=some bytes/\wL P elem=some zs/\zs.length=sz/\jE l=some x/\jE c=some y:=by
 cases op
 case makeSlice t l c =>
  simp only [jH] at h
  split at h
  ·rename_i elem hu
   simp only [Option.bind_eq_bind,Option.bind_eq_some_iff] at h
   obtain⟨sz',hsz,zs0,hzs,b',hb,h⟩:=h
   split at h
   ·rename_i hh
    simp only [Option.bind_eq_some_iff,Option.some.injEq,AOp.mkSlice.injEq] at h
    obtain⟨l',hl,c',hc,rfl,rfl,rfl,rfl,rfl⟩:=h
    exact⟨t,l,c,elem,rfl,hu,hsz,hb,hzs,hh,hl,hc⟩
   ·cases h
  ·cases h
 all_goals exfalso
 all_goals simp only [jH,qF,qE] at h
 all_goals repeat' split at h
 all_goals first | contradiction | (simp [Option.bind_eq_some_iff] at h;done) | (simp [Option.bind_eq_some_iff] at h;contradiction)
theorem qDB {op:Op} (h:jH P op=some .makeMap):∃ t,op=.makeMap t none:=by
 cases op
 case makeMap t r=>cases r with
  | none=>exact⟨t,rfl⟩
  | some r=>simp [jH] at h
 all_goals exfalso
 all_goals simp only [jH,qF,qE] at h
 all_goals repeat' split at h
 all_goals first | contradiction | (simp [Option.bind_eq_some_iff] at h;done) | (simp [Option.bind_eq_some_iff] at h;contradiction)
theorem qBT {op:Op} {x y z:Opd} (h:jH P op=some (.mapUpdate x y z)) :
  ∃ t m k v key elem k0,(op=.mapUpdate t m k v \/ op=.insert t m k v)/\P.underlying t=some (.map key elem)/\P.underlying key=some (.int k0)/\jE m=some x/\jE k=some y/\jE v=some z:=by
 cases op
 case mapUpdate t m k v =>
  simp only [jH] at h
  split at h
  ·rename_i key elem hu
   split at h
   ·rename_i k0 hk
    simp only [Option.bind_eq_bind,Option.bind_eq_some_iff,Option.some.injEq,AOp.mapUpdate.injEq] at h
    obtain⟨m',hm,k',hk',v',hv,rfl,rfl,rfl⟩:=h
    exact⟨t,m,k,v,key,elem,k0,.inl rfl,hu,hk,hm,hk',hv⟩
   ·cases h
  ·cases h
 case insert t m k v =>
  simp only [jH] at h
  split at h
  ·rename_i key elem hu
   split at h
   ·rename_i k0 hk
    simp only [Option.bind_eq_bind,Option.bind_eq_some_iff,Option.some.injEq,AOp.mapUpdate.injEq] at h
    obtain⟨m',hm,k',hk',v',hv,rfl,rfl,rfl⟩:=h
    exact⟨t,m,k,v,key,elem,k0,.inr rfl,hu,hk,hm,hk',hv⟩
   ·cases h
  ·cases h
 all_goals exfalso
 all_goals simp only [jH,qF,qE] at h
 all_goals repeat' split at h
 all_goals first | contradiction | (simp [Option.bind_eq_some_iff] at h;done) | (simp [Option.bind_eq_some_iff] at h;contradiction)
theorem qGO {op:Op} {f:FuncId} {as:List Opd} (h:jH P op=some (.call f as)):∃ c,op=.call c/\c.callee=.value (.func f)/\qDy c.args=some as:=by
 cases op
 case call c =>
  obtain⟨callee,args,ts⟩:=c
  cases callee with
  | value g =>
   cases g <;> simp only [jH,Option.bind_eq_bind,Option.bind_eq_some_iff,Option.some.injEq,AOp.call.injEq,reduceCtorEq,and_false,exists_false] at h
   obtain⟨as',has,rfl,rfl⟩:=h
   exact⟨_,rfl,rfl,has⟩
  | invoke=>simp [jH] at h
  | builtin b =>
   exfalso
   simp only [jH,qF,qE] at h
   repeat' split at h
   all_goals first | contradiction | (simp [Option.bind_eq_some_iff] at h;done) | (simp [Option.bind_eq_some_iff] at h;contradiction)
 all_goals exfalso
 all_goals simp only [jH,qF,qE] at h
 all_goals repeat' split at h
 all_goals first | contradiction | (simp [Option.bind_eq_some_iff] at h;done) | (simp [Option.bind_eq_some_iff] at h;contradiction)
theorem qFT {op:Op} {t:Nat} {want:Bool} {f:FuncId} {as:List Opd} (h:jH P op=some (.callI t want f as)):False:=by
 cases op
 case call c =>
  obtain⟨callee,args,ts⟩:=c
  cases callee with
  | value g =>
   cases g <;> simp only [jH,Option.bind_eq_bind,Option.bind_eq_some_iff,Option.some.injEq,reduceCtorEq,and_false,exists_false] at h
  | invoke=>simp [jH] at h
  | builtin b =>
   simp only [jH,qF,qE] at h
   repeat' split at h
   all_goals first | contradiction | (simp [Option.bind_eq_some_iff] at h;done) | (simp [Option.bind_eq_some_iff] at h;contradiction)
 all_goals simp only [jH,qF,qE] at h
 all_goals repeat' split at h
 all_goals first | contradiction | (simp [Option.bind_eq_some_iff] at h;done) | (simp [Option.bind_eq_some_iff] at h;contradiction)
theorem qFU {op:Op} {g:Opd} {as:List Opd} (h:jH P op=some (.callV g as)):∃ c g',op=.call c/\c.callee=.value g'/\jE g'=some g/\qDy c.args=some as:=by
 cases op
 case call c =>
  obtain⟨callee,args,ts⟩:=c
  cases callee with
  | value g =>
   cases g <;> simp only [jH,Option.bind_eq_bind,Option.bind_eq_some_iff,Option.some.injEq,AOp.callV.injEq,reduceCtorEq,and_false,exists_false] at h
   all_goals (obtain⟨g',hg,as',has,rfl,rfl⟩:=h;exact⟨_,_,rfl,rfl,hg,has⟩)
  | invoke=>simp [jH] at h
  | builtin b =>
   exfalso
   simp only [jH,qF,qE] at h
   repeat' split at h
   all_goals first | contradiction | (simp [Option.bind_eq_some_iff] at h;done) | (simp [Option.bind_eq_some_iff] at h;contradiction)
 all_goals exfalso
 all_goals simp only [jH,qF,qE] at h
 all_goals repeat' split at h
 all_goals first | contradiction | (simp [Option.bind_eq_some_iff] at h;done) | (simp [Option.bind_eq_some_iff] at h;contradiction)
theorem qEG {op:Op} {sz bytes:Nat} {p q:Opd} (h:jH P op=some (.append sz bytes p q)):∃ c t u x y elem i z zs,(op=.call c/\c=⟨.builtin .append,#[x,y],#[t,u]⟩)/\P.underlying t=some (.slice elem)/\((∃ e',P.underlying u=some (.slice e')) \/ P.underlying u=some .string)/\P.info? elem=some i/\i.zero=some z/\z.cells.toList.mapM vY=some zs/\zs.length=i.size/\0 < i.bytes/\sz=i.size/\bytes=i.bytes/\jE x=some p/\jE y=some q:=by
 cases op
 case call c =>
  obtain⟨callee,args,ts⟩:=c
  cases callee with
  | value g =>
   exfalso
   cases g <;> simp [jH,Option.bind_eq_some_iff] at h
  | invoke=>simp [jH] at h
  | builtin b =>
   simp only [jH] at h
   split at h
   ·exfalso
    repeat' split at h
    all_goals first | contradiction | (simp [qF,qE,Option.bind_eq_some_iff] at h;done) | (simp [qF,qE,Option.bind_eq_some_iff] at h;contradiction)
   ·exfalso
    repeat' split at h
    all_goals first | contradiction | (simp [qF,qE,Option.bind_eq_some_iff] at h;done) | (simp [qF,qE,Option.bind_eq_some_iff] at h;contradiction)
   ·exfalso
    repeat' split at h
    all_goals first | contradiction | (simp [qF,qE,Option.bind_eq_some_iff] at h;done) | (simp [qF,qE,Option.bind_eq_some_iff] at h;contradiction)
   ·exfalso
    repeat' split at h
    all_goals first | contradiction | (simp [qF,qE,Option.bind_eq_some_iff] at h;done) | (simp [qF,qE,Option.bind_eq_some_iff] at h;contradiction)
   ·exfalso
    repeat' split at h
    all_goals first | contradiction | (simp [qF,qE,Option.bind_eq_some_iff] at h;done) | (simp [qF,qE,Option.bind_eq_some_iff] at h;contradiction)
   ·rename_i x y t u hat hay
    obtain rfl:args = #[x,y]:=by cases args;simpa using hat
    obtain rfl:ts = #[t,u]:=by cases ts;simpa using hay
    split at h
    ·rename_i elem e' hu hu'
     obtain⟨i,z,zs,x',y',h1,h2,h3,h4,h5,h6,h7,h8⟩:=vS h
     cases h8
     exact⟨_,t,u,x,y,elem,i,z,zs,⟨rfl,rfl⟩,hu,.inl ⟨e',hu'⟩,h1,h2,h3,h4,h5,rfl,rfl,h6,h7⟩
    ·rename_i elem hu hu'
     obtain⟨i,z,zs,x',y',h1,h2,h3,h4,h5,h6,h7,h8⟩:=vS h
     cases h8
     exact⟨_,t,u,x,y,elem,i,z,zs,⟨rfl,rfl⟩,hu,.inr hu',h1,h2,h3,h4,h5,rfl,rfl,h6,h7⟩
    ·obtain⟨_,_,_,_,_,_,_,_,_,_,_,_,h8⟩:=gD h;cases h8
    ·cases h
   ·exfalso
    repeat' split at h
    all_goals first | contradiction | (simp [qF,qE,Option.bind_eq_some_iff] at h;done) | (simp [qF,qE,Option.bind_eq_some_iff] at h;contradiction)
   ·exfalso
    repeat' split at h
    all_goals first | contradiction | (simp [qF,qE,Option.bind_eq_some_iff] at h;done) | (simp [qF,qE,Option.bind_eq_some_iff] at h;contradiction)
   ·exfalso
    repeat' split at h
    all_goals first | contradiction | (simp [qF,qE,Option.bind_eq_some_iff] at h;done) | (simp [qF,qE,Option.bind_eq_some_iff] at h;contradiction)
 all_goals exfalso
 all_goals simp only [jH,qF,qE] at h
 all_goals repeat' split at h
 all_goals first | contradiction | (simp [Option.bind_eq_some_iff] at h;done) | (simp [Option.bind_eq_some_iff] at h;contradiction)
theorem qDA {op:Op} {sz bytes:Nat} {zs:List AV} {p q:Opd} (h:jH P op=some (.appendZ sz bytes zs p q)):∃ c t u x y elem i z kn,(op=.call c/\c=⟨.builtin .append,#[x,y],#[t,u]⟩)/\P.underlying t=some (.slice elem)/\P.underlying u=some (.int kn)/\P.info? elem=some i/\i.zero=some z/\z.cells.toList.mapM vY=some zs/\zs.length=i.size/\0 < i.bytes/\sz=i.size/\bytes=i.bytes/\jE x=some p/\jE y=some q:=by
 cases op
 case call c =>
  obtain⟨callee,args,ts⟩:=c
  cases callee with
  | value g =>
   exfalso
   cases g <;> simp [jH,Option.bind_eq_some_iff] at h
  | invoke=>simp [jH] at h
  | builtin b =>
   simp only [jH] at h
   split at h
   ·exfalso
    repeat' split at h
    all_goals first | contradiction | (simp [qF,qE,Option.bind_eq_some_iff] at h;done) | (simp [qF,qE,Option.bind_eq_some_iff] at h;contradiction)
   ·exfalso
    repeat' split at h
    all_goals first | contradiction | (simp [qF,qE,Option.bind_eq_some_iff] at h;done) | (simp [qF,qE,Option.bind_eq_some_iff] at h;contradiction)
   ·exfalso
    repeat' split at h
    all_goals first | contradiction | (simp [qF,qE,Option.bind_eq_some_iff] at h;done) | (simp [qF,qE,Option.bind_eq_some_iff] at h;contradiction)
   ·exfalso
    repeat' split at h
    all_goals first | contradiction | (simp [qF,qE,Option.bind_eq_some_iff] at h;done) | (simp [qF,qE,Option.bind_eq_some_iff] at h;contradiction)
   ·exfalso
    repeat' split at h
    all_goals first | contradiction | (simp [qF,qE,Option.bind_eq_some_iff] at h;done) | (simp [qF,qE,Option.bind_eq_some_iff] at h;contradiction)
   ·rename_i x y t u hat hay
    obtain rfl:args = #[x,y]:=by cases args;simpa using hat
    obtain rfl:ts = #[t,u]:=by cases ts;simpa using hay
    split at h
    ·obtain⟨_,_,_,_,_,_,_,_,_,_,_,_,h8⟩:=vS h;cases h8
    ·obtain⟨_,_,_,_,_,_,_,_,_,_,_,_,h8⟩:=vS h;cases h8
    ·rename_i elem kn hu hu'
     obtain⟨i,z,zs',x',y',h1,h2,h3,h4,h5,h6,h7,h8⟩:=gD h
     cases h8
     exact⟨_,t,u,x,y,elem,i,z,kn,⟨rfl,rfl⟩,hu,hu',h1,h2,h3,h4,h5,rfl,rfl,h6,h7⟩
    ·cases h
   ·exfalso
    repeat' split at h
    all_goals first | contradiction | (simp [qF,qE,Option.bind_eq_some_iff] at h;done) | (simp [qF,qE,Option.bind_eq_some_iff] at h;contradiction)
   ·exfalso
    repeat' split at h
    all_goals first | contradiction | (simp [qF,qE,Option.bind_eq_some_iff] at h;done) | (simp [qF,qE,Option.bind_eq_some_iff] at h;contradiction)
   ·exfalso
    repeat' split at h
    all_goals first | contradiction | (simp [qF,qE,Option.bind_eq_some_iff] at h;done) | (simp [qF,qE,Option.bind_eq_some_iff] at h;contradiction)
 all_goals exfalso
 all_goals simp only [jH,qF,qE] at h
 all_goals repeat' split at h
 all_goals first | contradiction | (simp [Option.bind_eq_some_iff] at h;done) | (simp [Option.bind_eq_some_iff] at h;contradiction)
theorem qGP {op:Op} {sz:Nat} {p q:Opd} (h:jH P op=some (.copy sz p q)):∃ c t u x y elem,(op=.call c/\c=⟨.builtin .copy,#[x,y],#[t,u]⟩)/\P.underlying t=some (.slice elem)/\xH P elem=some sz/\jE x=some p/\jE y=some q:=by
 cases op
 case call c =>
  obtain⟨callee,args,ts⟩:=c
  cases callee with
  | value g =>
   exfalso
   cases g <;> simp [jH,Option.bind_eq_some_iff] at h
  | invoke=>simp [jH] at h
  | builtin b =>
   simp only [jH] at h
   split at h
   ·exfalso
    repeat' split at h
    all_goals first | contradiction | (simp [qF,qE,Option.bind_eq_some_iff] at h;done) | (simp [qF,qE,Option.bind_eq_some_iff] at h;contradiction)
   ·exfalso
    repeat' split at h
    all_goals first | contradiction | (simp [qF,qE,Option.bind_eq_some_iff] at h;done) | (simp [qF,qE,Option.bind_eq_some_iff] at h;contradiction)
   ·exfalso
    repeat' split at h
    all_goals first | contradiction | (simp [qF,qE,Option.bind_eq_some_iff] at h;done) | (simp [qF,qE,Option.bind_eq_some_iff] at h;contradiction)
   ·exfalso
    repeat' split at h
    all_goals first | contradiction | (simp [qF,qE,Option.bind_eq_some_iff] at h;done) | (simp [qF,qE,Option.bind_eq_some_iff] at h;contradiction)
   ·exfalso
    repeat' split at h
    all_goals first | contradiction | (simp [qF,qE,Option.bind_eq_some_iff] at h;done) | (simp [qF,qE,Option.bind_eq_some_iff] at h;contradiction)
   ·exfalso
    repeat' split at h
    all_goals first | contradiction | (simp [qF,qE,Option.bind_eq_some_iff] at h;done) | (simp [qF,qE,Option.bind_eq_some_iff] at h;contradiction)
   ·rename_i x y t u hat hay
    obtain rfl:args = #[x,y]:=by cases args;simpa using hat
    obtain rfl:ts = #[t,u]:=by cases ts;simpa using hay
    split at h
    ·rename_i elem e' hu hu'
     simp only [Option.bind_eq_bind,Option.bind_eq_some_iff,Option.some.injEq,AOp.copy.injEq] at h
     obtain⟨sz',hsz,x',hx,y',hy,rfl,rfl,rfl⟩:=h
     exact⟨_,t,u,x,y,elem,⟨rfl,rfl⟩,hu,hsz,hx,hy⟩
    ·cases h
   ·exfalso
    repeat' split at h
    all_goals first | contradiction | (simp [qF,qE,Option.bind_eq_some_iff] at h;done) | (simp [qF,qE,Option.bind_eq_some_iff] at h;contradiction)
   ·exfalso
    repeat' split at h
    all_goals first | contradiction | (simp [qF,qE,Option.bind_eq_some_iff] at h;done) | (simp [qF,qE,Option.bind_eq_some_iff] at h;contradiction)
 all_goals exfalso
 all_goals simp only [jH,qF,qE] at h
 all_goals repeat' split at h
 all_goals first | contradiction | (simp [Option.bind_eq_some_iff] at h;done) | (simp [Option.bind_eq_some_iff] at h;contradiction)
theorem qFV {op:Op} {sz:Nat} {zs:List AV} {p:Opd} (h:jH P op=some (.clear sz zs p)):∃ c t x elem,(op=.call c/\c=⟨.builtin .clear,#[x],#[t]⟩)/\P.underlying t=some (.slice elem)/\xH P elem=some sz/\wL P elem=some zs/\jE x=some p:=by
 cases op
 case call c =>
  obtain⟨callee,args,ts⟩:=c
  cases callee with
  | value g =>
   exfalso
   cases g <;> simp [jH,Option.bind_eq_some_iff] at h
  | invoke=>simp [jH] at h
  | builtin b =>
   simp only [jH] at h
   split at h
   ·exfalso
    repeat' split at h
    all_goals first | contradiction | (simp [qF,qE,Option.bind_eq_some_iff] at h;done) | (simp [qF,qE,Option.bind_eq_some_iff] at h;contradiction)
   ·exfalso
    repeat' split at h
    all_goals first | contradiction | (simp [qF,qE,Option.bind_eq_some_iff] at h;done) | (simp [qF,qE,Option.bind_eq_some_iff] at h;contradiction)
   ·exfalso
    repeat' split at h
    all_goals first | contradiction | (simp [qF,qE,Option.bind_eq_some_iff] at h;done) | (simp [qF,qE,Option.bind_eq_some_iff] at h;contradiction)
   ·exfalso
    repeat' split at h
    all_goals first | contradiction | (simp [qF,qE,Option.bind_eq_some_iff] at h;done) | (simp [qF,qE,Option.bind_eq_some_iff] at h;contradiction)
   ·exfalso
    repeat' split at h
    all_goals first | contradiction | (simp [qF,qE,Option.bind_eq_some_iff] at h;done) | (simp [qF,qE,Option.bind_eq_some_iff] at h;contradiction)
   ·exfalso
    repeat' split at h
    all_goals first | contradiction | (simp [qF,qE,Option.bind_eq_some_iff] at h;done) | (simp [qF,qE,Option.bind_eq_some_iff] at h;contradiction)
   ·exfalso
    repeat' split at h
    all_goals first | contradiction | (simp [qF,qE,Option.bind_eq_some_iff] at h;done) | (simp [qF,qE,Option.bind_eq_some_iff] at h;contradiction)
   ·rename_i x t hat hay
    obtain rfl:args = #[x]:=by cases args;simpa using hat
    obtain rfl:ts = #[t]:=by cases ts;simpa using hay
    split at h
    ·rename_i elem hu
     simp only [Option.bind_eq_bind,Option.bind_eq_some_iff,Option.some.injEq,AOp.clear.injEq] at h
     obtain⟨sz',hsz,zs',hzs,x',hx,rfl,rfl,rfl⟩:=h
     exact⟨_,t,x,elem,⟨rfl,rfl⟩,hu,hsz,hzs,hx⟩
    ·cases h
   ·exfalso
    repeat' split at h
    all_goals first | contradiction | (simp [qF,qE,Option.bind_eq_some_iff] at h;done) | (simp [qF,qE,Option.bind_eq_some_iff] at h;contradiction)
 all_goals exfalso
 all_goals simp only [jH,qF,qE] at h
 all_goals repeat' split at h
 all_goals first | contradiction | (simp [Option.bind_eq_some_iff] at h;done) | (simp [Option.bind_eq_some_iff] at h;contradiction)
end
end Go.Ab
end
