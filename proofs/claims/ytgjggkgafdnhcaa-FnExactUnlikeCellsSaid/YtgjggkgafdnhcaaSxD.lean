/- Symbolic execution: lemmas for printed walks. -/
import Derived.Test.YtgjggkgafdnhcaaSxC
set_option linter.unusedVariables false
set_option linter.unusedSimpArgs false
section
namespace Go.Ab
theorem qLV {xs:List AV} {ls:LN} {E:Env} {env:List (Nat × SV)} {t:Nat} {v:SV} {a:AV} (h:E t=a) (d:D xs ls v a) (k:zB env xs ls E):zB ((t,v) :: env) xs ls E:=vP (by rw [h];exact d) k
theorem zL {E:Env} {d t:Nat} {r a:AV} (hne:Nat.beq d t=false) (h:E t=a):(E.put (some d) r) t=a:=by
 rw [Env.put_some,if_neg (fun e=>by subst e;simp at hne)];exact h
theorem qJ {E:Env} {d:Nat} {r:AV}:(E.put (some d) r) d=r:=by rw [Env.put_some,if_pos rfl]
theorem jK {E:Env} {t:Nat} {r a:AV} (h:E t=a):(E.put none r) t=a:=h
theorem kZ:∀ {ws:List Win},ws.all (fun w=>!w.wr)=true->qAJ ws
 | [],_=>trivial
 | w :: ws,h=>by
  simp only [List.all_cons,Bool.and_eq_true] at h
  refine⟨fun v hv e=>?_,kZ h.2⟩
  rcases e with e | e
  ·simp [e] at h
  ·have:=List.all_eq_true.1 h.2 v hv
   simp [e] at this
def qKG (H:AHeap):List Win->Prop
 | []=>True
 | w :: ws=>H.next<=w.l/\qKG H ws
theorem qKG.get {H:AHeap}:∀ {ws:List Win},qKG H ws -> ∀ (j l b:Nat),(zQ ws)[j]? = some (l,b)->H.next<=l
 | [],_,j,l,b,e=>by simp [zQ] at e
 | w :: ws,h,0,l,b,e=>by simp [zQ] at e;rw [<- e.1];exact h.1
 | w :: ws,h,j+1,l,b,e=>by
  simp only [zQ,List.map_cons,List.getElem?_cons_succ] at e
  exact qKG.get h.2 j l b e
structure Apart (a b:Nat):Prop where
  ne:a ≠ b
theorem Apart.symm {a b:Nat} (h:Apart a b):Apart b a:=⟨h.ne.symm⟩
def qJM (l:Nat):List Win->Prop
 | []=>True
 | w :: ws=>Apart l w.l/\qJM l ws
theorem qJM.get {l:Nat}:∀ {ws:List Win},qJM l ws -> ∀ (j b:Nat),(zQ ws)[j]? ≠ some (l,b)
 | [],_,j,b=>by simp [zQ]
 | w :: ws,h,0,b=>by simp [zQ];intro e;exact absurd e.symm h.1.ne
 | w :: ws,h,j+1,b=>by
  simp only [zQ,List.map_cons,List.getElem?_cons_succ]
  exact qJM.get h.2 j b
theorem qBs {H1 H2:AHeap} {f l:Nat} {x:HB} {ws:List Win} (hk:Kept f (zQ ws) H1 H2) (hg:H1.get l=some x) (hn:qJM l (ws.drop f)):H2.get l=some x:=by
 rw [hk.2 l (H1.lt_of_get hg) fun j b hj=>?_]
 ·exact hg
 ·have h:=qJM.get hn (j - f) b
  rw [zQ,List.map_drop,List.getElem?_drop,show f+(j - f)=j by omega] at h
  exact h
end Go.Ab
namespace Go.Ab
theorem SlL.isSl {H:AHeap} {sz:Nat} {ms:LL} {S:AV} (h:SlL H sz ms S) {i:Nat} (hi:i < ms.length):∃ l cap rest wr,S=.slice l 0 ms.length cap sz/\H.get l=some (.row (ms.flatten ++ rest) wr):=by
 cases h with
 | nil h=>rw [h] at hi;simp at hi
 | @sl l n cap rest wr hg hn hc=>subst hn;exact⟨l,cap,rest,wr,rfl,hg⟩
theorem qD {c:Cx} {x i:SV} {S:AV} {j l n cap sz k:Nat} (hx:D c.vs c.ls x S) (hS:S=.slice l 0 n cap sz) (hi:D c.vs c.ls i (.int .i64 (k:Int))) (hk:k < n) (hj:c.ls[j]? = some (l,k * sz)):mJ c (.ia sz x i) (.ptr j 0):=zV (hS ▸ hx) hi hk hj
end Go.Ab
namespace Go.Ab
theorem SlL.lt {H:AHeap} {sz n cap l:Nat} {ms:LL} (h:SlL H sz ms (.slice l 0 n cap sz)):l < H.next:=by
 cases h with
 | sl hg hn hc=>exact H.lt_of_get hg
theorem SlL.keep {H1 H2:AHeap} {sz n cap l f:Nat} {ms:LL} {ws:List Win} (h:SlL H1 sz ms (.slice l 0 n cap sz)) (hk:Kept f (zQ ws) H1 H2) (hn:qJM l (ws.drop f)):SlL H2 sz ms (.slice l 0 n cap sz):=by
 cases h with
 | sl hg h1 h2=>exact .sl (qBs hk hg hn) h1 h2
end Go.Ab
namespace Go.Ab
theorem qHE {n:Nat} (h:n<=1048576):n < 2^40:=Nat.lt_of_le_of_lt h (by decide)
end Go.Ab
namespace Go.Ab
theorem zJ.at {E:Env} {sl:List (Nat × AV)} (h:zJ E sl) {t:Nat} {a:AV} (k:Nat) (e:sl[k]? = some (t,a)):E t=a:=h t a (List.mem_of_getElem? e)
end Go.Ab
namespace Go.Ab
structure Only (l:Nat) (H H' : AHeap):Prop where
  next:H.next<=H'.next
  get:∀ l',l' < H.next->l' ≠ l->H'.get l'=H.get l'
theorem Only.refl (l:Nat) (H:AHeap):Only l H H:=⟨Nat.le_refl _,fun _ _ _=>rfl⟩
theorem Only.trans {l:Nat} {A B C:AHeap} (h:Only l A B) (k:Only l B C):Only l A C:=⟨Nat.le_trans h.next k.next,fun l' hl hn=>(k.get l' (Nat.lt_of_lt_of_le hl h.next) hn).trans (h.get l' hl hn)⟩
theorem Only.of_grew {l:Nat} {A B:AHeap} (h:Grew A B):Only l A B:=⟨h.next,fun l' hl _=>h.get l' hl⟩
theorem Only.grew {l:Nat} {A B C:AHeap} (h:Only l A B) (k:Grew B C):Only l A C:=h.trans (.of_grew k)
theorem Only.put {l:Nat} {A B:AHeap} (h:Only l A B) (b:HB):Only l A (B.put l b):=⟨h.next,fun l' hl hn=>by rw [pN hn];exact h.get l' hl hn⟩
theorem Only.own {l:Nat} {A B C:AHeap} (g:Grew A B) (hl:A.next<=l) (h:Only l B C):Grew A C:=⟨Nat.le_trans g.next h.next,fun l' hl'=>(h.get l' (Nat.lt_of_lt_of_le hl' g.next) om).trans (g.get l' hl')⟩
theorem Only.at {l l' : Nat} {A B:AHeap} (h:Only l A B) {b:HB} (hg:A.get l'=some b) (hn:Apart l' l):B.get l'=some b:=by rw [h.get l' (A.lt_of_get hg) hn.ne];exact hg
theorem qKg {P C Q vs:List AV} {b off:Nat} (hP:P.length=b) (h:off+vs.length<=C.length):laid (P ++ (C ++ Q)) (b+off) vs=P ++ (laid C off vs ++ Q):=by
 unfold laid
 subst hP
 rw [List.take_append,List.take_of_length_le om,show P.length+off - P.length=off by omega,List.take_append_of_le_length om,List.drop_append,List.drop_eq_nil_of_le om,List.nil_append,show P.length+off+vs.length - P.length=off+vs.length by omega,List.drop_append_of_le_length om]
 simp only [List.append_assoc]
theorem qKh {P C Q:List AV} {b off n:Nat} (hP:P.length=b) (h:off+n<=C.length):b+off+n<=(P ++ (C ++ Q)).length:=by
 simp only [List.length_append];omega
theorem yG {H:AHeap} {l b:Nat} {P C Q:List AV} {wr:Bool} (hg:H.get l=some (.row (P ++ (C ++ Q)) wr)) (hP:P.length=b) {xs:List AV} {ls:LN} {svs:List SV} (hd:DL xs ls svs C):qCB H xs ls ⟨l,b,svs,false⟩:=⟨P,C,Q,wr,hg,hP,hd,fun h=>by cases h⟩
theorem qJG {H:AHeap} {l:Nat} {b b' : HB} (hg:H.get l=some b):(H.put l b').get l=some b':=cO rfl (H.lt_of_get hg)
end Go.Ab
namespace Go.Ab
theorem zU {P:Program} {o:Pt} {d:ON} {n:Nat} {x y:Opd} (ho:o=.ops (⟨d,.store n x y,none⟩ :: bV o) (qAW o)) {Q:PK} {E:Env} {H:AHeap} {l b off:Nat} {p C q vs C' : List AV} (hx:x.ev E=.ptr l (b+off)) (hg:H.get l=some (.row (p ++ (C ++ q)) true)) (hp:p.length=b) (hy:(y.ev E).cells=some vs) (hn:vs.length=n) (hl:off+n<=C.length) (h1:vs.all AV.one=true) (hC:laid C off vs=C')
  (h:∀ H',H'.get l=some (.row (p ++ (C' ++ q)) true)->Only l H H'->Res P (.ops (bV o) (qAW o)) Q (E.put d .undef) H'):Res P o Q E H:=by
 refine qEn ho hx hg hy hn (qKh hp hl) h1 ?_
 rw [qKg hp (by rw [hn];exact hl),hC]
 exact h _ (qJG hg) ((Only.refl l H).put _)
end Go.Ab
end
/- Slices in memory of their own: what is fresh, what is apart, what a change leaves. -/
section
namespace Go.Ab
def AtS (S:AV) (l:Nat):Prop:=∃ o n c z,S=.slice l o n c z
inductive SlW (H:AHeap) (sz:Nat) (ms:LL):AV->Prop where
  | nil (h:ms=[]):SlW H sz ms .nilslice
  | sl {l n cap:Nat} {rest:List AV} (hg:H.get l=some (.row (ms.flatten ++ rest) true)) (hn:ms.length=n) (hc:n<=cap):SlW H sz ms (.slice l 0 n cap sz)
structure FreshS (b:Nat) (S:AV):Prop where
  le:∀ l,AtS S l->b<=l
structure ApartL (S:AV) (l:Nat):Prop where
  ne:¬ AtS S l
structure ApartS (S S' : AV):Prop where
  ne:∀ l,AtS S l -> ¬ AtS S' l
structure OnlyS (S:AV) (H H' : AHeap):Prop where
  next:H.next<=H'.next
  get:∀ l,l < H.next -> ¬ AtS S l->H'.get l=H.get l
theorem atS {l o n c z l' : Nat} (h:AtS (.slice l o n c z) l'):l'=l:=by obtain⟨_,_,_,_,e⟩:=h;cases e;rfl
theorem qCE {l' : Nat} (h:AtS .nilslice l'):False:=by obtain⟨_,_,_,_,e⟩:=h;cases e
theorem ApartS.symm {S S' : AV} (h:ApartS S S'):ApartS S' S:=⟨fun l h1 h2=>h.ne l h2 h1⟩
section
variable {H H' : AHeap} {sz:Nat} {ms:LL} {S:AV}
theorem SlW.toL (h:SlW H sz ms S):SlL H sz ms S:=by
 cases h with
 | nil h=>exact .nil h
 | sl hg hn hc=>exact .sl hg hn hc
theorem SlW.grew (g:Grew H H') (h:SlW H sz ms S):SlW H' sz ms S:=by
 cases h with
 | nil h=>exact .nil h
 | sl hg hn hc=>exact .sl (g.at hg) hn hc
theorem SlW.lt (h:SlW H sz ms S):∀ l,AtS S l->l < H.next:=by
 intro l hl
 cases h with
 | nil h=>exact(qCE hl).elim
 | sl hg hn hc=>rw [atS hl];exact H.lt_of_get hg
theorem OnlyS.at (h:OnlyS S H H') {l:Nat} {b:HB} (hg:H.get l=some b) (hn:ApartL S l):H'.get l=some b:=by rw [h.get l (H.lt_of_get hg) hn.ne];exact hg
theorem SlW.only {S1:AV} (h:SlW H sz ms S) (k:OnlyS S1 H H') (hn:ApartS S S1):SlW H' sz ms S:=by
 cases h with
 | nil h=>exact .nil h
 | sl hg h1 h2=>exact .sl (k.at hg ⟨hn.ne _ ⟨_,_,_,_,rfl⟩⟩) h1 h2
theorem SlL.only {S1:AV} (h:SlL H sz ms S) (k:OnlyS S1 H H') (hn:ApartS S S1):SlL H' sz ms S:=by
 cases h with
 | nil h=>exact .nil h
 | sl hg h1 h2=>exact .sl (k.at hg ⟨hn.ne _ ⟨_,_,_,_,rfl⟩⟩) h1 h2
theorem OnlyS.own {A B C:AHeap} (g:Grew A B) (hf:FreshS A.next S) (k:OnlyS S B C):Grew A C:=⟨Nat.le_trans g.next k.next,fun l hl=>(k.get l (Nat.lt_of_lt_of_le hl g.next) fun ha=>Nat.lt_irrefl _ (Nat.lt_of_lt_of_le hl (hf.le l ha))).trans (g.get l hl)⟩
theorem OnlyS.of_grew (g:Grew H H'):OnlyS S H H':=⟨g.next,fun l hl _=>g.get l hl⟩
theorem OnlyS.of_only {l o n c z:Nat} (g:Only l H H'):OnlyS (.slice l o n c z) H H':=⟨g.next,fun l' hl hn=>g.get l' hl fun e=>hn (by subst e;exact⟨_,_,_,_,rfl⟩)⟩
theorem FreshS.mono {a b:Nat} (h:FreshS b S) (hb:a<=b):FreshS a S:=⟨fun l hl=>Nat.le_trans hb (h.le l hl)⟩
theorem FreshS.apartL {b l:Nat} (h:FreshS b S) (hl:l < b):ApartL S l:=⟨fun ha=>Nat.lt_irrefl _ (Nat.lt_of_lt_of_le hl (h.le l ha))⟩
theorem FreshS.apartS {b:Nat} {S' : AV} (h:FreshS b S) (hs:∀ l,AtS S' l->l < b):ApartS S S':=⟨fun l h1 h2=>Nat.lt_irrefl _ (Nat.lt_of_lt_of_le (hs l h2) (h.le l h1))⟩
theorem FreshS.of_le {b l o n c z:Nat} (h:b<=l):FreshS b (.slice l o n c z):=⟨fun l' hl=>by rw [atS hl];exact h⟩
theorem FreshS.nil {b:Nat}:FreshS b .nilslice:=⟨fun l' hl=>(qCE hl).elim⟩
theorem SlW.apart_new (h:SlW H sz ms S) {l:Nat} (hl:H.next<=l):ApartL S l:=⟨fun ha=>Nat.lt_irrefl _ (Nat.lt_of_lt_of_le (h.lt l ha) hl)⟩
def qKM (S:AV):List Win->Prop
 | []=>True
 | w :: ws=>ApartL S w.l/\qKM S ws
theorem SlW.keep {f:Nat} {ws:List Win} (h:SlW H sz ms S) (hk:Kept f (zQ ws) H H') (hn:qKM S (ws.drop f)):SlW H' sz ms S:=by
 cases h with
 | nil h=>exact .nil h
 | @sl l n cap rest hg h1 h2 =>
  refine .sl (qBs hk hg ?_) h1 h2
  generalize ws.drop f=us at hn
  induction us with
  | nil=>trivial
  | cons w us ih=>exact⟨⟨fun e=>hn.1.ne ⟨_,_,_,_,by rw [e]⟩⟩,ih hn.2⟩
theorem SlW.one (h:SlW H sz ms S):S.one=true:=by cases h <;> rfl
end
end Go.Ab
namespace Go.Ab
theorem qMp {xs:List AV} {ls:LN} {f:FuncId} {a b:List SV} {as bs:List AV} (h:DL xs ls a as) (k:DL xs ls b bs):D xs ls (.fn f a b) (.func f as bs):=by simp only [D];exact⟨as,bs,rfl,h,k⟩
end Go.Ab
namespace Go.Ab
end Go.Ab
namespace Go.Ab
theorem qHP {P:Program} {o:Pt} {d:ON} {f:FuncId} {args:List Opd} {g:Nat} {b:Bool} {r:AV} (ho:o=.ops (⟨d,.call f args,some (g,b)⟩ :: bV o) (qAW o)) {Q:PK} {E:Env} {H:AHeap} (hg:E g=.bool b) (hc:zG P f (args.map (·.ev E)) H r)
  (h:Res P (.ops (bV o) (qAW o)) Q (E.put d r) H):Res P o Q E H:=by
 rw [ho]
 simp only [Res,vE,bZ]
 rw [hg]
 exact⟨trivial,r,fun _=>hc,by rw [if_pos (show (AV.bool b).yb=some b from rfl)];exact h⟩
end Go.Ab
end
/- Slices that fill their rows; appending. -/
section
namespace Go.Ab
inductive SlF (H:AHeap) (sz:Nat) (ms:LL):AV->Prop where
  | nil (h:ms=[]):SlF H sz ms .nilslice
  | sl {l n cap:Nat} (hg:H.get l=some (.row ms.flatten true)) (hn:ms.length=n) (hc:n<=cap):SlF H sz ms (.slice l 0 n cap sz)
section
variable {H H' : AHeap} {sz:Nat} {ms:LL} {S:AV}
theorem SlF.toW (h:SlF H sz ms S):SlW H sz ms S:=by
 cases h with
 | nil h=>exact .nil h
 | sl hg hn hc=>exact .sl (rest:=[]) (by simpa using hg) hn hc
theorem SlF.toL (h:SlF H sz ms S):SlL H sz ms S:=h.toW.toL
theorem SlF.grew (g:Grew H H') (h:SlF H sz ms S):SlF H' sz ms S:=by
 cases h with
 | nil h=>exact .nil h
 | sl hg hn hc=>exact .sl (g.at hg) hn hc
theorem SlF.lt (h:SlF H sz ms S):∀ l,AtS S l->l < H.next:=h.toW.lt
theorem SlF.only {S1:AV} (h:SlF H sz ms S) (k:OnlyS S1 H H') (hn:ApartS S S1):SlF H' sz ms S:=by
 cases h with
 | nil h=>exact .nil h
 | sl hg h1 h2=>exact .sl (k.at hg ⟨hn.ne _ ⟨_,_,_,_,rfl⟩⟩) h1 h2
theorem SlF.apart_new (h:SlF H sz ms S) {l:Nat} (hl:H.next<=l):ApartL S l:=h.toW.apart_new hl
theorem SlF.one (h:SlF H sz ms S):S.one=true:=h.toW.one
theorem SlF.keep {f:Nat} {ws:List Win} (h:SlF H sz ms S) (hk:Kept f (zQ ws) H H') (hn:qKM S (ws.drop f)):SlF H' sz ms S:=by
 cases h with
 | nil h=>exact .nil h
 | @sl l n cap hg h1 h2 =>
  refine .sl (qBs hk hg ?_) h1 h2
  generalize ws.drop f=us at hn
  induction us with
  | nil=>trivial
  | cons w us ih=>exact⟨⟨fun e=>hn.1.ne ⟨_,_,_,_,by rw [e]⟩⟩,ih hn.2⟩
end
theorem qBG {c:Cx} {s:St} {vs:List AV} {ls:LN} {H:AHeap} {E:Env} (h:In c s vs ls H) (hE:zB s.env vs ls E) (t j n cp z:Nat) (he:jS t s.env=some (.sl j 0 n cp z)) {ds:List AV} (e:(jS j s.heap).bind (fun p=>(dnL c.ρ c.φ s.ns c.ls 300 p.1).map fun x=>(x,p.2))=some (ds,true)) :
  ∃ l,E t=.slice l 0 n cp z/\H.get l=some (.row ds true)/\(c.ls.length<=j->c.H.next<=l):=by
 rw [Option.bind_eq_some_iff] at e
 obtain⟨p,h1,h2⟩:=e
 rw [Option.map_eq_some_iff] at h2
 obtain⟨x,h2,h3⟩:=h2
 obtain⟨rfl,h4⟩:=Prod.mk.inj h3
 obtain⟨l,b,pre,es,post,wr',k1,k2,k3,k4,k5⟩:=h.ok.heap j p.1 p.2 (by rw [h1])
 obtain⟨rfl,rfl,rfl⟩:=k5 h4
 have:=uX h h.lel 300 k4 h2
 subst this
 have hd:=hE t _ he
 simp only [D] at hd
 obtain⟨l',o',g1,g2⟩:=hd
 rw [k1] at g1
 cases g1
 have hb:b=0:=k3.symm
 subst hb
 exact⟨l,by simpa using g2,by simpa using k2,fun hj=>h.new j l 0 hj k1⟩
theorem pI {H:AHeap} {sz l cap:Nat} {cs:List AV} {wr:Bool} (hg:H.get l=some (.row cs wr)) (hc:cs.length=sz):jX H.get sz (.slice l 0 1 cap sz)=some ([cs].flatten,[cs].length):=by
 simp only [jX]
 rw [if_pos trivial,if_neg om,hg]
 simp only [Nat.zero_add,List.drop_zero,Nat.one_mul]
 rw [if_pos om,List.take_of_length_le om]
 simp
structure FromS (b:Nat) (S S' : AV):Prop where
  at_:∀ l,AtS S' l->b<=l \/ AtS S l
theorem FromS.apartL {b l:Nat} {S S' : AV} (h:FromS b S S') (hl:l < b) (hn:ApartL S l):ApartL S' l:=⟨fun ha=>by
  rcases h.at_ l ha with h1 | h1
  · omega
  · exact hn.ne h1⟩
theorem FromS.apartS {b:Nat} {S S' S2:AV} (h:FromS b S S') (hl:∀ l,AtS S2 l->l < b) (hn:ApartS S S2):ApartS S' S2:=⟨fun l ha h2=>by
  rcases h.at_ l ha with h1 | h1
  · have:=hl l h2;omega
  · exact hn.ne l h1 h2⟩
theorem FromS.fresh {a b:Nat} {S S' : AV} (h:FromS b S S') (hf:FreshS a S) (hab:a<=b):FreshS a S':=⟨fun l ha=>by
  rcases h.at_ l ha with h1 | h1
  · omega
  · exact hf.le l h1⟩
theorem ApartL.nil {l:Nat}:ApartL .nilslice l:=⟨fun h=>qCE h⟩
theorem ApartS.nil {S:AV}:ApartS .nilslice S:=⟨fun _ h=>(qCE h).elim⟩
theorem ApartL.of {l l' o n c z:Nat} (h:Apart l l'):ApartL (.slice l o n c z) l':=⟨fun e=>h.ne (atS e).symm⟩
theorem ApartS.of {l o n c z:Nat} {S:AV} (h:ApartL S l):ApartS (.slice l o n c z) S:=⟨fun l' h1 h2=>h.ne (by rw [atS h1] at h2;exact h2)⟩
theorem qGE {P:Program} {d:ON} {sz bytes:Nat} {x y:Opd} {rest:List AOper} {E:Env} {H:AHeap} {k:Env->AHeap->Prop} {S:AV} {ms ys:LL} (hx:x.ev E=S) (hS:SlF H sz ms S) (hm:∀ m ∈ ms,m.length=sz) (hy:jX H.get sz (y.ev E)=some (ys.flatten,ys.length)) (h1:ys.flatten.all AV.one=true) (hb:(2 * (ms.length+ys.length)+192) * bytes<=281474976710656)
  (h:∀ S' H',SlF H' sz (ms ++ ys) S'->FromS H.next S S'->OnlyS S H H'->vE P rest (E.put d S') H' k):vE P (⟨d,.append sz bytes x y,none⟩ :: rest) E H k:=by
 have hl:ms.flatten.length=ms.length * sz:=by
  have:=wT hm (i:=ms.length) (Nat.le_refl _)
  rwa [List.take_length] at this
 simp only [vE,mE]
 rw [hx]
 unfold tZ
 rw [hy]
 have fresh:∀ (c:Nat),ms=[]->ys.length<=c->vE P rest (E.put d (.slice H.next 0 ys.length c sz)) (H.new (.row ([] ++ ys.flatten) true)) k:=by
  intro c h0 hc
  subst h0
  refine h _ _ (.sl (by rw [AHeap.new_get,if_pos rfl];simp) (by simp) hc) ⟨fun l hl=>.inl (by rw [atS hl];exact Nat.le_refl _)⟩ ⟨by rw [AHeap.new_next];omega,fun l hl _=>by rw [AHeap.new_get,if_neg om]⟩
 cases hS with
 | nil h0 =>
  subst h0
  simp only []
  split
  ·rename_i hn
   have:ys=[]:=List.eq_nil_of_length_eq_zero hn
   subst this
   exact h _ _ (.nil rfl) ⟨fun l hl=>.inr hl⟩ ⟨Nat.le_refl _,fun _ _ _=>rfl⟩
  ·exact⟨by simpa using hb,h1,fun c hc=>fresh c rfl hc⟩
 | @sl l n cap hg hn hc =>
  subst hn
  simp only []
  rw [if_pos trivial]
  split
  ·rename_i h0
   have:ms=[]:=List.eq_nil_of_length_eq_zero om
   subst this
   split
   ·rename_i hn
    have:ys=[]:=List.eq_nil_of_length_eq_zero hn
    subst this
    exact h _ _ (.sl hg rfl hc) ⟨fun l hl=>.inr hl⟩ ⟨Nat.le_refl _,fun _ _ _=>rfl⟩
   ·exact⟨by simpa using hb,h1,fun c hc=>fresh c rfl hc⟩
  ·rw [hg]
   simp only [Nat.zero_add,List.drop_zero]
   rw [if_pos hl.symm]
   refine⟨by simpa using hb,h1,fun c hc2=>?_⟩
   have hll:=H.lt_of_get hg
   refine h _ _ (.sl (by rw [AHeap.new_get,if_pos rfl];simp) (by simp) hc2) ⟨fun l hl=>.inl (by rw [atS hl];exact Nat.le_refl _)⟩ ⟨?_,fun l' hl' hn=>?_⟩
   ·rw [AHeap.new_next];show H.next<=H.next+1;omega
   ·have hne:l' ≠ l:=fun e=>hn (by subst e;exact⟨_,_,_,_,rfl⟩)
    rw [AHeap.new_get,if_neg (by show l' ≠ H.next;omega),qGb hne]
theorem vU {P:Program} {o:Pt} {d:ON} {sz bytes:Nat} {x y:Opd} (ho:o=.ops (⟨d,.append sz bytes x y,none⟩ :: bV o) (qAW o)) {Q:PK} {E:Env} {H:AHeap} {S:AV} {ms ys:LL} (hx:x.ev E=S) (hS:SlF H sz ms S) (hm:∀ m ∈ ms,m.length=sz) (hy:jX H.get sz (y.ev E)=some (ys.flatten,ys.length)) (h1:ys.flatten.all AV.one=true) (hb:(2 * (ms.length+ys.length)+192) * bytes<=281474976710656)
  (h:∀ S' H',SlF H' sz (ms ++ ys) S'->FromS H.next S S'->OnlyS S H H'->Res P (.ops (bV o) (qAW o)) Q (E.put d S') H'):Res P o Q E H:=by
 rw [ho]
 exact qGE hx hS hm hy h1 hb h
end Go.Ab
namespace Go.Ab
theorem qMq {xs:List AV} {ls:LN} {j off n c z l o:Nat} (hl:ls[j]? = some (l,o)):D xs ls (.sl j off n c z) (.slice l (o+off) n c z):=by simp only [D];exact⟨l,o,hl,rfl⟩
theorem qL.append {ks:List Kd} {ms ys:LL} (h:qL ks ms) (k:qL ks ys):qL ks (ms ++ ys):=by
  intro m hm
  rcases List.mem_append.1 hm with h1 | h1
  · exact h m h1
  · exact k m h1
theorem qL.one {ks:List Kd} {m:List AV} (h:KdsL ks m):qL ks [m]:=by
 intro x hx
 rw [List.mem_singleton.1 hx];exact h
theorem qL.nil {ks:List Kd}:qL ks []:=by
 intro x hx;cases hx
theorem bW {ks:List Kd} {ms:LL} (h:qL ks ms) (hk:ks.all (fun k=>!decide (k=.any))=true):ms.flatten.all AV.one=true:=by
 rw [List.all_eq_true]
 intro a ha
 obtain⟨m,hm,ham⟩:=List.mem_flatten.1 ha
 exact List.all_eq_true.1 (qIU (h m hm) hk) a ham
end Go.Ab
namespace Go.Ab
end Go.Ab
namespace Go.Ab
end Go.Ab
namespace Go.Ab
def qEL:SV->ON
 | .ptr j _=>some j
 | .sl j _ _ _ _=>some j
 | _=>none
def qKi:AV->ON
 | .ptr l _=>some l
 | .slice l _ _ _ _=>some l
 | _=>none
theorem qKK {vs:List AV} {ls:LN} {v:SV} {a:AV} {j l:Nat} (hd:D vs ls v a) (hj:qEL v=some j) (hl:qKi a=some l):∃ o,ls[j]? = some (l,o):=by
 cases v with
 | ptr j' off=>cases hj;simp only [D] at hd;obtain⟨l',o,h1,rfl⟩:=hd;cases hl;exact⟨_,h1⟩
 | sl j' off n c z=>cases hj;simp only [D] at hd;obtain⟨l',o,h1,rfl⟩:=hd;cases hl;exact⟨_,h1⟩
 | _=>cases hj
theorem qJI {c:Cx} {s:St} {vs:List AV} {ls:LN} {H:AHeap} {E:Env} (h:In c s vs ls H) (hE:zB s.env vs ls E) (t t' j j' : Nat) {v v' : SV} (he:jS t s.env=some v) (he' : jS t' s.env=some v') (hv:qEL v=some j) (hv' : qEL v'=some j') {cs:List SV} (hr:jS j s.heap=some (cs,true)) (hj:j ≠ j') {l l' : Nat} {a a' : AV} (e1:E t=a) (e2:E t'=a') (k1:qKi a=some l) (k2:qKi a'=some l'):l ≠ l':=by
 rintro rfl
 obtain⟨o,h1⟩:=qKK (by rw [<- e1];exact hE t v he) hv k1
 obtain⟨o',h2⟩:=qKK (by rw [<- e2];exact hE t' v' he') hv' k2
 exact hj (h.ok.sep j j' _ _ _ cs hr h1 h2)
end Go.Ab
namespace Go.Ab
structure Only2 (S T:AV) (H H' : AHeap):Prop where
  next:H.next<=H'.next
  get:∀ l,l < H.next -> ¬ AtS S l -> ¬ AtS T l->H'.get l=H.get l
section
variable {H H' : AHeap} {sz:Nat} {ms:LL} {S T:AV}
theorem Only2.of {H1:AHeap} (h:OnlyS S H H1) (k:OnlyS T H1 H'):Only2 S T H H':=⟨Nat.le_trans h.next k.next,fun l hl h1 h2=>(k.get l (Nat.lt_of_lt_of_le hl h.next) h2).trans (h.get l hl h1)⟩
theorem Only2.at (h:Only2 S T H H') {l:Nat} {b:HB} (hg:H.get l=some b) (hn:ApartL S l) (hm:ApartL T l):H'.get l=some b:=by rw [h.get l (H.lt_of_get hg) hn.ne hm.ne];exact hg
theorem Only2.own {A B C:AHeap} (g:Grew A B) (hf:FreshS A.next S) (hf2:FreshS A.next T) (k:Only2 S T B C):Grew A C:=⟨Nat.le_trans g.next k.next,fun l hl=>(k.get l (Nat.lt_of_lt_of_le hl g.next) (fun ha=>Nat.lt_irrefl _ (Nat.lt_of_lt_of_le hl (hf.le l ha))) (fun ha=>Nat.lt_irrefl _ (Nat.lt_of_lt_of_le hl (hf2.le l ha)))).trans (g.get l hl)⟩
theorem OnlyS.grewR {H1:AHeap} (h:OnlyS S H H1) (k:Grew H1 H'):OnlyS S H H':=⟨Nat.le_trans h.next k.next,fun l hl hn=>(k.get l (Nat.lt_of_lt_of_le hl h.next)).trans (h.get l hl hn)⟩
theorem Only2.grewR {H1:AHeap} (h:Only2 S T H H1) (k:Grew H1 H'):Only2 S T H H':=⟨Nat.le_trans h.next k.next,fun l hl hn hm=>(k.get l (Nat.lt_of_lt_of_le hl h.next)).trans (h.get l hl hn hm)⟩
end
end Go.Ab
namespace Go.Ab
end Go.Ab
namespace Go.Ab
end Go.Ab
namespace Go.Ab
end Go.Ab
end
/- Making slices. -/
section
namespace Go.Ab
end Go.Ab
namespace Go.Ab
end Go.Ab
namespace Go.Ab
end Go.Ab
namespace Go.Ab
theorem qIH {t1 t2:Nat} {H0 H:AHeap} {E:Env} {e:AExit} {R:VK} (he:e=.normal \/ e=.ret) {a1 a2:AV} (e1:E t1=a1) (e2:E t2=a2) (hg:H0.next<=H.next) (hR:R (.tuple [a1,a2]) H):qIv [.tmp t1,.tmp t2] H0 R e E H:=by
 have hr:vN [.tmp t1,.tmp t2] E H=some (.tuple [a1,a2]):=by
  simp only [vN,qBR,ARes.val,e1,e2]
 rcases he with rfl | rfl
 ·exact⟨_,hr,kB hg hR⟩
 ·exact⟨_,hr,kB hg hR⟩
end Go.Ab
end
/- Bytes and strings. -/
section
namespace Go.Ab
def KU8:List Kd:=[.int .u8]
def qMg (ms:LL):Prop:=∀ m ∈ ms,∃ b:Int,m=[.int .u8 b]/\0<=b/\b < 256
theorem qMg.recs {ms:LL} (h:qMg ms):qL KU8 ms:=by
 intro m hm
 obtain⟨b,rfl,_,_⟩:=h m hm
 exact .cons ⟨_,rfl⟩ .nil
end Go.Ab
namespace Go.Ab
end Go.Ab
end
/- Loops that change plain values: these as functions of the place. -/
section
namespace Go.Ab
end Go.Ab
end
/- Writing an element of a slice of our own. -/
section
namespace Go.Ab
theorem qHt {m X m' : List AV} {j:Nat}:laid (m ++ X) (m.length+j) m'=m ++ laid X j m':=by
 unfold laid
 rw [List.take_append,List.take_of_length_le om,show m.length+j - m.length=j by omega,Nat.add_assoc,List.drop_append,List.drop_eq_nil_of_le om,List.nil_append,show m.length+(j+m'.length) - m.length=j+m'.length by omega]
 simp only [List.append_assoc]
theorem qFm {sz:Nat}:∀ {ms:LL} {k:Nat} (_:∀ m ∈ ms,m.length=sz) (_:k < ms.length) {m' : List AV} (_:m'.length=sz) (rest:List AV),laid (ms.flatten ++ rest) (k * sz) m'=(ms.set k m').flatten ++ rest
 | [],k,_,hk,_,_,_=>by simp at hk
 | m :: ms,0,h,_,m',hm',rest=>by
  have hm:=h m (by simp)
  have e:laid (m ++ (ms.flatten ++ rest)) (0 * sz) m'=m' ++ (ms.flatten ++ rest):=by
   unfold laid
   rw [Nat.zero_mul,List.take_zero,Nat.zero_add,hm',<- hm,List.drop_left];rfl
  rw [List.flatten_cons,List.append_assoc,e]
  simp
 | m :: ms,k+1,h,hk,m',hm',rest=>by
  have hm:=h m (by simp)
  have ih:=qFm (ms:=ms) (k:=k) (fun x hx=>h x (by simp [hx])) (by simpa using hk) hm' rest
  rw [List.flatten_cons,List.append_assoc,Nat.succ_mul,Nat.add_comm (k * sz) sz,<- hm,qHt,hm,ih]
  simp
theorem qHa {sz:Nat} {ms:LL} (h:∀ m ∈ ms,m.length=sz) {k:Nat} (hk:k < ms.length) (rest:List AV):k * sz+sz<=(ms.flatten ++ rest).length:=by
 obtain⟨pre,post,h1,h2⟩:=yP h hk rest
 rw [h1];simp only [List.length_append]
 have:=h ms[k] (List.getElem_mem hk)
 omega
section
variable {P:Program} {o:Pt} {d:ON} {n:Nat} {x y:Opd} {Q:PK} {E:Env} {H:AHeap} {S:AV} {sz k l cap:Nat} {ms:LL} {m' : List AV}
end
theorem OnlyS.trans {S:AV} {A B C:AHeap} (h:OnlyS S A B) (k:OnlyS S B C):OnlyS S A C:=⟨Nat.le_trans h.next k.next,fun l hl hn=>(k.get l (Nat.lt_of_lt_of_le hl h.next) hn).trans (h.get l hl hn)⟩
theorem qJd {S:AV} {H H1 H2:AHeap} {f:Nat} {ws:List Win} (hg:OnlyS S H H1) (hk:Kept f (zQ ws) H1 H2) (hn:qKG H (ws.drop f)):OnlyS S H H2:=
 ⟨Nat.le_trans hg.next hk.1,fun l hl hs=>by
  rw [hk.2 l (Nat.lt_of_lt_of_le hl hg.next) fun j b hj e=>?_]
  ·exact hg.get l hl hs
  ·have h:=qKG.get hn (j - f) l b (by
    rw [zQ,List.map_drop,List.getElem?_drop,show f+(j - f)=j by omega];exact e)
   omega⟩
theorem qL.set {ks:List Kd} {ms:LL} {k:Nat} {m:List AV} (h:qL ks ms) (hm:KdsL ks m):qL ks (ms.set k m):=by
  intro x hx
  rcases List.mem_or_eq_of_mem_set hx with h1 | h1
  · exact h x h1
  · rw [h1];exact hm
end Go.Ab
end
/- Symbolic execution: short forms for printed walks. -/
section
namespace Go.Ab
@[reducible] def KF:Kd:=.flt .f32
@[reducible] def KI:Kd:=.int .i64
@[reducible] def K2:Kd:=.int .i32
def nF (i:Nat):SV:=.nd i (.flt .f32)
def nI (i:Nat):SV:=.nd i (.int .i64)
def n2 (i:Nat):SV:=.nd i (.int .i32)
def n1 (i:Nat):SV:=.nd i .one
def nB (i:Nat):SV:=.nd i .bool
def nkA:Nat->List Kd->List (Node × Kd)
 | _,[]=>[]
 | i,k :: ks=>(.atom i,k) :: nkA (i+1) ks
mutual
def dv (ks:List Kd) (xs:List AV) (ls:LN):SV->Option AV
 | .lit a=>if dA a=true then some a else none
 | .nd i kd=>match ks[i]?,xs[i]? with
  | some k,some a=>if k=kd then some a else none
  | _,_=>none
 | .agg cs=>(dvL ks xs ls cs).map .agg
 | .tup cs=>(dvL ks xs ls cs).map .tuple
 | .ptr j off=>(ls[j]?).map fun p=>.ptr p.1 (p.2+off)
 | .sl j off n c z=>(ls[j]?).map fun p=>.slice p.1 (p.2+off) n c z
 | .fn f a b=>match dvL ks xs ls a,dvL ks xs ls b with
  | some as,some bs=>some (.func f as bs)
  | _,_=>none
 | .ifc _ _=>none
def dvL (ks:List Kd) (xs:List AV) (ls:LN):List SV->Option (List AV)
 | []=>some []
 | v :: vs=>match dv ks xs ls v,dvL ks xs ls vs with
  | some a,some as=>some (a :: as)
  | _,_=>none
end
theorem KdsL.at {ks:List Kd} {xs:List AV} (h:KdsL ks xs):∀ {i:Nat} {k:Kd} {a:AV},ks[i]? = some k->xs[i]? = some a->yH k a:=by
 induction h with
 | nil=>intro i k a h;simp at h
 | cons h _ ih =>
  intro i k a h1 h2
  cases i with
  | zero=>simp at h1 h2;subst h1;subst h2;exact h
  | succ i=>exact ih (by simpa using h1) (by simpa using h2)
mutual
theorem dC {ks:List Kd} {xs:List AV} {ls:LN} (hk:KdsL ks xs):∀ {v:SV} {a:AV},dv ks xs ls v=some a->D xs ls v a
 | .lit b,a,h=>by
  simp only [dv] at h
  split at h
  ·rename_i h1;cases h;exact qDo h1
  ·cases h
 | .nd i kd,a,h=>by
  simp only [dv] at h
  split at h
  ·rename_i k b h1 h2
   split at h
   ·rename_i h3;subst h3;cases h;exact dNd h2 (hk.at h1 h2)
   ·cases h
  ·cases h
 | .agg cs,a,h=>by
  simp only [dv,Option.map_eq_some_iff] at h
  obtain⟨as,h1,rfl⟩:=h
  exact mV (dlC hk h1)
 | .tup cs,a,h=>by
  simp only [dv,Option.map_eq_some_iff] at h
  obtain⟨as,h1,rfl⟩:=h
  simp only [D]
  exact⟨as,rfl,dlC hk h1⟩
 | .ptr j off,a,h=>by
  simp only [dv,Option.map_eq_some_iff] at h
  obtain⟨⟨l,o⟩,h1,rfl⟩:=h
  exact qKH h1
 | .sl j off n c z,a,h=>by
  simp only [dv,Option.map_eq_some_iff] at h
  obtain⟨⟨l,o⟩,h1,rfl⟩:=h
  exact qMq h1
 | .fn f x y,a,h=>by
  simp only [dv] at h
  split at h
  ·rename_i as bs h1 h2;cases h;exact qMp (dlC hk h1) (dlC hk h2)
  ·cases h
 | .ifc _ _,a,h=>by simp only [dv] at h;cases h
theorem dlC {ks:List Kd} {xs:List AV} {ls:LN} (hk:KdsL ks xs):∀ {vs:List SV} {as:List AV},dvL ks xs ls vs=some as->DL xs ls vs as
 | [],as,h=>by simp only [dvL] at h;cases h;exact zA
 | v :: vs,as,h=>by
  simp only [dvL] at h
  split at h
  ·rename_i a bs h1 h2;cases h;exact qB (dC hk h1) (dlC hk h2)
  ·cases h
end
def qJU (ks:List Kd) (xs:List AV) (ls:LN):List (Nat × SV)->Option (List (Nat × AV))
 | []=>some []
 | (t,v) :: e=>match dv ks xs ls v,qJU ks xs ls e with
  | some a,some r=>some ((t,a) :: r)
  | _,_=>none
theorem qKZ {ks:List Kd} {xs:List AV} {ls:LN} {E:Env} (hk:KdsL ks xs):∀ {env:List (Nat × SV)} {sl:List (Nat × AV)},qJU ks xs ls env=some sl->zJ E sl->zB env xs ls E
 | [],sl,_,_=>zY
 | (t,v) :: e,sl,h,hs=>by
  simp only [qJU] at h
  split at h
  ·rename_i a r h1 h2;cases h;exact qLV hs.head (dC hk h1) (qKZ hk h2 hs.tail)
  ·cases h
def qHX (w:Win):List Win->LN
 | []=>[]
 | v :: vs=>if (w.wr || v.wr)=true then (w.l,v.l) :: qHX w vs else qHX w vs
def qLM:List Win->LN
 | []=>[]
 | w :: ws=>qHX w ws ++ qLM ws
inductive ApL:LN->Prop where
  | nil:ApL []
  | cons {a b:Nat} {ps:LN} (h:Apart a b) (t:ApL ps):ApL ((a,b) :: ps)
theorem ApL.mem {ps:LN} (h:ApL ps):∀ p ∈ ps,p.1 ≠ p.2:=by
 induction h with
 | nil=>intro p hp;cases hp
 | cons h _ ih =>
  intro p hp
  rcases List.mem_cons.1 hp with rfl | hp
  ·exact h.ne
  ·exact ih p hp
theorem qBE {w:Win}:∀ {ws:List Win} {v:Win},v ∈ ws->(w.wr=true \/ v.wr=true)->(w.l,v.l) ∈ qHX w ws
 | u :: us,v,h,hw=>by
  unfold qHX
  rcases List.mem_cons.1 h with rfl | h
  ·rw [if_pos (by simpa using hw)];exact List.mem_cons_self
  ·split
   ·exact List.mem_cons_of_mem _ (qBE h hw)
   ·exact qBE h hw
theorem qLB:∀ {ws:List Win},(∀ p ∈ qLM ws,p.1 ≠ p.2)->qAJ ws
 | [],_=>trivial
 | w :: ws,h=>⟨fun v hv hw=>h (w.l,v.l) (List.mem_append_left _ (qBE hv hw)),qLB fun p hp=>h p (List.mem_append_right _ hp)⟩
theorem qMs {ws:List Win} (h:ApL (qLM ws)):qAJ ws:=qLB h.mem
theorem qLn {ρ:Nat->AV} {φ:Nat->List AV->AV} {vs:List AV} {ks:List Kd} {xs:List AV} (h:KdsL ks xs):∀ i,(∀ j,ρ (i+j)=xs.getD j .undef)->NkL ρ φ vs (nkA i ks) xs:=by
 induction h with
 | nil=>intro i _;exact .nil
 | @cons k a ks as h1 _ ih =>
  intro i hr
  refine .cons ?_ h1 (ih (i+1) fun j=>?_)
  ·have:=hr 0
   simp only [Nat.add_zero] at this
   show ρ i=a
   rw [this];rfl
  ·have:=hr (j+1)
   rw [show i+1+j=i+(j+1) by omega,this];rfl
theorem qFF {P:Program} {φ:Nat->List AV->AV} {ks:List Kd} {xs:List AV} {ws:List Win} {H:AHeap} {E:Env} {pm:Pm} (d:Nat) {o:Pt} {Q:PK} {env:List (Nat × SV)} (hk:KdsL ks xs)
  (hw:WinL H xs (zQ ws) ws) (hs:qAJ ws) (hr:RuL (mH P φ xs ws H pm.fl pm.ru) pm.ru) (hE:zB env xs (zQ ws) E) (htb:qAA P pm.tb) (hap:qCf P φ pm.ap)
  (h:∀ p ∈ qJL (wK pm d) pm o (qEb (nkA 0 ks) [] env ws),∀ vs ls H' E',Step (mH P φ xs ws H pm.fl pm.ru) (qEb (nkA 0 ks) [] env ws) xs (zQ ws) H p.2 vs ls H'->zB p.2.env vs ls E'->Res P p.1 Q E' H'):Res P o Q E H:=
 jB d (zC (qLn hk 0 (fun j=>by rw [Nat.zero_add];rfl)) .nil env hw hs hr) hE htb hap h
theorem KdsL.app {ks ks' : List Kd} {xs xs' : List AV} (h:KdsL ks xs) (k:KdsL ks' xs'):KdsL (ks ++ ks') (xs ++ xs'):=by
 induction h with
 | nil=>exact k
 | cons h1 _ ih=>exact .cons h1 ih
section
variable {c:Cx} {s0 s:St} {vs0 vs:List AV} {ls0 ls:LN} {H0 H:AHeap} {E:Env}
theorem eo (st:Step c s0 vs0 ls0 H0 s vs ls H) (hE:zB s.env vs ls E) (t:Nat) (a:AV) (e:(jS t s.env).bind (dn c.ρ c.φ s.ns c.ls 100)=some a:=by kernel_rfl):E t=a:=qW st.inn hE t e
theorem gk (st:Step c s0 vs0 ls0 H0 s vs ls H) (e:Nat.ble ls0.length s.wm=true:=by kernel_rfl):Grew H0 H:=st.kept.grew (Nat.le_of_ble_eq_true e)
theorem bf (st:Step c s0 vs0 ls0 H0 s vs ls H) (k:Nat) {x b:Bool} (e:(s.facts[k]?).bind (fun p=>(dn c.ρ c.φ s.ns c.ls 100 (.nd p.1 .bool)).map fun x=>(x,p.2))=some (.bool x,b):=by kernel_rfl):x=b:=qCG st.inn k e
theorem dt (st:Step c s0 vs0 ls0 H0 s vs ls H) (k:Nat) {p:Prop} [Decidable p] (e:(s.facts[k]?).bind (fun p=>(dn c.ρ c.φ s.ns c.ls 100 (.nd p.1 .bool)).map fun x=>(x,p.2))=some (.bool (decide p),true):=by kernel_rfl):p:=of_decide_eq_true (qCG st.inn k e)
theorem df (st:Step c s0 vs0 ls0 H0 s vs ls H) (k:Nat) {p:Prop} [Decidable p] (e:(s.facts[k]?).bind (fun p=>(dn c.ρ c.φ s.ns c.ls 100 (.nd p.1 .bool)).map fun x=>(x,p.2))=some (.bool (decide p),false):=by kernel_rfl):¬ p:=of_decide_eq_false (qCG st.inn k e)
end
theorem dL {ks:List Kd} {xs:List AV} {ls:LN} (hk:KdsL ks xs) {vs:List SV} {as:List AV} (h:dvL ks xs ls vs=some as:=by kernel_rfl):DL xs ls vs as:=dlC hk h
theorem dE {ks:List Kd} {xs:List AV} {ls:LN} (hk:KdsL ks xs) {v:SV} {a:AV} (h:dv ks xs ls v=some a:=by kernel_rfl):D xs ls v a:=dC hk h
theorem wR {H:AHeap} {l:Nat} {cs:List AV} {wr:Bool} (hg:H.get l=some (.row cs wr)) {ks:List Kd} {xs:List AV} {ls:LN} (hk:KdsL ks xs) {svs:List SV} (h:dvL ks xs ls svs=some cs:=by kernel_rfl):qCB H xs ls ⟨l,0,svs,false⟩:=bH hg (dlC hk h)
theorem wO {H:AHeap} {l:Nat} {cs:List AV} (hg:H.get l=some (.row cs true)) {ks:List Kd} {xs:List AV} {ls:LN} (hk:KdsL ks xs) {svs:List SV} (h:dvL ks xs ls svs=some cs:=by kernel_rfl):qCB H xs ls ⟨l,0,svs,true⟩:=qFe hg (dlC hk h)
theorem apn {H:AHeap} {l p:Nat} {b:HB} (r:H.get l=some b) (h:H.next<=p):Apart p l:=⟨Nat.ne_of_gt (Nat.lt_of_lt_of_le (H.lt_of_get r) h)⟩
end Go.Ab
end
/- Lists with so many elements. -/
section
namespace Go.Ab
end Go.Ab
end
