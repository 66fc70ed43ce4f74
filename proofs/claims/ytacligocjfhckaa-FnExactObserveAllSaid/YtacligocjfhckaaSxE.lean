/- Floats: bounds of results; narrowing. -/
import Derived.Test.YtacligocjfhckaaSxA
import Derived.Test.YtacligocjfhckaaAbD
import Derived.Test.YtacligocjfhckaaSxD
import Derived.Test.YtacligocjfhckaaSxC
import Derived.Lib.Overlaps
set_option linter.unusedVariables false
set_option linter.unusedSimpArgs false
section
namespace Go.Ab
open Ieee
theorem qNd {s:Bool} {m:Nat} {e:Int} (h:LeP m e 126):(FloatKind.f32.decode (FloatKind.f32.encode (.number s m e))).isInfinity=false:=by
 have hb:Format.binade single=8388608:=rfl
 have hi:Format.infRung single=2139095040:=rfl
 have hl:Format.leastPlace single = -149:=rfl
 have hf:single.fractionBits=23:=rfl
 show (Format.read single (Format.nearest single s m e)).isInfinity=false
 by_cases h0:m=0
 ·subst h0
  show (Format.read single (single.word s 0)).isInfinity=false
  cases s <;> decide +kernel
 ·have hlog:=h.log h0
  have hhi:m < 2^(m.log2+1):=Nat.lt_log2_self
  obtain⟨L,hL⟩:∃ L:Int,L=max (e+m.log2 - 23) (-149):=⟨_,rfl⟩
  obtain⟨kept,hk⟩:∃ kept,kept=Toward.even.cut s (m <<< (e - L).toNat) (L - e).toNat:=⟨_,rfl⟩
  have hkle:kept<=2^24:=by
   rw [hk]
   refine qHz ?_
   rw [Nat.shiftLeft_eq]
   have h1:m * 2^(e - L).toNat<=2^(m.log2+1+(e - L).toNat):=by
    rw [Nat.pow_add];exact Nat.mul_le_mul_right _ (Nat.le_of_lt hhi)
   refine Nat.le_trans h1 ?_
   rw [<- Nat.pow_add]
   refine Nat.pow_le_pow_right (by decide) ?_
   omega
  simp only [Nat.reducePow] at hkle
  have hr:(L+149).toNat * 8388608+kept < 2139095040:=by omega
  have hw:Format.nearest single s m e=single.word s ((L+149).toNat * 8388608+kept):=by
   unfold Format.nearest
   rw [if_neg h0]
   simp only [hf,hl,hb,hi]
   rw [show max (e+(m.log2:Int) - ((23:Nat):Int)) (-149)=L from hL.symm,<- hk,show L - -149=L+149 by omega]
   rw [Nat.min_eq_left (Nat.le_of_lt hr)]
  rw [hw,qAV single s (by rw [hi];exact hr)]
  split <;> rfl
def Bnd (x:ON) (b:Nat):Prop:=∃ w s m e,x=some w/\w < 2^64/\FloatKind.f64.decode w=.number s m e/\LeP m e b
theorem Bnd.mono {x:ON} {b c:Nat} (h:Bnd x b) (hc:b<=c):Bnd x c:=by
 obtain⟨w,s,m,e,h1,h2,h3,h4⟩:=h
 exact⟨w,s,m,e,h1,h2,h3,h4.mono hc⟩
theorem Bnd.ok {x:ON} {b:Nat} (h:Bnd x b):fOk .f64 x:=by
 obtain⟨w,s,m,e,rfl,h2,h3,h4⟩:=h
 intro c hc
 cases hc
 exact⟨h2,by rw [h3];rfl⟩
theorem Bnd.of {s:Bool} {m:Nat} {e:Int} {b:Nat} (h:LeP m e b) (hb:b<=1022):Bnd (some (FloatKind.f64.encode (.number s m e))) b:=by
 obtain⟨m',e',h1,h2,_⟩:=qMx (s:=s) h hb
 exact⟨_,s,m',e',rfl,FloatKind.f64.format.write_lt _,h1,h2⟩
theorem Bnd.narrow {x:ON} {b:Nat} (h:Bnd x b) (hb:b<=126):∃ y,f2f .f64 x .f32=some y/\fOk .f32 y:=by
 obtain⟨w,s,m,e,rfl,h2,h3,h4⟩:=h
 have hf:=qNd (s:=s) (h4.mono hb)
 refine⟨some (FloatKind.f32.encode (.number s m e)),?_,?_⟩
 ·show (floatToFloatBits .f64 w .f32).map some=_
  unfold floatToFloatBits
  rw [if_neg (by decide),h3]
  simp only []
  rw [hf];rfl
 ·intro c hc
  cases hc
  exact⟨FloatKind.f32.format.write_lt _,(jT (vP .f32 (d:=.number _ _ _) rfl)).2⟩
theorem LeP.prod {m n:Nat} {i j:Int} {a b:Nat} (h:LeP m i a) (k:LeP n j b):LeP (m * n) (i+j) (a+b):=by
 have h1:=h (-i).toNat om
 have k1:=k (-j).toNat om
 refine qCY (K:=(-i).toNat+(-j).toNat) om ?_
 unfold V at *
 have e1:(i+j+(((-i).toNat+(-j).toNat:Nat):Int)).toNat=(i+((-i).toNat:Int)).toNat+(j+((-j).toNat:Int)).toNat:=by omega
 rw [e1,Nat.pow_add,show m * n * (2^(i+((-i).toNat:Int)).toNat * 2^(j+((-j).toNat:Int)).toNat)=(m * 2^(i+((-i).toNat:Int)).toNat) * (n * 2^(j+((-j).toNat:Int)).toNat) by
  rw [Nat.mul_mul_mul_comm]]
 refine Nat.le_trans (Nat.mul_le_mul h1 k1) ?_
 rw [<- Nat.pow_add]
 exact Nat.pow_le_pow_right (by decide) om
theorem Bnd.mul {x y:ON} {a b:Nat} (h:Bnd x a) (k:Bnd y b) (hab:a+b<=1022):Bnd (fop .mul .f64 x y) (a+b):=by
 obtain⟨w,s,m,i,rfl,h2,h3,h4⟩:=h
 obtain⟨v,t,n,j,rfl,k2,k3,k4⟩:=k
 have:fop .mul .f64 (some w) (some v)=some (FloatKind.f64.encode (.number (s ^^ t) (m * n) (i+j))):=by
  show ((Format.read _ w).product (Format.read _ v)).map _=_
  rw [show Format.read FloatKind.f64.format w=.number s m i from h3,show Format.read FloatKind.f64.format v=.number t n j from k3]
  rfl
 rw [this]
 exact Bnd.of (h4.prod k4) hab
theorem qEl (s:Bool) (m k:Nat):(signed s m k).natAbs=m * 2^k:=by
  unfold signed
  cases s
  · exact(Int.natAbs_natCast _).trans (Nat.shiftLeft_eq _ _)
  · exact(Int.natAbs_neg _).trans ((Int.natAbs_natCast _).trans (Nat.shiftLeft_eq _ _))
theorem LeP.summ {s t:Bool} {m n:Nat} {i j:Int} {a b c:Nat} (h:LeP m i a) (k:LeP n j b) (ha:a < c) (hb:b < c):LeP (signed s m (i - min i j).toNat+signed t n (j - min i j).toNat).natAbs (min i j) c:=by
 obtain⟨K,hK⟩:∃ K:Nat,K=(-i).toNat+(-j).toNat:=⟨_,rfl⟩
 have h1:=h K om
 have k1:=k K om
 refine qCY (K:=K) om ?_
 unfold V at *
 have e:=Int.natAbs_add_le (signed s m (i - min i j).toNat) (signed t n (j - min i j).toNat)
 rw [qEl,qEl] at e
 refine Nat.le_trans (Nat.mul_le_mul_right _ e) ?_
 rw [Nat.add_mul,Nat.mul_assoc,Nat.mul_assoc,<- Nat.pow_add,<- Nat.pow_add,show (i - min i j).toNat+(min i j+(K:Int)).toNat=(i+K).toNat by omega,show (j - min i j).toNat+(min i j+(K:Int)).toNat=(j+K).toNat by omega]
 have p1:2^(a+K)<=2^(c - 1+K):=Nat.pow_le_pow_right (by decide) om
 have p2:2^(b+K)<=2^(c - 1+K):=Nat.pow_le_pow_right (by decide) om
 have p3:2^(c+K)=2^(c - 1+K) * 2:=by rw [<- Nat.pow_succ];congr 1;omega
 omega
theorem Bnd.sub {x y:ON} {a b c:Nat} (h:Bnd x a) (k:Bnd y b) (ha:a < c) (hb:b < c) (hc:c<=1022):Bnd (fop .sub .f64 x y) c:=by
 obtain⟨w,s,m,i,rfl,h2,h3,h4⟩:=h
 obtain⟨v,t,n,j,rfl,k2,k3,k4⟩:=k
 have:fop .sub .f64 (some w) (some v)=some (FloatKind.f64.encode (.number (if signed s m (i - min i j).toNat+signed (!t) n (j - min i j).toNat=0 then s && !t else signed s m (i - min i j).toNat+signed (!t) n (j - min i j).toNat < 0) (signed s m (i - min i j).toNat+signed (!t) n (j - min i j).toNat).natAbs (min i j))):=by
  show ((Format.read _ w).sum (Format.read _ v).opposite).map _=_
  rw [show Format.read FloatKind.f64.format w=.number s m i from h3,show Format.read FloatKind.f64.format v=.number t n j from k3]
  rfl
 rw [this]
 exact Bnd.of (h4.summ k4 ha hb) hc
theorem Bnd.add {x y:ON} {a b c:Nat} (h:Bnd x a) (k:Bnd y b) (ha:a < c) (hb:b < c) (hc:c<=1022):Bnd (fop .add .f64 x y) c:=by
 obtain⟨w,s,m,i,rfl,h2,h3,h4⟩:=h
 obtain⟨v,t,n,j,rfl,k2,k3,k4⟩:=k
 have:fop .add .f64 (some w) (some v)=some (FloatKind.f64.encode (.number (if signed s m (i - min i j).toNat+signed t n (j - min i j).toNat=0 then s && t else signed s m (i - min i j).toNat+signed t n (j - min i j).toNat < 0) (signed s m (i - min i j).toNat+signed t n (j - min i j).toNat).natAbs (min i j))):=by
  show ((Format.read _ w).sum (Format.read _ v)).map _=_
  rw [show Format.read FloatKind.f64.format w=.number s m i from h3,show Format.read FloatKind.f64.format v=.number t n j from k3]
  rfl
 rw [this]
 exact Bnd.of (h4.summ k4 ha hb) hc
theorem Bnd.quo {x:ON} {a v n:Nat} {t:Bool} {j:Int} (h:Bnd x a) (k3:FloatKind.f64.decode v=.number t n j) (hn:n ≠ 0) (h1:∀ K:Nat,0<=j+K->2^K<=n * 2^(j+K).toNat) (ha:a+1<=1022):Bnd (fop .quo .f64 x (some v)) (a+1):=by
 obtain⟨w,s,m,i,rfl,h2,h3,h4⟩:=h
 obtain⟨more,hmore⟩:∃ more,more=54+n.log2 - m.log2:=⟨_,rfl⟩
 have:fop .quo .f64 (some w) (some v)=some (FloatKind.f64.encode (.number (s ^^ t) (2 * (m <<< more / n)+(m <<< more % n != 0).toNat) (i - j - more - 1))):=by
  show ((Format.read _ w).quotient _ (Format.read _ v)).map _=_
  rw [show Format.read FloatKind.f64.format w=.number s m i from h3,show Format.read FloatKind.f64.format v=.number t n j from k3]
  show (if n=0 then _ else _:Option Datum).map _=_
  rw [if_neg hn,hmore]
  rfl
 rw [this]
 refine Bnd.of ?_ ha
 obtain⟨K1,hK1⟩:∃ K1:Nat,K1=(-(i - j - more - 1)).toNat:=⟨_,rfl⟩
 obtain⟨K2,hK2⟩:∃ K2:Nat,K2=(-j).toNat+(-(i - more - 1)).toNat+(-i).toNat:=⟨_,rfl⟩
 refine qCY (K:=K1) om ?_
 unfold V
 have hv:=h4 (K1+K2) om
 unfold V at hv
 have hd:=h1 K2 om
 have hdm:=Nat.div_mul_le_self (m <<< more) n
 rw [Nat.shiftLeft_eq] at hdm ⊢
 by_cases h0:m=0
 ·subst h0
  simp
 ·-- at least one whole
  have hq:1<=m * 2^more / n:=by
   rw [Nat.le_div_iff_mul_le (Nat.pos_of_ne_zero hn),Nat.one_mul]
   have e1:n < 2^(n.log2+1):=Nat.lt_log2_self
   have e2:2^m.log2<=m:=Nat.log2_self_le h0
   have e3:2^(n.log2+1)<=2^(m.log2+more):=Nat.pow_le_pow_right (by decide) om
   have e4:2^m.log2 * 2^more<=m * 2^more:=Nat.mul_le_mul_right _ e2
   rw [<- Nat.pow_add] at e4
   omega
  have hb:(m * 2^more % n != 0).toNat<=1:=by cases (m * 2^more % n != 0) <;> decide
  obtain⟨q,hqe⟩:∃ q,q=m * 2^more / n:=⟨_,rfl⟩
  obtain⟨r,hre⟩:∃ r,r=2 * q+(m * 2^more % n != 0).toNat:=⟨_,rfl⟩
  rw [<- hqe] at hq hdm
  rw [<- hqe,<- hre]
  have hr4:r<=4 * q:=by omega
  -- r * n * 2^.. against m
  have key:r * 2^(i - j - more - 1+(K1:Int)).toNat * (n * 2^(j+(K2:Int)).toNat)<=2^(a+1+K1) * 2^K2:=by
   have e1:r * 2^(i - j - more - 1+(K1:Int)).toNat * (n * 2^(j+(K2:Int)).toNat)=(r * n) * 2^(i - more - 1+(K1:Int)+(K2:Int)).toNat:=by
    rw [Nat.mul_mul_mul_comm,<- Nat.pow_add]
    congr 2;omega
   rw [e1]
   have e2:r * n<=4 * (m * 2^more):=by
    refine Nat.le_trans (Nat.mul_le_mul_right n hr4) ?_
    rw [Nat.mul_assoc]
    exact Nat.mul_le_mul_left 4 hdm
   refine Nat.le_trans (Nat.mul_le_mul_right _ e2) ?_
   have e3:4 * (m * 2^more) * 2^(i - more - 1+(K1:Int)+(K2:Int)).toNat=2 * (m * 2^(i+((K1+K2:Nat):Int)).toNat):=by
    have e4:2^more * 2^(i - more - 1+(K1:Int)+(K2:Int)).toNat * 2=2^(i+((K1+K2:Nat):Int)).toNat:=by
     rw [<- Nat.pow_add,<- Nat.pow_succ];congr 1;omega
    rw [<- e4]
    generalize 2^more=A
    generalize 2^(i - more - 1+(K1:Int)+(K2:Int)).toNat=B
    have x1:4 * (m * A) * B=4 * (m * (A * B)):=by rw [Nat.mul_assoc 4,Nat.mul_assoc m]
    have x2:m * (A * B * 2)=m * (A * B) * 2:=(Nat.mul_assoc _ _ _).symm
    rw [x1,x2]
    omega
   rw [e3,<- Nat.pow_add]
   have e5:2^(a+1+K1+K2)=2 * 2^(a+(K1+K2)):=by rw [<- Nat.pow_succ'];congr 1;omega
   rw [e5]
   exact Nat.mul_le_mul_left 2 hv
  have:r * 2^(i - j - more - 1+(K1:Int)).toNat * 2^K2<=2^(a+1+K1) * 2^K2:=Nat.le_trans (Nat.mul_le_mul_left _ hd) key
  exact Nat.le_of_mul_le_mul_right this (Nat.two_pow_pos K2)
end Go.Ab
end
/- Floats: square roots are not too great. -/
section
namespace Go.Ab
open Ieee
theorem cF (n:Nat):∀ (todo r:Nat),r * r<=n->Datum.rootFrom n todo r * Datum.rootFrom n todo r<=n
 | 0,r,h=>h
 | todo+1,r,h=>by
  unfold Datum.rootFrom
  simp only []
  split
  ·rename_i h1;exact cF n todo _ h1
  ·exact cF n todo r h
theorem cE (n:Nat):∀ (todo r:Nat),r<=Datum.rootFrom n todo r
 | 0,r=>Nat.le_refl _
 | todo+1,r=>by
  unfold Datum.rootFrom
  simp only []
  split
  ·exact Nat.le_trans (Nat.le_add_right _ _) (cE n todo _)
  ·exact cE n todo r
theorem qBY (n:Nat) (h:1<=n):∀ (todo:Nat),1<=todo->1<=Datum.rootFrom n todo 0
 | 0,h1=>by omega
 | todo+1,_=>by
  unfold Datum.rootFrom
  simp only [Nat.zero_add]
  split
  ·refine Nat.le_trans ?_ (cE n todo _)
   rw [Nat.one_shiftLeft];exact Nat.one_le_two_pow
  ·rename_i h2
   cases todo with
   | zero=>exact absurd h (by simpa using h2)
   | succ k=>exact qBY n h (k+1) om
theorem qMq {w m:Nat} {s:Bool} {i:Int} {b c:Nat} (h3:FloatKind.f64.decode w=.number s m i) (h4:LeP m i b) (hc:b+4<=2 * c) (hc2:c<=1022):FloatKind.f64.format.sqrt w=none \/ Bnd (FloatKind.f64.format.sqrt w) c:=by
 have e:FloatKind.f64.format.sqrt w=((Datum.number s m i).root (FloatKind.f64.format.fractionBits+2)).map FloatKind.f64.format.write:=by
  show ((Format.read _ w).root _).map _=_
  rw [show Format.read FloatKind.f64.format w=.number s m i from h3]
 rw [e]
 unfold Datum.root
 simp only []
 by_cases h0:m=0
 ·rw [if_pos h0]
  subst h0
  exact .inr (Bnd.of qEM hc2)
 ·rw [if_neg h0]
  cases s with
  | true=>left;rfl
  | false =>
   right
   rw [if_neg (by decide)]
   simp only [Option.map_some]
   refine Bnd.of ?_ hc2
   obtain⟨m0,hm0⟩:∃ m0,m0=2 * (FloatKind.f64.format.fractionBits+2) - m.log2:=⟨_,rfl⟩
   rw [<- hm0]
   obtain⟨more,hmore⟩:∃ more,more=m0+((i - (m0:Int)) % 2).toNat:=⟨_,rfl⟩
   rw [<- hmore]
   have hev:(i - (more:Int)) % 2=0:=by omega
   obtain⟨n,hn⟩:∃ n,n=m <<< more:=⟨_,rfl⟩
   rw [<- hn]
   have hn1:1<=n:=by
    rw [hn,Nat.shiftLeft_eq]
    exact Nat.mul_pos (Nat.pos_of_ne_zero h0) (Nat.two_pow_pos _)
   obtain⟨q,hq⟩:∃ q,q=Datum.rootFrom n (n.log2 / 2+1) 0:=⟨_,rfl⟩
   rw [<- hq]
   have hq2:q * q<=n:=by rw [hq];exact cF n _ 0 (Nat.zero_le _)
   have hq1:1<=q:=by rw [hq];exact qBY n hn1 _ om
   obtain⟨r,hr⟩:∃ r,r=2 * q+(q * q != n).toNat:=⟨_,rfl⟩
   rw [<- hr]
   have hb:(q * q != n).toNat<=1:=by cases (q * q != n) <;> decide
   have hr3:r<=3 * q:=by omega
   obtain⟨E,hE⟩:∃ E:Int,E=(i - (more:Int)) / 2 - 1:=⟨_,rfl⟩
   rw [<- hE]
   have h2E:2 * E=i - more - 2:=by omega
   obtain⟨K,hK⟩:∃ K:Nat,K=(-E).toNat+(-i).toNat:=⟨_,rfl⟩
   refine qCY (K:=K) om ?_
   unfold V
   have hv:=h4 (2 * K) om
   unfold V at hv
   have hsq:(r * 2^(E+(K:Int)).toNat) * (r * 2^(E+(K:Int)).toNat)<=2^(c+K) * 2^(c+K):=by
    rw [Nat.mul_mul_mul_comm,<- Nat.pow_add,<- Nat.pow_add]
    have e1:r * r<=9 * n:=by
     have:=Nat.mul_le_mul hr3 hr3
     rw [Nat.mul_mul_mul_comm] at this
     omega
    refine Nat.le_trans (Nat.mul_le_mul_right _ e1) ?_
    rw [hn,Nat.shiftLeft_eq]
    have e2:2^more * 2^((E+(K:Int)).toNat+(E+(K:Int)).toNat) * 4=2^(i+((2 * K:Nat):Int)).toNat:=by
     rw [<- Nat.pow_add,show (4:Nat)=2^2 from rfl,<- Nat.pow_add];congr 1;omega
    have e3:9 * (m * 2^more) * 2^((E+(K:Int)).toNat+(E+(K:Int)).toNat)<=16 * (m * 2^(i+((2 * K:Nat):Int)).toNat):=by
     rw [<- e2]
     generalize 2^more=A
     generalize 2^((E+(K:Int)).toNat+(E+(K:Int)).toNat)=B
     have x1:9 * (m * A) * B=9 * (m * (A * B)):=by rw [Nat.mul_assoc 9,Nat.mul_assoc m]
     have x2:m * (A * B * 4)=m * (A * B) * 4:=(Nat.mul_assoc _ _ _).symm
     rw [x1,x2]
     omega
    refine Nat.le_trans e3 ?_
    refine Nat.le_trans (Nat.mul_le_mul_left 16 hv) ?_
    rw [show (16:Nat)=2^4 from rfl,<- Nat.pow_add]
    exact Nat.pow_le_pow_right (by decide) om
   exact Nat.mul_self_le_mul_self_iff.1 hsq
theorem qNc {s:Bool} {m:Nat} {e:Int} (h:(FloatKind.f32.decode (FloatKind.f32.encode (.number s m e))).isInfinity=false):LeP m e 128:=by
 by_cases h0:m=0
 ·subst h0;exact qEM
 have hb:Format.binade single=8388608:=rfl
 have hi:Format.infRung single=2139095040:=rfl
 have hl:Format.leastPlace single = -149:=rfl
 have hf:single.fractionBits=23:=rfl
 have hhi:m < 2^(m.log2+1):=Nat.lt_log2_self
 have hlo:2^m.log2<=m:=Nat.log2_self_le h0
 have hlog:(m.log2:Int)+e<=127:=by
  rcases Int.lt_or_le 127 ((m.log2:Int)+e) with hgt | hle
  ·exfalso
   obtain⟨L,hL⟩:∃ L:Int,L=max (e+m.log2 - 23) (-149):=⟨_,rfl⟩
   obtain⟨kept,hk⟩:∃ kept,kept=Toward.even.cut s (m <<< (e - L).toNat) (L - e).toNat:=⟨_,rfl⟩
   have hkge:2^23<=kept:=by
    rw [hk]
    by_cases hc:L<=e
    ·have e2:(L - e).toNat=0:=by omega
     rw [e2]
     refine qHy (Nat.zero_le _) ?_
     rw [Nat.pow_zero,Nat.mul_one,Nat.shiftLeft_eq]
     have:2^23=2^m.log2 * 2^(e - L).toNat:=by rw [<- Nat.pow_add];congr 1;omega
     rw [this]
     exact Nat.mul_le_mul_right _ hlo
    ·have e2:(e - L).toNat=0:=by omega
     rw [e2,Nat.shiftLeft_eq,Nat.pow_zero,Nat.mul_one]
     refine qHy om ?_
     rw [<- Nat.pow_add]
     refine Nat.le_trans (Nat.pow_le_pow_right (by decide) ?_) hlo
     omega
   simp only [Nat.reducePow] at hkge
   have hw:FloatKind.f32.encode (.number s m e)=single.word s 2139095040:=by
    show Format.nearest single s m e=_
    unfold Format.nearest
    rw [if_neg h0]
    simp only [hf,hl,hb,hi]
    rw [show max (e+(m.log2:Int) - ((23:Nat):Int)) (-149)=L from hL.symm,<- hk,show L - -149=L+149 by omega]
    rw [Nat.min_eq_right om]
   rw [hw] at h
   revert h
   cases s <;> decide +kernel
  ·exact hle
 obtain⟨K,hK⟩:∃ K:Nat,K=(-e).toNat:=⟨_,rfl⟩
 refine qCY (K:=K) om ?_
 unfold V
 refine Nat.le_trans (Nat.mul_le_mul_right _ (Nat.le_of_lt hhi)) ?_
 rw [<- Nat.pow_add]
 exact Nat.pow_le_pow_right (by decide) om
theorem qON {x:ON} (h:jQ .f64n (.flt .f64 x)):jQ .f64n (.flt .f64 (qGL x)):=by
 obtain⟨x',e,ho,hn⟩:=h
 cases e
 have qBr:jQ .f64n (.flt .f64 none):=⟨none,rfl,fun c hc=>(by cases hc),rfl⟩
 cases x with
 | none=>exact qBr
 | some w =>
  obtain⟨h1,h2⟩:=ho w rfl
  show jQ .f64n (.flt .f64 (FloatKind.f64.format.sqrt w))
  generalize hd:FloatKind.f64.decode w=d at h2
  cases d with
  | nan s t=>cases h2
  | infinity s =>
   have e:FloatKind.f64.format.sqrt w=((Datum.infinity s).root (FloatKind.f64.format.fractionBits+2)).map FloatKind.f64.format.write:=by
    show ((Format.read _ w).root _).map _=_
    rw [show Format.read FloatKind.f64.format w=.infinity s from hd]
   rw [e]
   cases s with
   | true=>exact qBr
   | false=>exact⟨_,rfl,(fun c hc=>by cases hc;exact⟨by decide +kernel,by decide +kernel⟩),by decide +kernel⟩
  | number s m i =>
   have hl:LeP m i 128:=by
    refine qNc (s:=s) ?_
    have hn:((floatToFloatBits .f64 w .f32).map some).isSome=true:=hn
    unfold floatToFloatBits at hn
    rw [if_neg (by decide),hd] at hn
    simp only [] at hn
    cases hi:(FloatKind.f32.decode (FloatKind.f32.encode (.number s m i))).isInfinity with
    | false=>rfl
    | true=>rw [hi] at hn;cases hn
   rcases qMq (c:=66) hd hl om om with e | hB
   ·rw [e];exact qBr
   ·obtain⟨y,hy,_⟩:=hB.narrow om
    exact⟨_,rfl,hB.ok,by rw [hy];rfl⟩
end Go.Ab
end
/- Floats: exact writing; integral values; angles without whole turns. -/
section
namespace Go.Ab
open Ieee
theorem qNs {m j:Nat} (h0:m ≠ 0):(m * 2^j).log2=m.log2+j:=by
 have hp:=Nat.two_pow_pos j
 refine(Nat.log2_eq_iff (Nat.mul_ne_zero h0 om)).2 ⟨?_,?_⟩
 ·rw [Nat.pow_add];exact Nat.mul_le_mul_right _ (Nat.log2_self_le h0)
 ·rw [show m.log2+j+1=(m.log2+1)+j by omega,Nat.pow_add]
  exact Nat.mul_lt_mul_of_pos_right Nat.lt_log2_self hp
end Go.Ab
end
/- Floats: sines, cosines, angles without whole turns: values and bounds. -/
section
namespace Go.Ab
open Ieee
theorem qMb {w m:Nat} {s:Bool} {e:Int} (h:FloatKind.f64.decode w=.number s m e):FloatKind.f64.decode (Op.negFloat .f64 w)=.number (!s) m e:=by
 have hx:Op.negFloat .f64 w=w ^^^ 2^63:=rfl
 have hs:Format.signWeight FloatKind.f64.format=2^63:=rfl
 have hr:(w ^^^ 2^63) % 2^63=w % 2^63:=by
  rw [Nat.xor_mod_two_pow,Nat.mod_self,Nat.xor_zero]
 have hb:((w ^^^ 2^63) / 2^63 % 2 == 1) = !(w / 2^63 % 2 == 1):=by
  have t:=Nat.testBit_xor w (2^63) 63
  rw [Nat.testBit_two_pow_self,Nat.testBit_eq_decide_div_mod_eq,Nat.testBit_eq_decide_div_mod_eq,Bool.xor_true] at t
  exact t
 rw [hx]
 have h:Format.read FloatKind.f64.format w=.number s m e:=h
 show Format.read FloatKind.f64.format (w ^^^ 2^63)=_
 unfold Format.read at h ⊢
 simp only [hs] at h ⊢
 rw [hr,hb]
 split at h
 ·rename_i h1;rw [if_pos h1];cases h;rfl
 ·rename_i h1
  rw [if_neg h1]
  split at h
  ·rename_i h2;rw [if_pos h2];cases h;rfl
  ·split at h <;> cases h
theorem Bnd.neg {x:ON} {b:Nat} (h:Bnd x b):Bnd (qOz .f64 x) b:=by
 obtain⟨w,s,m,e,rfl,h2,h3,h4⟩:=h
 exact⟨_,!s,m,e,rfl,Nat.xor_lt_two_pow h2 (by decide),qMb h3,h4⟩
theorem Bnd.lit {w:Nat} {b:Nat} (h:w < 2^64) {s:Bool} {m:Nat} {e:Int} (hd:FloatKind.f64.decode w=.number s m e) {K:Nat} (hK:0<=e+K) (hv:V m e K<=2^(b+K)):Bnd (some w) b:=⟨w,s,m,e,rfl,h,hd,qCY hK hv⟩
theorem qAm {w m:Nat} {s:Bool} {e:Int} (h:FloatKind.f32.decode w=.number s m e):m < 2^24 /\ -149<=e/\e<=104:=by
 have hb:Format.binade single=8388608:=rfl
 have hi:Format.infRung single=2139095040:=rfl
 have hl:Format.leastPlace single = -149:=rfl
 have h:Format.read single w=.number s m e:=h
 unfold Format.read at h
 simp only [hb,hl,hi] at h
 split at h
 ·cases h;exact⟨by omega,by omega,by omega⟩
 ·split at h
  ·cases h
   have:=Nat.mod_lt (w % single.signWeight) (show 0 < 8388608 by decide)
   exact⟨by omega,by omega,by omega⟩
  ·split at h <;> cases h
def bQ (x:ON):Bool:=qO .f32 (fop .sub .f32 x x) (some 0) == some .eq
theorem wC {x:ON} (h0:fOk .f32 x) (h:bQ x=true):∃ w s m e,x=some w/\FloatKind.f32.decode w=.number s m e:=by
 cases x with
 | none=>cases h
 | some w =>
  obtain⟨h1,h2⟩:=h0 w rfl
  cases hd:FloatKind.f32.decode w with
  | nan s t=>rw [hd] at h2;cases h2
  | number s m e=>exact⟨w,s,m,e,rfl,hd⟩
  | infinity s =>
   exfalso
   have e:fop .sub .f32 (some w) (some w)=none:=by
    show ((Format.read _ w).sum (Format.read _ w).opposite).map _=_
    rw [show Format.read FloatKind.f32.format w=.infinity s from hd]
    cases s <;> rfl
   unfold bQ at h
   rw [e] at h
   cases h
theorem qOP {x:ON} (h:fOk .f32 x):jQ .f64n (.flt .f64 (wid x)):=by
 obtain⟨y,h1,h2,h3⟩:=qFd h
 have:wid x=y:=by unfold wid;rw [h1];rfl
 rw [this]
 exact⟨y,rfl,h2,h3⟩
theorem qBr {k:FloatKind}:fOk k none:=fun c hc=>by cases hc
theorem bT {c:Cx} {s:St} {vs:List AV} {ls:LN} {H:AHeap} {E:Env} (h:In c s vs ls H) (hE:zG s.env vs ls E) (t:Nat) {kd:Kd} (e:((jG t s.env).bind fun v=>match v with | .nd _ k=>some k | _=>none)=some kd):jQ kd (E t):=by
 rw [Option.bind_eq_some_iff] at e
 obtain⟨v,h1,h2⟩:=e
 have:=hE t v h1
 cases v <;> cases h2
 simp only [D] at this
 exact this.2
end Go.Ab
end
/- Floats: absolute values, limits, quotients that are numbers, integers out of floats. -/
section
namespace Go.Ab
open Ieee
def qAo (x:ON):ON:=x.map (· % 9223372036854775808)
theorem qGz (w:Nat):FloatKind.f64.decode (w % 9223372036854775808)=match FloatKind.f64.decode w with
  | .number _ m e=>.number false m e
  | .infinity _=>.infinity false
  | .nan _ t=>.nan false t:=by
 have hs:Format.signWeight FloatKind.f64.format=9223372036854775808:=rfl
 show Format.read FloatKind.f64.format (w % 9223372036854775808)=match Format.read FloatKind.f64.format w with
  | .number _ m e=>.number false m e
  | .infinity _=>.infinity false
  | .nan _ t=>.nan false t
 unfold Format.read
 simp only [hs]
 have h1:w % 9223372036854775808 % 9223372036854775808=w % 9223372036854775808:=by omega
 have h2:(w % 9223372036854775808 / 9223372036854775808 % 2 == 1)=false:=by
  rw [Nat.div_eq_of_lt (Nat.mod_lt _ (by decide))];rfl
 rw [h1,h2]
 split
 ·rfl
 ·split
  ·rfl
  ·split <;> rfl
theorem qCL {x:ON} (h:fOk .f64 x):fOk .f64 (qAo x):=by
 cases x with
 | none=>exact qBr
 | some w =>
  intro b hb
  cases hb
  obtain⟨h1,h2⟩:=h w rfl
  refine⟨Nat.lt_of_lt_of_le (Nat.mod_lt _ (by decide)) (by decide),?_⟩
  rw [qGz]
  generalize FloatKind.f64.decode w=d at h2
  cases d <;> first | rfl | (cases h2;done)
def mil:ON:=some 4696837146684686336
def qJh:ON:=some 13920209183539462144
theorem qKn:FloatKind.f64.decode 4696837146684686336=.number false 8589934592000000 (-33):=by decide +kernel
theorem qMc:FloatKind.f64.decode 13920209183539462144=.number true 8589934592000000 (-33):=by decide +kernel
def qDx (q:ON):Bool:=qO .f64 mil (qAo q) == some .lt
theorem xX (m k:Nat):signed false m k=((m <<< k:Nat):Int):=rfl
theorem uE (m k:Nat):signed true m k = -((m <<< k:Nat):Int):=rfl
theorem qDU {a b:Int}:(some (compare a b) == some Ordering.lt)=decide (a < b):=by
 show (some (compareOfLessAndEq a b) == some Ordering.lt)=_
 unfold compareOfLessAndEq
 by_cases h:a < b
 ·rw [if_pos h,decide_eq_true h];rfl
 ·rw [if_neg h,decide_eq_false h];split <;> rfl
theorem cmp_eq {a b:Int}:(some (compare a b) == some Ordering.eq)=decide (a=b):=by
 show (some (compareOfLessAndEq a b) == some Ordering.eq)=_
 unfold compareOfLessAndEq
 by_cases h:a < b
 ·rw [if_pos h,decide_eq_false om];rfl
 ·rw [if_neg h]
  by_cases h2:a=b
  ·rw [if_pos h2,decide_eq_true h2];rfl
  ·rw [if_neg h2,decide_eq_false h2];rfl
theorem qMA {a b:Int}:(some (compare a b) == some Ordering.lt || some (compare a b) == some Ordering.eq)=decide (a<=b):=by
 rw [qDU,cmp_eq,<- Bool.decide_or]
 exact decide_eq_decide.2 om
theorem cQ {q:ON} (h:fOk .f64 q) (hs:q.isSome=true):qDx q = !((qO .f64 qJh q == some .lt || qO .f64 qJh q == some .eq) && (qO .f64 q mil == some .lt || qO .f64 q mil == some .eq)):=by
 cases q with
 | none=>cases hs
 | some w =>
  obtain⟨_,h2⟩:=h w rfl
  have ha:=qGz w
  have ea:qO .f64 mil (qAo (some w))=(FloatKind.f64.decode 4696837146684686336).order (FloatKind.f64.decode (w % 9223372036854775808)):=rfl
  have eb:qO .f64 qJh (some w)=(FloatKind.f64.decode 13920209183539462144).order (FloatKind.f64.decode w):=rfl
  have ec:qO .f64 (some w) mil=(FloatKind.f64.decode w).order (FloatKind.f64.decode 4696837146684686336):=rfl
  unfold qDx
  rw [ea,eb,ec,ha,qKn,qMc]
  cases hd:FloatKind.f64.decode w with
  | nan s t=>rw [hd] at h2;cases h2
  | infinity s=>cases s <;> rfl
  | number s m e =>
   show (some (compare (signed false 8589934592000000 (-33 - min (-33) e).toNat) (signed false m (e - min (-33) e).toNat)) == some Ordering.lt) = !((some (compare (signed true 8589934592000000 (-33 - min (-33) e).toNat) (signed s m (e - min (-33) e).toNat)) == some Ordering.lt || some (compare (signed true 8589934592000000 (-33 - min (-33) e).toNat) (signed s m (e - min (-33) e).toNat)) == some Ordering.eq) && (some (compare (signed s m (e - min e (-33)).toNat) (signed false 8589934592000000 (-33 - min e (-33)).toNat)) == some Ordering.lt || some (compare (signed s m (e - min e (-33)).toNat) (signed false 8589934592000000 (-33 - min e (-33)).toNat)) == some Ordering.eq))
   rw [qDU,qMA,qMA,Int.min_comm e (-33)]
   generalize hA:m <<< (e - min (-33) e).toNat=A
   generalize hC:8589934592000000 <<< (-33 - min (-33) e).toNat=C
   cases s
   ·rw [xX,xX,uE,hA,hC,<- Bool.decide_and,<- decide_not]
    exact decide_eq_decide.2 om
   ·rw [xX,xX,uE,uE,hA,hC,<- Bool.decide_and,<- decide_not]
    exact decide_eq_decide.2 om
theorem qPC {n d N:Nat} (h:n<=N * 2^d):∀ s,Toward.zero.cut s n d<=N:=by
 intro s
 unfold Toward.cut
 simp only [Bool.toNat_false,Nat.add_zero,Nat.shiftLeft_eq,Nat.one_mul]
 by_cases hd:d<=n.log2+2
 ·rw [Nat.min_eq_left hd]
  exact Nat.div_le_of_le_mul (by rw [Nat.mul_comm];exact h)
 ·rw [Nat.min_eq_right om]
  have:n / 2^(n.log2+2)=0:=Nat.div_eq_of_lt (by
   have:=Nat.lt_log2_self (n:=n)
   exact Nat.lt_of_lt_of_le this (Nat.pow_le_pow_right (by decide) om))
  rw [this];exact Nat.zero_le _
def kY (q:ON):Int:=(f2i .f64 q .i32).getD 0
theorem qBn {q:ON} (h:fOk .f64 q) (hs:q.isSome=true) (hb:qDx q=false):f2i .f64 q .i32=some (kY q):=by
 cases q with
 | none=>cases hs
 | some w =>
  obtain⟨_,h2⟩:=h w rfl
  have ea:qO .f64 mil (qAo (some w))=(FloatKind.f64.decode 4696837146684686336).order (FloatKind.f64.decode (w % 9223372036854775808)):=rfl
  unfold qDx at hb
  rw [ea,qGz w,qKn] at hb
  have:∃ z,f2i .f64 (some w) .i32=some z:=by
   show ∃ z,floatToIntVal .f64 w .i32=some z
   unfold floatToIntVal
   cases hd:FloatKind.f64.decode w with
   | nan s t=>rw [hd] at h2;cases h2
   | infinity s=>rw [hd] at hb;cases hb
   | number s m e =>
    rw [hd] at hb
    have hb:(some (compare (signed false 8589934592000000 (-33 - min (-33) e).toNat) (signed false m (e - min (-33) e).toNat)) == some Ordering.lt)=false:=hb
    rw [qDU,xX,xX] at hb
    have hb:=of_decide_eq_false hb
    have hle:m <<< (e - min (-33) e).toNat<=8589934592000000 <<< (-33 - min (-33) e).toNat:=by omega
    rw [Nat.shiftLeft_eq,Nat.shiftLeft_eq] at hle
    have hcut:Toward.zero.cut s (m <<< e.toNat) (-e).toNat<=1000000:=by
     refine qPC ?_ s
     rw [Nat.shiftLeft_eq]
     rcases Int.lt_or_le e (-33) with h1 | h1
     ·rw [show (e - min (-33) e).toNat=0 by omega,show e.toNat=0 by omega] at *
      rw [show (-33 - min (-33) e).toNat=(-e).toNat - 33 by omega] at hle
      have:(8589934592000000:Nat) * 2^((-e).toNat - 33)=1000000 * 2^(-e).toNat:=by
       obtain⟨k,hk⟩:∃ k,(-e).toNat=33+k:=⟨(-e).toNat - 33,by omega⟩
       rw [hk,Nat.add_sub_cancel_left,Nat.pow_add]
       omega
      omega
     ·rw [show (-33 - min (-33) e).toNat=0 by omega,show (e - min (-33) e).toNat=(e+33).toNat by omega] at hle
      rcases Int.lt_or_le e 0 with h3 | h3
      ·rw [show e.toNat=0 by omega]
       obtain⟨k,hk⟩:∃ k,(-e).toNat=k:=⟨_,rfl⟩
       have hk2:33=k+(e+33).toNat:=by omega
       have e1:(8589934592000000:Nat)=1000000 * 2^k * 2^(e+33).toNat:=by
        rw [Nat.mul_assoc,<- Nat.pow_add,<- hk2]
       rw [hk]
       rw [Nat.pow_zero,Nat.mul_one,e1] at hle
       have:=Nat.le_of_mul_le_mul_right hle (Nat.pow_pos (by decide))
       omega
      ·rw [show (-e).toNat=0 by omega,Nat.pow_zero,Nat.mul_one]
       rw [show (e+33).toNat=e.toNat+33 by omega,Nat.pow_add,Nat.pow_zero,Nat.mul_one] at hle
       generalize 2^e.toNat=P at *
       rw [<- Nat.mul_assoc] at hle
       have h33:(2:Nat)^33=8589934592:=by decide
       rw [h33] at hle
       omega
    have ht:(Datum.number s m e).toInt .zero=some (signed s (Toward.zero.cut s (m <<< e.toNat) (-e).toNat) 0):=rfl
    rw [ht]
    have hmin:IntKind.i32.min = -2147483648:=by decide
    have hmax:IntKind.i32.max=2147483647:=by decide
    refine⟨_,if_pos ?_⟩
    rw [hmin,hmax]
    generalize Toward.zero.cut s (m <<< e.toNat) (-e).toNat=c at hcut
    cases s
    ·rw [xX,Nat.shiftLeft_zero];omega
    ·rw [uE,Nat.shiftLeft_zero];omega
  obtain⟨z,hz⟩:=this
  unfold kY
  rw [hz];rfl
theorem qMh {x y:ON} (hx:fOk .f32 x) (hy:fOk .f32 y) (fx:bQ x=true) (fy:bQ y=true) (h0:(qO .f32 (some 0) y == some .lt)=true):(fop .quo .f32 x y).isSome=true:=by
 obtain⟨w,s,m,e,rfl,hd⟩:=wC hx fx
 obtain⟨v,t,n,j,rfl,kd⟩:=wC hy fy
 have hn:n ≠ 0:=by
  rintro rfl
  have e1:qO .f32 (some 0) (some v)=(FloatKind.f32.decode 0).order (FloatKind.f32.decode v):=rfl
  have e0:FloatKind.f32.decode 0=.number false 0 (-149):=by decide +kernel
  rw [e1,kd,e0] at h0
  have h0:(some (compare (signed false 0 (-149 - min (-149) j).toNat) (signed t 0 (j - min (-149) j).toNat)) == some Ordering.lt)=true:=h0
  rw [qDU,xX,Nat.zero_shiftLeft] at h0
  cases t
  ·rw [xX,Nat.zero_shiftLeft] at h0;simp at h0
  ·rw [uE,Nat.zero_shiftLeft] at h0;simp at h0
 show (((Format.read _ w).quotient _ (Format.read _ v)).map _).isSome=true
 rw [show Format.read FloatKind.f32.format w=.number s m e from hd,show Format.read FloatKind.f32.format v=.number t n j from kd]
 show ((if n=0 then _ else _:Option Datum).map _).isSome=true
 rw [if_neg hn]
 rfl
theorem qIh {x:ON} (h:fOk .f32 x) (hs:x.isSome=true):(wid x).isSome=true:=by
 cases x with
 | none=>cases hs
 | some w =>
  obtain⟨y,h1,_,_⟩:=qFd h
  have h2:=h1
  unfold f2f at h1
  simp only [Option.map_eq_some_iff] at h1
  obtain⟨a,_,rfl⟩:=h1
  unfold wid;rw [h2];rfl
theorem qHC (way:Toward) {x:ON} (h:fOk .f64 x):fOk .f64 (vY way x):=by
 cases x with
 | none=>exact qBr
 | some w =>
  intro b hb
  cases hb
  obtain⟨_,h2⟩:=h w rfl
  refine⟨FloatKind.f64.format.write_lt _,(jT (vP .f64 ?_)).2⟩
  generalize FloatKind.f64.decode w=d at h2 ⊢
  cases d <;> first | (cases h2;done) | rfl
theorem qJI {way:Toward} {x:ON} (hs:x.isSome=true):(vY way x).isSome=true:=by
 cases x with
 | none=>cases hs
 | some w=>rfl
def xV (a s:ON):ON:=vY .down (wid (fop .quo .f32 a s))
theorem jF {x y:ON} (hx:fOk .f32 x) (hy:fOk .f32 y) (fx:bQ x=true) (fy:bQ y=true) (h0:(qO .f32 (some 0) y == some .lt)=true):(xV x y).isSome=true:=qJI (qIh zS (qMh hx hy fx fy h0))
theorem xI (x y:ON):fOk .f64 (xV x y):=qHC _ (by
 obtain⟨z,h2,h,_⟩:=qOP (x:=fop .quo .f32 x y) zS
 cases h2
 exact h)
theorem qIt {H:AHeap} {E:Env} {t:Nat} {x:ON} {k:IntKind} {z:Int} (h:E t=.flt .f64 x) (e:f2i .f64 x k=some z):zM E H.get (.conv (.fi k) (.tmp t))=some (.int k z):=by
 show dW (.fi k) H.get (E t)=_
 rw [h]
 show (f2i .f64 x k).map (AV.int k)=_
 rw [e];rfl
end Go.Ab
end
/- Floats: nought and a number; products in either order. -/
section
namespace Go.Ab
open Ieee
theorem qOk {b n:Nat} {j:Int} {t:Bool} (hb:b < 2^32) (h:FloatKind.f32.decode b=.number t n j) (h0:n ≠ 0):FloatKind.f32.encode (.number t (n * 2^(j+149).toNat) (-149))=b:=by
 have hs:Format.signWeight single=2147483648:=rfl
 have hi:Format.infRung single=2139095040:=rfl
 have hbin:Format.binade single=8388608:=rfl
 have hl:Format.leastPlace single = -149:=rfl
 have hf:single.fractionBits=23:=rfl
 have hb:b < 4294967296:=hb
 have hsign:∀ r t,r=b % 2147483648->t=(b / 2147483648 % 2 == 1)->single.word t r=b:=by
  intro r t hr ht
  unfold Format.word
  rw [hs]
  cases t with
  | true =>
   have:b / 2147483648 % 2=1:=by simpa using ht.symm
   rw [if_pos rfl];omega
  | false =>
   have:¬ b / 2147483648 % 2=1:=by simpa using ht.symm
   rw [if_neg (by decide)];omega
 have h:Format.read single b=.number t n j:=h
 show Format.nearest single t (n * 2^(j+149).toNat) (-149)=b
 unfold Format.read at h
 simp only [hs,hi,hbin,hl] at h
 split at h
 ·rename_i h1
  cases h
  rw [show ((-149:Int)+149).toNat=0 from rfl,Nat.pow_zero,Nat.mul_one]
  have hlog:(b % 2147483648).log2<=22:=by
   have:=(Nat.log2_lt (n:=b % 2147483648) (k:=23) h0).2 h1
   omega
  unfold Format.nearest
  rw [if_neg h0]
  simp only [hf,hl,hbin,hi]
  rw [show max ((-149:Int)+((b % 2147483648).log2:Int) - ((23:Nat):Int)) (-149) = -149 by omega]
  rw [show ((-149:Int) - -149).toNat=0 from rfl,Nat.shiftLeft_zero,gM .even _ (Nat.zero_le _) (Nat.mod_one _),Nat.pow_zero,Nat.div_one,Nat.zero_mul,Nat.zero_add,Nat.min_eq_left om]
  exact hsign _ _ rfl rfl
 ·split at h
  ·rename_i h1 h2
   cases h
   obtain⟨r,hr⟩:∃ r,r=b % 2147483648:=⟨_,rfl⟩
   obtain⟨s,hsx⟩:∃ s,s=(b / 2147483648 % 2 == 1):=⟨_,rfl⟩
   rw [<- hr] at h0 h1 h2 ⊢
   rw [<- hsx]
   obtain⟨k,hk⟩:∃ k,r / 8388608=k+1:=⟨r / 8388608 - 1,by omega⟩
   have hn:8388608+r % 8388608 < 16777216:=by omega
   obtain⟨n,hnn⟩:∃ n,n=8388608+r % 8388608:=⟨_,rfl⟩
   rw [<- hnn] at h0 hn ⊢
   rw [show ((-149:Int)+((r / 8388608 - 1:Nat):Int)+149).toNat=k by omega]
   have hlog:n.log2=23:=by
    have a1:=(Nat.log2_lt (n:=n) (k:=24) h0).2 om
    have a2:=(Nat.le_log2 (n:=n) (k:=23) h0).2 om
    omega
   have hl2:(n * 2^k).log2=23+k:=by rw [qNs h0,hlog]
   have hne:n * 2^k ≠ 0:=Nat.mul_ne_zero h0 (by have:=Nat.two_pow_pos k;omega)
   unfold Format.nearest
   rw [if_neg hne]
   simp only [hf,hl,hbin,hi,hl2]
   rw [show max ((-149:Int)+((23+k:Nat):Int) - ((23:Nat):Int)) (-149) = -149+k by omega]
   rw [show ((-149:Int) - (-149+(k:Int))).toNat=0 by omega,Nat.shiftLeft_zero,show (-149+(k:Int) - -149).toNat=k by omega]
   rw [gM .even _ (by rw [hl2];omega) (Nat.mul_mod_left _ _),Nat.mul_div_cancel _ (Nat.two_pow_pos k)]
   have he:k * 8388608+n=r:=by omega
   rw [he,Nat.min_eq_left om]
   exact hsign _ _ hr hsx
  ·split at h <;> cases h
end Go.Ab
end
/- Floats: signs; numbers that are equal. -/
section
namespace Go.Ab
open Ieee
def qJi (y:ON):Bool:=match wid y with
 | some b=>decide (9223372036854775808<=b)
 | none=>false
theorem qAp {x:ON} (hx:fOk .f32 x) (hs:x.isSome=true):(qO .f32 x x == some .eq)=true:=by
 cases x with
 | none=>cases hs
 | some w=>show ((FloatKind.f32.decode w).order (FloatKind.f32.decode w) == some .eq)=true;rw [qEg (hx w rfl).2];rfl
theorem qJc {s t:Bool} {A B:Nat} (h:(if s then -(A:Int) else (A:Int))=(if t then -(B:Int) else (B:Int))):A=B/\(A=0 \/ s=t):=by
  cases s <;> cases t <;> simp at h <;> refine⟨by omega,?_⟩
  · exact .inr rfl
  · exact .inl om
  · exact .inl om
  · exact .inr rfl
theorem qHB {w:Nat} {s:Bool} {m:Nat} {e:Int} (hw:w < 2^32) (hd:FloatKind.f32.decode w=.number s m e) (h0:m=0):w=0 \/ w=2147483648:=by
 have hs:Format.signWeight single=2147483648:=rfl
 have hi:Format.infRung single=2139095040:=rfl
 have hb:Format.binade single=8388608:=rfl
 have hl:Format.leastPlace single = -149:=rfl
 have hd:Format.read single w=.number s m e:=hd
 have hw:w < 4294967296:=hw
 unfold Format.read at hd
 simp only [hs,hi,hb,hl] at hd
 split at hd
 ·cases hd;omega
 ·split at hd
  ·cases hd;omega
  ·split at hd <;> cases hd
theorem qHG {w:Nat} {s:Bool} (hw:w < 2^32) (hd:FloatKind.f32.decode w=.infinity s):w=if s then 4286578688 else 2139095040:=by
 have hs:Format.signWeight single=2147483648:=rfl
 have hi:Format.infRung single=2139095040:=rfl
 have hb:Format.binade single=8388608:=rfl
 have hl:Format.leastPlace single = -149:=rfl
 have hd:Format.read single w=.infinity s:=hd
 have hw:w < 4294967296:=hw
 unfold Format.read at hd
 simp only [hs,hi,hb,hl] at hd
 split at hd
 ·cases hd
 ·split at hd
  ·cases hd
  ·split at hd
   ·rename_i h1 h2 h3
    injection hd with e1
    rw [<- e1]
    by_cases h9:w / 2147483648 % 2=1
    ·rw [h9];show w=4286578688;omega
    ·rw [show (w / 2147483648 % 2 == 1)=false by simpa using h9];show w=2139095040;omega
   ·cases hd
theorem qHD {u v:Nat} (hu:fOk .f32 (some u)) (hv:fOk .f32 (some v)) (h:(qO .f32 (some u) (some v) == some .eq)=true):u=v \/ (u=0/\v=2147483648) \/ (u=2147483648/\v=0):=by
 obtain⟨u1,u2⟩:=hu u rfl
 obtain⟨v1,v2⟩:=hv v rfl
 have h:((FloatKind.f32.decode u).order (FloatKind.f32.decode v) == some .eq)=true:=h
 cases hd:FloatKind.f32.decode u with
 | nan s t=>rw [hd] at u2;cases u2
 | infinity s =>
  cases kd:FloatKind.f32.decode v with
  | nan s t=>rw [kd] at v2;cases v2
  | number t n j=>rw [hd,kd] at h;cases s <;> cases h
  | infinity t =>
   rw [hd,kd] at h
   left
   have a:=qHG u1 hd
   have b:=qHG v1 kd
   cases s <;> cases t <;> first | (cases h;done) | (rw [a,b])
 | number s m e =>
  cases kd:FloatKind.f32.decode v with
  | nan s t=>rw [kd] at v2;cases v2
  | infinity t=>rw [hd,kd] at h;cases t <;> cases h
  | number t n j =>
   rw [hd,kd] at h
   have h:(some (compare (signed s m (e - min e j).toNat) (signed t n (j - min e j).toNat)) == some Ordering.eq)=true:=h
   rw [cmp_eq] at h
   have h:=of_decide_eq_true h
   unfold signed at h
   obtain⟨h1,h2⟩:=qJc h
   obtain⟨_,r2,_⟩:=qAm hd
   obtain⟨_,q2,_⟩:=qAm kd
   rw [Nat.shiftLeft_eq,Nat.shiftLeft_eq] at h1
   have hz:m * 2^(e+149).toNat=n * 2^(j+149).toNat:=by
    rw [show (e+149).toNat=(e - min e j).toNat+(min e j+149).toNat by omega,show (j+149).toNat=(j - min e j).toNat+(min e j+149).toNat by omega,Nat.pow_add,Nat.pow_add,<- Nat.mul_assoc,<- Nat.mul_assoc,h1]
   by_cases m0:m=0
   ·have n0:n=0:=by
     subst m0
     have hp:=Nat.two_pow_pos (j+149).toNat
     rw [Nat.zero_mul] at hz
     rcases Nat.mul_eq_zero.1 hz.symm with h9 | h9
     ·exact h9
     ·omega
    have a:=qHB u1 hd m0
    have b:=qHB v1 kd n0
    omega
   ·have n0:n ≠ 0:=by
     rintro rfl
     have hp:=Nat.two_pow_pos (e+149).toNat
     rw [Nat.zero_mul] at hz
     rcases Nat.mul_eq_zero.1 hz with h9 | h9
     ·exact m0 h9
     ·omega
    have hst:s=t:=by
     rcases h2 with h2 | h2
     ·exfalso
      rw [Nat.shiftLeft_eq] at h2
      have hp:=Nat.two_pow_pos (e - min e j).toNat
      rcases Nat.mul_eq_zero.1 h2 with h9 | h9
      ·exact m0 h9
      ·omega
     ·exact h2
    left
    rw [<- qOk u1 hd m0,<- qOk v1 kd n0,hz,hst]
def atI (x y:ON) (r:Bool):Bool:=if x=y then r else (qO .f32 y x == some .lt || (qO .f32 x y == some .eq && !qJi x))
def atP (x y:ON) (r:Bool):Bool:=if (qO .f32 x y == some .eq)=true then (if x=y then r else decide (x=some 0)) else (qO .f32 y x == some .lt)
theorem at_eq {x y:ON} (hx:fOk .f32 x) (hy:fOk .f32 y) (sx:x.isSome=true) (sy:y.isSome=true) (r:Bool):atI x y r=atP x y r:=by
 obtain⟨u,rfl⟩:=Option.isSome_iff_exists.1 sx
 obtain⟨v,rfl⟩:=Option.isSome_iff_exists.1 sy
 unfold atI atP
 by_cases e:some u=some v
 ·rw [if_pos e,<- e,if_pos (qAp hx rfl),if_pos rfl]
 ·rw [if_neg e]
  cases hf:(qO .f32 (some u) (some v) == some .eq) with
  | false=>simp
  | true =>
   rw [if_pos rfl,if_neg e]
   have h2:(qO .f32 (some v) (some u) == some .lt)=false:=by
    rcases qHD hx hy hf with h | ⟨rfl,rfl⟩ | ⟨rfl,rfl⟩
    ·exact absurd (by rw [h]) e
    ·decide +kernel
    ·decide +kernel
   rw [h2]
   rcases qHD hx hy hf with h | ⟨rfl,rfl⟩ | ⟨rfl,rfl⟩
   ·exact absurd (by rw [h]) e
   ·decide +kernel
   ·decide +kernel
end Go.Ab
end
/- Remainders by words that are not literals. -/
section
namespace Go.Ab
end Go.Ab
end
/- Slices without their first element; outcomes that are alike. -/
section
namespace Go.Ab
end Go.Ab
end
/- Distances in a graph: breadth first, and by rounds over the links. -/
section
namespace Go.Ab
def conn (e:Nat × Nat) (u v:Nat):Prop:=(e.1=u/\e.2=v) \/ (e.1=v/\e.2=u)
structure BInv (es:LN) (n a:Nat) (fl:LN):Prop where
  nd:(fl.map Prod.fst).Nodup
  lt:∀ p ∈ fl,p.1 < n
  h0:fl[0]? = some (a,0)
  z:∀ p ∈ fl,p.2=0->p.1=a
  srt:∀ (j j' : Nat) (p q:Nat × Nat),j<=j'->fl[j]? = some p->fl[j']? = some q->p.2<=q.2
  le:∀ (j:Nat) (p:Nat × Nat),fl[j]? = some p->p.2<=j
  p1:∀ p ∈ fl,∀ d,p.2=d+1 -> ∃ u,(u,d) ∈ fl /\ ∃ e ∈ es,conn e u p.1
theorem qOm {α:Type} {l:List α} {q:α} {j:Nat} (h:l[j]? = some q):j < l.length:=by
  rcases Nat.lt_or_ge j l.length with hj | hj
  · exact hj
  · rw [List.getElem?_eq_none hj] at h;cases h
/-! rounds -/
/-! lists of words -/
end Go.Ab
end
/- Maps of words to words; queues: slices that fill their rows from some place on. -/
section
namespace Go.Ab
def mpT (fl:LN):List (AV × AV):=fl.map fun p=>(.int .i64 (p.1:Int),.int .i64 (p.2:Int))
inductive MpF (H:AHeap) (fl:LN):AV->Prop where
  | mk {l:Nat} (hg:H.get l=some (.mp (mpT fl))):MpF H fl (.slice l 0 0 0 1)
inductive SlV (H:AHeap) (sz:Nat) (ms:LL):AV->Prop where
  | sl {l o n cap:Nat} {pre:List AV} (hg:H.get l=some (.row (pre ++ ms.flatten) true)) (hn:ms.length=n) (hc:n<=cap) (ho:pre.length=o):SlV H sz ms (.slice l o n cap sz)
section
variable {H H' : AHeap} {sz:Nat} {ms:LL} {S:AV} {fl:LN}
theorem MpF.grew (g:Grew H H') (h:MpF H fl S):MpF H' fl S:=by
 cases h with
 | mk hg=>exact .mk (g.at hg)
theorem MpF.lt (h:MpF H fl S):∀ l,AtS S l->l < H.next:=by
 intro l hl
 cases h with
 | mk hg=>rw [atS hl];exact H.lt_of_get hg
theorem MpF.only {S1:AV} (h:MpF H fl S) (k:OnlyS S1 H H') (hn:ApartS S S1):MpF H' fl S:=by
 cases h with
 | mk hg=>exact .mk (k.at hg ⟨hn.ne _ ⟨_,_,_,_,rfl⟩⟩)
theorem MpF.apart_new (h:MpF H fl S) {l:Nat} (hl:H.next<=l):ApartL S l:=⟨fun ha=>Nat.lt_irrefl _ (Nat.lt_of_lt_of_le (h.lt l ha) hl)⟩
theorem MpF.keep {f:Nat} {ws:List Win} (h:MpF H fl S) (hk:Kept f (jD ws) H H') (hn:qNW S (ws.drop f)):MpF H' fl S:=by
 cases h with
 | @mk l hg =>
  refine .mk (zH hk hg ?_)
  generalize ws.drop f=us at hn
  induction us with
  | nil=>trivial
  | cons w us ih=>exact⟨⟨fun e=>hn.1.ne ⟨_,_,_,_,by rw [e]⟩⟩,ih hn.2⟩
theorem SlV.grew (g:Grew H H') (h:SlV H sz ms S):SlV H' sz ms S:=by
 cases h with
 | sl hg hn hc ho=>exact .sl (g.at hg) hn hc ho
theorem SlV.lt (h:SlV H sz ms S):∀ l,AtS S l->l < H.next:=by
 intro l hl
 cases h with
 | sl hg=>rw [atS hl];exact H.lt_of_get hg
theorem SlV.only {S1:AV} (h:SlV H sz ms S) (k:OnlyS S1 H H') (hn:ApartS S S1):SlV H' sz ms S:=by
 cases h with
 | sl hg h1 h2 h3=>exact .sl (k.at hg ⟨hn.ne _ ⟨_,_,_,_,rfl⟩⟩) h1 h2 h3
theorem SlV.apart_new (h:SlV H sz ms S) {l:Nat} (hl:H.next<=l):ApartL S l:=⟨fun ha=>Nat.lt_irrefl _ (Nat.lt_of_lt_of_le (h.lt l ha) hl)⟩
theorem SlV.one (h:SlV H sz ms S):S.one=true:=by cases h;rfl
theorem SlV.keep {f:Nat} {ws:List Win} (h:SlV H sz ms S) (hk:Kept f (jD ws) H H') (hn:qNW S (ws.drop f)):SlV H' sz ms S:=by
 cases h with
 | @sl l o n cap pre hg h1 h2 h3 =>
  refine .sl (zH hk hg ?_) h1 h2 h3
  generalize ws.drop f=us at hn
  induction us with
  | nil=>trivial
  | cons w us ih=>exact⟨⟨fun e=>hn.1.ne ⟨_,_,_,_,by rw [e]⟩⟩,ih hn.2⟩
end
section
variable {E:Env} {H:AHeap} {t y l v d:Nat} {fl:LN} {z:AV}
end
/-! the queue of a search: what has not been looked at -/
def qT (fl:LN) (k:Nat):LL:=(fl.drop k).map fun p=>[.int .i64 (p.1:Int)]
theorem qKE {fl:LN} {k:Nat} {p:Nat × Nat} (h:fl[k]? = some p):qT fl k=[.int .i64 (p.1:Int)] :: qT fl (k+1):=by
 have hk:=qOm h
 unfold qT
 rw [List.drop_eq_getElem_cons hk]
 rw [List.getElem?_eq_getElem hk] at h
 cases h
 rfl
theorem SlV.head {H:AHeap} {S:AV} {fl:LN} {k:Nat} {p:Nat × Nat} (h:SlV H 1 (qT fl k) S) (hp:fl[k]? = some p):∃ l o n cap pre post,S=.slice l o n cap 1/\H.get l=some (.row (pre ++ ([.int .i64 (p.1:Int)] ++ post)) true)/\pre.length=o/\0 < n:=by
 rw [qKE hp] at h
 cases h with
 | @sl l o n cap pre hg hn hc ho=>exact⟨l,o,n,cap,pre,_,rfl,hg,ho,by subst hn;simp⟩
theorem SlV.tail {H:AHeap} {S:AV} {fl:LN} {k:Nat} {p:Nat × Nat} (h:SlV H 1 (qT fl k) S) (hp:fl[k]? = some p):∃ V,SlV H 1 (qT fl (k+1)) V/\(∀ l,AtS V l->AtS S l) /\ ∀ (E:Env) get,zM E get (.slSl 1 (.const S) (some (.const (.int .i64 1))) none none)=some V:=by
 rw [qKE hp] at h
 cases h with
 | @sl l o n cap pre hg hn hc ho =>
  subst hn
  refine⟨.slice l (o+1 * 1) (([AV.int .i64 (p.1:Int)] :: qT fl (k+1)).length - 1) (cap - 1) 1,.sl (pre:=pre ++ [.int .i64 (p.1:Int)]) (by rw [hg];simp) (by simp) (by simp at hc ⊢;omega) (by simp [ho]),fun l' hl'=>?_,fun E get=>?_⟩
  ·rw [atS hl'];exact⟨_,_,_,_,rfl⟩
  ·simp only [zM,Opd.ev,Option.map_some,Option.map_none]
   rw [if_pos trivial]
   have:qCD ([AV.int .i64 (p.1:Int)] :: qT fl (k+1)).length cap (some (.int .i64 1)) none none=some (1,([AV.int .i64 (p.1:Int)] :: qT fl (k+1)).length,cap):=by
    simp only [List.length_cons] at hc
    simp only [qCD,bnd,List.length_cons]
    rw [if_pos ⟨by omega,by simp;omega⟩]
    simp [hc]
   rw [this]
theorem SlV.len {H:AHeap} {S:AV} {ms:LL} {sz:Nat} (h:SlV H sz ms S):∀ (E:Env) get,zM E get (.len (.const S))=some (.int .i64 (ms.length:Int)):=by
 cases h with
 | sl _ hn _ _=>subst hn;intro E get;rfl
end Go.Ab
end
/- Room behind a row; zeros appended; copies; whether two slices lie over each other. -/
section
namespace Go.Ab
section
variable {P:Program} {μ:Mu} {F:Nat->Prop} {H:AHeap} {w:World}
theorem Sim.room (hs:Sim F μ H w) {l o n cap sz k:Nat} {cs:List AV} {v:Value} (hg:H.get l=some (.row cs true)) (hv:R μ (.slice l o n cap sz) v) (hc:cap ≠ 0) (hk:cs.length+k<=o+cap * sz) :
  Sim F μ (H.put l (.row (cs ++ List.replicate k .any) true)) w:=by
 obtain⟨li,hm,_,hlim,_⟩:=yT hv hc
 have hln:l < H.next:=H.lt_of_get hg
 have hget:∀ l',l' ≠ l->(H.put l (.row (cs ++ List.replicate k .any) true)).get l'=H.get l':=fun l' h=>by rw [AHeap.put_get,if_neg om]
 have hgets:(H.put l (.row (cs ++ List.replicate k .any) true)).get l=some (.row (cs ++ List.replicate k .any) true):=by rw [AHeap.put_get,if_pos ⟨rfl,hln⟩]
 have key:∀ l' b',(H.put l (.row (cs ++ List.replicate k .any) true)).get l'=some b' -> ∃ b'',H.get l'=some b''/\(b'.wr=true->b''.wr=true):=by
  intro l' b' h'
  by_cases h:l'=l
  ·subst h
   exact⟨_,hg,fun _=>rfl⟩
  ·rw [hget l' h] at h'
   exact⟨b',h',id⟩
 refine⟨hs.dom,?_,?_,?_,?_,hs.fresh⟩
 ·intro l' li' cs' wr hg' hm'
  by_cases h:l'=l
  ·subst h
   rw [hgets] at hg'
   cases hg'
   obtain⟨c,e,lo,hi,g1,g2,g3,g4,g5⟩:=hs.row l' li' cs true hg hm'
   rw [hm] at hm'
   cases hm'
   refine⟨c,e,lo,hi,g1,g2,by rw [List.length_append,List.length_replicate];omega,?_,g5⟩
   intro i a hi'
   by_cases hlt:i < cs.length
   ·rw [List.getElem?_append_left hlt] at hi'
    exact g4 i a hi'
   ·rw [List.getElem?_append_right om,List.getElem?_replicate] at hi'
    split at hi'
    ·cases hi'
     have:li.base+i < c.size:=by omega
     exact⟨c[li.base+i],Array.getElem?_eq_getElem this,.any _⟩
    ·cases hi'
  ·rw [hget l' h] at hg'
   exact hs.row l' li' cs' wr hg' hm'
 ·intro l' li' es hg' hm'
  by_cases h:l'=l
  ·subst h;rw [hgets] at hg';cases hg'
  ·rw [hget l' h] at hg'
   exact hs.mp l' li' es hg' hm'
 ·intro l1 l2 b1 b2 li1 li2 hne h1 hw h2 hm1 hm2
  obtain⟨c1,k1,k2⟩:=key l1 b1 h1
  obtain⟨c2,k3,_⟩:=key l2 b2 h2
  exact hs.sep l1 l2 c1 c2 li1 li2 hne k1 (k2 hw) k3 hm1 hm2
 ·intro l1 b1 li1 h1 hw hm1
  obtain⟨c1,k1,k2⟩:=key l1 b1 h1
  exact hs.may l1 c1 li1 k1 (k2 hw) hm1
theorem qGA {f:FuncId} {args:List AV} {Q:VK} {l o n cap sz k j:Nat} {cs:List AV} (ha:args[j]? = some (.slice l o n cap sz)) (hg:H.get l=some (.row cs true)) (hc:cap ≠ 0) (hk:cs.length+k<=o+cap * sz)
  (h:qJ P f args (H.put l (.row (cs ++ List.replicate k .any) true)) Q):qJ P f args H Q:=by
 intro F μ w vs hs hR
 obtain⟨v,_,hv⟩:=hR.get ha
 exact h F μ w vs (hs.room hg hv hc hk) hR
theorem qJg {f : FuncId} {fn : Func} (hf : P.funcs[f]? = some fn) (hname : (fn.name == "runtime.NumGoroutine") = false) (hb : fn.body.isNone = true) (hn : Extern.findNext fn = none)
  {tS tR e:TypeId} (ht:P.underlying tS=some (.slice e)) {size:Nat} (hz:jY P e=some size) (he:Extern.find fn=some (Extern.SlicesOverlaps.overlaps #[tS,tS] #[tR]))
  {la oa na ca lb ob nb cb sz:Nat} {csa csb:List AV} {wb:Bool} (hga:H.get la=some (.row csa true)) (hgb:H.get lb=some (.row csb wb)) (hne:la ≠ lb) (hca:ca ≠ 0) (hcb:cb ≠ 0) (hsz:0 < sz) :
  qR P f [.slice la oa na ca sz,.slice lb ob nb cb sz] H (.bool false):=by
 intro F μ w vs hs ha
 obtain⟨v1,us,rfl,h1,ha⟩:=ha.cons_inv
 obtain⟨v2,us,rfl,h2,ha⟩:=ha.cons_inv
 rw [ha.nil_inv]
 obtain⟨li,hm,rfl,hlim,_⟩:=yT h1 hca
 obtain⟨li',hm',rfl,hlim',_⟩:=yT h2 hcb
 obtain⟨c,ce,lo,hi,g1,g2,g3,g4,g5⟩:=hs.row la li csa true hga hm
 obtain⟨c',ce',lo',hi',k1,k2,k3,k4,k5⟩:=hs.row lb li' csb wb hgb hm'
 have hblk:=hs.sep la lb _ _ li li' hne hga rfl hgb hm hm'
 have hfz:∀ o,li.base<=o->w.frozen? ⟨li.blk,o,none⟩=false:=fun o ho=>by
  rw [qFB g1]
  have:=g5 rfl o ho
  simp only [Bool.and_eq_false_iff,decide_eq_false_iff_not]
  omega
 have hpos:0 < cb * sz:=Nat.mul_pos om hsz
 have hrun:=Lib.run_overlaps_apart (P:=P) w tS tR e ht size (fun w=>xW hz) ⟨li.blk,li.base+oa,none⟩ ⟨li'.blk,li'.base+ob,none⟩ na ca nb cb hblk ce ce' c.size c'.size
  (by simp only [World.shape?,g1]) (by simp only [World.shape?,k1]) om (hfz _ (Nat.le_add_right _ _)) (hfz _ om)
 rw [run_callFunc_extern hf hname hb hn he,hrun]
 exact Out.same ⟨rfl,rfl⟩ hs (.bool _)
end
section
variable {P:Program} {o:Pt} {d:ON} {Q:PK} {E:Env} {H:AHeap}
theorem qMH {op:AOp} (hq:op.quiet=true) {r:AV} (hv:zM E H.get op=some r) {k:VK} (h:k r H):bH P E H k op:=by
 cases op <;> first | (cases hq;done) | (simp only [bH];rw [hv];exact h)
theorem tK {op:AOp} (ho:o=.ops (⟨d,op,none⟩ :: xU o) (wT o)) (hq:op.quiet=true) {r:AV} (ha:zM E H.get op=some r) (h:Res P (.ops (xU o) (wT o)) Q (E.put d r) H):Res P o Q E H:=by
 rw [ho]
 simp only [Res,xS]
 exact qMH hq ha h
def qKA:Pt->List AOper
 | .mixq (_ :: rest) _ _=>rest
 | _=>[]
def qMF:Pt->AKids
 | .mixq _ k _=>k
 | _=>.nil
theorem qBX {op:AOp} (ho:o=.mixq (⟨d,op,none⟩ :: qKA o) (qMF o) (wT o)) (hq:op.quiet=true) {r:AV} (ha:zM E H.get op=some r) (h:Res P (.mixq (qKA o) (qMF o) (wT o)) Q (E.put d r) H):Res P o Q E H:=by
 rw [ho]
 simp only [Res,xS]
 exact qMH hq ha h
theorem qJw {t l o' n c z:Nat} (h:E t=.slice l o' n c z):zM E H.get (.cap (.tmp t))=some (.int .i64 (c:Int)):=by
 show (match E t with | .slice _ _ _ c _=>some (AV.int .i64 (c:Int)) | .nilslice=>some (.int .i64 0) | _=>none)=_
 rw [h]
theorem vF {t l o' n c z:Nat} {lo hi:Option Opd} {a b:Nat} (h:E t=.slice l o' n c z) (hlo:lo.map (fun x:Opd=>x.ev E)=none/\a=0 \/ lo.map (fun x:Opd=>x.ev E)=some (.int .i64 (a:Int))) (hhi:hi.map (fun x:Opd=>x.ev E)=none/\b=n \/ hi.map (fun x:Opd=>x.ev E)=some (.int .i64 (b:Int))) (hab:a<=b) (hbc:b<=c) :
  zM E H.get (.slSl z (.tmp t) lo hi none)=some (.slice l (o'+a * z) (b - a) (c - a) z):=by
 show (match E t with
  | .slice l o len cap sz'=>if z=sz' then
    match qCD len cap (lo.map (fun x:Opd=>x.ev E)) (hi.map (fun x:Opd=>x.ev E)) none with
    | some (a,h,m)=>some (AV.slice l (o+a * z) (h - a) (m - a) z)
    | none=>none
   else none
  | .nilslice=>match qCD 0 0 (lo.map (fun x:Opd=>x.ev E)) (hi.map (fun x:Opd=>x.ev E)) none with
   | some _=>some .nilslice
   | none=>none
  | _=>none)=_
 rw [h]
 simp only []
 rw [if_pos trivial]
 have e1:bnd none c c=some c:=rfl
 have e2:bnd (hi.map (fun x:Opd=>x.ev E)) n c=some b:=by
  rcases hhi with ⟨h1,rfl⟩ | h1
  ·rw [h1];rfl
  ·rw [h1]
   simp only [bnd]
   rw [if_pos ⟨by omega,by omega⟩]
   simp
 have e3:bnd (lo.map (fun x:Opd=>x.ev E)) 0 b=some a:=by
  rcases hlo with ⟨h1,rfl⟩ | h1
  ·rw [h1];rfl
  ·rw [h1]
   simp only [bnd]
   rw [if_pos ⟨by omega,by omega⟩]
   simp
 have:qCD n c (lo.map (fun x:Opd=>x.ev E)) (hi.map (fun x:Opd=>x.ev E)) none=some (a,b,c):=by
  unfold qCD
  simp only []
  rw [e1]
  simp only []
  rw [e2]
  simp only []
  rw [e3]
 rw [this]
theorem qHj {sz bytes:Nat} {zs:List AV} {x y:Opd} (ho:o=.ops (⟨d,.appendZ sz bytes zs x y,none⟩ :: xU o) (wT o)) {l o' n cap m:Nat} {cs:List AV} {wr:Bool} (hx:x.ev E=.slice l o' n cap sz) (hy:y.ev E=.int .i64 (m:Int)) (hg:H.get l=some (.row cs wr))
  (hle:o'+n * sz<=cs.length) (hs:0 < sz) (h0:0 < m) (hc:cap < n+m) (hc0:cap ≠ 0) (hb:(2 * (n+m)+192) * bytes<=281474976710656) (h1:zs.all AV.one=true)
  (h:∀ c,n+m<=c->Res P (.ops (xU o) (wT o)) Q (E.put d (.slice H.next 0 (n+m) c sz)) (H.new (.row ((cs.drop o').take (n * sz) ++ (List.replicate m zs).flatten) true))):Res P o Q E H:=by
 rw [ho]
 simp only [Res,xS,bH,hx,hy,cN]
 rw [if_pos ⟨trivial,hs,by omega,by simpa using hc,hc0⟩,hg]
 simp only []
 rw [if_pos hle]
 simp only [Int.toNat_natCast]
 refine⟨by simpa using hb,?_,fun c hc=>h c hc⟩
 rw [List.all_eq_true]
 intro x hx
 simp only [List.mem_flatten,List.mem_replicate] at hx
 obtain⟨l',⟨_,rfl⟩,hx⟩:=hx
 exact List.all_eq_true.1 h1 x hx
theorem qHx {sz:Nat} {x y:Opd} {l o' n cap m:Nat} {cs ys:List AV} {k:VK} (hx:x.ev E=.slice l o' n cap sz) (hy:qQ H.get sz (y.ev E)=some (ys,m)) (hm:Nat.min m n ≠ 0) (hg:H.get l=some (.row cs true)) (hle:o'+n * sz<=cs.length)
  (h1:(ys.take (Nat.min m n * sz)).all AV.one=true) (h:k (.int .i64 (Nat.min m n)) (H.put l (.row (laid cs o' (ys.take (Nat.min m n * sz))) true))):bH P E H k (.copy sz x y):=by
 simp only [bH,hx]
 rw [if_pos trivial,hy]
 simp only []
 rw [if_neg hm,hg]
 simp only []
 rw [if_pos ⟨hle,h1⟩]
 exact h
theorem qHV {sz:Nat} {x y:Opd} (ho:o=.ops (⟨d,.copy sz x y,none⟩ :: xU o) (wT o)) {l o' n cap m:Nat} {cs ys:List AV} (hx:x.ev E=.slice l o' n cap sz) (hy:qQ H.get sz (y.ev E)=some (ys,m)) (hm:Nat.min m n ≠ 0) (hg:H.get l=some (.row cs true)) (hle:o'+n * sz<=cs.length)
  (h1:(ys.take (Nat.min m n * sz)).all AV.one=true) (h:Res P (.ops (xU o) (wT o)) Q (E.put d (.int .i64 (Nat.min m n))) (H.put l (.row (laid cs o' (ys.take (Nat.min m n * sz))) true))):Res P o Q E H:=by
 rw [ho]
 simp only [Res,xS]
 exact qHx hx hy hm hg hle h1 h
theorem qGl {sz:Nat} {x y:Opd} (ho:o=.kids (.cons true ⟨d,.copy sz x y,none⟩ (.node (kQs o) (uI o)) .nil) (wT o)) {l o' n cap m:Nat} {cs ys:List AV} (hx:x.ev E=.slice l o' n cap sz) (hy:qQ H.get sz (y.ev E)=some (ys,m)) (hm:Nat.min m n ≠ 0) (hg:H.get l=some (.row cs true)) (hle:o'+n * sz<=cs.length)
  (h1:(ys.take (Nat.min m n * sz)).all AV.one=true) (h:Res P (.mixq (kQs o) (uI o) (wT o)) Q (E.put d (.int .i64 (Nat.min m n))) (H.put l (.row (laid cs o' (ys.take (Nat.min m n * sz))) true))):Res P o Q E H:=by
 rw [ho]
 refine qAL ?_
 simp only [xS]
 refine qHx hx hy hm hg hle h1 ?_
 refine⟨.inl rfl,?_⟩
 simp only [qCA]
 exact h
theorem uG {get:Nat->Option HB} {sz l o' n cap:Nat} {cs:List AV} {wr:Bool} (hg:get l=some (.row cs wr)) (hn:n ≠ 0) (h:o'+n * sz<=cs.length):qQ get sz (.slice l o' n cap sz)=some ((cs.drop o').take (n * sz),n):=by
 simp only [qQ]
 rw [if_pos trivial,if_neg hn,hg]
 simp only []
 rw [if_pos h]
end
end Go.Ab
namespace Go.Ab
theorem yQ {z:Nat}:∀ {ms:LL},(∀ m ∈ ms,m.length=z)->ms.flatten.length=ms.length * z
 | [],_=>by simp
 | m :: ms,h=>by
  rw [List.flatten_cons,List.length_append,yQ (fun x hx=>h x (List.mem_cons_of_mem _ hx)),h m (by simp),List.length_cons,Nat.succ_mul]
  omega
theorem kU {z:Nat} {ms:LL} (h:∀ m ∈ ms,m.length=z) (i:Nat) (hi:i<=ms.length):ms.flatten.take (i * z)=(ms.take i).flatten:=by
 have e:ms.flatten=(ms.take i).flatten ++ (ms.drop i).flatten:=by rw [<- List.flatten_append,List.take_append_drop]
 have hl:(ms.take i).flatten.length=i * z:=by
  rw [yQ (fun m hm=>h m (List.mem_of_mem_take hm)),List.length_take,Nat.min_eq_left hi]
 rw [e,List.take_left' hl]
theorem kT {z:Nat} {ms:LL} (h:∀ m ∈ ms,m.length=z) (i:Nat) (hi:i<=ms.length):ms.flatten.drop (i * z)=(ms.drop i).flatten:=by
 have e:ms.flatten=(ms.take i).flatten ++ (ms.drop i).flatten:=by rw [<- List.flatten_append,List.take_append_drop]
 have hl:(ms.take i).flatten.length=i * z:=by
  rw [yQ (fun m hm=>h m (List.mem_of_mem_take hm)),List.length_take,Nat.min_eq_left hi]
 rw [e,List.drop_left' hl]
theorem qDX {z:Nat} {ms:LL} (h:∀ m ∈ ms,m.length=z) (m:List AV) (i:Nat) (hi:i<=ms.length):ms.flatten.take (i * z) ++ m ++ ms.flatten.drop (i * z)=(ms.take i ++ [m] ++ ms.drop i).flatten:=by
 rw [kU h i hi,kT h i hi]
 simp
section
variable {F R Z m:List AV} {n i z:Nat}
theorem qAM (h:i<=n):∃ q,n * z=i * z+q/\(n - i) * z=q:=⟨(n - i) * z,by rw [<- Nat.add_mul];congr 1;omega,rfl⟩
theorem qGp (hF:F.length=n * z) (hi:i < n):(((F ++ R).drop (i * z)).take ((n+1 - i) * z)).take (Nat.min (n+1 - i) (n+1 - (i+1)) * z)=F.drop (i * z):=by
 obtain⟨q,h1,h2⟩:=qAM (z:=z) (Nat.le_of_lt hi)
 have hmin:Nat.min (n+1 - i) (n+1 - (i+1))=n - i:=by show min _ _=_;omega
 rw [hmin,List.take_take,Nat.min_eq_left (Nat.mul_le_mul_right z om),h2]
 rw [List.drop_append_of_le_length om,List.take_left' (by rw [List.length_drop];omega)]
theorem qEk (hF:F.length=n * z) (hi:i < n):((F.drop (i * z)).take ((n - i) * z)).take (Nat.min (n - i) (n+1 - (i+1)) * z)=F.drop (i * z):=by
 obtain⟨q,h1,h2⟩:=qAM (z:=z) (Nat.le_of_lt hi)
 have hmin:Nat.min (n - i) (n+1 - (i+1))=n - i:=by show min _ _=_;omega
 rw [hmin,List.take_take,Nat.min_self,h2,List.take_of_length_le (by rw [List.length_drop];omega)]
theorem qJb (hF:F.length=n * z) (hR:R.length=z) (hm:m.length=z) (hi:i < n):laid (laid (F ++ R) ((i+1) * z) (F.drop (i * z))) (i * z) m=F.take (i * z) ++ m ++ F.drop (i * z):=by
 obtain⟨q,h1,h2⟩:=qAM (z:=z) (Nat.le_of_lt hi)
 have h3:(i+1) * z=i * z+z:=Nat.succ_mul i z
 have h4:(n+1) * z=n * z+z:=Nat.succ_mul n z
 have h5:(i+1) * z<=n * z:=Nat.mul_le_mul_right z hi
 unfold laid
 have hd:(F.drop (i * z)).length=q:=by rw [List.length_drop];omega
 have e1:(F ++ R).take ((i+1) * z)=F.take (i * z) ++ (F.drop (i * z)).take z:=by
  rw [List.take_append_of_le_length om,h3,List.take_add]
 have e2:(F ++ R).drop ((i+1) * z+(F.drop (i * z)).length)=[]:=List.drop_eq_nil_of_le (by rw [List.length_append];omega)
 rw [e1,e2,List.append_nil]
 have ht:(F.take (i * z)).length=i * z:=by rw [List.length_take];omega
 have hz:((F.drop (i * z)).take z).length=z:=by rw [List.length_take];omega
 have t1:(F.take (i * z) ++ (F.drop (i * z)).take z ++ F.drop (i * z)).take (i * z)=F.take (i * z):=by rw [List.append_assoc,List.take_left' ht]
 have t2:(F.take (i * z) ++ (F.drop (i * z)).take z ++ F.drop (i * z)).drop (i * z+m.length)=F.drop (i * z):=List.drop_left' (by rw [List.length_append];omega)
 rw [t1,t2]
theorem qJa (hF:F.length=n * z) (hZ:Z.length=(n+1 - i) * z) (hm:m.length=z) (hi:i < n):laid (laid (F.take (i * z) ++ Z) (i * z) m) ((i+1) * z) (F.drop (i * z))=F.take (i * z) ++ m ++ F.drop (i * z):=by
 obtain⟨q,h1,h2⟩:=qAM (z:=z) (Nat.le_of_lt hi)
 have h3:(i+1) * z=i * z+z:=Nat.succ_mul i z
 have h6:(n+1 - i) * z=q+z:=by rw [show n+1 - i=(n - i)+1 by omega,Nat.succ_mul];omega
 unfold laid
 have hd:(F.drop (i * z)).length=q:=by rw [List.length_drop];omega
 have ht:(F.take (i * z)).length=i * z:=by rw [List.length_take];omega
 rw [List.take_left' ht,List.drop_append,List.take_left' (by rw [List.length_append];omega)]
 have e2:(F.take (i * z) ++ m ++ (List.drop (i * z+m.length) (F.take (i * z)) ++ List.drop (i * z+m.length - (F.take (i * z)).length) Z)).drop ((i+1) * z+(F.drop (i * z)).length)=[]:=by
  apply List.drop_eq_nil_of_le
  simp only [List.length_append,List.length_drop,List.length_take]
  omega
 rw [e2,List.append_nil]
end
theorem SlF.row {H:AHeap} {z:Nat} {ms:LL} {l o n c:Nat} (h:SlF H z ms (.slice l o n c z)):H.get l=some (.row ms.flatten true):=by cases h with | sl hg _ _=>exact hg
theorem OnlyS.trans' {S:AV} {A B C:AHeap} (h:OnlyS S A B) (k:OnlyS S B C):OnlyS S A C:=⟨Nat.le_trans h.next k.next,fun l hl hn=>(k.get l (Nat.lt_of_lt_of_le hl h.next) hn).trans (h.get l hl hn)⟩
theorem FromS.mono {a b:Nat} {S S' : AV} (h:FromS b S S') (hab:a<=b):FromS a S S':=⟨fun l hl=>(h.at_ l hl).imp (fun x=>Nat.le_trans hab x) id⟩
end Go.Ab
end
/- A row and a slice that change together; parts of lists as sources of appends. -/
section
namespace Go.Ab
abbrev PT (p:Nat):AV:=.slice p 0 0 0 1
theorem Only2.refl (S T:AV) (H:AHeap):Only2 S T H H:=⟨Nat.le_refl _,fun _ _ _ _=>rfl⟩
theorem Only2.trans {S T:AV} {A B C:AHeap} (h:Only2 S T A B) (k:OnlyS T B C):Only2 S T A C:=⟨Nat.le_trans h.next k.next,fun l hl h1 h2=>(k.get l (Nat.lt_of_lt_of_le hl h.next) h2).trans (h.get l hl h1 h2)⟩
def qNO (p:Nat) (H:AHeap):List Win->Prop
 | []=>True
 | w :: ws=>(w.l=p \/ H.next<=w.l)/\qNO p H ws
theorem qNO.get {p:Nat} {H:AHeap}:∀ {ws:List Win},qNO p H ws -> ∀ (j l b:Nat),(jD ws)[j]? = some (l,b)->l=p \/ H.next<=l
 | [],_,j,l,b,e=>by simp [jD] at e
 | w :: ws,h,0,l,b,e=>by simp [jD] at e;rw [<- e.1];exact h.1
 | w :: ws,h,j+1,l,b,e=>by
  simp only [jD,List.map_cons,List.getElem?_cons_succ] at e
  exact qNO.get h.2 j l b e
theorem qGg {p:Nat} {S:AV} {H H1 H2:AHeap} {f:Nat} {ws:List Win} (hg:Only2 (PT p) S H H1) (hk:Kept f (jD ws) H1 H2) (hn:qNO p H (ws.drop f)):Only2 (PT p) S H H2:=
 ⟨Nat.le_trans hg.next hk.1,fun l hl h1 h2=>by
  rw [hk.2 l (Nat.lt_of_lt_of_le hl hg.next) fun j b hj e=>?_]
  ·exact hg.get l hl h1 h2
  ·have h:=qNO.get hn (j - f) l b (by
    rw [jD,List.map_drop,List.getElem?_drop,show f+(j - f)=j by omega];exact e)
   rcases h with h | h
   ·subst h;exact h1 ⟨_,_,_,_,rfl⟩
   ·omega⟩
section
variable {P:Program} {o:Pt} {d:ON} {n:Nat} {x y:Opd} {Q:PK} {E:Env} {H:AHeap} {S:AV} {sz k l cap:Nat} {ms:LL} {m' : List AV}
theorem qIl {rest:List AOper} {K:Env->AHeap->Prop} (hS:SlF H sz ms S) (hE:S=.slice l 0 ms.length cap sz) (hx:x.ev E=.ptr l (k * sz)) (hk:k < ms.length) (hm:∀ m ∈ ms,m.length=sz) (hy:(y.ev E).cells=some m') (hn:m'.length=n) (hz:n=sz) (h1:m'.all AV.one=true)
  (h:∀ H',SlF H' sz (ms.set k m') S->OnlyS S H H'->xS P rest (E.put d .undef) H' K):xS P (⟨d,.store n x y,none⟩ :: rest) E H K:=by
 subst hE
 cases hS with
 | sl hg hn2 hc =>
  have hg' : H.get l=some (.row (ms.flatten ++ []) true):=by simpa using hg
  refine qHu hx hg' hy hn (by rw [hz];exact qJN hm hk []) h1 rfl ?_
  rw [qHE hm hk om,List.append_nil]
  refine h _ ?_ (.of_only ((Only.refl l H).put _))
  exact .sl (qKD hg) (by simp) hc
theorem qGn (ho:o=.kids (.cons true ⟨d,.store n x y,none⟩ (.node (kQs o) (uI o)) .nil) (wT o)) (hS:SlF H sz ms S) (hE:S=.slice l 0 ms.length cap sz) (hx:x.ev E=.ptr l (k * sz)) (hk:k < ms.length) (hm:∀ m ∈ ms,m.length=sz) (hy:(y.ev E).cells=some m') (hn:m'.length=n) (hz:n=sz) (h1:m'.all AV.one=true)
  (h:∀ H',SlF H' sz (ms.set k m') S->OnlyS S H H'->Res P (.mixq (kQs o) (uI o) (wT o)) Q (E.put d .undef) H'):Res P o Q E H:=by
 rw [ho]
 refine qAL (qIl hS hE hx hk hm hy hn hz h1 fun H' a b=>?_)
 refine qFk ⟨.inl rfl,?_⟩
 simp only [qCA]
 exact h H' a b
end
structure PartS (H:AHeap) (z:Nat) (ys:LL) (V:AV):Prop where
  one:V.one=true
  src:∀ H',Grew H H'->qQ H'.get z V=some (ys.flatten,ys.length)
theorem uH {H:AHeap} {z:Nat} {ms:LL} {S:AV} (hm:∀ m ∈ ms,m.length=z) (hS:SlL H z ms S) (a b:Nat) (hab:a<=b) (hb:b<=ms.length):∃ V,PartS H z ((ms.take b).drop a) V /\
  ∀ (E:Env) (H' : AHeap) (t:Nat) (lo hi:Option Opd),E t=S->(lo.map (fun x:Opd=>x.ev E)=none/\a=0 \/ lo.map (fun x:Opd=>x.ev E)=some (.int .i64 (a:Int)))->(hi.map (fun x:Opd=>x.ev E)=none/\b=ms.length \/ hi.map (fun x:Opd=>x.ev E)=some (.int .i64 (b:Int)))->zM E H'.get (.slSl z (.tmp t) lo hi none)=some V:=by
 cases hS with
 | nil h =>
  subst h
  obtain rfl:b=0:=by simpa using hb
  obtain rfl:a=0:=by omega
  refine⟨.nilslice,⟨rfl,fun H' _=>rfl⟩,fun E H' t lo hi hE hlo hhi=>?_⟩
  show (match E t with
   | .slice l o len cap sz'=>if z=sz' then
     match qCD len cap (lo.map (fun x:Opd=>x.ev E)) (hi.map (fun x:Opd=>x.ev E)) none with
     | some (a,h,m)=>some (AV.slice l (o+a * z) (h - a) (m - a) z)
     | none=>none
    else none
   | .nilslice=>match qCD 0 0 (lo.map (fun x:Opd=>x.ev E)) (hi.map (fun x:Opd=>x.ev E)) none with
    | some _=>some .nilslice
    | none=>none
   | _=>none)=_
  rw [hE]
  simp only []
  have e2:bnd (hi.map (fun x:Opd=>x.ev E)) 0 0=some 0:=by
   rcases hhi with ⟨h1,_⟩ | h1
   ·rw [h1];rfl
   ·rw [h1];rfl
  have e3:bnd (lo.map (fun x:Opd=>x.ev E)) 0 0=some 0:=by
   rcases hlo with ⟨h1,_⟩ | h1
   ·rw [h1];rfl
   ·rw [h1];rfl
  have:qCD 0 0 (lo.map (fun x:Opd=>x.ev E)) (hi.map (fun x:Opd=>x.ev E)) none=some (0,0,0):=by
   unfold qCD
   simp only []
   rw [show bnd none 0 0=some 0 from rfl]
   simp only []
   rw [e2]
   simp only []
   rw [e3]
  rw [this]
 | @sl l n cap rest wr hg hn hc =>
  subst hn
  have hlen:=yQ hm
  have hys:((ms.take b).drop a).length=b - a:=by rw [List.length_drop,List.length_take];omega
  have hys2:((ms.take b).drop a).flatten=((ms.flatten ++ rest).drop (a * z)).take ((b - a) * z):=by
   have h1:(ms.take b).flatten=ms.flatten.take (b * z):=(kU hm b hb).symm
   have h2:((ms.take b).drop a).flatten=(ms.take b).flatten.drop (a * z):=(kT (fun m h=>hm m (List.mem_of_mem_take h)) a (by rw [List.length_take];omega)).symm
   have h3:a * z<=b * z:=Nat.mul_le_mul_right z hab
   have h4:b * z<=ms.length * z:=Nat.mul_le_mul_right z hb
   rw [h2,h1,List.drop_take,<- Nat.sub_mul,List.drop_append_of_le_length om,List.take_append_of_le_length (by rw [List.length_drop,Nat.sub_mul];omega)]
  refine⟨.slice l (a * z) (b - a) (cap - a) z,⟨rfl,fun H' g=>?_⟩,fun E H' t lo hi hE hlo hhi=>?_⟩
  ·by_cases h0:b - a=0
   ·have:(ms.take b).drop a=[]:=List.eq_nil_of_length_eq_zero om
    rw [this,h0]
    simp [qQ]
   ·have h3:(a+(b - a)) * z<=ms.length * z:=Nat.mul_le_mul_right z om
    rw [Nat.add_mul] at h3
    rw [uG (g.at hg) h0 (by rw [List.length_append];omega),hys2,hys]
  ·have:=vF (H:=H') (a:=a) (b:=b) hE hlo hhi hab om
   simpa using this
end Go.Ab
namespace Go.Ab
theorem Sim.cut {F:Nat->Prop} {μ:Mu} {H:AHeap} {w:World} (hs:Sim F μ H w) {l:Nat} {A B:List AV} {wr:Bool} (hg:H.get l=some (.row (A ++ B) wr)):Sim F μ (H.put l (.row A wr)) w:=by
 have hln:l < H.next:=H.lt_of_get hg
 have hget:∀ l',l' ≠ l->(H.put l (.row A wr)).get l'=H.get l':=fun l' h=>by rw [AHeap.put_get,if_neg om]
 have hgets:(H.put l (.row A wr)).get l=some (.row A wr):=by rw [AHeap.put_get,if_pos ⟨rfl,hln⟩]
 have key:∀ l' b',(H.put l (.row A wr)).get l'=some b' -> ∃ b'',H.get l'=some b''/\(b'.wr=true->b''.wr=true):=by
  intro l' b' h'
  by_cases h:l'=l
  ·subst h
   rw [hgets] at h'
   cases h'
   exact⟨_,hg,fun h=>h⟩
  ·rw [hget l' h] at h'
   exact⟨b',h',id⟩
 refine⟨hs.dom,?_,?_,?_,?_,hs.fresh⟩
 ·intro l' li' cs' wr' hg' hm'
  by_cases h:l'=l
  ·subst h
   rw [hgets] at hg'
   cases hg'
   obtain⟨c,e,lo,hi,g1,g2,g3,g4,g5⟩:=hs.row l' li' _ _ hg hm'
   rw [List.length_append] at g3
   refine⟨c,e,lo,hi,g1,g2,by omega,fun i a hi'=>g4 i a ?_,g5⟩
   have hlt:i < A.length:=by
    rcases Nat.lt_or_ge i A.length with h | h
    ·exact h
    ·rw [List.getElem?_eq_none h] at hi';cases hi'
   rw [List.getElem?_append_left hlt];exact hi'
  ·rw [hget l' h] at hg'
   exact hs.row l' li' cs' wr' hg' hm'
 ·intro l' li' es hg' hm'
  by_cases h:l'=l
  ·subst h;rw [hgets] at hg';cases hg'
  ·rw [hget l' h] at hg'
   exact hs.mp l' li' es hg' hm'
 ·intro l1 l2 b1 b2 li1 li2 hne h1 hw h2 hm1 hm2
  obtain⟨c1,k1,k2⟩:=key l1 b1 h1
  obtain⟨c2,k3,_⟩:=key l2 b2 h2
  exact hs.sep l1 l2 c1 c2 li1 li2 hne k1 (k2 hw) k3 hm1 hm2
 ·intro l1 b1 li1 h1 hw hm1
  obtain⟨c1,k1,k2⟩:=key l1 b1 h1
  exact hs.may l1 c1 li1 k1 (k2 hw) hm1
theorem qIi {P:Program} {f:FuncId} {args:List AV} {H:AHeap} {Q Q' : VK} (h:qJ P f args H Q) (hq:∀ r H',Q r H' -> ∃ l A B wr,H'.get l=some (.row (A ++ B) wr)/\Q' r (H'.put l (.row A wr))):qJ P f args H Q':=
 fun F μ w vs hs ha=>(h F μ w vs hs ha).mono fun _ _ ⟨μ',r,H',h1,h2,h3,h4,h5,h6⟩=>by
  obtain⟨l,A,B,wr,hg,hq'⟩:=hq r H' h1
  exact⟨μ',r,_,hq',by rw [AHeap.put_next];exact h2,h3,h4.cut hg,h5,h6⟩
section
variable {P:Program} {o:Pt} {d:ON} {Q:PK} {E:Env} {H:AHeap}
theorem qEU {sz bytes:Nat} {x y:Opd} (ho:o=.kids (.cons true ⟨d,.append sz bytes x y,none⟩ (.node (kQs o) (uI o)) .nil) (wT o)) {l o' n cap m:Nat} {cs ys:List AV} (hx:x.ev E=.slice l o' n cap sz) (hy:qQ H.get sz (y.ev E)=some (ys,m)) (hg:H.get l=some (.row cs true)) (hc:cap ≠ 0) (ht:o'+n * sz ≠ cs.length) (hle:o'+(n+m) * sz<=cs.length) (hcap:n+m<=cap) (h1:ys.all AV.one=true)
  (h:Res P (.mixq (kQs o) (uI o) (wT o)) Q (E.put d (.slice l o' (n+m) cap sz)) (H.put l (.row (laid cs (o'+n * sz) ys) true))):Res P o Q E H:=by
 rw [ho]
 refine qAL ?_
 simp only [xS,bH,hx]
 unfold hT
 rw [hy]
 simp only []
 rw [if_pos trivial,if_neg hc,hg]
 simp only []
 rw [if_neg ht,if_pos ⟨hle,hcap,h1⟩]
 refine⟨.inl rfl,?_⟩
 simp only [qCA]
 exact h
theorem qIZ {sz:Nat} {zs:List AV} {x:Opd} (ho:o=.ops (⟨d,.clear sz zs x,none⟩ :: xU o) (wT o)) {l o' n cap:Nat} {cs:List AV} (hx:x.ev E=.slice l o' n cap sz) (hn:n ≠ 0) (hg:H.get l=some (.row cs true)) (hle:o'+n * sz<=cs.length) (hz:zs.length=sz) (h1:zs.all AV.one=true)
  (h:Res P (.ops (xU o) (wT o)) Q (E.put d .undef) (H.put l (.row (laid cs o' (List.replicate n zs).flatten) true))):Res P o Q E H:=by
 rw [ho]
 simp only [Res,xS,bH,hx]
 rw [if_neg hn,if_pos trivial,hg]
 simp only []
 rw [if_pos ⟨hle,hz,h1⟩]
 exact h
theorem qMw {t l o' n c z:Nat} {lo hi mx:Nat} {a b m:Nat} (h:E t=.slice l o' n c z) (hlo:E lo=.int .i64 (a:Int)) (hhi:E hi=.int .i64 (b:Int)) (hmx:E mx=.int .i64 (m:Int)) (hab:a<=b) (hbm:b<=m) (hmc:m<=c) :
  zM E H.get (.slSl z (.tmp t) (some (.tmp lo)) (some (.tmp hi)) (some (.tmp mx)))=some (.slice l (o'+a * z) (b - a) (m - a) z):=by
 show (match E t with
  | .slice l o len cap sz'=>if z=sz' then
    match qCD len cap (some (E lo)) (some (E hi)) (some (E mx)) with
    | some (a,h,m)=>some (AV.slice l (o+a * z) (h - a) (m - a) z)
    | none=>none
   else none
  | .nilslice=>match qCD 0 0 (some (E lo)) (some (E hi)) (some (E mx)) with
   | some _=>some .nilslice
   | none=>none
  | _=>none)=_
 rw [h,hlo,hhi,hmx]
 simp only []
 rw [if_pos trivial]
 have e1:bnd (some (.int .i64 (m:Int))) c c=some m:=by
  simp only [bnd];rw [if_pos ⟨by omega,by omega⟩];simp
 have e2:bnd (some (.int .i64 (b:Int))) n m=some b:=by
  simp only [bnd];rw [if_pos ⟨by omega,by omega⟩];simp
 have e3:bnd (some (.int .i64 (a:Int))) 0 b=some a:=by
  simp only [bnd];rw [if_pos ⟨by omega,by omega⟩];simp
 have:qCD n c (some (.int .i64 (a:Int))) (some (.int .i64 (b:Int))) (some (.int .i64 (m:Int)))=some (a,b,m):=by
  unfold qCD
  simp only []
  rw [e1]
  simp only []
  rw [e2]
  simp only []
  rw [e3]
 rw [this]
end
theorem qKY {F Z:List AV} {n i z:Nat} (hF:F.length=n * z) (hZ:Z.length=z) (hi:i < n):laid (laid F (i * z) (F.drop ((i+1) * z))) ((n - 1) * z) Z=F.take (i * z) ++ F.drop ((i+1) * z) ++ Z:=by
 have h3:(i+1) * z=i * z+z:=Nat.succ_mul i z
 have h5:(i+1) * z<=n * z:=Nat.mul_le_mul_right z hi
 have h6:n * z=(n - 1) * z+z:=by rw [<- Nat.succ_mul];congr 1;omega
 have hd:(F.drop ((i+1) * z)).length=n * z - (i+1) * z:=by rw [List.length_drop];omega
 have ht:(F.take (i * z)).length=i * z:=by rw [List.length_take];omega
 unfold laid
 have e1:(F.take (i * z) ++ F.drop ((i+1) * z) ++ F.drop (i * z+(F.drop ((i+1) * z)).length)).take ((n - 1) * z)=F.take (i * z) ++ F.drop ((i+1) * z):=List.take_left' (by rw [List.length_append];omega)
 have e2:(F.take (i * z) ++ F.drop ((i+1) * z) ++ F.drop (i * z+(F.drop ((i+1) * z)).length)).drop ((n - 1) * z+Z.length)=[]:=List.drop_eq_nil_of_le (by simp only [List.length_append,List.length_drop,List.length_take];omega)
 rw [e1,e2,List.append_nil]
theorem qIy {z:Nat} {ms:LL} (h:∀ m ∈ ms,m.length=z) (i:Nat) (hi:i < ms.length):ms.flatten.take (i * z) ++ ms.flatten.drop ((i+1) * z)=(ms.eraseIdx i).flatten:=by
 rw [kU h i om,kT h (i+1) om,List.eraseIdx_eq_take_drop_succ,List.flatten_append]
end Go.Ab
end
/- Cuts of a walk: a stop between two parts of a function, ways that meet again. -/
section
namespace Go.Ab
def qKR:ACode->List Fr
 | .seq a b=>.seq a :: qKR b
 | c=>[.seq c]
def yF:List Fr->List Fr
 | []=>[]
 | .seq c :: fr=>qKR c ++ yF fr
 | f :: fr=>f :: yF fr
def qPn (fr:List Fr):Pt->Pt
 | .ex e=>.ex e
 | .ops r _=>.ops r fr
 | .mixq r k _=>.mixq r k fr
 | .kids k _=>.kids k fr
 | .code a _=>.code a fr
def qEa:Pt->Pt
 | .code (.seq a b) fr=>.code a (.seq b :: fr)
 | o=>o
def qNz (k:Nat) (o:Pt):Pt:=qPn ((yF (wT (qEa o))).take k) (qEa o)
def qMe (k:Nat) (o:Pt):List Fr:=(yF (wT (qEa o))).drop k
theorem qMi {P:Program} {Q:PK} {E:Env} {H:AHeap} {o:Pt} (h:Res P (qEa o) Q E H):Res P o Q E H:=by
 cases o with
 | code a fr=>cases a <;> exact h
 | _=>exact h
theorem tE {P:Program} {Q:PK}:∀ a b:List Fr,zN P (a ++ b) Q=zN P a (zN P b Q)
 | [],_=>rfl
 | .seq c :: a,b=>by show qKS P c (zN P (a ++ b) Q)=_;rw [tE a b];rfl
 | .block id :: a,b=>by show mQ id (zN P (a ++ b) Q)=_;rw [tE a b];rfl
 | .loop c :: a,b=>by show qAJ (zW P (.loop c) (zN P (a ++ b) Q)) (zN P (a ++ b) Q)=_;rw [tE a b];rfl
theorem qMo {P:Program} {a b:ACode} {Q:PK}:qKS P (.seq a b) Q=qKS P a (qKS P b Q):=by
 funext e E H
 cases e <;> rfl
theorem qCX {P:Program} {Q:PK}:∀ c:ACode,zN P (qKR c) Q=qKS P c Q
 | .seq a b=>by show qKS P a (zN P (qKR b) Q)=_;rw [qCX b,qMo]
 | .skip | .run _ | .mix _ | .cond _ _ _ | .block _ _ | .loop _ | .exit _ | .ret=>rfl
theorem tW {P:Program} {Q:PK}:∀ fr:List Fr,zN P (yF fr) Q=zN P fr Q
 | []=>rfl
 | .seq c :: fr=>by show zN P (qKR c ++ yF fr) Q=_;rw [tE,tW fr,qCX];rfl
 | .block id :: fr=>by show mQ id (zN P (yF fr) Q)=_;rw [tW fr];rfl
 | .loop c :: fr=>by show qAJ (zW P (.loop c) (zN P (yF fr) Q)) (zN P (yF fr) Q)=_;rw [tW fr];rfl
theorem gY {P:Program} {o:Pt} {Q:PK} {E:Env} {H:AHeap} (k:Nat) (ho:(match o with | .ex _=>false | _=>true)=true) (h:Res P (qNz k o) (zN P (qMe k o) Q) E H):Res P o Q E H:=by
 have e:∀ fr,zN P ((yF fr).take k) (zN P ((yF fr).drop k) Q)=zN P fr Q:=fun fr=>by rw [<- tE,List.take_append_drop,tW]
 refine qMi ?_
 have ho:(match qEa o with | .ex _=>false | _=>true)=true:=by
  cases o with
  | code a fr=>cases a <;> rfl
  | _=>exact ho
 unfold qNz qMe at h
 generalize qEa o=o at h ho ⊢
 cases o with
 | ex _=>cases ho
 | ops r fr=>have h:xS P r E H (zN P ((yF fr).take k) (zN P ((yF fr).drop k) Q) .normal):=h;rw [e] at h;exact h
 | mixq r ks fr=>have h:xS P r E H (qGy P ks (zN P ((yF fr).take k) (zN P ((yF fr).drop k) Q) .normal)):=h;rw [e] at h;exact h
 | kids ks fr=>have h:qGy P ks (zN P ((yF fr).take k) (zN P ((yF fr).drop k) Q) .normal) E H:=h;rw [e] at h;exact h
 | code a fr=>have h:zW P a (zN P ((yF fr).take k) (zN P ((yF fr).drop k) Q)) E H:=h;rw [e] at h;exact h
theorem qGm {P:Program} {o:Pt} {fr:List Fr} {Q:PK} {E:Env} {H:AHeap} (ho:o=.ex .normal) (h:Res P (.ops [] fr) Q E H):Res P o (zN P fr Q) E H:=by rw [ho];exact h
def qNh (R:Env->AHeap->Prop) (Q:PK):PK:=fun e E H=>match e with
 | .normal=>R E H
 | e=>Q e E H
theorem jM {P:Program} {Q Q' : PK} (h:∀ e E H,Q e E H->Q' e E H):∀ (fr:List Fr) (e:AExit) (E:Env) (H:AHeap),zN P fr Q e E H->zN P fr Q' e E H
 | [],e,E,H,q=>h e E H q
 | .seq c :: fr,e,E,H,q=>by
  cases e with
  | normal=>exact xF (jM h fr) q
  | exit i=>exact jM h fr _ E H q
  | ret=>exact jM h fr _ E H q
 | .block id :: fr,e,E,H,q=>by
  cases e with
  | normal=>exact jM h fr _ E H q
  | exit i =>
   have q:mQ id (zN P fr Q) (.exit i) E H:=q
   show mQ id (zN P fr Q') (.exit i) E H
   have q:(if i=id then zN P fr Q .normal E H else zN P fr Q (.exit i) E H):=q
   show (if i=id then zN P fr Q' .normal E H else zN P fr Q' (.exit i) E H)
   split at q
   ·rename_i h1;rw [if_pos h1];exact jM h fr _ E H q
   ·rename_i h1;rw [if_neg h1];exact jM h fr _ E H q
  | ret=>exact jM h fr _ E H q
 | .loop c :: fr,e,E,H,q=>by
  cases e with
  | normal=>exact xF (jM h fr) q
  | exit i=>exact jM h fr _ E H q
  | ret=>exact jM h fr _ E H q
theorem qGc {P:Program} {ks:AKids} {K K' : Env->AHeap->Prop} (hk:∀ E H,K E H->K' E H) {E:Env} {H:AHeap} (h:qGy P ks K E H):qGy P ks K' E H:=by
 exact⟨fun e=>hk _ _ (h.1 e),qBf hk h.2⟩
theorem qMj {P:Program} {o:Pt} {Q Q' : PK} {E:Env} {H:AHeap} (h:∀ e E H,Q e E H->Q' e E H) (r:Res P o Q E H):Res P o Q' E H:=by
 cases o with
 | ex e=>exact h _ _ _ r
 | ops rest fr=>exact bJ (jM h fr .normal) r
 | mixq rest ks fr=>exact bJ (fun E H q=>qGc (jM h fr .normal) q) r
 | kids ks fr=>exact qGc (jM h fr .normal) r
 | code a fr=>exact xF (jM h fr) r
theorem qAW {P:Program} {o:Pt} {Q:PK} {E:Env} {H:AHeap} (k:Nat) (R:Env->AHeap->Prop) (ho:(match o with | .ex _=>false | _=>true)=true)
  (h1:Res P (qNz k o) (qNh R (zN P (qMe k o) Q)) E H) (h2:∀ E' H',R E' H'->Res P (.ops [] (qMe k o)) Q E' H'):Res P o Q E H:=by
 refine gY k ho (qMj ?_ h1)
 intro e E' H' q
 cases e with
 | normal=>exact h2 E' H' q
 | exit i=>exact q
 | ret=>exact q
theorem vS {P:Program} {o:Pt} {R:Env->AHeap->Prop} {Q:PK} {E:Env} {H:AHeap} (ho:o=.ex .normal) (h:R E H):Res P o (qNh R Q) E H:=by rw [ho];exact h
def Fr.isSeq:Fr->Bool
 | .seq _=>true
 | _=>false
theorem qGo {P:Program} {Q:PK} {E:Env} {H:AHeap}:∀ {fr:List Fr},fr.all Fr.isSeq=true->Q .ret E H->zN P fr Q .ret E H
 | [],_,h=>h
 | .seq c :: fr,hf,h=>qGo (fr:=fr) (by simpa [Fr.isSeq] using hf) h
 | .block _ :: _,hf,_=>by simp [Fr.isSeq] at hf
 | .loop _ :: _,hf,_=>by simp [Fr.isSeq] at hf
theorem qCv {P:Program} {R:Env->AHeap->Prop} {Q:PK} {E:Env} {H:AHeap} {fr:List Fr} (hf:fr.all Fr.isSeq=true) (h:Q .ret E H):qNh R (zN P fr Q) .ret E H:=qGo hf h
theorem qIY {P:Program} {o:Pt} {d:ON} {f:FuncId} {args:List Opd} {t:Nat} {want:Bool} (ho:o=.ops (⟨d,.callI t want f args,none⟩ :: xU o) (wT o)) {Q:PK} {E:Env} {H:AHeap} {R:VK} (hg:E t=.bool want) (hc:qJ P f (args.map (·.ev E)) H R)
  (h:∀ r H',R r H'->Res P (.ops (xU o) (wT o)) Q (E.put d r) H'):Res P o Q E H:=by
 rw [ho]
 simp only [Res,xS,bH]
 rw [hg]
 simp only [if_true]
 exact hc.mono h
theorem qIX {P:Program} {o:Pt} {d:ON} {f:FuncId} {args:List Opd} {t:Nat} {want:Bool} (ho:o=.ops (⟨d,.callI t want f args,none⟩ :: xU o) (wT o)) {Q:PK} {E:Env} {H:AHeap} (hg:E t=.bool (!want))
  (h:Res P (.ops (xU o) (wT o)) Q (E.put d .undef) H):Res P o Q E H:=by
 rw [ho]
 simp only [Res,xS,bH]
 rw [hg]
 have hn:¬ (!want)=want:=by cases want <;> decide
 simp only [if_neg hn]
 exact h
/-! Short words for texts that are printed. -/
def lF:SV:=.lit (.flt .f32 (some 0))
def l0:SV:=.lit (.int .i32 0)
def lN:SV:=.lit .nilslice
theorem kA {k:Kd} {a:AV} (h:jQ k a:=by exact⟨_,rfl⟩):jQ k a:=h
theorem kF {k:FloatKind} {x:ON} (h:fOk k x):jQ (.flt k) (.flt k x):=⟨_,rfl,h⟩
theorem kr {α:Sort _} {a b:α} (h:a=b:=by kernel_rfl):a=b:=h
theorem aS {a b:Nat} (h:Apart a b:=by first | assumption | exact Apart.symm am):Apart a b:=h
theorem sd {ws:List Win} (h:ApL (qOY ws):=by repeat (first | exact .nil | refine .cons (by first | assumption | exact Apart.symm am) ?_)):qDN ws:=qPB h
theorem wA {H:AHeap} {xs:List AV} {ls:LN} {ws:List Win} (h:WinL H xs ls ws:=by repeat (first | exact .nil | refine .cons (by first | exact wR am am | exact wO am am) ?_)):WinL H xs ls ws:=h
section
variable {c:Cx} {s0 s:St} {vs0 vs:List AV} {ls0 ls:LN} {H0 H:AHeap} {E:Env}
theorem es (st:Step c s0 vs0 ls0 H0 s vs ls H) (hE:zG s.env vs ls E) (sl:List (Nat × AV)) (e:(sl.map fun p=>(jG p.1 s.env).bind (dn c.ρ c.φ s.ns c.ls 100))=sl.map (fun p=>some p.2):=by kernel_rfl):zU E sl:=qFa st.inn hE e
end
theorem kL {ks:List Kd} {xs:List AV} (h:KdsL ks xs:=by repeat (first | exact .nil | refine .cons (by first | exact⟨_,rfl⟩ | exact⟨_,rfl,by assumption⟩ | exact SlF.one am | exact SlW.one am | exact zT am | assumption) ?_)):KdsL ks xs:=h
section
variable {c:Cx} {s0 s:St} {vs0 vs:List AV} {ls0 ls:LN} {H0 H:AHeap} {E:Env}
theorem rf {P:Program} {o:Pt} {rs:List ARes} {r0:AV} {H1:AHeap} (st:Step c s0 vs0 ls0 H0 s vs ls H) (hE:zG s.env vs ls E) (a:AV) (hg:Grew H1 H) (h:a=r0) (ho:o=.ex .ret:=by kernel_rfl) (hr:(qJd rs s).bind (dn c.ρ c.φ s.ns c.ls 100)=some a:=by kernel_rfl) (hf:a.flat=true:=by rfl):Res P o (qLx rs H1 (fun r' H'=>r'=r0/\H'=H1)) E H:=jA ho (xK st.inn hE (.inr rfl) hr hg hf ⟨h,rfl⟩)
theorem re {P:Program} {o:Pt} {rs:List ARes} {H1:AHeap} {R:VK} (st:Step c s0 vs0 ls0 H0 s vs ls H) (hE:zG s.env vs ls E) (a:AV) (hg:H1.next<=H.next) (h:R a H) (ho:o=.ex .ret:=by kernel_rfl) (hr:(qJd rs s).bind (dn c.ρ c.φ s.ns c.ls 100)=some a:=by kernel_rfl):Res P o (qLx rs H1 R) E H:=jA ho (zJ st.inn hE (.inr rfl) hr hg h)
theorem rW (st:Step c s0 vs0 ls0 H0 s vs ls H) (j:Nat) {l:Nat} {ds:List AV} (hj:c.ls[j]? = some (l,0):=by rfl) (e:(jG j s.heap).bind (fun p=>(dnL c.ρ c.φ s.ns c.ls 300 p.1).map fun x=>(x,p.2))=some (ds,true):=by kernel_rfl):H.get l=some (.row ds true):=qKJ st.inn j hj e
theorem pn (st:Step c s0 vs0 ls0 H0 s vs ls H) (hE:zG s.env vs ls E) (t j t' j' : Nat) (cs:List SV) {l l' : Nat} (h1:E t=.ptr l 0) (h2:E t'=.ptr l' 0) (he:jG t s.env=some (.ptr j 0):=by kernel_rfl) (he' : jG t' s.env=some (.ptr j' 0):=by kernel_rfl) (hr:jG j s.heap=some (cs,true):=by kernel_rfl) (hj:j ≠ j':=by decide):Apart l l':=⟨qMG st.inn hE t j t' j' he he' hr hj h1 h2⟩
theorem pO (st:Step c s0 vs0 ls0 H0 s vs ls H) (hE:zG s.env vs ls E) (t j:Nat) (ds:List AV) (he:jG t s.env=some (.ptr j 0):=by kernel_rfl) (e:(jG j s.heap).bind (fun p=>(dnL c.ρ c.φ s.ns c.ls 300 p.1).map fun x=>(x,p.2))=some (ds,true):=by kernel_rfl):∃ l,E t=.ptr l 0/\H.get l=some (.row ds true)/\(c.ls.length<=j->c.H.next<=l):=qOF st.inn hE t j he e
end
theorem aL {H:AHeap} {l:Nat} {S S' : AV} {b:HB} (f:FromS H.next S S') (r:H.get l=some b) (h:ApartL S l):ApartL S' l:=f.apartL (H.lt_of_get r) h
theorem oM {k m:Nat} {p:Prop} (n:k<=m->p) (e:Nat.ble k m=true:=by rfl):p:=n (Nat.le_of_ble_eq_true e)
@[simp] def wf (l:Nat) (cs:List SV):Win:=⟨l,0,cs,false⟩
theorem sp' {E:Env} {d:Nat} {r:AV}:∀ {sl:List (Nat × AV)},zU E sl->sl.all (fun p=>!(Nat.beq d p.1))=true->zU (E.put (some d) r) sl
 | [],_,_=>.nil
 | (t,a) :: sl,h,hd=>by
  simp only [List.all_cons,Bool.and_eq_true,Bool.not_eq_true'] at hd
  exact .cons (qD hd.1 h.head) (sp' h.tail hd.2)
theorem sp {E:Env} {d:Nat} {r:AV} {sl:List (Nat × AV)} (h:zU E sl) (hd:sl.all (fun p=>!(Nat.beq d p.1))=true:=by kernel_rfl):zU (E.put (some d) r) sl:=sp' h hd
theorem sn {E:Env} {r:AV} {sl:List (Nat × AV)} (h:zU E sl):zU (E.put none r) sl:=fun t a q=>jK (h t a q)
theorem sc {E:Env} {a b:List (Nat × AV)} (h:zU E a) (k:zU E b):zU E (a ++ b):=fun t v q=>by
  rcases List.mem_append.1 q with q | q
  · exact h t v q
  · exact k t v q
open Ieee
theorem qKy {w m:Nat} {s:Bool} {e:Int} (hd:FloatKind.f32.decode w=.number s m e) (h0:(qO .f32 (some 0) (some w) == some .lt)=true):s=false/\m ≠ 0:=by
 have e0:FloatKind.f32.decode 0=.number false 0 (-149):=by decide +kernel
 have e1:qO .f32 (some 0) (some w)=(FloatKind.f32.decode 0).order (FloatKind.f32.decode w):=rfl
 rw [e1,hd,e0] at h0
 have h0:(some (compare (signed false 0 (-149 - min (-149) e).toNat) (signed s m (e - min (-149) e).toNat)) == some Ordering.lt)=true:=h0
 rw [qDU,xX,Nat.zero_shiftLeft] at h0
 have h0:=of_decide_eq_true h0
 cases s with
 | true =>
  rw [uE] at h0
  generalize m <<< (e - min (-149) e).toNat=A at h0
  omega
 | false =>
  refine⟨rfl,?_⟩
  rintro rfl
  rw [xX,Nat.zero_shiftLeft] at h0
  omega
theorem qNy {w m:Nat} {s:Bool} {e:Int} (hd:FloatKind.f32.decode w=.number s m e) (h1:0 < w) (h2:w < 2147483648):(qO .f32 (some 0) (some w) == some .lt)=true:=by
 have hs:Format.signWeight single=2147483648:=rfl
 have hi:Format.infRung single=2139095040:=rfl
 have hbin:Format.binade single=8388608:=rfl
 have hl:Format.leastPlace single = -149:=rfl
 have hz:s=false/\m ≠ 0:=by
  have h:Format.read single w=.number s m e:=hd
  unfold Format.read at h
  simp only [hs,hi,hbin,hl] at h
  have hw:w % 2147483648=w:=Nat.mod_eq_of_lt h2
  have hq:w / 2147483648=0:=Nat.div_eq_of_lt h2
  rw [hw,hq] at h
  split at h
  ·cases h;exact⟨rfl,by omega⟩
  ·split at h
   ·cases h;exact⟨rfl,by omega⟩
   ·split at h <;> cases h
 obtain⟨rfl,hm⟩:=hz
 have e0:FloatKind.f32.decode 0=.number false 0 (-149):=by decide +kernel
 have e1:qO .f32 (some 0) (some w)=(FloatKind.f32.decode 0).order (FloatKind.f32.decode w):=rfl
 rw [e1,hd,e0]
 show (some (compare (signed false 0 (-149 - min (-149) e).toNat) (signed false m (e - min (-149) e).toNat)) == some Ordering.lt)=true
 rw [qDU,xX,xX,Nat.zero_shiftLeft,Nat.shiftLeft_eq]
 have:=Nat.mul_pos (Nat.pos_of_ne_zero hm) (Nat.two_pow_pos (e - min (-149) e).toNat)
 generalize m * 2^(e - min (-149) e).toNat=A at this ⊢
 exact decide_eq_true om
theorem qMa {M:Nat} {e:Int} (h:M ≠ 0) (he:-149<=e):0 < Format.nearest single false M e/\Format.nearest single false M e < 2147483648:=by
 have hs:Format.signWeight single=2147483648:=rfl
 have hi:Format.infRung single=2139095040:=rfl
 have hbin:Format.binade single=8388608:=rfl
 have hl:Format.leastPlace single = -149:=rfl
 have hf:single.fractionBits=23:=rfl
 have hw:∀ r,single.word false r=r:=fun r=>by unfold Format.word;simp
 unfold Format.nearest
 rw [if_neg h]
 simp only [hf,hl,hbin,hi,hw]
 refine⟨?_,by omega⟩
 obtain⟨L,hL⟩:∃ L:Int,L=max (e+(M.log2:Int) - ((23:Nat):Int)) (-149):=⟨_,rfl⟩
 rw [<- hL]
 by_cases hk:L = -149
 ·rw [hk,show ((-149:Int) - e).toNat=0 by omega,gM .even _ (Nat.zero_le _) (Nat.mod_one _),Nat.pow_zero,Nat.div_one,Nat.shiftLeft_eq]
  have:=Nat.mul_pos (Nat.pos_of_ne_zero h) (Nat.two_pow_pos (e - -149).toNat)
  omega
 ·have:1<=(L - -149).toNat:=by omega
  have:=Nat.mul_le_mul_right 8388608 this
  omega
theorem qJm {x y:ON} (hx:fOk .f32 x) (hy:fOk .f32 y) (fx:bQ x=true) (fy:bQ y=true) (px:(qO .f32 (some 0) x == some .lt)=true) (py:(qO .f32 (some 0) y == some .lt)=true) (fs:bQ (fop .add .f32 x y)=true):(qO .f32 (some 0) (fop .add .f32 x y) == some .lt)=true:=by
 obtain⟨w,s,m,e,rfl,hd⟩:=wC hx fx
 obtain⟨w',s',m',e',rfl,hd'⟩:=wC hy fy
 obtain⟨rfl,hm⟩:=qKy hd px
 obtain⟨rfl,hm'⟩:=qKy hd' py
 obtain⟨hr1,hr2,hr3⟩:=qAm hd
 obtain⟨hq1,hq2,hq3⟩:=qAm hd'
 have hz:fop .add .f32 (some w) (some w')=some (Format.nearest single false ((m <<< (e - min e e').toNat)+(m' <<< (e' - min e e').toNat)) (min e e')):=by
  have e1:fop .add .f32 (some w) (some w')=((FloatKind.f32.decode w).sum (FloatKind.f32.decode w')).map FloatKind.f32.encode:=rfl
  rw [e1,hd,hd']
  show some (FloatKind.f32.encode (.number _ _ (min e e')))=_
  have hp:=Nat.mul_pos (Nat.pos_of_ne_zero hm) (Nat.two_pow_pos (e - min e e').toNat)
  rw [<- Nat.shiftLeft_eq] at hp
  rw [xX,xX]
  generalize m <<< (e - min e e').toNat=A at hp ⊢
  generalize m' <<< (e' - min e e').toNat=B at ⊢
  rw [if_neg om,show decide (((A:Int)+(B:Int)) < 0)=false from decide_eq_false om]
  rfl
 obtain⟨W,S,M,E,hw,hD⟩:=wC zS fs
 rw [hw] at hz ⊢
 cases hz
 have hp:=Nat.mul_pos (Nat.pos_of_ne_zero hm) (Nat.two_pow_pos (e - min e e').toNat)
 rw [<- Nat.shiftLeft_eq] at hp
 have hne:(m <<< (e - min e e').toNat)+(m' <<< (e' - min e e').toNat) ≠ 0:=Nat.ne_of_gt (Nat.lt_of_lt_of_le hp (Nat.le_add_right _ _))
 obtain⟨h1,h2⟩:=qMa (M:=(m <<< (e - min e e').toNat)+(m' <<< (e' - min e e').toNat)) (e:=min e e') hne om
 exact qNy hD h1 h2
end Go.Ab
end
