/- Floats: bounds of results; narrowing. -/
import Derived.Test.YtgjggkgafdnhcaaSxA
import Derived.Test.YtgjggkgafdnhcaaAbD
import Derived.Test.YtgjggkgafdnhcaaSxD
import Derived.Test.YtgjggkgafdnhcaaSxC
import Derived.Lib.Overlaps
set_option linter.unusedVariables false
set_option linter.unusedSimpArgs false
section
namespace Go.Ab
open Ieee
theorem qJX {s:Bool} {m:Nat} {e:Int} (h:LeP m e 126):(FloatKind.f32.decode (FloatKind.f32.encode (.number s m e))).isInfinity=false:=by
 have hb:Format.binade single=8388608:=rfl
 have hi:Format.infRung single=2139095040:=rfl
 have hl:Format.leastPlace single = -149:=rfl
 have hf:single.fractionBits=23:=rfl
 show (Format.read single (Format.nearest single s m e)).isInfinity=false
 by_cases h0:m=0
 ·subst h0
  show (Format.read single (single.word s 0)).isInfinity=false
  cases s <;> decide +kernel
 ·have hlog:=h.log h0
  have hhi:m < 2^(m.log2+1):=Nat.lt_log2_self
  obtain⟨L,hL⟩:∃ L:Int,L=max (e+m.log2 - 23) (-149):=⟨_,rfl⟩
  obtain⟨kept,hk⟩:∃ kept,kept=Toward.even.cut s (m <<< (e - L).toNat) (L - e).toNat:=⟨_,rfl⟩
  have hkle:kept<=2^24:=by
   rw [hk]
   refine qFj ?_
   rw [Nat.shiftLeft_eq]
   have h1:m * 2^(e - L).toNat<=2^(m.log2+1+(e - L).toNat):=by
    rw [Nat.pow_add];exact Nat.mul_le_mul_right _ (Nat.le_of_lt hhi)
   refine Nat.le_trans h1 ?_
   rw [<- Nat.pow_add]
   refine Nat.pow_le_pow_right (by decide) ?_
   omega
  simp only [Nat.reducePow] at hkle
  have hr:(L+149).toNat * 8388608+kept < 2139095040:=by omega
  have hw:Format.nearest single s m e=single.word s ((L+149).toNat * 8388608+kept):=by
   unfold Format.nearest
   rw [if_neg h0]
   simp only [hf,hl,hb,hi]
   rw [show max (e+(m.log2:Int) - ((23:Nat):Int)) (-149)=L from hL.symm,<- hk,show L - -149=L+149 by omega]
   rw [Nat.min_eq_left (Nat.le_of_lt hr)]
  rw [hw,kY single s (by rw [hi];exact hr)]
  split <;> rfl
def Bnd (x:ON) (b:Nat):Prop:=∃ w s m e,x=some w/\w < 2^64/\FloatKind.f64.decode w=.number s m e/\LeP m e b
theorem Bnd.mono {x:ON} {b c:Nat} (h:Bnd x b) (hc:b<=c):Bnd x c:=by
 obtain⟨w,s,m,e,h1,h2,h3,h4⟩:=h
 exact⟨w,s,m,e,h1,h2,h3,h4.mono hc⟩
theorem Bnd.ok {x:ON} {b:Nat} (h:Bnd x b):fOk .f64 x:=by
 obtain⟨w,s,m,e,rfl,h2,h3,h4⟩:=h
 intro c hc
 cases hc
 exact⟨h2,by rw [h3];rfl⟩
theorem Bnd.of {s:Bool} {m:Nat} {e:Int} {b:Nat} (h:LeP m e b) (hb:b<=1022):Bnd (some (FloatKind.f64.encode (.number s m e))) b:=by
 obtain⟨m',e',h1,h2,_⟩:=qJw (s:=s) h hb
 exact⟨_,s,m',e',rfl,FloatKind.f64.format.write_lt _,h1,h2⟩
theorem Bnd.narrow {x:ON} {b:Nat} (h:Bnd x b) (hb:b<=126):∃ y,f2f .f64 x .f32=some y/\fOk .f32 y:=by
 obtain⟨w,s,m,e,rfl,h2,h3,h4⟩:=h
 have hf:=qJX (s:=s) (h4.mono hb)
 refine⟨some (FloatKind.f32.encode (.number s m e)),?_,?_⟩
 ·show (floatToFloatBits .f64 w .f32).map some=_
  unfold floatToFloatBits
  rw [if_neg (by decide),h3]
  simp only []
  rw [hf];rfl
 ·intro c hc
  cases hc
  exact⟨FloatKind.f32.format.write_lt _,(vA (yY .f32 (d:=.number _ _ _) rfl)).2⟩
theorem LeP.prod {m n:Nat} {i j:Int} {a b:Nat} (h:LeP m i a) (k:LeP n j b):LeP (m * n) (i+j) (a+b):=by
 have h1:=h (-i).toNat om
 have k1:=k (-j).toNat om
 refine qDX (K:=(-i).toNat+(-j).toNat) om ?_
 unfold V at *
 have e1:(i+j+(((-i).toNat+(-j).toNat:Nat):Int)).toNat=(i+((-i).toNat:Int)).toNat+(j+((-j).toNat:Int)).toNat:=by omega
 rw [e1,Nat.pow_add,show m * n * (2^(i+((-i).toNat:Int)).toNat * 2^(j+((-j).toNat:Int)).toNat)=(m * 2^(i+((-i).toNat:Int)).toNat) * (n * 2^(j+((-j).toNat:Int)).toNat) by
  rw [Nat.mul_mul_mul_comm]]
 refine Nat.le_trans (Nat.mul_le_mul h1 k1) ?_
 rw [<- Nat.pow_add]
 exact Nat.pow_le_pow_right (by decide) om
theorem Bnd.mul {x y:ON} {a b:Nat} (h:Bnd x a) (k:Bnd y b) (hab:a+b<=1022):Bnd (fop .mul .f64 x y) (a+b):=by
 obtain⟨w,s,m,i,rfl,h2,h3,h4⟩:=h
 obtain⟨v,t,n,j,rfl,k2,k3,k4⟩:=k
 have:fop .mul .f64 (some w) (some v)=some (FloatKind.f64.encode (.number (s ^^ t) (m * n) (i+j))):=by
  show ((Format.read _ w).product (Format.read _ v)).map _=_
  rw [show Format.read FloatKind.f64.format w=.number s m i from h3,show Format.read FloatKind.f64.format v=.number t n j from k3]
  rfl
 rw [this]
 exact Bnd.of (h4.prod k4) hab
theorem qCx (s:Bool) (m k:Nat):(signed s m k).natAbs=m * 2^k:=by
  unfold signed
  cases s
  · exact(Int.natAbs_natCast _).trans (Nat.shiftLeft_eq _ _)
  · exact(Int.natAbs_neg _).trans ((Int.natAbs_natCast _).trans (Nat.shiftLeft_eq _ _))
theorem LeP.summ {s t:Bool} {m n:Nat} {i j:Int} {a b c:Nat} (h:LeP m i a) (k:LeP n j b) (ha:a < c) (hb:b < c):LeP (signed s m (i - min i j).toNat+signed t n (j - min i j).toNat).natAbs (min i j) c:=by
 obtain⟨K,hK⟩:∃ K:Nat,K=(-i).toNat+(-j).toNat:=⟨_,rfl⟩
 have h1:=h K om
 have k1:=k K om
 refine qDX (K:=K) om ?_
 unfold V at *
 have e:=Int.natAbs_add_le (signed s m (i - min i j).toNat) (signed t n (j - min i j).toNat)
 rw [qCx,qCx] at e
 refine Nat.le_trans (Nat.mul_le_mul_right _ e) ?_
 rw [Nat.add_mul,Nat.mul_assoc,Nat.mul_assoc,<- Nat.pow_add,<- Nat.pow_add,show (i - min i j).toNat+(min i j+(K:Int)).toNat=(i+K).toNat by omega,show (j - min i j).toNat+(min i j+(K:Int)).toNat=(j+K).toNat by omega]
 have p1:2^(a+K)<=2^(c - 1+K):=Nat.pow_le_pow_right (by decide) om
 have p2:2^(b+K)<=2^(c - 1+K):=Nat.pow_le_pow_right (by decide) om
 have p3:2^(c+K)=2^(c - 1+K) * 2:=by rw [<- Nat.pow_succ];congr 1;omega
 omega
theorem Bnd.sub {x y:ON} {a b c:Nat} (h:Bnd x a) (k:Bnd y b) (ha:a < c) (hb:b < c) (hc:c<=1022):Bnd (fop .sub .f64 x y) c:=by
 obtain⟨w,s,m,i,rfl,h2,h3,h4⟩:=h
 obtain⟨v,t,n,j,rfl,k2,k3,k4⟩:=k
 have:fop .sub .f64 (some w) (some v)=some (FloatKind.f64.encode (.number (if signed s m (i - min i j).toNat+signed (!t) n (j - min i j).toNat=0 then s && !t else signed s m (i - min i j).toNat+signed (!t) n (j - min i j).toNat < 0) (signed s m (i - min i j).toNat+signed (!t) n (j - min i j).toNat).natAbs (min i j))):=by
  show ((Format.read _ w).sum (Format.read _ v).opposite).map _=_
  rw [show Format.read FloatKind.f64.format w=.number s m i from h3,show Format.read FloatKind.f64.format v=.number t n j from k3]
  rfl
 rw [this]
 exact Bnd.of (h4.summ k4 ha hb) hc
theorem Bnd.add {x y:ON} {a b c:Nat} (h:Bnd x a) (k:Bnd y b) (ha:a < c) (hb:b < c) (hc:c<=1022):Bnd (fop .add .f64 x y) c:=by
 obtain⟨w,s,m,i,rfl,h2,h3,h4⟩:=h
 obtain⟨v,t,n,j,rfl,k2,k3,k4⟩:=k
 have:fop .add .f64 (some w) (some v)=some (FloatKind.f64.encode (.number (if signed s m (i - min i j).toNat+signed t n (j - min i j).toNat=0 then s && t else signed s m (i - min i j).toNat+signed t n (j - min i j).toNat < 0) (signed s m (i - min i j).toNat+signed t n (j - min i j).toNat).natAbs (min i j))):=by
  show ((Format.read _ w).sum (Format.read _ v)).map _=_
  rw [show Format.read FloatKind.f64.format w=.number s m i from h3,show Format.read FloatKind.f64.format v=.number t n j from k3]
  rfl
 rw [this]
 exact Bnd.of (h4.summ k4 ha hb) hc
theorem Bnd.quo {x:ON} {a v n:Nat} {t:Bool} {j:Int} (h:Bnd x a) (k3:FloatKind.f64.decode v=.number t n j) (hn:n ≠ 0) (h1:∀ K:Nat,0<=j+K->2^K<=n * 2^(j+K).toNat) (ha:a+1<=1022):Bnd (fop .quo .f64 x (some v)) (a+1):=by
 obtain⟨w,s,m,i,rfl,h2,h3,h4⟩:=h
 obtain⟨more,hmore⟩:∃ more,more=54+n.log2 - m.log2:=⟨_,rfl⟩
 have:fop .quo .f64 (some w) (some v)=some (FloatKind.f64.encode (.number (s ^^ t) (2 * (m <<< more / n)+(m <<< more % n != 0).toNat) (i - j - more - 1))):=by
  show ((Format.read _ w).quotient _ (Format.read _ v)).map _=_
  rw [show Format.read FloatKind.f64.format w=.number s m i from h3,show Format.read FloatKind.f64.format v=.number t n j from k3]
  show (if n=0 then _ else _:Option Datum).map _=_
  rw [if_neg hn,hmore]
  rfl
 rw [this]
 refine Bnd.of ?_ ha
 obtain⟨K1,hK1⟩:∃ K1:Nat,K1=(-(i - j - more - 1)).toNat:=⟨_,rfl⟩
 obtain⟨K2,hK2⟩:∃ K2:Nat,K2=(-j).toNat+(-(i - more - 1)).toNat+(-i).toNat:=⟨_,rfl⟩
 refine qDX (K:=K1) om ?_
 unfold V
 have hv:=h4 (K1+K2) om
 unfold V at hv
 have hd:=h1 K2 om
 have hdm:=Nat.div_mul_le_self (m <<< more) n
 rw [Nat.shiftLeft_eq] at hdm ⊢
 by_cases h0:m=0
 ·subst h0
  simp
 ·-- at least one whole
  have hq:1<=m * 2^more / n:=by
   rw [Nat.le_div_iff_mul_le (Nat.pos_of_ne_zero hn),Nat.one_mul]
   have e1:n < 2^(n.log2+1):=Nat.lt_log2_self
   have e2:2^m.log2<=m:=Nat.log2_self_le h0
   have e3:2^(n.log2+1)<=2^(m.log2+more):=Nat.pow_le_pow_right (by decide) om
   have e4:2^m.log2 * 2^more<=m * 2^more:=Nat.mul_le_mul_right _ e2
   rw [<- Nat.pow_add] at e4
   omega
  have hb:(m * 2^more % n != 0).toNat<=1:=by cases (m * 2^more % n != 0) <;> decide
  obtain⟨q,hqe⟩:∃ q,q=m * 2^more / n:=⟨_,rfl⟩
  obtain⟨r,hre⟩:∃ r,r=2 * q+(m * 2^more % n != 0).toNat:=⟨_,rfl⟩
  rw [<- hqe] at hq hdm
  rw [<- hqe,<- hre]
  have hr4:r<=4 * q:=by omega
  -- r * n * 2^.. against m
  have key:r * 2^(i - j - more - 1+(K1:Int)).toNat * (n * 2^(j+(K2:Int)).toNat)<=2^(a+1+K1) * 2^K2:=by
   have e1:r * 2^(i - j - more - 1+(K1:Int)).toNat * (n * 2^(j+(K2:Int)).toNat)=(r * n) * 2^(i - more - 1+(K1:Int)+(K2:Int)).toNat:=by
    rw [Nat.mul_mul_mul_comm,<- Nat.pow_add]
    congr 2;omega
   rw [e1]
   have e2:r * n<=4 * (m * 2^more):=by
    refine Nat.le_trans (Nat.mul_le_mul_right n hr4) ?_
    rw [Nat.mul_assoc]
    exact Nat.mul_le_mul_left 4 hdm
   refine Nat.le_trans (Nat.mul_le_mul_right _ e2) ?_
   have e3:4 * (m * 2^more) * 2^(i - more - 1+(K1:Int)+(K2:Int)).toNat=2 * (m * 2^(i+((K1+K2:Nat):Int)).toNat):=by
    have e4:2^more * 2^(i - more - 1+(K1:Int)+(K2:Int)).toNat * 2=2^(i+((K1+K2:Nat):Int)).toNat:=by
     rw [<- Nat.pow_add,<- Nat.pow_succ];congr 1;omega
    rw [<- e4]
    generalize 2^more=A
    generalize 2^(i - more - 1+(K1:Int)+(K2:Int)).toNat=B
    have x1:4 * (m * A) * B=4 * (m * (A * B)):=by rw [Nat.mul_assoc 4,Nat.mul_assoc m]
    have x2:m * (A * B * 2)=m * (A * B) * 2:=(Nat.mul_assoc _ _ _).symm
    rw [x1,x2]
    omega
   rw [e3,<- Nat.pow_add]
   have e5:2^(a+1+K1+K2)=2 * 2^(a+(K1+K2)):=by rw [<- Nat.pow_succ'];congr 1;omega
   rw [e5]
   exact Nat.mul_le_mul_left 2 hv
  have:r * 2^(i - j - more - 1+(K1:Int)).toNat * 2^K2<=2^(a+1+K1) * 2^K2:=Nat.le_trans (Nat.mul_le_mul_left _ hd) key
  exact Nat.le_of_mul_le_mul_right this (Nat.two_pow_pos K2)
end Go.Ab
end
/- Floats: square roots are not too great. -/
section
namespace Go.Ab
open Ieee
end Go.Ab
end
/- Floats: exact writing; integral values; angles without whole turns. -/
section
namespace Go.Ab
open Ieee
theorem qKj {m j:Nat} (h0:m ≠ 0):(m * 2^j).log2=m.log2+j:=by
 have hp:=Nat.two_pow_pos j
 refine(Nat.log2_eq_iff (Nat.mul_ne_zero h0 om)).2 ⟨?_,?_⟩
 ·rw [Nat.pow_add];exact Nat.mul_le_mul_right _ (Nat.log2_self_le h0)
 ·rw [show m.log2+j+1=(m.log2+1)+j by omega,Nat.pow_add]
  exact Nat.mul_lt_mul_of_pos_right Nat.lt_log2_self hp
end Go.Ab
end
/- Floats: sines, cosines, angles without whole turns: values and bounds. -/
section
namespace Go.Ab
open Ieee
theorem qJc {w m:Nat} {s:Bool} {e:Int} (h:FloatKind.f64.decode w=.number s m e):FloatKind.f64.decode (Op.negFloat .f64 w)=.number (!s) m e:=by
 have hx:Op.negFloat .f64 w=w ^^^ 2^63:=rfl
 have hs:Format.signWeight FloatKind.f64.format=2^63:=rfl
 have hr:(w ^^^ 2^63) % 2^63=w % 2^63:=by
  rw [Nat.xor_mod_two_pow,Nat.mod_self,Nat.xor_zero]
 have hb:((w ^^^ 2^63) / 2^63 % 2 == 1) = !(w / 2^63 % 2 == 1):=by
  have t:=Nat.testBit_xor w (2^63) 63
  rw [Nat.testBit_two_pow_self,Nat.testBit_eq_decide_div_mod_eq,Nat.testBit_eq_decide_div_mod_eq,Bool.xor_true] at t
  exact t
 rw [hx]
 have h:Format.read FloatKind.f64.format w=.number s m e:=h
 show Format.read FloatKind.f64.format (w ^^^ 2^63)=_
 unfold Format.read at h ⊢
 simp only [hs] at h ⊢
 rw [hr,hb]
 split at h
 ·rename_i h1;rw [if_pos h1];cases h;rfl
 ·rename_i h1
  rw [if_neg h1]
  split at h
  ·rename_i h2;rw [if_pos h2];cases h;rfl
  ·split at h <;> cases h
theorem Bnd.neg {x:ON} {b:Nat} (h:Bnd x b):Bnd (qLm .f64 x) b:=by
 obtain⟨w,s,m,e,rfl,h2,h3,h4⟩:=h
 exact⟨_,!s,m,e,rfl,Nat.xor_lt_two_pow h2 (by decide),qJc h3,h4⟩
theorem Bnd.lit {w:Nat} {b:Nat} (h:w < 2^64) {s:Bool} {m:Nat} {e:Int} (hd:FloatKind.f64.decode w=.number s m e) {K:Nat} (hK:0<=e+K) (hv:V m e K<=2^(b+K)):Bnd (some w) b:=⟨w,s,m,e,rfl,h,hd,qDX hK hv⟩
def half:ON:=some 4602678819172646912
theorem qDF {w m:Nat} {s:Bool} {e:Int} (h:FloatKind.f32.decode w=.number s m e):m < 2^24 /\ -149<=e/\e<=104:=by
 have hb:Format.binade single=8388608:=rfl
 have hi:Format.infRung single=2139095040:=rfl
 have hl:Format.leastPlace single = -149:=rfl
 have h:Format.read single w=.number s m e:=h
 unfold Format.read at h
 simp only [hb,hl,hi] at h
 split at h
 ·cases h;exact⟨by omega,by omega,by omega⟩
 ·split at h
  ·cases h
   have:=Nat.mod_lt (w % single.signWeight) (show 0 < 8388608 by decide)
   exact⟨by omega,by omega,by omega⟩
  ·split at h <;> cases h
def qJZ (x:ON):Bool:=dT .f32 (fop .sub .f32 x x) (some 0) == some .eq
end Go.Ab
end
/- Floats: absolute values, limits, quotients that are numbers, integers out of floats. -/
section
namespace Go.Ab
open Ieee
theorem cmp_eq {a b:Int}:(some (compare a b) == some Ordering.eq)=decide (a=b):=by
 show (some (compareOfLessAndEq a b) == some Ordering.eq)=_
 unfold compareOfLessAndEq
 by_cases h:a < b
 ·rw [if_pos h,decide_eq_false om];rfl
 ·rw [if_neg h]
  by_cases h2:a=b
  ·rw [if_pos h2,decide_eq_true h2];rfl
  ·rw [if_neg h2,decide_eq_false h2];rfl
end Go.Ab
end
/- Floats: nought and a number; products in either order. -/
section
namespace Go.Ab
open Ieee
theorem qKY {b n:Nat} {j:Int} {t:Bool} (hb:b < 2^32) (h:FloatKind.f32.decode b=.number t n j) (h0:n ≠ 0):FloatKind.f32.encode (.number t (n * 2^(j+149).toNat) (-149))=b:=by
 have hs:Format.signWeight single=2147483648:=rfl
 have hi:Format.infRung single=2139095040:=rfl
 have hbin:Format.binade single=8388608:=rfl
 have hl:Format.leastPlace single = -149:=rfl
 have hf:single.fractionBits=23:=rfl
 have hb:b < 4294967296:=hb
 have hsign:∀ r t,r=b % 2147483648->t=(b / 2147483648 % 2 == 1)->single.word t r=b:=by
  intro r t hr ht
  unfold Format.word
  rw [hs]
  cases t with
  | true =>
   have:b / 2147483648 % 2=1:=by simpa using ht.symm
   rw [if_pos rfl];omega
  | false =>
   have:¬ b / 2147483648 % 2=1:=by simpa using ht.symm
   rw [if_neg (by decide)];omega
 have h:Format.read single b=.number t n j:=h
 show Format.nearest single t (n * 2^(j+149).toNat) (-149)=b
 unfold Format.read at h
 simp only [hs,hi,hbin,hl] at h
 split at h
 ·rename_i h1
  cases h
  rw [show ((-149:Int)+149).toNat=0 from rfl,Nat.pow_zero,Nat.mul_one]
  have hlog:(b % 2147483648).log2<=22:=by
   have:=(Nat.log2_lt (n:=b % 2147483648) (k:=23) h0).2 h1
   omega
  unfold Format.nearest
  rw [if_neg h0]
  simp only [hf,hl,hbin,hi]
  rw [show max ((-149:Int)+((b % 2147483648).log2:Int) - ((23:Nat):Int)) (-149) = -149 by omega]
  rw [show ((-149:Int) - -149).toNat=0 from rfl,Nat.shiftLeft_zero,mU .even _ (Nat.zero_le _) (Nat.mod_one _),Nat.pow_zero,Nat.div_one,Nat.zero_mul,Nat.zero_add,Nat.min_eq_left om]
  exact hsign _ _ rfl rfl
 ·split at h
  ·rename_i h1 h2
   cases h
   obtain⟨r,hr⟩:∃ r,r=b % 2147483648:=⟨_,rfl⟩
   obtain⟨s,hsx⟩:∃ s,s=(b / 2147483648 % 2 == 1):=⟨_,rfl⟩
   rw [<- hr] at h0 h1 h2 ⊢
   rw [<- hsx]
   obtain⟨k,hk⟩:∃ k,r / 8388608=k+1:=⟨r / 8388608 - 1,by omega⟩
   have hn:8388608+r % 8388608 < 16777216:=by omega
   obtain⟨n,hnn⟩:∃ n,n=8388608+r % 8388608:=⟨_,rfl⟩
   rw [<- hnn] at h0 hn ⊢
   rw [show ((-149:Int)+((r / 8388608 - 1:Nat):Int)+149).toNat=k by omega]
   have hlog:n.log2=23:=by
    have a1:=(Nat.log2_lt (n:=n) (k:=24) h0).2 om
    have a2:=(Nat.le_log2 (n:=n) (k:=23) h0).2 om
    omega
   have hl2:(n * 2^k).log2=23+k:=by rw [qKj h0,hlog]
   have hne:n * 2^k ≠ 0:=Nat.mul_ne_zero h0 (by have:=Nat.two_pow_pos k;omega)
   unfold Format.nearest
   rw [if_neg hne]
   simp only [hf,hl,hbin,hi,hl2]
   rw [show max ((-149:Int)+((23+k:Nat):Int) - ((23:Nat):Int)) (-149) = -149+k by omega]
   rw [show ((-149:Int) - (-149+(k:Int))).toNat=0 by omega,Nat.shiftLeft_zero,show (-149+(k:Int) - -149).toNat=k by omega]
   rw [mU .even _ (by rw [hl2];omega) (Nat.mul_mod_left _ _),Nat.mul_div_cancel _ (Nat.two_pow_pos k)]
   have he:k * 8388608+n=r:=by omega
   rw [he,Nat.min_eq_left om]
   exact hsign _ _ hr hsx
  ·split at h <;> cases h
end Go.Ab
end
/- Floats: signs; numbers that are equal. -/
section
namespace Go.Ab
open Ieee
theorem qEI {k:FloatKind} {x y:ON} {o:Ordering} (h:dT k x y=some o):x.isSome=true/\y.isSome=true:=by
 cases x <;> cases y <;> first | (cases h;done) | exact⟨rfl,rfl⟩
theorem qCK {x:ON} (hx:fOk .f32 x) (hs:x.isSome=true):(dT .f32 x x == some .eq)=true:=by
 cases x with
 | none=>cases hs
 | some w=>show ((FloatKind.f32.decode w).order (FloatKind.f32.decode w) == some .eq)=true;rw [qCt (hx w rfl).2];rfl
theorem qGu {s t:Bool} {A B:Nat} (h:(if s then -(A:Int) else (A:Int))=(if t then -(B:Int) else (B:Int))):A=B/\(A=0 \/ s=t):=by
  cases s <;> cases t <;> simp at h <;> refine⟨by omega,?_⟩
  · exact .inr rfl
  · exact .inl om
  · exact .inl om
  · exact .inr rfl
theorem qFl {w:Nat} {s:Bool} {m:Nat} {e:Int} (hw:w < 2^32) (hd:FloatKind.f32.decode w=.number s m e) (h0:m=0):w=0 \/ w=2147483648:=by
 have hs:Format.signWeight single=2147483648:=rfl
 have hi:Format.infRung single=2139095040:=rfl
 have hb:Format.binade single=8388608:=rfl
 have hl:Format.leastPlace single = -149:=rfl
 have hd:Format.read single w=.number s m e:=hd
 have hw:w < 4294967296:=hw
 unfold Format.read at hd
 simp only [hs,hi,hb,hl] at hd
 split at hd
 ·cases hd;omega
 ·split at hd
  ·cases hd;omega
  ·split at hd <;> cases hd
theorem qFr {w:Nat} {s:Bool} (hw:w < 2^32) (hd:FloatKind.f32.decode w=.infinity s):w=if s then 4286578688 else 2139095040:=by
 have hs:Format.signWeight single=2147483648:=rfl
 have hi:Format.infRung single=2139095040:=rfl
 have hb:Format.binade single=8388608:=rfl
 have hl:Format.leastPlace single = -149:=rfl
 have hd:Format.read single w=.infinity s:=hd
 have hw:w < 4294967296:=hw
 unfold Format.read at hd
 simp only [hs,hi,hb,hl] at hd
 split at hd
 ·cases hd
 ·split at hd
  ·cases hd
  ·split at hd
   ·rename_i h1 h2 h3
    injection hd with e1
    rw [<- e1]
    by_cases h9:w / 2147483648 % 2=1
    ·rw [h9];show w=4286578688;omega
    ·rw [show (w / 2147483648 % 2 == 1)=false by simpa using h9];show w=2139095040;omega
   ·cases hd
theorem qIL {u v:Nat} (hu:fOk .f32 (some u)) (hv:fOk .f32 (some v)) (h:(dT .f32 (some u) (some v) == some .eq)=true):u=v \/ (u=0/\v=2147483648) \/ (u=2147483648/\v=0):=by
 obtain⟨u1,u2⟩:=hu u rfl
 obtain⟨v1,v2⟩:=hv v rfl
 have h:((FloatKind.f32.decode u).order (FloatKind.f32.decode v) == some .eq)=true:=h
 cases hd:FloatKind.f32.decode u with
 | nan s t=>rw [hd] at u2;cases u2
 | infinity s =>
  cases kd:FloatKind.f32.decode v with
  | nan s t=>rw [kd] at v2;cases v2
  | number t n j=>rw [hd,kd] at h;cases s <;> cases h
  | infinity t =>
   rw [hd,kd] at h
   left
   have a:=qFr u1 hd
   have b:=qFr v1 kd
   cases s <;> cases t <;> first | (cases h;done) | (rw [a,b])
 | number s m e =>
  cases kd:FloatKind.f32.decode v with
  | nan s t=>rw [kd] at v2;cases v2
  | infinity t=>rw [hd,kd] at h;cases t <;> cases h
  | number t n j =>
   rw [hd,kd] at h
   have h:(some (compare (signed s m (e - min e j).toNat) (signed t n (j - min e j).toNat)) == some Ordering.eq)=true:=h
   rw [cmp_eq] at h
   have h:=of_decide_eq_true h
   unfold signed at h
   obtain⟨h1,h2⟩:=qGu h
   obtain⟨_,r2,_⟩:=qDF hd
   obtain⟨_,q2,_⟩:=qDF kd
   rw [Nat.shiftLeft_eq,Nat.shiftLeft_eq] at h1
   have hz:m * 2^(e+149).toNat=n * 2^(j+149).toNat:=by
    rw [show (e+149).toNat=(e - min e j).toNat+(min e j+149).toNat by omega,show (j+149).toNat=(j - min e j).toNat+(min e j+149).toNat by omega,Nat.pow_add,Nat.pow_add,<- Nat.mul_assoc,<- Nat.mul_assoc,h1]
   by_cases m0:m=0
   ·have n0:n=0:=by
     subst m0
     have hp:=Nat.two_pow_pos (j+149).toNat
     rw [Nat.zero_mul] at hz
     rcases Nat.mul_eq_zero.1 hz.symm with h9 | h9
     ·exact h9
     ·omega
    have a:=qFl u1 hd m0
    have b:=qFl v1 kd n0
    omega
   ·have n0:n ≠ 0:=by
     rintro rfl
     have hp:=Nat.two_pow_pos (e+149).toNat
     rw [Nat.zero_mul] at hz
     rcases Nat.mul_eq_zero.1 hz with h9 | h9
     ·exact m0 h9
     ·omega
    have hst:s=t:=by
     rcases h2 with h2 | h2
     ·exfalso
      rw [Nat.shiftLeft_eq] at h2
      have hp:=Nat.two_pow_pos (e - min e j).toNat
      rcases Nat.mul_eq_zero.1 h2 with h9 | h9
      ·exact m0 h9
      ·omega
     ·exact h2
    left
    rw [<- qKY u1 hd m0,<- qKY v1 kd n0,hz,hst]
end Go.Ab
end
/- Remainders by words that are not literals. -/
section
namespace Go.Ab
theorem qKs {P:Program} {o:Pt} {d:ON} {b:BinOp} {x y:Opd} (ho:o=.ops (⟨d,.bin b x y,none⟩ :: bV o) (qAW o)) {Q:PK} {E:Env} {H:AHeap} {r:AV} (ha:zS E H.get (.bin b x y)=some r)
  (h:Res P (.ops (bV o) (qAW o)) Q (E.put d r) H):Res P o Q E H:=by
 rw [ho]
 simp only [Res,vE,mE,ha]
 exact h
end Go.Ab
end
/- Slices without their first element; outcomes that are alike. -/
section
namespace Go.Ab
end Go.Ab
end
/- Distances in a graph: breadth first, and by rounds over the links. -/
section
namespace Go.Ab
def conn (e:Nat × Nat) (u v:Nat):Prop:=(e.1=u/\e.2=v) \/ (e.1=v/\e.2=u)
structure BInv (es:LN) (n a:Nat) (fl:LN):Prop where
  nd:(fl.map Prod.fst).Nodup
  lt:∀ p ∈ fl,p.1 < n
  h0:fl[0]? = some (a,0)
  z:∀ p ∈ fl,p.2=0->p.1=a
  srt:∀ (j j' : Nat) (p q:Nat × Nat),j<=j'->fl[j]? = some p->fl[j']? = some q->p.2<=q.2
  le:∀ (j:Nat) (p:Nat × Nat),fl[j]? = some p->p.2<=j
  p1:∀ p ∈ fl,∀ d,p.2=d+1 -> ∃ u,(u,d) ∈ fl /\ ∃ e ∈ es,conn e u p.1
theorem qLc {α:Type} {l:List α} {q:α} {j:Nat} (h:l[j]? = some q):j < l.length:=by
  rcases Nat.lt_or_ge j l.length with hj | hj
  · exact hj
  · rw [List.getElem?_eq_none hj] at h;cases h
/-! rounds -/
/-! lists of words -/
end Go.Ab
end
/- Maps of words to words; queues: slices that fill their rows from some place on. -/
section
namespace Go.Ab
def mpT (fl:LN):List (AV × AV):=fl.map fun p=>(.int .i64 (p.1:Int),.int .i64 (p.2:Int))
inductive MpF (H:AHeap) (fl:LN):AV->Prop where
  | mk {l:Nat} (hg:H.get l=some (.mp (mpT fl))):MpF H fl (.slice l 0 0 0 1)
inductive SlV (H:AHeap) (sz:Nat) (ms:LL):AV->Prop where
  | sl {l o n cap:Nat} {pre:List AV} (hg:H.get l=some (.row (pre ++ ms.flatten) true)) (hn:ms.length=n) (hc:n<=cap) (ho:pre.length=o):SlV H sz ms (.slice l o n cap sz)
section
variable {H H' : AHeap} {sz:Nat} {ms:LL} {S:AV} {fl:LN}
theorem MpF.grew (g:Grew H H') (h:MpF H fl S):MpF H' fl S:=by
 cases h with
 | mk hg=>exact .mk (g.at hg)
theorem MpF.lt (h:MpF H fl S):∀ l,AtS S l->l < H.next:=by
 intro l hl
 cases h with
 | mk hg=>rw [atS hl];exact H.lt_of_get hg
theorem MpF.only {S1:AV} (h:MpF H fl S) (k:OnlyS S1 H H') (hn:ApartS S S1):MpF H' fl S:=by
 cases h with
 | mk hg=>exact .mk (k.at hg ⟨hn.ne _ ⟨_,_,_,_,rfl⟩⟩)
theorem MpF.apart_new (h:MpF H fl S) {l:Nat} (hl:H.next<=l):ApartL S l:=⟨fun ha=>Nat.lt_irrefl _ (Nat.lt_of_lt_of_le (h.lt l ha) hl)⟩
theorem MpF.keep {f:Nat} {ws:List Win} (h:MpF H fl S) (hk:Kept f (zQ ws) H H') (hn:qKM S (ws.drop f)):MpF H' fl S:=by
 cases h with
 | @mk l hg =>
  refine .mk (qBs hk hg ?_)
  generalize ws.drop f=us at hn
  induction us with
  | nil=>trivial
  | cons w us ih=>exact⟨⟨fun e=>hn.1.ne ⟨_,_,_,_,by rw [e]⟩⟩,ih hn.2⟩
theorem SlV.grew (g:Grew H H') (h:SlV H sz ms S):SlV H' sz ms S:=by
 cases h with
 | sl hg hn hc ho=>exact .sl (g.at hg) hn hc ho
theorem SlV.lt (h:SlV H sz ms S):∀ l,AtS S l->l < H.next:=by
 intro l hl
 cases h with
 | sl hg=>rw [atS hl];exact H.lt_of_get hg
theorem SlV.only {S1:AV} (h:SlV H sz ms S) (k:OnlyS S1 H H') (hn:ApartS S S1):SlV H' sz ms S:=by
 cases h with
 | sl hg h1 h2 h3=>exact .sl (k.at hg ⟨hn.ne _ ⟨_,_,_,_,rfl⟩⟩) h1 h2 h3
theorem SlV.apart_new (h:SlV H sz ms S) {l:Nat} (hl:H.next<=l):ApartL S l:=⟨fun ha=>Nat.lt_irrefl _ (Nat.lt_of_lt_of_le (h.lt l ha) hl)⟩
theorem SlV.one (h:SlV H sz ms S):S.one=true:=by cases h;rfl
theorem SlV.keep {f:Nat} {ws:List Win} (h:SlV H sz ms S) (hk:Kept f (zQ ws) H H') (hn:qKM S (ws.drop f)):SlV H' sz ms S:=by
 cases h with
 | @sl l o n cap pre hg h1 h2 h3 =>
  refine .sl (qBs hk hg ?_) h1 h2 h3
  generalize ws.drop f=us at hn
  induction us with
  | nil=>trivial
  | cons w us ih=>exact⟨⟨fun e=>hn.1.ne ⟨_,_,_,_,by rw [e]⟩⟩,ih hn.2⟩
end
section
variable {E:Env} {H:AHeap} {t y l v d:Nat} {fl:LN} {z:AV}
end
/-! the queue of a search: what has not been looked at -/
def qT (fl:LN) (k:Nat):LL:=(fl.drop k).map fun p=>[.int .i64 (p.1:Int)]
theorem qHN {fl:LN} {k:Nat} {p:Nat × Nat} (h:fl[k]? = some p):qT fl k=[.int .i64 (p.1:Int)] :: qT fl (k+1):=by
 have hk:=qLc h
 unfold qT
 rw [List.drop_eq_getElem_cons hk]
 rw [List.getElem?_eq_getElem hk] at h
 cases h
 rfl
theorem SlV.head {H:AHeap} {S:AV} {fl:LN} {k:Nat} {p:Nat × Nat} (h:SlV H 1 (qT fl k) S) (hp:fl[k]? = some p):∃ l o n cap pre post,S=.slice l o n cap 1/\H.get l=some (.row (pre ++ ([.int .i64 (p.1:Int)] ++ post)) true)/\pre.length=o/\0 < n:=by
 rw [qHN hp] at h
 cases h with
 | @sl l o n cap pre hg hn hc ho=>exact⟨l,o,n,cap,pre,_,rfl,hg,ho,by subst hn;simp⟩
theorem SlV.tail {H:AHeap} {S:AV} {fl:LN} {k:Nat} {p:Nat × Nat} (h:SlV H 1 (qT fl k) S) (hp:fl[k]? = some p):∃ V,SlV H 1 (qT fl (k+1)) V/\(∀ l,AtS V l->AtS S l) /\ ∀ (E:Env) get,zS E get (.slSl 1 (.const S) (some (.const (.int .i64 1))) none none)=some V:=by
 rw [qHN hp] at h
 cases h with
 | @sl l o n cap pre hg hn hc ho =>
  subst hn
  refine⟨.slice l (o+1 * 1) (([AV.int .i64 (p.1:Int)] :: qT fl (k+1)).length - 1) (cap - 1) 1,.sl (pre:=pre ++ [.int .i64 (p.1:Int)]) (by rw [hg];simp) (by simp) (by simp at hc ⊢;omega) (by simp [ho]),fun l' hl'=>?_,fun E get=>?_⟩
  ·rw [atS hl'];exact⟨_,_,_,_,rfl⟩
  ·simp only [zS,Opd.ev,Option.map_some,Option.map_none]
   rw [if_pos trivial]
   have:qGK ([AV.int .i64 (p.1:Int)] :: qT fl (k+1)).length cap (some (.int .i64 1)) none none=some (1,([AV.int .i64 (p.1:Int)] :: qT fl (k+1)).length,cap):=by
    simp only [List.length_cons] at hc
    simp only [qGK,bnd,List.length_cons]
    rw [if_pos ⟨by omega,by simp;omega⟩]
    simp [hc]
   rw [this]
theorem SlV.len {H:AHeap} {S:AV} {ms:LL} {sz:Nat} (h:SlV H sz ms S):∀ (E:Env) get,zS E get (.len (.const S))=some (.int .i64 (ms.length:Int)):=by
 cases h with
 | sl _ hn _ _=>subst hn;intro E get;rfl
end Go.Ab
end
/- Room behind a row; zeros appended; copies; whether two slices lie over each other. -/
section
namespace Go.Ab
section
variable {P:Program} {μ:Mu} {F:Nat->Prop} {H:AHeap} {w:World}
end
section
variable {P:Program} {o:Pt} {d:ON} {Q:PK} {E:Env} {H:AHeap}
end
end Go.Ab
namespace Go.Ab
section
variable {F R Z m:List AV} {n i z:Nat}
end
theorem SlF.row {H:AHeap} {z:Nat} {ms:LL} {l o n c:Nat} (h:SlF H z ms (.slice l o n c z)):H.get l=some (.row ms.flatten true):=by cases h with | sl hg _ _=>exact hg
theorem FromS.mono {a b:Nat} {S S' : AV} (h:FromS b S S') (hab:a<=b):FromS a S S':=⟨fun l hl=>(h.at_ l hl).imp (fun x=>Nat.le_trans hab x) id⟩
end Go.Ab
end
/- A row and a slice that change together; parts of lists as sources of appends. -/
section
namespace Go.Ab
abbrev PT (p:Nat):AV:=.slice p 0 0 0 1
theorem Only2.refl (S T:AV) (H:AHeap):Only2 S T H H:=⟨Nat.le_refl _,fun _ _ _ _=>rfl⟩
theorem Only2.trans {S T:AV} {A B C:AHeap} (h:Only2 S T A B) (k:OnlyS T B C):Only2 S T A C:=⟨Nat.le_trans h.next k.next,fun l hl h1 h2=>(k.get l (Nat.lt_of_lt_of_le hl h.next) h2).trans (h.get l hl h1 h2)⟩
def qKF (p:Nat) (H:AHeap):List Win->Prop
 | []=>True
 | w :: ws=>(w.l=p \/ H.next<=w.l)/\qKF p H ws
theorem qKF.get {p:Nat} {H:AHeap}:∀ {ws:List Win},qKF p H ws -> ∀ (j l b:Nat),(zQ ws)[j]? = some (l,b)->l=p \/ H.next<=l
 | [],_,j,l,b,e=>by simp [zQ] at e
 | w :: ws,h,0,l,b,e=>by simp [zQ] at e;rw [<- e.1];exact h.1
 | w :: ws,h,j+1,l,b,e=>by
  simp only [zQ,List.map_cons,List.getElem?_cons_succ] at e
  exact qKF.get h.2 j l b e
theorem qHI {p:Nat} {S:AV} {H H1 H2:AHeap} {f:Nat} {ws:List Win} (hg:Only2 (PT p) S H H1) (hk:Kept f (zQ ws) H1 H2) (hn:qKF p H (ws.drop f)):Only2 (PT p) S H H2:=
 ⟨Nat.le_trans hg.next hk.1,fun l hl h1 h2=>by
  rw [hk.2 l (Nat.lt_of_lt_of_le hl hg.next) fun j b hj e=>?_]
  ·exact hg.get l hl h1 h2
  ·have h:=qKF.get hn (j - f) l b (by
    rw [zQ,List.map_drop,List.getElem?_drop,show f+(j - f)=j by omega];exact e)
   rcases h with h | h
   ·subst h;exact h1 ⟨_,_,_,_,rfl⟩
   ·omega⟩
section
variable {P:Program} {o:Pt} {d:ON} {n:Nat} {x y:Opd} {Q:PK} {E:Env} {H:AHeap} {S:AV} {sz k l cap:Nat} {ms:LL} {m' : List AV}
theorem qFR {rest:List AOper} {K:Env->AHeap->Prop} (hS:SlF H sz ms S) (hE:S=.slice l 0 ms.length cap sz) (hx:x.ev E=.ptr l (k * sz)) (hk:k < ms.length) (hm:∀ m ∈ ms,m.length=sz) (hy:(y.ev E).cells=some m') (hn:m'.length=n) (hz:n=sz) (h1:m'.all AV.one=true)
  (h:∀ H',SlF H' sz (ms.set k m') S->OnlyS S H H'->vE P rest (E.put d .undef) H' K):vE P (⟨d,.store n x y,none⟩ :: rest) E H K:=by
 subst hE
 cases hS with
 | sl hg hn2 hc =>
  have hg' : H.get l=some (.row (ms.flatten ++ []) true):=by simpa using hg
  refine qFf hx hg' hy hn (by rw [hz];exact qHa hm hk []) h1 rfl ?_
  rw [qFm hm hk om,List.append_nil]
  refine h _ ?_ (.of_only ((Only.refl l H).put _))
  exact .sl (qJG hg) (by simp) hc
theorem qH (ho:o=.kids (.cons true ⟨d,.store n x y,none⟩ (.node (kQs o) (qIQ o)) .nil) (qAW o)) (hS:SlF H sz ms S) (hE:S=.slice l 0 ms.length cap sz) (hx:x.ev E=.ptr l (k * sz)) (hk:k < ms.length) (hm:∀ m ∈ ms,m.length=sz) (hy:(y.ev E).cells=some m') (hn:m'.length=n) (hz:n=sz) (h1:m'.all AV.one=true)
  (h:∀ H',SlF H' sz (ms.set k m') S->OnlyS S H H'->Res P (.mixq (kQs o) (qIQ o) (qAW o)) Q (E.put d .undef) H'):Res P o Q E H:=by
 rw [ho]
 refine qHD (qFR hS hE hx hk hm hy hn hz h1 fun H' a b=>?_)
 refine qJy ⟨.inl rfl,?_⟩
 simp only [qDq]
 exact h H' a b
end
structure PartS (H:AHeap) (z:Nat) (ys:LL) (V:AV):Prop where
  one:V.one=true
  src:∀ H',Grew H H'->jX H'.get z V=some (ys.flatten,ys.length)
end Go.Ab
namespace Go.Ab
theorem Sim.cut {F:Nat->Prop} {μ:Mu} {H:AHeap} {w:World} (hs:Sim F μ H w) {l:Nat} {A B:List AV} {wr:Bool} (hg:H.get l=some (.row (A ++ B) wr)):Sim F μ (H.put l (.row A wr)) w:=by
 have hln:l < H.next:=H.lt_of_get hg
 have hget:∀ l',l' ≠ l->(H.put l (.row A wr)).get l'=H.get l':=fun l' h=>by rw [AHeap.put_get,if_neg om]
 have hgets:(H.put l (.row A wr)).get l=some (.row A wr):=by rw [AHeap.put_get,if_pos ⟨rfl,hln⟩]
 have key:∀ l' b',(H.put l (.row A wr)).get l'=some b' -> ∃ b'',H.get l'=some b''/\(b'.wr=true->b''.wr=true):=by
  intro l' b' h'
  by_cases h:l'=l
  ·subst h
   rw [hgets] at h'
   cases h'
   exact⟨_,hg,fun h=>h⟩
  ·rw [hget l' h] at h'
   exact⟨b',h',id⟩
 refine⟨hs.dom,?_,?_,?_,?_,hs.fresh⟩
 ·intro l' li' cs' wr' hg' hm'
  by_cases h:l'=l
  ·subst h
   rw [hgets] at hg'
   cases hg'
   obtain⟨c,e,lo,hi,g1,g2,g3,g4,g5⟩:=hs.row l' li' _ _ hg hm'
   rw [List.length_append] at g3
   refine⟨c,e,lo,hi,g1,g2,by omega,fun i a hi'=>g4 i a ?_,g5⟩
   have hlt:i < A.length:=by
    rcases Nat.lt_or_ge i A.length with h | h
    ·exact h
    ·rw [List.getElem?_eq_none h] at hi';cases hi'
   rw [List.getElem?_append_left hlt];exact hi'
  ·rw [hget l' h] at hg'
   exact hs.row l' li' cs' wr' hg' hm'
 ·intro l' li' es hg' hm'
  by_cases h:l'=l
  ·subst h;rw [hgets] at hg';cases hg'
  ·rw [hget l' h] at hg'
   exact hs.mp l' li' es hg' hm'
 ·intro l1 l2 b1 b2 li1 li2 hne h1 hw h2 hm1 hm2
  obtain⟨c1,k1,k2⟩:=key l1 b1 h1
  obtain⟨c2,k3,_⟩:=key l2 b2 h2
  exact hs.sep l1 l2 c1 c2 li1 li2 hne k1 (k2 hw) k3 hm1 hm2
 ·intro l1 b1 li1 h1 hw hm1
  obtain⟨c1,k1,k2⟩:=key l1 b1 h1
  exact hs.may l1 c1 li1 k1 (k2 hw) hm1
section
variable {P:Program} {o:Pt} {d:ON} {Q:PK} {E:Env} {H:AHeap}
end
end Go.Ab
end
/- Cuts of a walk: a stop between two parts of a function, ways that meet again. -/
section
namespace Go.Ab
def qHZ:ACode->List Fr
 | .seq a b=>.seq a :: qHZ b
 | c=>[.seq c]
def yA:List Fr->List Fr
 | []=>[]
 | .seq c :: fr=>qHZ c ++ yA fr
 | f :: fr=>f :: yA fr
def qMb (fr:List Fr):Pt->Pt
 | .ex e=>.ex e
 | .ops r _=>.ops r fr
 | .mixq r k _=>.mixq r k fr
 | .kids k _=>.kids k fr
 | .code a _=>.code a fr
def qCn:Pt->Pt
 | .code (.seq a b) fr=>.code a (.seq b :: fr)
 | o=>o
def qKq (k:Nat) (o:Pt):Pt:=qMb ((yA (qAW (qCn o))).take k) (qCn o)
def qJf (k:Nat) (o:Pt):List Fr:=(yA (qAW (qCn o))).drop k
theorem qJh {P:Program} {Q:PK} {E:Env} {H:AHeap} {o:Pt} (h:Res P (qCn o) Q E H):Res P o Q E H:=by
 cases o with
 | code a fr=>cases a <;> exact h
 | _=>exact h
theorem pC {P:Program} {Q:PK}:∀ a b:List Fr,zI P (a ++ b) Q=zI P a (zI P b Q)
 | [],_=>rfl
 | .seq c :: a,b=>by show qIa P c (zI P (a ++ b) Q)=_;rw [pC a b];rfl
 | .block id :: a,b=>by show gN id (zI P (a ++ b) Q)=_;rw [pC a b];rfl
 | .loop c :: a,b=>by show tC (zM P (.loop c) (zI P (a ++ b) Q)) (zI P (a ++ b) Q)=_;rw [pC a b];rfl
theorem qJm {P:Program} {a b:ACode} {Q:PK}:qIa P (.seq a b) Q=qIa P a (qIa P b Q):=by
 funext e E H
 cases e <;> rfl
theorem qBt {P:Program} {Q:PK}:∀ c:ACode,zI P (qHZ c) Q=qIa P c Q
 | .seq a b=>by show qIa P a (zI P (qHZ b) Q)=_;rw [qBt b,qJm]
 | .skip | .run _ | .mix _ | .cond _ _ _ | .block _ _ | .loop _ | .exit _ | .ret=>rfl
theorem pQ {P:Program} {Q:PK}:∀ fr:List Fr,zI P (yA fr) Q=zI P fr Q
 | []=>rfl
 | .seq c :: fr=>by show zI P (qHZ c ++ yA fr) Q=_;rw [pC,pQ fr,qBt];rfl
 | .block id :: fr=>by show gN id (zI P (yA fr) Q)=_;rw [pQ fr];rfl
 | .loop c :: fr=>by show tC (zM P (.loop c) (zI P (yA fr) Q)) (zI P (yA fr) Q)=_;rw [pQ fr];rfl
theorem qEm {P:Program} {o:Pt} {Q:PK} {E:Env} {H:AHeap} (k:Nat) (ho:(match o with | .ex _=>false | _=>true)=true) (h:Res P (qKq k o) (zI P (qJf k o) Q) E H):Res P o Q E H:=by
 have e:∀ fr,zI P ((yA fr).take k) (zI P ((yA fr).drop k) Q)=zI P fr Q:=fun fr=>by rw [<- pC,List.take_append_drop,pQ]
 refine qJh ?_
 have ho:(match qCn o with | .ex _=>false | _=>true)=true:=by
  cases o with
  | code a fr=>cases a <;> rfl
  | _=>exact ho
 unfold qKq qJf at h
 generalize qCn o=o at h ho ⊢
 cases o with
 | ex _=>cases ho
 | ops r fr=>have h:vE P r E H (zI P ((yA fr).take k) (zI P ((yA fr).drop k) Q) .normal):=h;rw [e] at h;exact h
 | mixq r ks fr=>have h:vE P r E H (qGp P ks (zI P ((yA fr).take k) (zI P ((yA fr).drop k) Q) .normal)):=h;rw [e] at h;exact h
 | kids ks fr=>have h:qGp P ks (zI P ((yA fr).take k) (zI P ((yA fr).drop k) Q) .normal) E H:=h;rw [e] at h;exact h
 | code a fr=>have h:zM P a (zI P ((yA fr).take k) (zI P ((yA fr).drop k) Q)) E H:=h;rw [e] at h;exact h
theorem qLt {P:Program} {o:Pt} {fr:List Fr} {Q:PK} {E:Env} {H:AHeap} (ho:o=.ex .normal) (h:Res P (.ops [] fr) Q E H):Res P o (zI P fr Q) E H:=by rw [ho];exact h
def qKb (R:Env->AHeap->Prop) (Q:PK):PK:=fun e E H=>match e with
 | .normal=>R E H
 | e=>Q e E H
theorem jV {P:Program} {Q Q' : PK} (h:∀ e E H,Q e E H->Q' e E H):∀ (fr:List Fr) (e:AExit) (E:Env) (H:AHeap),zI P fr Q e E H->zI P fr Q' e E H
 | [],e,E,H,q=>h e E H q
 | .seq c :: fr,e,E,H,q=>by
  cases e with
  | normal=>exact xM (jV h fr) q
  | exit i=>exact jV h fr _ E H q
  | ret=>exact jV h fr _ E H q
 | .block id :: fr,e,E,H,q=>by
  cases e with
  | normal=>exact jV h fr _ E H q
  | exit i =>
   have q:gN id (zI P fr Q) (.exit i) E H:=q
   show gN id (zI P fr Q') (.exit i) E H
   have q:(if i=id then zI P fr Q .normal E H else zI P fr Q (.exit i) E H):=q
   show (if i=id then zI P fr Q' .normal E H else zI P fr Q' (.exit i) E H)
   split at q
   ·rename_i h1;rw [if_pos h1];exact jV h fr _ E H q
   ·rename_i h1;rw [if_neg h1];exact jV h fr _ E H q
  | ret=>exact jV h fr _ E H q
 | .loop c :: fr,e,E,H,q=>by
  cases e with
  | normal=>exact xM (jV h fr) q
  | exit i=>exact jV h fr _ E H q
  | ret=>exact jV h fr _ E H q
theorem qEc {P:Program} {ks:AKids} {K K' : Env->AHeap->Prop} (hk:∀ E H,K E H->K' E H) {E:Env} {H:AHeap} (h:qGp P ks K E H):qGp P ks K' E H:=by
 exact⟨fun e=>hk _ _ (h.1 e),cH hk h.2⟩
theorem qJi {P:Program} {o:Pt} {Q Q' : PK} {E:Env} {H:AHeap} (h:∀ e E H,Q e E H->Q' e E H) (r:Res P o Q E H):Res P o Q' E H:=by
 cases o with
 | ex e=>exact h _ _ _ r
 | ops rest fr=>exact wW (jV h fr .normal) r
 | mixq rest ks fr=>exact wW (fun E H q=>qEc (jV h fr .normal) q) r
 | kids ks fr=>exact qEc (jV h fr .normal) r
 | code a fr=>exact xM (jV h fr) r
theorem gI {P:Program} {o:Pt} {Q:PK} {E:Env} {H:AHeap} (k:Nat) (R:Env->AHeap->Prop) (ho:(match o with | .ex _=>false | _=>true)=true)
  (h1:Res P (qKq k o) (qKb R (zI P (qJf k o) Q)) E H) (h2:∀ E' H',R E' H'->Res P (.ops [] (qJf k o)) Q E' H'):Res P o Q E H:=by
 refine qEm k ho (qJi ?_ h1)
 intro e E' H' q
 cases e with
 | normal=>exact h2 E' H' q
 | exit i=>exact q
 | ret=>exact q
theorem qZ {P:Program} {o:Pt} {R:Env->AHeap->Prop} {Q:PK} {E:Env} {H:AHeap} (ho:o=.ex .normal) (h:R E H):Res P o (qKb R Q) E H:=by rw [ho];exact h
/-! Short words for texts that are printed. -/
def lF:SV:=.lit (.flt .f32 (some 0))
def l0:SV:=.lit (.int .i32 0)
def lN:SV:=.lit .nilslice
theorem kA {k:Kd} {a:AV} (h:yH k a:=by exact⟨_,rfl⟩):yH k a:=h
theorem kF {k:FloatKind} {x:ON} (h:fOk k x):yH (.flt k) (.flt k x):=⟨_,rfl,h⟩
theorem kr {α:Sort _} {a b:α} (h:a=b:=by kernel_rfl):a=b:=h
theorem aS {a b:Nat} (h:Apart a b:=by first | assumption | exact Apart.symm am):Apart a b:=h
theorem sd {ws:List Win} (h:ApL (qLM ws):=by repeat (first | exact .nil | refine .cons (by first | assumption | exact Apart.symm am) ?_)):qAJ ws:=qMs h
theorem wA {H:AHeap} {xs:List AV} {ls:LN} {ws:List Win} (h:WinL H xs ls ws:=by repeat (first | exact .nil | refine .cons (by first | exact wR am am | exact wO am am) ?_)):WinL H xs ls ws:=h
section
variable {c:Cx} {s0 s:St} {vs0 vs:List AV} {ls0 ls:LN} {H0 H:AHeap} {E:Env}
theorem es (st:Step c s0 vs0 ls0 H0 s vs ls H) (hE:zB s.env vs ls E) (sl:List (Nat × AV)) (e:(sl.map fun p=>(jS p.1 s.env).bind (dn c.ρ c.φ s.ns c.ls 100))=sl.map (fun p=>some p.2):=by kernel_rfl):zJ E sl:=qDn st.inn hE e
end
theorem kL {ks:List Kd} {xs:List AV} (h:KdsL ks xs:=by repeat (first | exact .nil | refine .cons (by first | exact⟨_,rfl⟩ | exact⟨_,rfl,by assumption⟩ | exact SlF.one am | exact SlW.one am | exact jD am | assumption) ?_)):KdsL ks xs:=h
section
variable {c:Cx} {s0 s:St} {vs0 vs:List AV} {ls0 ls:LN} {H0 H:AHeap} {E:Env}
theorem rf {P:Program} {o:Pt} {rs:List ARes} {r0:AV} {H1:AHeap} (st:Step c s0 vs0 ls0 H0 s vs ls H) (hE:zB s.env vs ls E) (a:AV) (hg:Grew H1 H) (h:a=r0) (ho:o=.ex .ret:=by kernel_rfl) (hr:(qGv rs s).bind (dn c.ρ c.φ s.ns c.ls 100)=some a:=by kernel_rfl) (hf:a.flat=true:=by rfl):Res P o (qIv rs H1 (fun r' H'=>r'=r0/\H'=H1)) E H:=zF ho (xV st.inn hE (.inr rfl) hr hg hf ⟨h,rfl⟩)
theorem re {P:Program} {o:Pt} {rs:List ARes} {H1:AHeap} {R:VK} (st:Step c s0 vs0 ls0 H0 s vs ls H) (hE:zB s.env vs ls E) (a:AV) (hg:H1.next<=H.next) (h:R a H) (ho:o=.ex .ret:=by kernel_rfl) (hr:(qGv rs s).bind (dn c.ρ c.φ s.ns c.ls 100)=some a:=by kernel_rfl):Res P o (qIv rs H1 R) E H:=zF ho (qS st.inn hE (.inr rfl) hr hg h)
theorem rW (st:Step c s0 vs0 ls0 H0 s vs ls H) (j:Nat) {l:Nat} {ds:List AV} (hj:c.ls[j]? = some (l,0):=by rfl) (e:(jS j s.heap).bind (fun p=>(dnL c.ρ c.φ s.ns c.ls 300 p.1).map fun x=>(x,p.2))=some (ds,true):=by kernel_rfl):H.get l=some (.row ds true):=qHS st.inn j hj e
theorem pn (st:Step c s0 vs0 ls0 H0 s vs ls H) (hE:zB s.env vs ls E) (t j t' j' : Nat) (cs:List SV) {l l' : Nat} (h1:E t=.ptr l 0) (h2:E t'=.ptr l' 0) (he:jS t s.env=some (.ptr j 0):=by kernel_rfl) (he' : jS t' s.env=some (.ptr j' 0):=by kernel_rfl) (hr:jS j s.heap=some (cs,true):=by kernel_rfl) (hj:j ≠ j':=by decide):Apart l l':=⟨qJF st.inn hE t j t' j' he he' hr hj h1 h2⟩
theorem pO (st:Step c s0 vs0 ls0 H0 s vs ls H) (hE:zB s.env vs ls E) (t j:Nat) (ds:List AV) (he:jS t s.env=some (.ptr j 0):=by kernel_rfl) (e:(jS j s.heap).bind (fun p=>(dnL c.ρ c.φ s.ns c.ls 300 p.1).map fun x=>(x,p.2))=some (ds,true):=by kernel_rfl):∃ l,E t=.ptr l 0/\H.get l=some (.row ds true)/\(c.ls.length<=j->c.H.next<=l):=qLr st.inn hE t j he e
end
theorem aL {H:AHeap} {l:Nat} {S S' : AV} {b:HB} (f:FromS H.next S S') (r:H.get l=some b) (h:ApartL S l):ApartL S' l:=f.apartL (H.lt_of_get r) h
theorem oM {k m:Nat} {p:Prop} (n:k<=m->p) (e:Nat.ble k m=true:=by rfl):p:=n (Nat.le_of_ble_eq_true e)
@[simp] def wf (l:Nat) (cs:List SV):Win:=⟨l,0,cs,false⟩
theorem sp' {E:Env} {d:Nat} {r:AV}:∀ {sl:List (Nat × AV)},zJ E sl->sl.all (fun p=>!(Nat.beq d p.1))=true->zJ (E.put (some d) r) sl
 | [],_,_=>.nil
 | (t,a) :: sl,h,hd=>by
  simp only [List.all_cons,Bool.and_eq_true,Bool.not_eq_true'] at hd
  exact .cons (zL hd.1 h.head) (sp' h.tail hd.2)
theorem sp {E:Env} {d:Nat} {r:AV} {sl:List (Nat × AV)} (h:zJ E sl) (hd:sl.all (fun p=>!(Nat.beq d p.1))=true:=by kernel_rfl):zJ (E.put (some d) r) sl:=sp' h hd
theorem sn {E:Env} {r:AV} {sl:List (Nat × AV)} (h:zJ E sl):zJ (E.put none r) sl:=fun t a q=>jK (h t a q)
theorem sc {E:Env} {a b:List (Nat × AV)} (h:zJ E a) (k:zJ E b):zJ E (a ++ b):=fun t v q=>by
  rcases List.mem_append.1 q with q | q
  · exact h t v q
  · exact k t v q
open Ieee
end Go.Ab
end
