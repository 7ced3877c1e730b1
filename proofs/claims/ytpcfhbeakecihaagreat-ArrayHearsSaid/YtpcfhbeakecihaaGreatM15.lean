/- Lemmas. -/
import Derived.Test.YtpcfhbeakecihaaGreatM4
import Derived.Laws.ComplexArith
set_option linter.all false
set_option maxHeartbeats 20000000
set_option maxRecDepth 100000
namespace Go.Proofs.YtpcfhbeakecihaaGreat
def DI (d:Ieee.Datum)(n:Int):Prop:=∃(s:Bool) (m k:Nat),d= .number s m (-(k:Int))∧(if s then -(m:Int)else(m:Int))=n*2 ^ k
def FI (b:Nat)(n:Int):Prop:=DI (Ieee.double.read b) n
theorem Ij (s:Bool){r:Nat}(hr:r<2 ^ 63):(Ieee.double.word s r) / Ieee.double.signWeight % 2=s.toNat∧(Ieee.double.word s r) % Ieee.double.signWeight=r:=by
 have:Ieee.double.signWeight=2 ^ 63:=aE;rw[this];unfold Ieee.Format.word;rw[this]
 cases s
 ·simp only[Bool.false_eq_true,if_false,Bool.toNat_false];omega
 ·simp only[if_true,Bool.toNat_true];omega
theorem Ik (s:Bool){e k:Nat}(he:e≤1074)(h1:2 ^ 52≤k)(h2:k<2 ^ 53):Ieee.double.read (Ieee.double.word s (e*2 ^ 52+k))= .number s k (-1074+(e:Int)):=by
 have hr:e*2 ^ 52+k<2 ^ 63:=aj;obtain⟨a,b⟩:=Ij s hr;have hb:Ieee.double.binade=2 ^ 52:=aE;have hi:Ieee.double.infRung=2047*2 ^ 52:=aE;have hl:Ieee.double.leastPlace= -1074:=aE;have hs:((s.toNat==1):Bool)=s:=by cases s<;>rfl
 unfold Ieee.Format.read;simp only[a,b,hb,hi,hl,hs];rw[if_neg aj,if_pos aj];have h3:(e*2 ^ 52+k) % 2 ^ 52=k - 2 ^ 52:=aj;have h4:(e*2 ^ 52+k) / 2 ^ 52=e+1:=aj;have h5:2 ^ 52+(k - 2 ^ 52)=k:=aj;have h6:e+1 - 1=e:=aj;rw[h3,h4,h5,h6]
theorem Ii (s:Bool):Ieee.double.read (Ieee.double.word s 0)= .number s 0 (-1074):=by cases s<;>decide
theorem log2_lt {N k:Nat}(h:N<2 ^ k)(h0:N≠0):N.log2<k:=(Nat.log2_lt h0).2 h
theorem vO {N k:Nat}(h0:N≠0):(N*2 ^ k).log2=N.log2+k:=by
 have hp:0<2 ^ k:=Nat.two_pow_pos k;have hN:N*2 ^ k≠0:=Nat.mul_ne_zero h0 aj;have h1:=Nat.log2_self_le h0;have h2:=Nat.lt_log2_self (n:=N);refine Nat.le_antisymm ?_ ?_
 ·have:(N*2 ^ k).log2<N.log2+k+1:=log2_lt (by
   rw[show N.log2+k+1=(N.log2+1)+k by omega,Nat.pow_add];exact Nat.mul_lt_mul_of_pos_right h2 hp) hN
  omega
 ·refine(Nat.le_log2 hN).2 ?_;rw[Nat.pow_add];exact Nat.mul_le_mul_right _ h1
theorem yy (s:Bool)(a d:Nat)(h0:a≠0):Ieee.Toward.even.cut s (a*2 ^ d) d=a:=by
 have hp:0<2 ^ d:=Nat.two_pow_pos d;have hd:min d ((a*2 ^ d).log2+2)=d:=by rw[vO h0];omega
 unfold Ieee.Toward.cut;simp only[hd,Nat.one_shiftLeft];have h1:a*2 ^ d / 2 ^ d=a:=Nat.mul_div_cancel _ hp;have h2:a*2 ^ d % 2 ^ d=0:=Nat.mul_mod_left _ _;rw[h1,h2];have h3:(decide (2 ^ d<2*0)||((2 ^ d==2*0)&&(a % 2==1)))=false:=by
  have e1:decide (2 ^ d<2*0)=false:=by simp
  have e2:((2 ^ d==2*0):Bool)=false:=by simp
  rw[e1,e2];rfl
 rw[h3];rfl
theorem xw (s:Bool){N:Nat}(k:Nat)(h0:N≠0)(h:N<2 ^ 53):∃m j:Nat,Ieee.double.read (Ieee.double.nearest s (N*2 ^ k) (-(k:Int)))= .number s m (-(j:Int))∧m=N*2 ^ j:=by
 have hl:Ieee.double.leastPlace= -1074:=aE;have hf:Ieee.double.fractionBits=52:=rfl;have hb:Ieee.double.binade=2 ^ 52:=aE;have hi:Ieee.double.infRung=2047*2 ^ 52:=aE;have acv:N.log2<53:=log2_lt h h0;have hne:N*2 ^ k≠0:=Nat.mul_ne_zero h0 (by have:=Nat.two_pow_pos k;omega);have h1:=Nat.log2_self_le h0;have h2:=Nat.lt_log2_self (n:=N);obtain⟨j,hj⟩:∃j,j=52 - N.log2:=⟨_,rfl⟩;have Rm:2 ^ 52≤N*2 ^ j∧N*2 ^ j<2 ^ 53:=by
  have e1:(2:Nat) ^ 52=2 ^ N.log2*2 ^ j:=by rw[←Nat.pow_add];congr 1;omega
  have e2:(2:Nat) ^ 53=2 ^ (N.log2+1)*2 ^ j:=by rw[←Nat.pow_add];congr 1;omega
  rw[e1,e2];exact⟨Nat.mul_le_mul_right _ h1,Nat.mul_lt_mul_of_pos_right h2 (Nat.two_pow_pos j)⟩
 refine⟨N*2 ^ j,j,?_,rfl⟩;have Y7:max (-(k:Int)+((N*2 ^ k).log2:Nat) - (52:Nat)) (-1074)= -(j:Int):=by
  rw[vO h0];omega
 have hcut:Ieee.Toward.even.cut s ((N*2 ^ k) <<< (-(k:Int) - -(j:Int)).toNat) (-(j:Int) - -(k:Int)).toNat=N*2 ^ j:=by
  by_cases hkj:k≤j
  ·have e1:(-(k:Int) - -(j:Int)).toNat=0∨(-(j:Int) - -(k:Int)).toNat=0:=aj;have e2:(-(j:Int) - -(k:Int)).toNat=0:=aj;have e3:(-(k:Int) - -(j:Int)).toNat=j - k:=aj;rw[e2,e3,Nat.shiftLeft_eq,Nat.mul_assoc,←Nat.pow_add,show k+(j - k)=j by omega];have:=yy s (N*2 ^ j) 0 aj;rw[Nat.pow_zero,Nat.mul_one]at this;exact this
  ·have e2:(-(j:Int) - -(k:Int)).toNat=k - j:=aj;have e3:(-(k:Int) - -(j:Int)).toNat=0:=aj;rw[e2,e3,Nat.shiftLeft_zero,show N*2 ^ k=N*2 ^ j*2 ^ (k - j) by rw[Nat.mul_assoc,←Nat.pow_add];congr 2;omega];exact yy s _ _ aj
 unfold Ieee.Format.nearest;rw[if_neg hne];simp only[hl,hf,hb,hi,Y7,hcut];rw[Nat.min_eq_left aj];have e4:(-(j:Int) - -1074).toNat=1074 - j:=aj;rw[e4,Ik s aj Rm.1 Rm.2]
 congr 1
 omega
theorem oU{P:Prop}(h:P:=by
 simp only[Bool.false_eq_true,if_false]at hv ⊢;have:0≤n:=by
  by_cases Ku:0≤n
  ·exact Ku
  ·exfalso
   have:=Int.mul_neg_of_neg_of_pos (show n<0 by omega) hp;omega
 have e:(n.natAbs:Int)=n:=aj;refine⟨?_,e⟩;have:(m:Int)=((n.natAbs*2 ^ k:Nat):Int):=by rw[KS,e];exact hv
 exact_mod_cast this):P:=h
theorem o6{P:Prop}(h:P:=by
 have e:(n.natAbs:Int)= -n:=aj;refine⟨?_,aj⟩;have:(m:Int)=((n.natAbs*2 ^ k:Nat):Int):=by rw[KS,e,Int.neg_mul];omega
 exact_mod_cast this):P:=h
theorem sM {d:Ieee.Datum}{n:Int}(h:DI d n)(hn:n.natAbs<2 ^ 53):FI (Ieee.double.write d) n:=by
 obtain⟨s,m,k,rfl,hv⟩:=h
 show FI (Ieee.double.nearest s m (-(k:Int))) n
 have hp:(0:Int)<2 ^ k:=Int.pow_pos aE
 by_cases h0:n=0
 ·subst h0;have hm:m=0:=by
   rw[Int.zero_mul]at hv
   cases s<;>simp at hv<;>omega
  subst hm;unfold FI Ieee.Format.nearest;rw[if_pos rfl,Ii];exact⟨s,0,1074,rfl,by rw[Int.zero_mul];cases s<;>rfl⟩
 ·have KS:((n.natAbs*2 ^ k:Nat):Int)=(n.natAbs:Int)*2 ^ k:=by push_cast;rfl
  have hm:m=n.natAbs*2 ^ k∧(if s then -((n.natAbs:Nat):Int)else(n.natAbs:Int))=n:=by
   cases s
   ·exact oU
   ·simp only[if_true]at hv ⊢;have:n<0:=by
     by_cases Ku:0≤n
     ·exfalso
      have:=Int.mul_pos (show 0<n by omega) hp;omega
     ·omega
    exact o6
  obtain⟨hm,QL⟩:=hm;obtain⟨m',j,h1,h2⟩:=xw s k (N:=n.natAbs) aj hn;rw[←hm]at h1;refine⟨s,m',j,h1,?_⟩;have qZ:((n.natAbs*2 ^ j:Nat):Int)=(n.natAbs:Int)*2 ^ j:=by push_cast;rfl
  rw[h2,qZ]
  cases s
  ·simp only[Bool.false_eq_true,if_false]at QL ⊢;rw[QL]
  ·simp only[if_true]at QL ⊢;rw[←Int.neg_mul,QL]
theorem yb (s:Bool)(m u:Nat):Ieee.signed s m u=(if s then -(m:Int)else(m:Int))*2 ^ u:=by
 unfold Ieee.signed;rw[Nat.shiftLeft_eq];have:((m*2 ^ u:Nat):Int)=(m:Int)*2 ^ u:=by push_cast;rfl
 rw[this]
 cases s
 ·rfl
 ·simp only[if_true];rw[Int.neg_mul]
theorem KZ {a b:Ieee.Datum}{x y:Int}(ha:DI a x)(hb:DI b y):∃d,a.sum b=some d∧DI d (x+y):=by
 obtain⟨s,m,i,rfl,hx⟩:=ha;obtain⟨t,n,j,rfl,hy⟩:=hb;obtain⟨K,hK⟩:∃K,K=max i j:=⟨_,rfl⟩;have lN:min (-(i:Int)) (-(j:Int))= -(K:Int):=aj;have e1:(-(i:Int) - -(K:Int)).toNat=K - i:=aj;have e2:(-(j:Int) - -(K:Int)).toNat=K - j:=aj;refine⟨_,rfl,?_⟩;simp only[lN,e1,e2,yb,hx,hy];have h1:x*2 ^ i*2 ^ (K - i)=x*2 ^ K:=by rw[Int.mul_assoc,←Int.pow_add];congr 2;omega
 have h2:y*2 ^ j*2 ^ (K - j)=y*2 ^ K:=by rw[Int.mul_assoc,←Int.pow_add];congr 2;omega
 rw[h1,h2,←Int.add_mul];obtain⟨T,hT⟩:∃T,T=(x+y)*2 ^ K:=⟨_,rfl⟩;rw[←hT];refine⟨_,_,K,rfl,?_⟩;rw[←hT]
 by_cases h0:T=0
 ·rw[if_pos h0,h0];cases (s&&t)<;>rfl
 ·rw[if_neg h0]
  by_cases hn:T<0
  ·simp only[hn,decide_true,if_true];omega
  ·simp only[hn,decide_false,Bool.false_eq_true,if_false];omega
theorem Tz {a:Ieee.Datum}{x:Int}(ha:DI a x):DI a.opposite (-x):=by
 obtain⟨s,m,i,rfl,hx⟩:=ha;refine⟨!s,m,i,rfl,?_⟩;rw[Int.neg_mul,←hx]
 cases s<;>simp
theorem Pp {a b:Ieee.Datum}{x y:Int}(ha:DI a x)(hb:DI b y):∃d,a.product b=some d∧DI d (x*y):=by
 obtain⟨s,m,i,rfl,hx⟩:=ha;obtain⟨t,n,j,rfl,hy⟩:=hb;refine⟨_,rfl,s ^^ t,m*n,i+j,?_,?_⟩
 ·congr 1;omega
 ·have:x*y*2 ^ (i+j)=(x*2 ^ i)*(y*2 ^ j):=by
   rw[Int.pow_add];simp only[Int.mul_assoc,Int.mul_left_comm,Int.mul_comm]
  rw[this,←hx,←hy];have hc:((m*n:Nat):Int)=(m:Int)*n:=by push_cast;rfl
  rw[hc]
  cases s<;>cases t<;>simp[Int.neg_mul,Int.mul_neg]
theorem TV {a b:Nat}{x y:Int}(ha:FI a x)(hb:FI b y)(h:(x+y).natAbs<2 ^ 53):∃r,floatBits .add .f64 a b=some r∧FI r (x+y):=by
 obtain⟨d,h1,h2⟩:=KZ ha hb;exact⟨Ieee.double.write d,congrArg (Option.map Ieee.double.write) h1,sM h2 h⟩
theorem Tv {a b:Nat}{x y:Int}(ha:FI a x)(hb:FI b y)(h:(x - y).natAbs<2 ^ 53):∃r,floatBits .sub .f64 a b=some r∧FI r (x - y):=by
 obtain⟨d,h1,h2⟩:=KZ ha (Tz hb);exact⟨Ieee.double.write d,congrArg (Option.map Ieee.double.write) h1,sM (by rw[Int.sub_eq_add_neg];exact h2) h⟩
theorem zt {a b:Nat}{x y:Int}(ha:FI a x)(hb:FI b y)(h:(x*y).natAbs<2 ^ 53):∃r,floatBits .mul .f64 a b=some r∧FI r (x*y):=by
 obtain⟨d,h1,h2⟩:=Pp ha hb;exact⟨Ieee.double.write d,congrArg (Option.map Ieee.double.write) h1,sM h2 h⟩
theorem sQ (n:Int)(h:n.natAbs<2 ^ 53):FI (floatOfInt .f64 n) n:=by
 refine sM (d:=.number (n<0) n.natAbs 0) ⟨_,_,0,rfl,?_⟩ h;rw[Int.pow_zero,Int.mul_one]
 by_cases hn:n<0
 ·simp only[hn,decide_true,if_true];omega
 ·simp only[hn,decide_false,Bool.false_eq_true,if_false];omega
theorem vF {b:Nat}{n:Int}(hb:FI b n)(h:n.natAbs<2 ^ 53):floatToIntVal .f64 b .i64=some n:=by
 obtain⟨s,m,k,e,hv⟩:=hb;have hm:m=n.natAbs*2 ^ k∧(if s then -((n.natAbs:Nat):Int)else(n.natAbs:Int))=n:=by
  have hp:(0:Int)<2 ^ k:=Int.pow_pos aE;have KS:((n.natAbs*2 ^ k:Nat):Int)=(n.natAbs:Int)*2 ^ k:=by push_cast;rfl
  cases s
  ·exact oU
  ·simp only[if_true]at hv ⊢;have:n≤0:=by
    by_cases Ku:n≤0
    ·exact Ku
    ·exfalso
     have:=Int.mul_pos (show 0<n by omega) hp;omega
   exact o6
 obtain⟨hm,QL⟩:=hm;have hz:Ieee.Toward.zero.cut s (m <<< (-(k:Int)).toNat) (-(-(k:Int))).toNat=n.natAbs:=by
  have e1:(-(k:Int)).toNat=0:=aj;have e2:(-(-(k:Int))).toNat=k:=aj;rw[e1,e2,Nat.shiftLeft_zero,hm];unfold Ieee.Toward.cut;simp only[Nat.one_shiftLeft]
  by_cases h0:n.natAbs=0
  ·rw[h0];simp
  ·rw[vO h0,Nat.min_eq_left aj,Nat.mul_div_cancel _ (Nat.two_pow_pos k)];rfl
 have hi:(Ieee.double.read b).toInt .zero=some n:=by
  rw[e];unfold Ieee.Datum.toInt Ieee.Datum.integral;simp only[hz,yb,Int.pow_zero,Int.mul_one,QL]
 show(match (Ieee.double.read b).toInt .zero with|some n=>if(IntKind.min .i64)≤n∧n≤(IntKind.max .i64)then some n else none|none=>none)=some n
 rw[hi];have h1:IntKind.min .i64= -9223372036854775808:=aE;have h2:IntKind.max .i64=9223372036854775807:=aE;simp only[h1,h2];rw[if_pos aj]
end Go.Proofs.YtpcfhbeakecihaaGreat
