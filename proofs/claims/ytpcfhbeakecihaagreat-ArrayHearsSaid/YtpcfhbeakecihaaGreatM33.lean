/- Lemmas. -/
import Derived.Test.YtpcfhbeakecihaaGreatM9
import Derived.BigQuiet
import Derived.Test.YtpcfhbeakecihaaGreatProg
set_option linter.all false
set_option maxHeartbeats 20000000
set_option maxRecDepth 100000
namespace Go.Proofs.YtpcfhbeakecihaaGreat
open Go.RowKit
section
def T9 (l:List Int)(x:Int)(w:World)(i:Value)(wr:World):Prop:=∃k:Nat,k≤l.length∧i=ah k∧(∀j,j<k→l.getD j 0≠x)∧w=wr
theorem Ll (l:List Int)(x:Int):x∈l↔∃j,j<l.length∧l.getD j 0=x:=by
 rw[List.mem_iff_getElem]
 constructor
 ·rintro⟨j,hj,rfl⟩;exact⟨j,hj,by simp[hj]⟩
 ·rintro⟨j,hj,h⟩;exact⟨j,hj,by simpa [hj] using h⟩
theorem ef (A:Option Addr)(c n:Nat)(l:List Int)(x:Int)(w:World)(ha:eF w (.slice A n c) l)(hn:n≤maxLen):
 Calls Tryz.prog 18 #[.slice A n c,ah x] w fun e w'=>e= .returned (.bool (decide (x∈l)))∧w=w':=by
 obtain rfl:=ha.len;unfold maxLen at hn;have Ha:=ae ha;clear ha
 go_enter Tryz.func18,Tryz.ntmps18
 go_wp2_with fail
 go_loopw [5] (fun i wr=>T9 l x w i wr) (fun i _=>l.length - (intOf i).toNat)
 case atStart=>exact⟨0,aj,rfl,fun j hj=>absurd hj aj,rfl⟩
 case round=>
  obtain⟨k,hk,rfl,hne,rfl⟩:=hrel;have Hne:=ae hne;clear hne
  by_cases aY:k<l.length
  ·obtain⟨g,o,rfl,hc⟩:=Ha.ag aY;have Bm:(k:Int)<l.length:=aj;generalize hy:l.getD k 0=y at *;have Hy:=ae hy;clear hy
   by_cases E0:y=x
   ·subst E0;have hf:decide (y∈l)=true:=decide_eq_true ((Ll l y).2 ⟨k,aY,Hy⟩);have Hf:=ae hf;clear hf;go_wp2_with fail;go_ret;exact⟨by rw[Hf.out];rfl,rfl⟩
   ·have Ny:(y==x)=false:=by simp[E0]
    go_wp2_with fail
    go_roundw
    case rel=>exact⟨k+1,aj,by go_num,fun j hj=>by
     rcases Nat.lt_or_ge j k with h|h
     ·exact Hne j h
     ·obtain rfl:j=k:=aj;rw[Hy.out];exact E0,by trivial⟩
    case measure=>simp[intOf];omega
  ·have hf:decide (x∈l)=false:=decide_eq_false fun h=>by
    obtain⟨j,hj,h⟩:=(Ll l x).1 h;exact Hne j aj h
   have Hf:=ae hf;clear hf;go_wp2_with fail;go_ret;exact⟨by rw[Hf.out];rfl,rfl⟩
end
section
def Qs (la:List Int)(lb:List Int)(w:World)(i:Value)(wr:World):Prop:=∃k:Nat,k≤la.length∧i=ah k∧(∀j,j<k→la.getD j 0=lb.getD j 0)∧∃m,w.drewN m=wr
theorem LK (la lb:List Int)(hl:la.length=lb.length)(h:∀j,j<la.length→la.getD j 0=lb.getD j 0):la=lb:=by
 apply List.ext_getElem hl;intro i h1 h2;have:=h i h1;simpa [List.getD,h1,h2] using this
theorem zY (A B:Option Addr)(ca cb:Nat)(la lb:List Int)(w:World)(ha:eF w (.slice A la.length ca) la)(hb:eF w (.slice B lb.length cb) lb)(h1:la.length≤maxLen)(h2:lb.length≤maxLen):
 Calls Tryz.prog 20 #[.slice A la.length ca,.slice B lb.length cb] w fun e w'=>e= .returned (.bool (decide (la=lb)))∧∃m,w.drewN m=w':=by
 unfold maxLen at h1 h2
 by_cases hl:la.length=lb.length
 ·have UR:((la.length:Int) != (lb.length:Int))=false:=by simp[hl]
  have Hl:=ae hl;have hll:la.length≤lb.length:=aj;clear hl
  go_enter Tryz.func20,Tryz.ntmps20
  go_wp2_with fail
  go_loopw [5] (fun i wr=>Qs la lb w i wr) (fun i _=>la.length - (intOf i).toNat)
  case atStart=>exact⟨0,aj,rfl,fun j hj=>absurd hj aj,0,rfl⟩
  case round=>
   obtain⟨k,hk,rfl,heq,m,rfl⟩:=hrel;have Xa:=ae heq;clear heq
   by_cases aY:k<la.length
   ·obtain⟨g,o,rfl,hc⟩:=ha.ag aY;obtain⟨g',o',rfl,hc'⟩:=hb.ag (show k<lb.length by omega);generalize hx:la.getD k 0=x at *;generalize hy:lb.getD k 0=y at *;have Hx:=ae hx;have Hy:=ae hy;clear hx hy
    by_cases E0:x=y
    ·subst E0;have Bm:(k:Int)<lb.length:=aj;have SP:(k:Int)<la.length:=aj;go_wp2_with fail
     go_quiet (fail)
     go_wp2
     go_roundw
     case rel=>exact⟨k+1,aj,by go_num,fun j hj=>by
      rcases Nat.lt_or_ge j k with h|h
      ·exact Xa j h
      ·obtain rfl:j=k:=aj;rw[Hx.out,Hy.out],_,rfl⟩
     case measure=>simp[intOf];omega
    ·have hne:(x != y)=true:=by simp[E0]
     have Bm:(k:Int)<lb.length:=aj;have SP:(k:Int)<la.length:=aj;have hf:decide (la=lb)=false:=decide_eq_false fun e=>E0 (by rw[←Hx.out,←Hy.out,e])
     have Hf:=ae hf;clear hf E0;go_wp2_with fail
     go_quiet (fail)
     go_wp2;go_ret;exact⟨by rw[Hf.out];rfl,_,(World.drewN_drewN _ _ _).symm⟩
   ·have hf:decide (la=lb)=true:=decide_eq_true (LK la lb Hl fun j hj=>Xa j aj);have Hf:=ae hf;clear hf;go_wp2_with fail;go_ret;exact⟨by rw[Hf.out];rfl,_,rfl⟩
 ·have UR:((la.length:Int) != (lb.length:Int))=true:=by simp;omega
  have hf:decide (la=lb)=false:=decide_eq_false fun e=>hl (by rw[e])
  have Hf:=ae hf;clear hl hf
  go_enter Tryz.func20,Tryz.ntmps20
  go_wp2_with fail;go_ret;exact⟨by rw[Hf.out];rfl,0,rfl⟩
theorem xt (A B:Option Addr)(n m ca cb:Nat)(la lb:List Int)(w:World)(ha:eF w (.slice A n ca) la)(hb:eF w (.slice B m cb) lb)(h1:n≤maxLen)(h2:m≤maxLen):
 Calls Tryz.prog 20 #[.slice A n ca,.slice B m cb] w fun e w'=>e= .returned (.bool (decide (la=lb)))∧∃m,w.drewN m=w':=by
 obtain rfl:=ha.len;obtain rfl:=hb.len;exact zY A B ca cb la lb w ha hb h1 h2
end
end Go.Proofs.YtpcfhbeakecihaaGreat
