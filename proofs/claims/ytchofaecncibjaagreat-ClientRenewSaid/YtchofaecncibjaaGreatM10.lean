/- Lemmas. -/
import Derived.Test.YtchofaecncibjaaGreatM9
import Derived.BigQuiet
import Derived.Deep.OwnRows
import Derived.Test.YtchofaecncibjaaGreatProg
import Derived.WalkLawsBesides
set_option linter.all false
set_option maxHeartbeats 20000000
set_option maxRecDepth 100000
namespace Go.Proofs.YtchofaecncibjaaGreat
section
open Go.RowKit
def nD (w:World)(v:Value)(l:List Int):Prop:=∃A c,v= .slice A l.length c∧l.length≤c∧l.length≤140737488355328∧Src w A (l.map (Value.int .u8))
theorem nD.aA {S:Nat→Prop}{w w':World}{v:Value}{l:List Int}(h:nD w v l)(ho:ag S w w')(hn:∀k,aK v k→¬S k):nD w' v l:=by
 obtain⟨A,c,rfl,h1,h2,h3⟩:=h;exact⟨A,c,rfl,h1,h2,h3.aA ho fun g o e _=>hn g (by subst e;exact aG.2 rfl)⟩
theorem nD.keep {S:Nat→Prop}{w w':World}{v:Value}{l:List Int}(h:nD w v l)(ho:ag S w w')(hn:0<l.length→∀k,aK v k→k<w.heap.size→¬S k):nD w' v l:=by
 obtain⟨A,c,rfl,h1,h2,h3⟩:=h
 by_cases hz:0<l.length
 ·exact⟨A,c,rfl,h1,h2,h3.aA ho fun g o e hg=>hn hz g (by subst e;exact aG.2 rfl) hg⟩
 ·have:l= []:=List.eq_nil_of_length_eq_zero ao;subst this;exact⟨A,c,rfl,h1,h2,Src.vK _ _⟩
theorem nr:(Tryz.prog.info? 5).map (fun i=>(i.zero,i.size,i.bytes))=some (some (.int .u8 0),1,1):=by kernel_rfl
section
theorem L0 (n c:Nat)(w:World):Calls Tryz.prog 40 #[.slice none n c] w fun e w'=>e= .returned aJ∧w=w':=by
 have he:=fun w=>Lib.run_eql_slice_nil (P:=Tryz.prog) (w:=w)
 go_enter Tryz.func40,Tryz.ntmps40
 go_wp2_with fail;go_ret;exact⟨rfl,rfl⟩
theorem Row.Yt {w:World}{v:Value}{l:List Int}(h:Row 5 w v (l.map (Value.int .u8)))(hl:l.length≤140737488355328):nD w v l:=by
 obtain⟨A,c,hv,hs⟩:=h.src;obtain⟨A',c',Uw,h1,h2⟩:=h.shape;rw[List.length_map]at hv Uw h1;rw[hv]at Uw;injection Uw with e1 e2 e3;subst e1 e3;exact⟨A,c,hv,h1,hl,hs⟩
abbrev bytes (l:List Int):List Value:=l.map (Value.int .u8)
theorem mW (l:List Int):∀u∈bytes l,u.oneCell'=true:=fun u hu=>by obtain⟨x,_,rfl⟩:=List.mem_map.1 hu;rfl
def aew (l:List Int)(w:World)(e:Ending)(w':World):Prop:=
 ∃v,e= .returned v∧Row 5 w' v (bytes l)∧ag az w w'∧∀k,aK v k→w.heap.size≤k
def Cl (l:List Int)(w:World)(e:Ending)(w':World):Prop:=aew l w e w'
theorem LZ (a:Addr)(c:Nat)(l:List Int)(w:World)(h:nD w (.slice (some a) l.length c) l):
 Calls Tryz.prog 40 #[.slice (some a) l.length c] w (Cl l w):=by
 obtain⟨A,c',e,h1,h2,h3⟩:=h;injection e with e1 e2 e3;subst e1;have bu:ag az w (w.alloc (.cells #[] 5)):=(ag.aj _ _).alloc _;have wR:Row 5 (w.alloc (.cells #[] 5)) (aU w.heap.size 0 0) []:=.inr ⟨_,0,#[],rfl,Box.fresh _ _ _,dm _,dm _,dT _,rfl⟩;have gj:Src (w.alloc (.cells #[] 5)) (some a) (l.map (Value.int .u8)):=h3.aA bu fun _ _ _ _=>id
 have he:=fun w=>Lib.run_eql_slice_nil (P:=Tryz.prog) (w:=w)
 have N5:∀u∈l.map (Value.int .u8),u.oneCell'=true:=by
  intro u hu;obtain⟨z,_,rfl⟩:=List.mem_map.1 hu;rfl
 have fB:([]:List Value).length+(l.map (Value.int .u8)).length≤maxLen:=by simp only[List.length_nil,List.length_map,maxLen];omega
 have dX:(([]:List Value).length+(l.map (Value.int .u8)).length)*1≤140737488355328:=by simp only[List.length_nil,List.length_map];omega
 have Hb1:=ae fB;clear fB;have Hb2:=ae dX;clear dX;have afy:=ae N5;clear N5;have hln:l.length=(l.map (Value.int .u8)).length:=by simp
 have Hln:=ae hln;clear hln;generalize hvs:l.map (Value.int .u8)=vs at *;have Hvs:=ae hvs;clear hvs;clear e2 e3 h3
 go_enter Tryz.func40,Tryz.ntmps40
 go_wp2_with (at_builtin;refine cy _ rfl (.tmp 5) (.tmp 6) 35 5 rfl nr rfl Tryz.underlying35 (aU w.heap.size 0 0) [] rfl wR (some a) l.length c vs rfl Hln gj afy Hb1 Hb2 ?_;intro v' w1 YX Hk bF _);go_ret;rw[List.nil_append]at YX;refine⟨v',rfl,by rw[bytes,Hvs.out];exact YX,bu.aC Hk (fun k hk=>.inr (by rw[aG]at hk;omega)),fun k hk=>?_⟩;rcases bF k hk with h|h
 ·rw[aG]at h;omega
 ·simp at h;omega
theorem uJ (v:Value)(l:List Int)(w:World)(h:nD w v l):Calls Tryz.prog 40 #[v] w (Cl l w):=by
 have h':=h;obtain⟨A,c,rfl,h1,h2,h3⟩:=h
 cases A with
 |some a=>exact LZ a c l w h'
 |none=>
  have hl:l= []:=by
   cases l with
   |nil=>rfl
   |cons x l=>obtain⟨g,o,e,_⟩:=h3 0 _ rfl;cases e
  subst hl;refine(L0 _ _ w).mono ?_;rintro e w' ⟨rfl,rfl⟩;exact⟨_,rfl,Row.vK _ _,ag.aj _ _,fun k hk=>(a7 hk).elim⟩
def aeb (la lb:List Int)(w:World)(i:Value)(wr:World):Prop:=∃k:Nat,k≤la.length∧i=ah k∧(∀j,j<k→la.getD j 0=lb.getD j 0)∧∃m,w.drewN m=wr
theorem alike (la lb:List Int)(hl:la.length=lb.length)(h:∀j,j<la.length→la.getD j 0=lb.getD j 0):la=lb:=by
 apply List.ext_getElem hl;intro i h1 h2;have:=h i h1;simpa [List.getD,h1,h2] using this
theorem nD.af {w:World}{A:Option Addr}{n c:Nat}{l:List Int}(h:nD w (.slice A n c) l){i:Nat}(hi:i<l.length):
 ∃g o,A=some ⟨g,o,none⟩∧aE w g (o+i) (.int .u8 (l.getD i 0)):=by
 obtain⟨A',c',e,_,_,h3⟩:=h;injection e with e1 e2 e3;subst e1;exact h3 i _ (by simp[hi])
theorem nD.len {w:World}{A:Option Addr}{n c:Nat}{l:List Int}(h:nD w (.slice A n c) l):n=l.length∧l.length≤140737488355328:=by
 obtain⟨A',c',e,_,h2,h3⟩:=h;injection e with e1 e2;exact⟨e2,h2⟩
theorem Oy (A B:Option Addr)(ca cb:Nat)(la lb:List Int)(w:World)(ha:nD w (.slice A la.length ca) la)(hb:nD w (.slice B lb.length cb) lb):
 Calls Tryz.prog 56 #[.slice A la.length ca,.slice B lb.length cb] w fun e w'=>e= .returned (.bool (decide (la=lb)))∧∃m,w.drewN m=w':=by
 have h1:=ha.len.2;have h2:=hb.len.2
 by_cases hl:la.length=lb.length
 ·have hln:((la.length:Int) != (lb.length:Int))=false:=by simp[hl]
  have Hl:=ae hl;have hll:la.length≤lb.length:=ao;clear hl
  go_enter Tryz.func56,Tryz.ntmps56
  go_wp2_with fail
  go_loopw [5] (fun i wr=>aeb la lb w i wr) (fun i _=>la.length - (intOf i).toNat)
  case atStart=>exact⟨0,ao,rfl,fun j hj=>absurd hj ao,0,rfl⟩
  case round=>
   obtain⟨k,hk,rfl,heq,m,rfl⟩:=hrel;have Heq:=ae heq;clear heq
   by_cases aY:k<la.length
   ·obtain⟨g,o,rfl,hc⟩:=ha.af aY;obtain⟨g',o',rfl,hc'⟩:=hb.af (show k<lb.length by omega);generalize hx:la.getD k 0=x at *;generalize hy:lb.getD k 0=y at *;have Hx:=ae hx;have Hy:=ae hy;clear hx hy
    by_cases Mj:x=y
    ·subst Mj;have Dd:(k:Int)<lb.length:=ao;have aas:(k:Int)<la.length:=ao;go_wp2_with fail
     go_quiet (fail)
     go_wp2
     go_roundw
     case rel=>exact⟨k+1,ao,by go_num,fun j hj=>by
      rcases Nat.lt_or_ge j k with h|h
      ·exact Heq j h
      ·obtain rfl:j=k:=ao;rw[Hx.out,Hy.out],_,rfl⟩
     case measure=>simp[intOf];omega
    ·have hne:(x != y)=true:=by simp[Mj]
     have Dd:(k:Int)<lb.length:=ao;have aas:(k:Int)<la.length:=ao;have hf:decide (la=lb)=false:=decide_eq_false fun e=>Mj (by rw[←Hx.out,←Hy.out,e])
     have Hf:=ae hf;clear hf Mj;go_wp2_with fail
     go_quiet (fail)
     go_wp2;go_ret;exact⟨by rw[Hf.out];rfl,_,(World.drewN_drewN _ _ _).symm⟩
   ·have hf:decide (la=lb)=true:=decide_eq_true (alike la lb Hl fun j hj=>Heq j ao);have Hf:=ae hf;clear hf;go_wp2_with fail;go_ret;exact⟨by rw[Hf.out];rfl,_,rfl⟩
 ·have hln:((la.length:Int) != (lb.length:Int))=true:=by simp;omega
  have hf:decide (la=lb)=false:=decide_eq_false fun e=>hl (by rw[e])
  have Hf:=ae hf;clear hl hf
  go_enter Tryz.func56,Tryz.ntmps56
  go_wp2_with fail;go_ret;exact⟨by rw[Hf.out];rfl,0,rfl⟩
theorem xE (va vb:Value)(la lb:List Int)(w:World)(ha:nD w va la)(hb:nD w vb lb):
 Calls Tryz.prog 56 #[va,vb] w fun e w'=>e= .returned (.bool (decide (la=lb)))∧∃m,w.drewN m=w':=by
 have ha':=ha;have vC:=hb;obtain⟨A,ca,rfl,_⟩:=ha;obtain⟨B,cb,rfl,_⟩:=hb;exact Oy A B ca cb la lb w ha' vC
end
structure aS where
 fr:Int
 size:Int
 often:Int
 loop:Bool
 deriving DecidableEq
instance:Inhabited aS:=⟨⟨0,0,0,false⟩⟩
def zA (blocks:Int)(h:aS):Prop:=0≤h.fr∧1≤h.size∧h.fr≤blocks∧h.size≤blocks - h.fr∧h.fr+h.size≤32∧0≤h.often∧h.often≤2147483647
def pK (g h:aS):Prop:=g.fr+g.size≤h.fr∨h.fr+h.size≤g.fr
def wA (h:aS)(b:Nat):Prop:=h.fr≤b∧(b:Int)<h.fr+h.size
def dY (blocks:Int)(l:List aS):Prop:=
 (∀i,i<l.length→zA blocks (l.getD i default))∧(∀i j,i<j→j<l.length→pK (l.getD i default) (l.getD j default))∧l.length≤8
noncomputable def lQ (blocks:Int)(l:List aS):Bool:= @decide (dY blocks l) (Classical.propDecidable _)
theorem mT {blocks:Int}{l:List aS}(h:¬dY blocks l):lQ blocks l=false:=by unfold lQ;exact @decide_eq_false _ (Classical.propDecidable _) h
theorem wh {blocks:Int}{l:List aS}(h:dY blocks l):lQ blocks l=true:=by unfold lQ;exact @decide_eq_true _ (Classical.propDecidable _) h
structure aW (w:World)(A:Option Addr)(n c:Nat)(l:List aS):Prop where
 len:n=l.length
 cap:n≤c
 max:c≤maxLen
 at_:∀i,i<l.length→∃g o,A=some ⟨g,o,none⟩∧g<w.heap.size∧aw w g (o+i*4) ((l.getD i default).fr)∧aw w g (o+i*4+1) ((l.getD i default).size)∧
  aw w g (o+i*4+2) ((l.getD i default).often)∧aE w g (o+i*4+3) (.bool (l.getD i default).loop)
theorem aW.aA {S:Nat→Prop}{w w':World}{A:Option Addr}{n c:Nat}{l:List aS}(h:aW w A n c l)(ho:ag S w w')(hS:∀k,k<w.heap.size→¬S k):aW w' A n c l:=
 ⟨h.len,h.cap,h.max,fun i hi=>by
  obtain⟨g,o,e,hg,h0,h1,h2,h3⟩:=h.at_ i hi;have hn:=hS g hg;exact⟨g,o,e,Nat.lt_of_lt_of_le hg ho.size,ho.cell h0 hn,ho.cell h1 hn,ho.cell h2 hn,ho.cell h3 hn⟩⟩
theorem aW.keep {w w':World}{A:Option Addr}{n c:Nat}{l:List aS}(h:aW w A n c l)(ho:ag az w w'):aW w' A n c l:=h.aA ho fun _ _=>id
section
theorem vW (n a b:Int)(w:World):Calls Tryz.prog 97 #[ah n,ah a,ah b] w fun e w'=>e= .returned (.bool (decide (a≤n)&&decide (n≤b)))∧w=w':=by
 by_cases h1:a≤n
 ·by_cases h2:n≤b
  ·go_enter Tryz.func97,Tryz.ntmps97
   go_wp2_with fail;go_ret;exact⟨by simp[h1,h2],rfl⟩
  ·go_enter Tryz.func97,Tryz.ntmps97
   go_wp2_with fail;go_ret;exact⟨by simp[h1,h2],rfl⟩
 ·go_enter Tryz.func97,Tryz.ntmps97
  go_wp2_with fail;go_ret;exact⟨by rw[decide_eq_false (show¬a≤n by omega)];rfl,rfl⟩
structure Hu (wr:World)(mb:Nat)(f:Nat→Prop):Prop where
 ex:∃cs:Array Value,Box wr mb 214 cs∧cs.size=32∧∀b,b<32→∃x:Bool,cs[b]? =some (.bool x)∧(x=true↔f b)
def Hi1 (blocks:Int)(l:List aS)(w:World)(i:Value)(wr:World):Prop:=
 ∃k:Nat,k≤l.length∧i=ah k∧Hu wr w.heap.size (fun b=>∃j,j<k∧wA (l.getD j default) b)∧(∀j,j<k→zA blocks (l.getD j default))∧(∀i j,i<j→j<k→pK (l.getD i default) (l.getD j default))∧ag az w wr
def Hi2 (l:List aS)(k F Z hb mb:Nat)(w:World)(often:Int)(loop:Bool)(i:Value)(wr:World):Prop:=
 ∃q:Nat,q≤Z∧i=ah q∧Hu wr mb (fun b=>(∃j,j<k∧wA (l.getD j default) b)∨(F≤b∧b<F+q))∧(∀b,F≤b→b<F+q→¬∃j,j<k∧wA (l.getD j default) b)∧
  Box wr hb 76 #[ah F,ah Z,ah often,.bool loop]∧ag az w wr
theorem TM (w:World)(f:Nat→Prop)(hf:∀b,¬f b)(cs:Array Value)(hcs:cs=Array.replicate 32 (.bool false)):Hu (w.alloc (.cells cs 214)) w.heap.size f:=by
 subst hcs;refine⟨_,Box.fresh w _ _,by simp,fun b hb=>⟨false,by simp[hb],by simp[hf b]⟩⟩
theorem Hi2.step {l:List aS}{k F Z hb:Nat}{w wr:World}{often:Int}{loop:Bool}{q:Nat}{cs:Array Value}(hx:l.getD k default=⟨F,Z,often,loop⟩)
 (hcs:∀b,b<32→∃x:Bool,cs[b]? =some (.bool x)∧(x=true↔(∃j,j<k∧wA (l.getD j default) b)∨F≤b∧b<F+q)) (Yk:Box wr w.heap.size 214 cs) (hsz:cs.size=32)
 (JJ:false=true↔(∃j,j<k∧wA (l.getD j default) (F+q))∨F≤F+q∧F+q<F+q)
 (gX:Box wr hb 76 #[ah F,ah Z,ah often,.bool loop]) (ho:ag az w wr) (tK:∀b,F≤b→b<F+q→¬∃j,j<k∧wA (l.getD j default) b) (hq:q<Z) (h32:F+Z≤32) (hne:w.heap.size≠hb):
 Hi2 l k F Z hb w.heap.size w often loop (ah ((q:Int)+1)) (wr.setCell ⟨w.heap.size,F+q,none⟩ (.bool true)):=by
 refine⟨q+1,hq,by simp,⟨_,Yk.store _ _,by simpa using hsz,fun b hb=>?_⟩,fun b h1 h2=>?_,gX.mH (fun e=>hne e.symm) _,ho.setCell (.inr (dm _)) _⟩
 ·by_cases hbq:b=F+q
  ·subst hbq;exact⟨true,by rw[Array.getElem?_setIfInBounds_self_of_lt ao],⟨fun _=>.inr ⟨ao,ao⟩,fun _=>rfl⟩⟩
  ·obtain⟨x,h1,h2⟩:=hcs b hb;refine⟨x,by rw[Array.getElem?_setIfInBounds_ne ao];exact h1,h2.trans ⟨fun h=>?_,fun h=>?_⟩⟩
   ·rcases h with h|h
    ·exact .inl h
    ·exact .inr ⟨h.1,ao⟩
   ·rcases h with h|h
    ·exact .inl h
    ·exact .inr ⟨h.1,ao⟩
 ·by_cases hbq:b=F+q
  ·subst hbq;intro h;exact Bool.false_ne_true (JJ.2 (.inl h))
  ·exact tK b h1 ao
theorem rj{P:Prop}(h:P:=by
 rcases Nat.lt_or_ge j k with hk|hk
 ·exact cD j hk
 ·obtain rfl:j=k:=ao;rw[hx];exact N6):P:=h
theorem Hi1.step {blocks:Int}{l:List aS}{k F Z:Nat}{w wr:World}{often:Int}{loop:Bool}(hx:l.getD k default=⟨F,Z,often,loop⟩)
 (hm:Hu wr w.heap.size (fun b=>(∃j,j<k∧wA (l.getD j default) b)∨F≤b∧b<F+Z)) (cD:∀j,j<k→zA blocks (l.getD j default)) (QV:∀i j,i<j→j<k→pK (l.getD i default) (l.getD j default))
 (N6:zA blocks ⟨F,Z,often,loop⟩) (tK:∀b,F≤b→b<F+Z→¬∃j,j<k∧wA (l.getD j default) b) (ho:ag az w wr) (aY:k<l.length):Hi1 blocks l w (ah ((k:Int)+1)) wr:=by
 refine⟨k+1,aY,by simp,?_,fun j hj=>?_,fun i j A0 hj=>?_,ho⟩
 ·obtain⟨cs,h1,h2,h3⟩:=hm;refine⟨cs,h1,h2,fun b hb=>?_⟩;obtain⟨x,h4,h5⟩:=h3 b hb;refine⟨x,h4,h5.trans ⟨fun h=>?_,fun⟨j,hj,h⟩=>?_⟩⟩
  ·rcases h with⟨j,hj,h⟩|h
   ·exact⟨j,ao,h⟩
   ·exact⟨k,ao,by rw[hx];unfold wA;dsimp only;omega⟩
  ·rcases Nat.lt_or_ge j k with hk|hk
   ·exact .inl ⟨j,hk,h⟩
   ·obtain rfl:j=k:=ao;rw[hx]at h;unfold wA at h;dsimp only at h;exact .inr ao
 ·exact rj
 ·rcases Nat.lt_or_ge j k with hk|hk
  ·exact QV i j A0 hk
  ·obtain rfl:j=k:=ao;have h1:=cD i A0;rw[hx];unfold zA at h1 N6;unfold pK;dsimp only at N6 ⊢;generalize hg:l.getD i default=g at *
   by_cases hgf:g.fr≤F
   ·have:=tK F (dm _) ao;have h2:¬wA g F:=fun h=>this ⟨i,A0,by rw[hg];exact h⟩
    unfold wA at h2;omega
   ·by_cases hc:g.fr<F+Z
    ·have:=tK g.fr.toNat ao ao;have h2:¬wA g g.fr.toNat:=fun h=>this ⟨i,A0,by rw[hg];exact h⟩
     unfold wA at h2;omega
    ·omega
theorem cE{P:Prop}(h:P:=by
 have Hr:=ae<|Hno (fun h=>by unfold zA at h;dsimp only at h;omega);go_wp2_with fail;go_ret;exact⟨by rw[Hr.out];rfl,Ho.alloc _⟩):P:=h
theorem l9{P:Prop}(h:P:=by
 clear oJ;go_wp2_with fail;go_ret;exact⟨by rw[Hr.out];rfl,Ho⟩):P:=h
theorem Ej (A:Option Addr)(n c:Nat)(l:List aS)(blocks:Int)(w:World)(h:aW w A n c l)(fB:1≤blocks)(dX:blocks≤32):
 Calls Tryz.prog 98 #[.slice A n c,ah blocks] w fun e w'=>e= .returned (.bool (lQ blocks l))∧ag az w w':=by
 obtain rfl:=h.len;have ox:=h.cap;have hmax:=h.max;have H:=ae h;have HW:=ae<|fun n a b w=>vW n a b w;unfold maxLen at hmax;clear h
 go_enter Tryz.func98,Tryz.ntmps98
 go_wp2_with fail
 go_loopw [11] (fun i wr=>Hi1 blocks l w i wr) (fun i _=>l.length - (intOf i).toNat)
 case atStart=>exact⟨0,dT _,rfl,TM w _ (fun b ⟨j,hj,_⟩=>absurd hj ao) _ rfl,fun j hj=>absurd hj ao,fun i j _ hj=>absurd hj ao,(ag.aj _ _).alloc _⟩
 case round=>
  obtain⟨k,hk,rfl,hm,cD,QV,ho⟩:=hrel;have Hm:=ae hm;have Z5:=ae cD;have Hap:=ae QV;have Ho:=ae ho
  by_cases aY:k<l.length
  ·obtain⟨g,o,rfl,hg,x0,x1,x2,x3⟩:=(H.keep ho).at_ k aY;have Hno:=ae<|fun(h:¬zA blocks (l.getD k default))=>mT (blocks:=blocks) (l:=l) fun hp=>h (hp.1 k aY);have Dd:(k:Int)<l.length:=ao;have Hlt:=ae aY;clear hm cD QV ho;generalize hx:l.getD k default=hd at *;obtain⟨fr,size,often,loop⟩:=hd;have Hx:=ae hx;clear hx;dsimp only at x0 x1 x2 x3
   by_cases c0:fr<0
   ·exact cE
   by_cases c1:size<1
   ·exact cE
   by_cases c2:blocks<fr
   ·exact cE
   have e1:IntKind.i64.wrap (blocks - fr)=blocks - fr:=IntWalk.i64_in _ ao
   by_cases c3:blocks - fr<size
   ·exact cE
   have e2:IntKind.i64.wrap (fr+size)=fr+size:=IntWalk.i64_in _ ao;have c4:¬32<fr+size:=ao;have HWw:=ae<|fun w=>HW often 0 2147483647 w
   by_cases c5:0≤often∧often≤2147483647
   ·have Zv:=HWw.out;rw[decide_eq_true c5.1,decide_eq_true c5.2]at Zv;have HWy:=ae Zv;clear Zv HWw;have F6:fr=((fr.toNat:Nat):Int):=ao;have hsz:size=((size.toNat:Nat):Int):=ao;generalize fr.toNat=F at *;generalize size.toNat=Z at *;subst F6 hsz;have VW:=aB (zA blocks ⟨(F:Int),(Z:Int),often,loop⟩) (by unfold zA;dsimp only;omega);have HbH:=ae<|Box.fresh wr 76 #[ah F,ah Z,ah often,.bool loop];have HoH:=ae<|Ho.alloc (.cells #[ah F,ah Z,ah often,.bool loop] 76);have HmH:=aB (Hu (wr.alloc (.cells #[ah F,ah Z,ah often,.bool loop] 76)) w.heap.size (fun b=>∃j,j<k∧wA (l.getD j default) b)) (by
     obtain⟨cs,h1,h2⟩:=Hm.ex;exact⟨cs,h1.alloc _,h2⟩)
    have HzH:=aB (w.heap.size<wr.heap.size) (by obtain⟨cs,h1,h2⟩:=Hm.ex;exact h1.lt);have F32:F+Z≤32:=ao;have Hmb:=aB (w.heap.size≠wr.heap.size) (by have:=HzH.out;omega);go_wp2_with fail;refine(HWy _).mono ?_;rintro e w5 ⟨rfl,e5⟩;rw[←e5];clear e5;go_wp2_with fail;generalize wr.alloc (.cells #[ah F,ah Z,ah often,.bool loop] 76)=X at *;generalize hhb:wr.heap.size=hb at *;have Hhb:=ae hhb;clear hhb
    go_loopw [54] (fun i wr=>Hi2 l k F Z hb w.heap.size w often loop i wr) (fun i _=>Z - (intOf i).toNat)
    case atStart=>exact⟨0,dT _,rfl,by
     obtain⟨cs,h1,h2,h3⟩:=HmH.out;exact⟨cs,h1,h2,fun b hb=>by
      obtain⟨x,h4,h5⟩:=h3 b hb;exact⟨x,h4,h5.trans ⟨Or.inl,fun h=>h.resolve_right ao⟩⟩⟩,fun b h1 h2=>absurd h2 ao,HbH,HoH⟩
    case round=>
     obtain⟨q,hq,rfl,pY,tK,gX,bp⟩:=hrel;have St:=ae tK;have Hbx:=ae gX;have Z6:=ae bp;have y0:aw wr hb 0 F:=gX.af rfl;have y1:aw wr hb 1 Z:=gX.af rfl
     by_cases hqz:q<Z
     ·obtain⟨cs,Yk,hsz,hcs⟩:=pY.ex;obtain⟨x,Dy,JJ⟩:=hcs (F+q) ao;have z0:aE wr w.heap.size (F+q) (.bool x):=Yk.af Dy;have z1:wr.frozen? ⟨w.heap.size,F+q,none⟩=false:=Yk.free _;have hwq:IntKind.i64.wrap ((F:Int)+q)=((F+q:Nat):Int):=by rw[←Int.natCast_add];exact IntWalk.i64_in _ ao
      have Hx2:=ae JJ;have Hcs:=ae hcs;have Hbm:=ae Yk;have Hsz:=ae hsz;have Hm2:=ae pY;clear pY tK gX bp JJ hcs Yk hsz Dy
      cases x with
      |true=>
       have Hr:=ae (mT (blocks:=blocks) (l:=l) fun hp=>by
        obtain⟨j,hj,bw⟩:=(Hx2.1 rfl).resolve_right ao;have:=hp.2.1 j k hj Hlt;rw[Hx.out]at this;unfold pK at this;unfold wA at bw;dsimp only at this;omega)
       go_wp2_with fail;go_ret;exact⟨by rw[Hr.out];rfl,Z6⟩
      |false=>
       go_wp2_with fail;exact⟨Hi2.step Hx Hcs Hbm Hsz Hx2 Hbx Z6 St hqz F32 Hmb,by simp[intOf];omega⟩
     ·obtain rfl:q=Z:=ao;have Hm2:=ae pY;clear pY tK gX bp;go_wp2_with fail;refine⟨?_,?_⟩
      ·(repeat first|exact⟨Hi1.step Hx Hm2 Z5 Hap VW St Z6 Hlt,rfl⟩|exact Hi1.step Hx Hm2 Z5 Hap VW St Z6 Hlt|apply Exists.intro)
      ·simp[intOf];omega
   ·have Zv:=HWw.out;have hf:(decide (0≤often)&&decide (often≤2147483647))=false:=by
     rw[Bool.and_eq_false_iff,decide_eq_false_iff_not,decide_eq_false_iff_not];omega
    rw[hf]at Zv;have HWy:=ae Zv;have Hr:=ae<|Hno (fun h=>by unfold zA at h;dsimp only at h;omega);clear Zv hf HWw;go_wp2_with fail;refine(HWy _).mono ?_;rintro e w5 ⟨rfl,rfl⟩;go_wp2_with fail;go_ret;exact⟨by rw[Hr.out];rfl,Ho.alloc _⟩
  ·have oJ:k=l.length:=ao;clear hm cD QV ho
   by_cases h8:l.length≤8
   ·have Hr:=ae<|wh (blocks:=blocks) (l:=l) ⟨fun i hi=>Z5 i ao,fun i j A0 hj=>Hap i j A0 ao,h8⟩;have h8b:(l.length:Int)≤8:=ao;exact l9
   ·have Hr:=ae<|mT (blocks:=blocks) (l:=l) fun hp=>h8 hp.2.2;have h8b:¬(l.length:Int)≤8:=ao;exact l9
end
structure aM where
 f:Nat→Int
 h:List aS
def ak (c:aM)(hs:Value):Array Value:=#[ah (c.f 0),ah (c.f 1),ah (c.f 2),ah (c.f 3),ah (c.f 4),ah (c.f 5),ah (c.f 6),ah (c.f 7),ah (c.f 8),ah (c.f 9),ah (c.f 10),ah (c.f 11),ah (c.f 12),ah (c.f 13),ah (c.f 14),ah (c.f 15),hs]
theorem aL (c:aM)(hs:Value){i:Nat}(hi:i<16):(ak c hs)[i]? =some (ah (c.f i)):=by
 unfold ak;rcases(show i=0∨i=1∨i=2∨i=3∨i=4∨i=5∨i=6∨i=7∨i=8∨i=9∨i=10∨i=11∨i=12∨i=13∨i=14∨i=15 from by omega)with rfl|rfl|rfl|rfl|rfl|rfl|rfl|rfl|rfl|rfl|rfl|rfl|rfl|rfl|rfl|rfl<;>rfl
theorem fA (c:aM)(hs:Value):(ak c hs)[16]? =some hs:=rfl
structure cK (c:aM):Prop where
 p0:1≤c.f 0∧c.f 0≤4
 p1:1≤c.f 1∧c.f 1≤4
 p2:1≤c.f 2∧c.f 2≤32
 p3:1≤c.f 3∧c.f 3≤16
 p4:1≤c.f 4∧c.f 4≤3
 p5:0≤c.f 5∧c.f 5≤2
 pp:c.f 5=0∨c.f 4=2
 pl:∀t,t<3→1≤c.f (6+t)∧c.f (6+t)≤2
 pc:∀t,t<3→1≤c.f (9+t)∧c.f (9+t)≤16
 P8:1≤c.f 12∧c.f 12≤8
 Uv:1≤c.f 13∧c.f 13≤100
 Uu:0≤c.f 14∧c.f 14≤16
 Zo:1≤c.f 15∧c.f 15≤16
 ph:c.f 5=2∨c.h.length=0
 hs:dY (c.f 2) c.h
noncomputable def Al (c:aM):Bool:= @decide (cK c) (Classical.propDecidable _)
theorem fg {c:aM}(h:¬cK c):Al c=false:=by unfold Al;exact @decide_eq_false _ (Classical.propDecidable _) h
theorem IM {c:aM}(h:cK c):Al c=true:=by unfold Al;exact @decide_eq_true _ (Classical.propDecidable _) h
theorem xT {c:aM}:Al c=true↔cK c:=by unfold Al;exact @decide_eq_true_iff _ (Classical.propDecidable _)
theorem pQ {b:Int}{l:List aS}:lQ b l=true↔dY b l:=by unfold lQ;exact @decide_eq_true_iff _ (Classical.propDecidable _)
theorem cK.range {c:aM}(h:cK c):∀i,i<16→0≤c.f i∧c.f i≤100:=by
 intro i hi;have a0:=h.p0;have a1:=h.p1;have a2:=h.p2;have a3:=h.p3;have a4:=h.p4;have a5:=h.p5;have b0:1≤c.f 6∧c.f 6≤2:=h.pl 0 ao;have b1:1≤c.f 7∧c.f 7≤2:=h.pl 1 ao;have b2:1≤c.f 8∧c.f 8≤2:=h.pl 2 ao;have d0:1≤c.f 9∧c.f 9≤16:=h.pc 0 ao;have d1:1≤c.f 10∧c.f 10≤16:=h.pc 1 ao;have d2:1≤c.f 11∧c.f 11≤16:=h.pc 2 ao;have a12:=h.P8;have a13:=h.Uv;have a14:=h.Uu;have a15:=h.Zo;rcases(show i=0∨i=1∨i=2∨i=3∨i=4∨i=5∨i=6∨i=7∨i=8∨i=9∨i=10∨i=11∨i=12∨i=13∨i=14∨i=15 from by omega)with rfl|rfl|rfl|rfl|rfl|rfl|rfl|rfl|rfl|rfl|rfl|rfl|rfl|rfl|rfl|rfl<;>omega
theorem de {n a b:Int}(h:a≤n∧n≤b)(w:World):Calls Tryz.prog 97 #[ah n,ah a,ah b] w fun e w'=>e= .returned (.bool true)∧w=w':=by
 have:=vW n a b w;rwa [decide_eq_true h.1,decide_eq_true h.2]at this
theorem fl {n a b:Int}(h:¬(a≤n∧n≤b))(w:World):Calls Tryz.prog 97 #[ah n,ah a,ah b] w fun e w'=>e= .returned (.bool false)∧w=w':=by
 have:=vW n a b w;rwa [show(decide (a≤n)&&decide (n≤b))=false from by rw[Bool.and_eq_false_iff,decide_eq_false_iff_not,decide_eq_false_iff_not];omega]at this
def Zc (c:aM)(hs:Value)(w:World)(i:Value)(wr:World):Prop:=
 ∃t:Nat,t≤3∧i=ah t∧(∀j,j<t→(1≤c.f (6+j)∧c.f (6+j)≤2)∧(1≤c.f (9+j)∧c.f (9+j)≤16))∧wr=w.alloc (.cells (ak c hs) 25)
section
theorem lZ{P:Prop}(h:P:=by
 go_wp2_with fail;refine(Ej A n cp c.h (c.f 2) _ (H.keep HO) H2.1 H2.2).mono ?_;rintro e w6 ⟨rfl,bT⟩;have Vm:=ae<|HO.da bT;clear bT;go_wp2_with fail;go_ret;exact⟨by rw[Hb.out];rfl,Vm⟩):P:=h
theorem si{P:Prop}(h:P:=by
 have Hh:=ae h2;have g2:(0:Int)<(n:Int):=by have:=H.len;omega
 clear h2;have Hr:=ae<|fg (c:=c) fun p=>p.ph.elim (fun h=>Gy h) Hh;go_wp2_with fail;go_ret;exact⟨by rw[Hr.out];rfl,HO⟩):P:=h
theorem qX{P:Prop}(h:P:=by
 refine(fl hh _).mono ?_;rintro e w5 ⟨rfl,e5⟩;rw[←e5];clear e5;have Hr:=ae<|fg (c:=c) fun p=>hh p.Uu;go_wp2_with fail;go_ret;exact⟨by rw[Hr.out];rfl,HO⟩):P:=h
theorem rX{P:Prop}(h:P:=by
 refine(fl hh _).mono ?_;rintro e w5 ⟨rfl,e5⟩;rw[←e5];clear e5;have Hr:=ae<|fg (c:=c) fun p=>hh p.Zo;go_wp2_with fail;go_ret;exact⟨by rw[Hr.out];rfl,HO⟩):P:=h
theorem sj{P:Prop}(h:P:=by
 refine(fl hh _).mono ?_;rintro e w5 ⟨rfl,e5⟩;rw[←e5];clear e5;have Hr:=ae<|fg (c:=c) fun p=>hh p.P8;go_wp2_with fail;go_ret;exact⟨by rw[Hr.out];rfl,HO⟩):P:=h
theorem rh{P:Prop}(h:P:=by
 refine(fl hh _).mono ?_;rintro e w5 ⟨rfl,e5⟩;rw[←e5];clear e5;have Hr:=ae<|fg (c:=c) fun p=>hh p.Uv;go_wp2_with fail;go_ret;exact⟨by rw[Hr.out];rfl,HO⟩):P:=h
theorem dp{P:Prop}(h:P:=by
 refine⟨?_,?_⟩
 ·(repeat first|exact⟨HR,rfl⟩|exact HR|apply Exists.intro)
 ·simp[intOf];omega):P:=h
theorem D3 (A:Option Addr)(n cp:Nat)(c:aM)(w:World)(h:aW w A n cp c.h):
 Calls Tryz.prog 66 #[.agg (ak c (.slice A n cp))] w fun e w'=>e= .returned (.bool (Al c))∧ag az w w':=by
 have H:=ae h;clear h
 go_enter Tryz.func66,Tryz.ntmps66
 go_wp2_with fail;have HO:=aB (ag az w (w.alloc (.cells (ak c (.slice A n cp)) 25))) ((ag.aj _ _).alloc _);have HB:=ae<|Box.fresh w 25 (ak c (.slice A n cp))
 go_loopw [4] (fun i wr=>Zc c (.slice A n cp) w i wr) (fun i _=>3 - (intOf i).toNat)
 case atStart=>exact⟨0,ao,rfl,fun j hj=>absurd hj ao,rfl⟩
 case round=>
  obtain⟨t,ht,rfl,hl,rfl⟩:=hrel;have HL:=ae hl;clear hl
  by_cases aY:t<3
  ·have x6:aw (w.alloc (.cells (ak c (.slice A n cp)) 25)) w.heap.size (6+t) (c.f (6+t)):=HB.af (aL c _ ao);have x9:aw (w.alloc (.cells (ak c (.slice A n cp)) 25)) w.heap.size (9+t) (c.f (9+t)):=HB.af (aL c _ ao);generalize Qd:w.alloc (.cells (ak c (.slice A n cp)) 25)=w1 at *;have Hw1:=ae Qd;clear Qd;have Dd:(t:Int)<3:=ao;go_wp2_with fail
   by_cases hh:1≤c.f (6+t)∧c.f (6+t)≤2
   rotate_left
   ·refine(fl hh _).mono ?_;rintro e w5 ⟨rfl,e5⟩;rw[←e5];clear e5;have Hr:=ae<|fg (c:=c) fun p=>hh (p.pl t aY);go_wp2_with fail;go_ret;exact⟨by rw[Hr.out];rfl,HO⟩
   have G6:=ae hh;refine(de hh _).mono ?_;rintro e w5 ⟨rfl,e5⟩;rw[←e5];clear e5 hh;go_wp2_with fail
   by_cases hh:1≤c.f (9+t)∧c.f (9+t)≤16
   rotate_left
   ·refine(fl hh _).mono ?_;rintro e w5 ⟨rfl,e5⟩;rw[←e5];clear e5;have Hr:=ae<|fg (c:=c) fun p=>hh (p.pc t aY);go_wp2_with fail;go_ret;exact⟨by rw[Hr.out];rfl,HO⟩
   have G9:=ae hh;refine(de hh _).mono ?_;rintro e w5 ⟨rfl,e5⟩;rw[←e5];clear e5 hh;go_wp2_with fail;have HR:=aB (Zc c (.slice A n cp) w (ah ((t:Int)+1)) w1) (⟨t+1,aY,by simp,fun j hj=>by
    rcases Nat.lt_or_ge j t with h|h
    ·exact HL j h
    ·obtain rfl:j=t:=ao;exact⟨G6.out,G9.out⟩,Hw1.symm⟩)
   exact dp
  ·obtain rfl:t=3:=ao;have HL:=aB ((∀t,t<3→1≤c.f (6+t)∧c.f (6+t)≤2)∧(∀t,t<3→1≤c.f (9+t)∧c.f (9+t)≤16)) (⟨fun j hj=>(HL j hj).1,fun j hj=>(HL j hj).2⟩);have x0:=HB.af (aL c (.slice A n cp) (i:=0) ao);have x1:=HB.af (aL c (.slice A n cp) (i:=1) ao);have x2:=HB.af (aL c (.slice A n cp) (i:=2) ao);have x3:=HB.af (aL c (.slice A n cp) (i:=3) ao);have x4:=HB.af (aL c (.slice A n cp) (i:=4) ao);have x5:=HB.af (aL c (.slice A n cp) (i:=5) ao);have x12:=HB.af (aL c (.slice A n cp) (i:=12) ao);have QF:=HB.af (aL c (.slice A n cp) (i:=13) ao);have x14:=HB.af (aL c (.slice A n cp) (i:=14) ao);have x15:=HB.af (aL c (.slice A n cp) (i:=15) ao);have x16:=HB.af (fA c (.slice A n cp));generalize Qd:w.alloc (.cells (ak c (.slice A n cp)) 25)=w1 at *;have Hw1:=ae Qd;clear Qd;go_wp2_with fail
   by_cases hh:1≤c.f 0∧c.f 0≤4
   rotate_left
   ·refine(fl hh _).mono ?_;rintro e w5 ⟨rfl,e5⟩;rw[←e5];clear e5;have Hr:=ae<|fg (c:=c) fun p=>hh p.p0;go_wp2_with fail;go_ret;exact⟨by rw[Hr.out];rfl,HO⟩
   have H0:=ae hh;refine(de hh _).mono ?_;rintro e w5 ⟨rfl,e5⟩;rw[←e5];clear e5 hh;go_wp2_with fail
   by_cases hh:1≤c.f 1∧c.f 1≤4
   rotate_left
   ·refine(fl hh _).mono ?_;rintro e w5 ⟨rfl,e5⟩;rw[←e5];clear e5;have Hr:=ae<|fg (c:=c) fun p=>hh p.p1;go_wp2_with fail;go_ret;exact⟨by rw[Hr.out];rfl,HO⟩
   have H1:=ae hh;refine(de hh _).mono ?_;rintro e w5 ⟨rfl,e5⟩;rw[←e5];clear e5 hh;go_wp2_with fail
   by_cases hh:1≤c.f 2∧c.f 2≤32
   rotate_left
   ·refine(fl hh _).mono ?_;rintro e w5 ⟨rfl,e5⟩;rw[←e5];clear e5;have Hr:=ae<|fg (c:=c) fun p=>hh p.p2;go_wp2_with fail;go_ret;exact⟨by rw[Hr.out];rfl,HO⟩
   have H2:=ae hh;refine(de hh _).mono ?_;rintro e w5 ⟨rfl,e5⟩;rw[←e5];clear e5 hh;go_wp2_with fail
   by_cases hh:1≤c.f 3∧c.f 3≤16
   rotate_left
   ·refine(fl hh _).mono ?_;rintro e w5 ⟨rfl,e5⟩;rw[←e5];clear e5;have Hr:=ae<|fg (c:=c) fun p=>hh p.p3;go_wp2_with fail;go_ret;exact⟨by rw[Hr.out];rfl,HO⟩
   have H3:=ae hh;refine(de hh _).mono ?_;rintro e w5 ⟨rfl,e5⟩;rw[←e5];clear e5 hh;go_wp2_with fail
   by_cases hh:1≤c.f 4∧c.f 4≤3
   rotate_left
   ·refine(fl hh _).mono ?_;rintro e w5 ⟨rfl,e5⟩;rw[←e5];clear e5;have Hr:=ae<|fg (c:=c) fun p=>hh p.p4;go_wp2_with fail;go_ret;exact⟨by rw[Hr.out];rfl,HO⟩
   have H4:=ae hh;refine(de hh _).mono ?_;rintro e w5 ⟨rfl,e5⟩;rw[←e5];clear e5 hh;go_wp2_with fail
   by_cases hh:0≤c.f 5∧c.f 5≤2
   rotate_left
   ·refine(fl hh _).mono ?_;rintro e w5 ⟨rfl,e5⟩;rw[←e5];clear e5;have Hr:=ae<|fg (c:=c) fun p=>hh p.p5;go_wp2_with fail;go_ret;exact⟨by rw[Hr.out];rfl,HO⟩
   have H5:=ae hh;refine(de hh _).mono ?_;rintro e w5 ⟨rfl,e5⟩;rw[←e5];clear e5 hh
   by_cases hz:c.f 5=0
   ·have Gy:=aB (¬c.f 5=2) ao;have HZ:=ae hz;have g5:(c.f 5 != 0)=false:=by simp[hz]
    have g6:(c.f 5 != 2)=true:=by simp[hz]
    clear hz;go_wp2_with fail
    by_cases hh:1≤c.f 12∧c.f 12≤8
    rotate_left
    ·exact sj
    have H12:=ae hh;refine(de hh _).mono ?_;rintro e w5 ⟨rfl,e5⟩;rw[←e5];clear e5 hh;go_wp2_with fail
    by_cases hh:1≤c.f 13∧c.f 13≤100
    rotate_left
    ·exact rh
    have H13:=ae hh;refine(de hh _).mono ?_;rintro e w5 ⟨rfl,e5⟩;rw[←e5];clear e5 hh;go_wp2_with fail
    by_cases hh:0≤c.f 14∧c.f 14≤16
    rotate_left
    ·exact qX
    have H14:=ae hh;refine(de hh _).mono ?_;rintro e w5 ⟨rfl,e5⟩;rw[←e5];clear e5 hh;go_wp2_with fail
    by_cases hh:1≤c.f 15∧c.f 15≤16
    rotate_left
    ·exact rX
    have H15:=ae hh;refine(de hh _).mono ?_;rintro e w5 ⟨rfl,e5⟩;rw[←e5];clear e5 hh
    by_cases h2:c.h.length=0
    ·have Hh:=ae h2;have g2:¬((0:Int)<(n:Int)):=by have:=H.len;omega
     clear h2;have Hb:=aB (Al c=lQ (c.f 2) c.h) (by
      rw[Bool.eq_iff_iff,xT,pQ];exact⟨fun p=>p.hs,fun p=>⟨H0,H1,H2,H3,H4,H5,.inl HZ,HL.1,HL.2,H12,H13,H14,H15,.inr Hh,p⟩⟩)
     exact lZ
    ·exact si
   ·by_cases hm:c.f 4=2
    ·have g5:(c.f 5 != 0)=true:=by simp[hz]
     have g4:(c.f 4 != 2)=false:=by simp[hm]
     have HM:=ae hm;clear hz hm;go_wp2_with fail
     by_cases hh:1≤c.f 12∧c.f 12≤8
     rotate_left
     ·exact sj
     have H12:=ae hh;refine(de hh _).mono ?_;rintro e w5 ⟨rfl,e5⟩;rw[←e5];clear e5 hh;go_wp2_with fail
     by_cases hh:1≤c.f 13∧c.f 13≤100
     rotate_left
     ·exact rh
     have H13:=ae hh;refine(de hh _).mono ?_;rintro e w5 ⟨rfl,e5⟩;rw[←e5];clear e5 hh;go_wp2_with fail
     by_cases hh:0≤c.f 14∧c.f 14≤16
     rotate_left
     ·exact qX
     have H14:=ae hh;refine(de hh _).mono ?_;rintro e w5 ⟨rfl,e5⟩;rw[←e5];clear e5 hh;go_wp2_with fail
     by_cases hh:1≤c.f 15∧c.f 15≤16
     rotate_left
     ·exact rX
     have H15:=ae hh;refine(de hh _).mono ?_;rintro e w5 ⟨rfl,e5⟩;rw[←e5];clear e5 hh
     by_cases h5:c.f 5=2
     ·have Gy:=ae h5;have g6:(c.f 5 != 2)=false:=by simp[h5]
      clear h5;have Hb:=aB (Al c=lQ (c.f 2) c.h) (by
       rw[Bool.eq_iff_iff,xT,pQ];exact⟨fun p=>p.hs,fun p=>⟨H0,H1,H2,H3,H4,H5,.inr HM,HL.1,HL.2,H12,H13,H14,H15,.inl Gy,p⟩⟩)
      exact lZ
     ·have Gy:=ae h5;have g6:(c.f 5 != 2)=true:=by simp[h5]
      clear h5
      by_cases h2:c.h.length=0
      ·have Hh:=ae h2;have g2:¬((0:Int)<(n:Int)):=by have:=H.len;omega
       clear h2;have Hb:=aB (Al c=lQ (c.f 2) c.h) (by
        rw[Bool.eq_iff_iff,xT,pQ];exact⟨fun p=>p.hs,fun p=>⟨H0,H1,H2,H3,H4,H5,.inr HM,HL.1,HL.2,H12,H13,H14,H15,.inr Hh,p⟩⟩)
       exact lZ
      ·exact si
    ·have g5:(c.f 5 != 0)=true:=by simp[hz]
     have g4:(c.f 4 != 2)=true:=by simp[hm]
     have HH:=ae<|And.intro hz hm;clear hz hm;have Hr:=ae<|fg (c:=c) fun p=>p.pp.elim HH.1 HH.2;go_wp2_with fail;go_ret;exact⟨by rw[Hr.out];rfl,HO⟩
end
end
section
open Go.ChangeShapes Go.RowKit Go.WideShapes
theorem mP {α β:Type}(f:α→List β)(s:Nat)(d:α)(hf:∀a,(f a).length=s):∀(l:List α) (i j:Nat),i<l.length→j<s→(l.flatMap f)[i*s+j]? =(f (l.getD i d))[j]?
 | [],i,j,h,_=>absurd h (Nat.not_lt_zero _)
 |a :: l,0,j,_,hj=>by
  rw[List.flatMap_cons,Nat.zero_mul,Nat.zero_add,List.getElem?_append_left (by rw[hf];exact hj)];rfl
 |a :: l,i+1,j,h,hj=>by
  rw[List.flatMap_cons,List.getElem?_append_right (by rw[hf,Nat.succ_mul];omega),hf,show(i+1)*s+j - s=i*s+j from by rw[Nat.succ_mul];omega];exact mP f s d hf l i j (by simpa using h) hj
def hC (h:aS):List Value:=[ah h.fr,ah h.size,ah h.often,.bool h.loop]
theorem S0 (h:aS):(hC h).length=4:=rfl
theorem zq (L:List aS):(L.flatMap hC).length=L.length*4:=by
 rw[List.length_flatMap];have:(L.map fun p=>(hC p).length)=L.map fun _=>4:=rfl
 rw[this,List.map_const',List.sum_replicate_nat]
theorem aW.cells {w:World}{A:Option Addr}{n c:Nat}{l:List aS}(h:aW w A n c l)(ad:Addr)(had:A=some ad):∀j u,(l.flatMap hC)[j]? =some u→w.cell? (ad.add j)=some u:=by
 intro j u hj;have J5:j<l.length*4:=by rw[←zq];exact(List.getElem?_eq_some_iff.1 hj).1
 have hi:j / 4<l.length:=ao;obtain⟨g,o,e,hg,c0,c1,c2,c3⟩:=h.at_ (j / 4) hi;rw[had]at e;injection e with e;subst e;have hd:j=j / 4*4+j % 4:=ao;rw[hd,mP hC 4 default S0 l (j / 4) (j % 4) hi ao]at hj;rw[Addr.add_lit];have hm:j % 4<4:=Nat.mod_lt _ aD;rw[show o+j=o+j / 4*4+j % 4 from by omega];generalize j % 4=q at *;rcases(show q=0∨q=1∨q=2∨q=3 by omega)with rfl|rfl|rfl|rfl
 ·exact c0.trans hj
 ·exact c1.trans hj
 ·exact c2.trans hj
 ·exact c3.trans hj
theorem Co {w:World}{base:Nat}{v:Value}{L:List aS}(h:w.ownsRow base 76 4 v L.length (L.flatMap hC)):∃A c,v= .slice A L.length c∧aW w A L.length c L:=by
 rcases h.2 with⟨e,h0⟩|⟨g,cap,cur,e,hb,hg,hn,hm,hs,ht⟩
 ·rw[h0];refine⟨none,0,e,⟨h0.symm,dT _,dT _,fun i hi=>?_⟩⟩;omega
 ·refine⟨some ⟨g,0,none⟩,cap,e,⟨rfl,hn,hm,fun i hi=>?_⟩⟩;have key:∀j u,j<4→(hC (L.getD i default))[j]? =some u→aE w g (0+i*4+j) u:=fun j u hj hu=>by
   have hc:=h.cells (g:=g) (by rw[e];rfl) (i*4+j) u (by rw[mP hC 4 default S0 L i j hi hj];exact hu);rw[Addr.add_lit,←Nat.add_assoc]at hc;exact hc
  exact⟨g,0,rfl,(Array.getElem?_eq_some_iff.1 hg).1,key 0 _ aD rfl,key 1 _ aD rfl,key 2 _ aD rfl,key 3 _ aD rfl⟩
def zH:Array Value:=#[ah 0,ah 0,ah 0,.bool false]
theorem B3:(Tryz.prog.info? 76).map (fun i=>(i.zero,i.size,i.bytes))=some (some (.agg zH),4,32):=by kernel_rfl
def X6 (l:List aS)(w:World)(e:Ending)(w':World):Prop:=
 ∃A c,e= .returned (.slice A l.length c)∧aW w' A l.length c l∧ag az w w'∧(∀k,aK (.slice A l.length c) k→w.heap.size≤k)∧∀k,aK (.slice A l.length c) k→∃cs,Box w' k 76 cs
def ace (l:List aS)(w:World)(e:Ending)(w':World):Prop:=
 ∃A c,e= .returned (.slice A l.length c)∧aW w' A l.length c l∧ag az w w'∧∀k,aK (.slice A l.length c) k→w.heap.size≤k
section
theorem mz{P:Prop}(h:P:=by have:=HL.out;unfold maxLen;omega):P:=h
theorem bh{P:Prop}(h:P:=by rw[World.size_alloc];omega):P:=h
theorem gO{P:Prop}(h:P:=by have:=HL.out;omega):P:=h
theorem yc {A:Option Addr}{n c:Nat}{l:List aS}(w:World)(h:aW w A n c l)(hl:l.length≤100):Calls Tryz.prog 32 #[.slice A n c] w (X6 l w):=by
 have he:=fun w=>Lib.run_eql_slice_nil (P:=Tryz.prog) (w:=w)
 obtain rfl:=h.len
 cases A with
 |none=>
  have h0:l= []:=by
   cases l with
   |nil=>rfl
   |cons a l=>
    obtain⟨g,o,e,_⟩:=h.at_ 0 (Nat.zero_lt_succ _)
    cases e
  subst h0;clear h
  go_enter Tryz.func32,Tryz.ntmps32
  go_wp2_with fail;go_ret;exact⟨none,0,rfl,⟨rfl,dm _,dT _,fun i hi=>absurd hi (Nat.not_lt_zero _)⟩,ag.aj _ _,fun k hk=>(a7 hk).elim,fun k hk=>(a7 hk).elim⟩
 |some ad=>
  obtain⟨i0,hi,hz,hsz,kv⟩:=info_parts B3;have bu:ag az w (w.alloc (.cells #[] 76)):=(ag.aj _ _).alloc _;have bF:(w.alloc (.cells #[] 76)).ownsRow w.heap.size 76 4 (aU w.heap.size 0 0) 0 []:=⟨rfl,.inr ⟨w.heap.size,0,#[],rfl,dm _,Box.fresh w 76 #[],dm _,dT _,rfl,rfl⟩⟩;have yR:=(h.keep bu).cells ad rfl;have mI:=ae bF;have HCE:=ae yR;have GI:=ae bu;have kx:=aB (∀u∈l.flatMap hC,u.oneCell'=true) (fun u hu=>by
   obtain⟨p,hp,hu⟩:=List.mem_flatMap.1 hu;simp[hC]at hu;rcases hu with rfl|rfl|rfl|rfl<;>rfl)
  have HL:=ae hl;have HI:=ae hi;have HZ:=ae hz;have HS:=ae hsz;have HB:=ae kv;clear bF yR bu h hl hi hz hsz kv
  go_enter Tryz.func32,Tryz.ntmps32
  go_wp2_with (at_builtin;refine wpList_append_own_at (w.alloc (.cells #[] 76)) rfl (.tmp 5) (.tmp 6) 23 rfl w.heap.size 76 i0 _ 4 32 Tryz.underlying23 HI HZ HS HB rfl aD _ 0 [] rfl mI ad l.length c (l.flatMap hC) rfl (zq l) HCE kx mz gO bh ?_;intro v' w1 h2 h3 h4 h5;have H2:=ae h2;have H3:=ae h3;have H5:=ae h5;clear h2 h3 h4 h5);go_ret;have h2:=H2.out;rw[Nat.zero_add,List.nil_append]at h2;obtain⟨A',c',rfl,hh⟩:=Co h2;exact⟨A',c',rfl,hh,GI.aC ((ag.aj _ _).grown (S:=fun k=>w.heap.size≤k) H3 fun k hk=>.inl (by
   have:w.heap.size=k:=aG.1 hk;omega)) fun k hk=>.inr hk,fun k hk=>(World.ownsRow.lt h2 k hk).1,fun k hk=>by
   rcases h2.2 with⟨e9,_⟩|⟨g9,aaP,VR,e9,_,hg9,_⟩
   ·rw[e9]at hk;exact(a7 hk).elim
   ·rw[e9]at hk;rw[←aG.1 hk];exact⟨VR,hg9⟩⟩
theorem Cw {A:Option Addr}{n c:Nat}{l:List aS}(w:World)(h:aW w A n c l)(hl:l.length≤100):Calls Tryz.prog 32 #[.slice A n c] w (ace l w):=
 (yc w h hl).mono fun e w' ⟨A,c,h1,h2,h3,h4,_⟩=>⟨A,c,h1,h2,h3,h4⟩
end
end
section
open Go.RowKit
section
theorem l8{P:Prop}(h:P:=by
 go_enter Tryz.func60,Tryz.ntmps60
 go_wp2_with fail;go_ret;exact⟨rfl,rfl⟩):P:=h
theorem dP {n a b:Int}(h:a≤n∧n≤b)(w:World):Calls Tryz.prog 60 #[ah n,ah a,ah b] w fun e w'=>e= .returned (.bool true)∧w=w':=by
 obtain⟨h1,h2⟩:=h;exact l8
theorem eG {n a b:Int}(h:¬(a≤n∧n≤b))(w:World):Calls Tryz.prog 60 #[ah n,ah a,ah b] w fun e w'=>e= .returned (.bool false)∧w=w':=by
 by_cases h1:a≤n
 ·have h2:¬n≤b:=ao;clear h;exact l8
 ·clear h;exact l8
theorem r8{P:Prop}(h:P:=by
 go_enter Tryz.func95,Tryz.ntmps95
 go_wp2_with fail;go_ret;exact⟨rfl,(ag.aj _ _).alloc _⟩):P:=h
theorem SV {hd:aS}{b:Nat}(h:wA hd b)(h32:0≤hd.fr∧hd.fr≤32)(hb:b≤32)(w:World):Calls Tryz.prog 95 #[.agg #[ah hd.fr,ah hd.size,ah hd.often,.bool hd.loop],ah b] w fun e w'=>e= .returned (.bool true)∧ag az w w':=by
 obtain⟨fr,size,often,loop⟩:=hd;obtain⟨h1,h2⟩:=h;dsimp only at h1 h2 h32 ⊢;have e1:IntKind.i64.wrap ((b:Int) - fr)=b - fr:=IntWalk.i64_in _ ao;have h3:(b:Int) - fr<size:=ao;exact r8
theorem sN{P:Prop}(h:P:=by
 clear h;exact r8):P:=h
theorem YT {hd:aS}{b:Nat}(h:¬wA hd b)(h32:0≤hd.fr∧hd.fr≤32)(hb:b≤32)(w:World):Calls Tryz.prog 95 #[.agg #[ah hd.fr,ah hd.size,ah hd.often,.bool hd.loop],ah b] w fun e w'=>e= .returned (.bool false)∧ag az w w':=by
 obtain⟨fr,size,often,loop⟩:=hd;unfold wA at h;dsimp only at h h32 ⊢
 by_cases h1:fr≤(b:Int)
 ·have e1:IntKind.i64.wrap ((b:Int) - fr)=b - fr:=IntWalk.i64_in _ ao;have h3:¬(b:Int) - fr<size:=ao;exact sN
 ·exact sN
def Rh1 (blocks:Int)(l:List aS)(w:World)(i:Value)(wr:World):Prop:=
 ∃k:Nat,k≤l.length∧i=ah k∧(∀j,j<k→zA blocks (l.getD j default))∧(∀i j,i<j→j<k→pK (l.getD i default) (l.getD j default))∧ag az w wr
def Rh2 (l:List aS)(k F Z hb:Nat)(w:World)(often:Int)(loop:Bool)(i:Value)(wr:World):Prop:=
 ∃q:Nat,q≤32∧i=ah q∧(∀b j,b<q→j<k→¬(wA ⟨F,Z,often,loop⟩ b∧wA (l.getD j default) b))∧Box wr hb 76 #[ah F,ah Z,ah often,.bool loop]∧ag az w wr
def Rh3 (l:List aS)(k q F Z hb:Nat)(w:World)(often:Int)(loop:Bool)(i:Value)(wr:World):Prop:=
 ∃r:Nat,r≤k∧i=ah r∧(∀j,j<r→¬(wA ⟨F,Z,often,loop⟩ q∧wA (l.getD j default) q))∧Box wr hb 76 #[ah F,ah Z,ah often,.bool loop]∧ag az w wr
theorem Rh1.step {blocks:Int}{l:List aS}{k F Z:Nat}{w wr:World}{often:Int}{loop:Bool}(hx:l.getD k default=⟨F,Z,often,loop⟩)
 (hm:∀b j,b<32→j<k→¬(wA ⟨F,Z,often,loop⟩ b∧wA (l.getD j default) b)) (cD:∀j,j<k→zA blocks (l.getD j default)) (QV:∀i j,i<j→j<k→pK (l.getD i default) (l.getD j default))
 (N6:zA blocks ⟨F,Z,often,loop⟩) (ho:ag az w wr) (aY:k<l.length):Rh1 blocks l w (ah ((k:Int)+1)) wr:=by
 refine⟨k+1,aY,by simp,fun j hj=>?_,fun i j A0 hj=>?_,ho⟩
 ·exact rj
 ·rcases Nat.lt_or_ge j k with hk|hk
  ·exact QV i j A0 hk
  ·obtain rfl:j=k:=ao;have h1:=cD i A0;rw[hx];unfold zA at h1 N6;unfold pK;dsimp only at N6 ⊢;generalize hg:l.getD i default=g at *
   by_cases hgf:g.fr≤F
   ·have:=hm F i ao A0;rw[hg]at this;unfold wA at this;dsimp only at this;omega
   ·by_cases hc:g.fr<F+Z
    ·have:=hm g.fr.toNat i ao A0;rw[hg]at this;unfold wA at this;dsimp only at this;omega
    ·omega
theorem Ld (A:Option Addr)(n c:Nat)(l:List aS)(blocks:Int)(w:World)(h:aW w A n c l)(fB:1≤blocks)(dX:blocks≤32):
 Calls Tryz.prog 61 #[.slice A n c,ah blocks] w fun e w'=>e= .returned (.bool (lQ blocks l))∧ag az w w':=by
 obtain rfl:=h.len;have ox:=h.cap;have hmax:=h.max;have H:=ae h;unfold maxLen at hmax;clear h
 by_cases h8:l.length≤8
 rotate_left
 ·have Hr:=ae<|mT (blocks:=blocks) (l:=l) fun hp=>h8 hp.2.2;have h8b:(8:Int)<(l.length:Int):=ao
  go_enter Tryz.func61,Tryz.ntmps61
  go_wp2_with fail;go_ret;exact⟨by rw[Hr.out];rfl,ag.aj _ _⟩
 have h8b:¬(8:Int)<(l.length:Int):=ao;have H8:=ae h8
 go_enter Tryz.func61,Tryz.ntmps61
 go_wp2_with fail;clear h8 h8b
 go_loopw [5] (fun i wr=>Rh1 blocks l w i wr) (fun i _=>l.length - (intOf i).toNat)
 case atStart=>exact⟨0,dT _,rfl,fun j hj=>absurd hj ao,fun i j _ hj=>absurd hj ao,ag.aj _ _⟩
 case round=>
  obtain⟨k,hk,rfl,cD,QV,ho⟩:=hrel;have Z5:=ae cD;have Hap:=ae QV;have Ho:=ae ho
  by_cases aY:k<l.length
  ·obtain⟨g,o,rfl,hg,x0,x1,x2,x3⟩:=(H.keep ho).at_ k aY;have Hno:=ae<|fun(h:¬zA blocks (l.getD k default))=>mT (blocks:=blocks) (l:=l) fun hp=>h (hp.1 k aY);have Dd:(k:Int)<l.length:=ao;have Hlt:=ae aY;clear cD QV ho;generalize hx:l.getD k default=hd at *;obtain⟨fr,size,often,loop⟩:=hd;have Hx:=ae hx;clear hx;dsimp only at x0 x1 x2 x3
   by_cases c0:fr<0
   ·exact cE
   by_cases c1:size<1
   ·exact cE
   by_cases c2:32<fr
   ·exact cE
   by_cases c3:32<size
   ·exact cE
   have e1:IntKind.i64.wrap (fr+size)=fr+size:=IntWalk.i64_in _ ao
   by_cases c4:blocks<fr+size
   ·exact cE
   have c5:¬32<fr+size:=ao
   by_cases c6:often<0
   ·exact cE
   by_cases c7:2147483647<often
   ·exact cE
   have F6:fr=((fr.toNat:Nat):Int):=ao;have hsz:size=((size.toNat:Nat):Int):=ao;generalize fr.toNat=F at *;generalize size.toNat=Z at *;subst F6 hsz;have VW:=aB (zA blocks ⟨(F:Int),(Z:Int),often,loop⟩) (by unfold zA;dsimp only;omega);have HbH:=ae<|Box.fresh wr 76 #[ah F,ah Z,ah often,.bool loop];have HoH:=ae<|Ho.alloc (.cells #[ah F,ah Z,ah often,.bool loop] 76);have HhB:=aB (w.heap.size≤wr.heap.size) (Ho.size);have adN:=aB (0≤(F:Int)∧(F:Int)≤32) ao;go_wp2_with fail;clear c0 c1 c2 c3 c4 c5 c6 c7 e1;generalize wr.alloc (.cells #[ah F,ah Z,ah often,.bool loop] 76)=X at *;generalize hhb:wr.heap.size=hb at *;have Hhb:=ae hhb;clear hhb x0 x1 x2 x3
   go_loopw [7] (fun i wr=>Rh2 l k F Z hb w often loop i wr) (fun i _=>32 - (intOf i).toNat)
   case atStart=>exact⟨0,dT _,rfl,fun b j h=>absurd h (Nat.not_lt_zero _),HbH,HoH⟩
   case round=>
    obtain⟨q,hq,rfl,pY,gX,bp⟩:=hrel;have Hm2:=ae pY;have afB:=ae gX;have Z6:=ae bp;clear pY gX bp
    by_cases hqz:q<32
    ·have hqi:(q:Int)<32:=ao;go_wp2_with fail
     go_loopw [8] (fun i wr=>Rh3 l k q F Z hb w often loop i wr) (fun i _=>k - (intOf i).toNat)
     case atStart=>exact⟨0,dT _,rfl,fun j h=>absurd h (Nat.not_lt_zero _),afB,Z6⟩
     case round=>
      obtain⟨r,hr,rfl,CZ,gX,cB⟩:=hrel;have Hm3:=ae CZ;have Hbx:=ae gX;have Ho3:=ae cB
      by_cases hrk:r<k
      ·have y0:aw wr hb 0 F:=gX.af rfl;have y1:aw wr hb 1 Z:=gX.af rfl;have y2:aw wr hb 2 often:=gX.af rfl;have y3:aE wr hb 3 (.bool loop):=gX.af rfl;have agA:(r:Int)<k:=ao;have hrl:(r:Int)<l.length:=ao;clear CZ gX cB
       by_cases bw:wA ⟨(F:Int),(Z:Int),often,loop⟩ q
       ·have lL:=ae<|fun w=>SV (hd:=⟨(F:Int),(Z:Int),often,loop⟩) bw adN.out (by omega:q≤32) w;have Hin:=ae bw;clear bw;go_wp2_with fail;refine(lL _).mono ?_;rintro e w5 ⟨rfl,cA⟩;have Ho5:=ae<|Ho3.da cA;have afA:=ae<|cA.aq Hbx id;clear cA;obtain⟨g2,o2,hA2,hg2,z0,z1,z2,z3⟩:=(H.keep Ho5).at_ r ao;injection hA2 with hA2;injection hA2 with hg AZ ZB;subst hg AZ;have afz:=ae<|Z5 r hrk;generalize hxr:l.getD r default=wB at *;obtain⟨fr2,Sf,KV,Sh⟩:=wB;have Hxr:=ae hxr;clear hxr;dsimp only at z0 z1 z2 z3;have f2:0≤fr2∧fr2≤32:=by have:=afz.out;unfold zA at this;dsimp only at this;omega
        have F2n:=ae f2;clear f2
        by_cases N8:wA ⟨fr2,Sf,KV,Sh⟩ q
        ·have Bj:=ae<|fun w=>SV (hd:=⟨fr2,Sf,KV,Sh⟩) N8 F2n.out (by omega:q≤32) w;have Hr:=ae (mT (blocks:=blocks) (l:=l) fun hp=>by
          have:=hp.2.1 r k hrk Hlt;rw[Hx.out,Hxr.out]at this;have h1:=Hin.out;have h2:=N8;unfold pK at this;unfold wA at h1 h2;dsimp only at this h1 h2;omega)
         clear N8;go_wp2_with fail;refine(Bj _).mono ?_;rintro e w6 ⟨rfl,bT⟩;have Vm:=ae<|Ho5.da bT;clear bT;go_wp2_with fail;go_ret;exact⟨by rw[Hr.out];rfl,Vm⟩
        ·have Bj:=ae<|fun w=>YT (hd:=⟨fr2,Sf,KV,Sh⟩) N8 F2n.out (by omega:q≤32) w;have HN:=ae N8;clear N8;go_wp2_with fail;refine(Bj _).mono ?_;rintro e w6 ⟨rfl,bT⟩;have Vm:=ae<|Ho5.da bT;have aaU:=ae<|bT.aq afA id;clear bT;go_wp2_with fail;have HR:=aB (Rh3 l k q F Z hb w often loop (ah ((r:Int)+1)) w6) (⟨r+1,hrk,by simp,fun j hj=>by
          rcases Nat.lt_or_ge j r with h|h
          ·exact Hm3 j h
          ·obtain rfl:j=r:=ao;rw[Hxr.out];exact fun h=>HN h.2,aaU,Vm⟩)
         exact dp
       ·have lL:=ae<|fun w=>YT (hd:=⟨(F:Int),(Z:Int),often,loop⟩) bw adN.out (by omega:q≤32) w;have HN:=ae bw;clear bw;go_wp2_with fail;refine(lL _).mono ?_;rintro e w6 ⟨rfl,bT⟩;have Vm:=ae<|Ho3.da bT;have aaU:=ae<|bT.aq Hbx id;clear bT;go_wp2_with fail;have HR:=aB (Rh3 l k q F Z hb w often loop (ah ((r:Int)+1)) w6) (⟨r+1,hrk,by simp,fun j hj h=>HN h.1,aaU,Vm⟩);exact dp
      ·obtain rfl:r=k:=ao;clear CZ gX cB;go_wp2_with fail;have HR:=aB (Rh2 l r F Z hb w often loop (ah ((q:Int)+1)) wr) (⟨q+1,hqz,by simp,fun b j hb hj=>by
        rcases Nat.lt_or_ge b q with h|h
        ·exact Hm2 b j h hj
        ·obtain rfl:b=q:=ao;exact Hm3 j hj,Hbx,Ho3⟩)
       exact dp
    ·obtain rfl:q=32:=ao;go_wp2_with fail;have HR:=aB (Rh1 blocks l w (ah ((k:Int)+1)) wr) (Rh1.step Hx Hm2 Z5 Hap VW Z6 Hlt);exact dp
  ·have oJ:k=l.length:=ao;have Hr:=ae<|wh (blocks:=blocks) (l:=l) ⟨fun i hi=>Z5 i ao,fun i j A0 hj=>Hap i j A0 ao,H8⟩;clear cD QV ho;exact l9
end
end
end Go.Proofs.YtchofaecncibjaaGreat
