/- Lemmas. -/
import Derived.Test.YtpcfhbeakecihaaGreatM5
import Derived.Test.YtpcfhbeakecihaaGreatM9
import Derived.BigQuiet
import Derived.Deep.OwnRows
import Derived.Test.YtpcfhbeakecihaaGreatProg
import Derived.WalkLawsBesides
set_option linter.all false
set_option maxHeartbeats 20000000
set_option maxRecDepth 100000
namespace Go.Proofs.YtpcfhbeakecihaaGreat
section
open Go.RowKit
def cH (w:World)(v:Value)(l:List Int):Prop:=∃A c,v= .slice A l.length c∧l.length≤c∧l.length≤140737488355328∧Src w A (l.map (Value.int .u8))
theorem cH.ar {S:Nat→Prop}{w w':World}{v:Value}{l:List Int}(h:cH w v l)(ho:af S w w')(hn:∀k,aJ v k→¬S k):cH w' v l:=by
 obtain⟨A,c,rfl,h1,h2,h3⟩:=h;exact⟨A,c,rfl,h1,h2,h3.ar ho fun g o e _=>hn g (by subst e;exact aD.2 rfl)⟩
theorem cH.keep {S:Nat→Prop}{w w':World}{v:Value}{l:List Int}(h:cH w v l)(ho:af S w w')(hn:0<l.length→∀k,aJ v k→k<w.heap.size→¬S k):cH w' v l:=by
 obtain⟨A,c,rfl,h1,h2,h3⟩:=h
 by_cases hz:0<l.length
 ·exact⟨A,c,rfl,h1,h2,h3.ar ho fun g o e hg=>hn hz g (by subst e;exact aD.2 rfl) hg⟩
 ·have:l= []:=List.eq_nil_of_length_eq_zero aj;subst this;exact⟨A,c,rfl,h1,h2,Src.lJ _ _⟩
theorem fC:(Tryz.prog.info? 5).map (fun i=>(i.zero,i.size,i.bytes))=some (some (.int .u8 0),1,1):=by kernel_rfl
section
theorem EL (n c:Nat)(w:World):Calls Tryz.prog 60 #[.slice none n c] w fun e w'=>e= .returned aT∧w=w':=by
 have he:=fun w=>Lib.run_eql_slice_nil (P:=Tryz.prog) (w:=w)
 go_enter Tryz.func60,Tryz.ntmps60
 go_wp2_with fail;go_ret;exact⟨rfl,rfl⟩
theorem Row.sa {w:World}{v:Value}{l:List Int}(h:Row 5 w v (l.map (Value.int .u8)))(hl:l.length≤140737488355328):cH w v l:=by
 obtain⟨A,c,hv,hs⟩:=h.src;obtain⟨A',c',MV,h1,h2⟩:=h.shape;rw[List.length_map]at hv MV h1;rw[hv]at MV;injection MV with e1 e2 e3;subst e1 e3;exact⟨A,c,hv,h1,hl,hs⟩
abbrev bytes (l:List Int):List Value:=l.map (Value.int .u8)
theorem qK (l:List Int):∀u∈bytes l,u.oneCell'=true:=fun u hu=>by obtain⟨x,_,rfl⟩:=List.mem_map.1 hu;rfl
def mM (l:List Int)(w:World)(e:Ending)(w':World):Prop:=
 ∃v,e= .returned v∧Row 5 w' v (bytes l)∧af au w w'∧∀k,aJ v k→w.heap.size≤k
def Cl (l:List Int)(w:World)(e:Ending)(w':World):Prop:=mM l w e w'
theorem EK (a:Addr)(c:Nat)(l:List Int)(w:World)(h:cH w (.slice (some a) l.length c) l):
 Calls Tryz.prog 60 #[.slice (some a) l.length c] w (Cl l w):=by
 obtain⟨A,c',e,h1,h2,h3⟩:=h;injection e with e1 e2 e3;subst e1;have fW:af au w (w.alloc (.cells #[] 5)):=(af.ai _ _).alloc _;have gY:Row 5 (w.alloc (.cells #[] 5)) (bp w.heap.size 0 0) []:=.inr ⟨_,0,#[],rfl,Box.fresh _ _ _,dX _,dX _,fH _,rfl⟩;have iD:Src (w.alloc (.cells #[] 5)) (some a) (l.map (Value.int .u8)):=h3.ar fW fun _ _ _ _=>id
 have he:=fun w=>Lib.run_eql_slice_nil (P:=Tryz.prog) (w:=w)
 have xh:∀u∈l.map (Value.int .u8),u.oneCell'=true:=by
  intro u hu;obtain⟨z,_,rfl⟩:=List.mem_map.1 hu;rfl
 have ei:([]:List Value).length+(l.map (Value.int .u8)).length≤maxLen:=by simp only[List.length_nil,List.length_map,maxLen];omega
 have ez:(([]:List Value).length+(l.map (Value.int .u8)).length)*1≤140737488355328:=by simp only[List.length_nil,List.length_map];omega
 have Hb1:=ae ei;clear ei;have Hb2:=ae ez;clear ez;have aa9:=ae xh;clear xh;have UR:l.length=(l.map (Value.int .u8)).length:=by simp
 have Hln:=ae UR;clear UR;generalize hvs:l.map (Value.int .u8)=vs at *;have Hvs:=ae hvs;clear hvs;clear e2 e3 h3
 go_enter Tryz.func60,Tryz.ntmps60
 go_wp2_with (at_builtin;refine bA _ rfl (.tmp 5) (.tmp 6) 35 5 rfl fC rfl Tryz.underlying35 (bp w.heap.size 0 0) [] rfl gY (some a) l.length c vs rfl Hln iD aa9 Hb1 Hb2 ?_;intro v' w1 Rg BI bf _);go_ret;rw[List.nil_append]at Rg;refine⟨v',rfl,by rw[bytes,Hvs.out];exact Rg,fW.aG BI (fun k hk=>.inr ad5),fun k hk=>?_⟩;rcases bf k hk with h|h
 ·rw[aD]at h;omega
 ·simp at h;omega
theorem gX (v:Value)(l:List Int)(w:World)(h:cH w v l):Calls Tryz.prog 60 #[v] w (Cl l w):=by
 have h':=h;obtain⟨A,c,rfl,h1,h2,h3⟩:=h
 cases A with
 |some a=>exact EK a c l w h'
 |none=>
  have hl:l= []:=by
   cases l with
   |nil=>rfl
   |cons x l=>obtain⟨g,o,e,_⟩:=h3 0 _ rfl;cases e
  subst hl;refine(EL _ _ w).mono ?_;rintro e w' ⟨rfl,rfl⟩;exact⟨_,rfl,Row.lJ _ _,af.ai _ _,fun k hk=>(bo hk).elim⟩
def Zi (la lb:List Int)(w:World)(i:Value)(wr:World):Prop:=∃k:Nat,k≤la.length∧i=ah k∧(∀j,j<k→la.getD j 0=lb.getD j 0)∧∃m,w.drewN m=wr
theorem alike (la lb:List Int)(hl:la.length=lb.length)(h:∀j,j<la.length→la.getD j 0=lb.getD j 0):la=lb:=by
 apply List.ext_getElem hl;intro i h1 h2;have:=h i h1;simpa [List.getD,h1,h2] using this
theorem cH.ag {w:World}{A:Option Addr}{n c:Nat}{l:List Int}(h:cH w (.slice A n c) l){i:Nat}(hi:i<l.length):
 ∃g o,A=some ⟨g,o,none⟩∧aM w g (o+i) (.int .u8 (l.getD i 0)):=by
 obtain⟨A',c',e,_,_,h3⟩:=h;injection e with e1 e2 e3;subst e1;exact h3 i _ (by simp[hi])
theorem cH.len {w:World}{A:Option Addr}{n c:Nat}{l:List Int}(h:cH w (.slice A n c) l):n=l.length∧l.length≤140737488355328:=by
 obtain⟨A',c',e,_,h2,h3⟩:=h;injection e with e1 e2;exact⟨e2,h2⟩
theorem Ic (A B:Option Addr)(ca cb:Nat)(la lb:List Int)(w:World)(ha:cH w (.slice A la.length ca) la)(hb:cH w (.slice B lb.length cb) lb):
 Calls Tryz.prog 15 #[.slice A la.length ca,.slice B lb.length cb] w fun e w'=>e= .returned (.bool (decide (la=lb)))∧∃m,w.drewN m=w':=by
 have h1:=ha.len.2;have h2:=hb.len.2
 by_cases hl:la.length=lb.length
 ·have UR:((la.length:Int) != (lb.length:Int))=false:=by simp[hl]
  have Hl:=ae hl;have hll:la.length≤lb.length:=aj;clear hl
  go_enter Tryz.func15,Tryz.ntmps15
  go_wp2_with fail
  go_loopw [5] (fun i wr=>Zi la lb w i wr) (fun i _=>la.length - (intOf i).toNat)
  case atStart=>exact⟨0,aj,rfl,fun j hj=>absurd hj aj,0,rfl⟩
  case round=>
   obtain⟨k,hk,rfl,heq,m,rfl⟩:=hrel;have Xa:=ae heq;clear heq
   by_cases aY:k<la.length
   ·obtain⟨g,o,rfl,hc⟩:=ha.ag aY;obtain⟨g',o',rfl,hc'⟩:=hb.ag (show k<lb.length by omega);generalize hx:la.getD k 0=x at *;generalize hy:lb.getD k 0=y at *;have Hx:=ae hx;have Hy:=ae hy;clear hx hy
    by_cases E0:x=y
    ·subst E0;have Bm:(k:Int)<lb.length:=aj;have SP:(k:Int)<la.length:=aj;go_wp2_with fail
     go_quiet (fail)
     go_wp2
     go_roundw
     case rel=>exact⟨k+1,aj,by go_num,fun j hj=>by
      rcases Nat.lt_or_ge j k with h|h
      ·exact Xa j h
      ·obtain rfl:j=k:=aj;rw[Hx.out,Hy.out],_,rfl⟩
     case measure=>simp[intOf];omega
    ·have hne:(x != y)=true:=by simp[E0]
     have Bm:(k:Int)<lb.length:=aj;have SP:(k:Int)<la.length:=aj;have hf:decide (la=lb)=false:=decide_eq_false fun e=>E0 (by rw[←Hx.out,←Hy.out,e])
     have Hf:=ae hf;clear hf E0;go_wp2_with fail
     go_quiet (fail)
     go_wp2;go_ret;exact⟨by rw[Hf.out];rfl,_,(World.drewN_drewN _ _ _).symm⟩
   ·have hf:decide (la=lb)=true:=decide_eq_true (alike la lb Hl fun j hj=>Xa j aj);have Hf:=ae hf;clear hf;go_wp2_with fail;go_ret;exact⟨by rw[Hf.out];rfl,_,rfl⟩
 ·have UR:((la.length:Int) != (lb.length:Int))=true:=by simp;omega
  have hf:decide (la=lb)=false:=decide_eq_false fun e=>hl (by rw[e])
  have Hf:=ae hf;clear hl hf
  go_enter Tryz.func15,Tryz.ntmps15
  go_wp2_with fail;go_ret;exact⟨by rw[Hf.out];rfl,0,rfl⟩
theorem BS (va vb:Value)(la lb:List Int)(w:World)(ha:cH w va la)(hb:cH w vb lb):
 Calls Tryz.prog 15 #[va,vb] w fun e w'=>e= .returned (.bool (decide (la=lb)))∧∃m,w.drewN m=w':=by
 have ha':=ha;have ry:=hb;obtain⟨A,ca,rfl,_⟩:=ha;obtain⟨B,cb,rfl,_⟩:=hb;exact Ic A B ca cb la lb w ha' ry
end
structure aH where
 fr:Int
 size:Int
 often:Int
 loop:Bool
 deriving DecidableEq
instance:Inhabited aH:=⟨⟨0,0,0,false⟩⟩
def Aj (blocks:Int)(h:aH):Prop:=0≤h.fr∧1≤h.size∧h.fr≤blocks∧h.size≤blocks - h.fr∧h.fr+h.size≤32∧0≤h.often∧h.often≤2147483647
def vC (g h:aH):Prop:=g.fr+g.size≤h.fr∨h.fr+h.size≤g.fr
def C9 (h:aH)(b:Nat):Prop:=h.fr≤b∧(b:Int)<h.fr+h.size
def cT (blocks:Int)(l:List aH):Prop:=
 (∀i,i<l.length→Aj blocks (l.getD i default))∧(∀i j,i<j→j<l.length→vC (l.getD i default) (l.getD j default))∧l.length≤8
noncomputable def lz (blocks:Int)(l:List aH):Bool:= @decide (cT blocks l) (Classical.propDecidable _)
theorem tL {blocks:Int}{l:List aH}(h:¬cT blocks l):lz blocks l=false:=by unfold lz;exact @decide_eq_false _ (Classical.propDecidable _) h
theorem wz {blocks:Int}{l:List aH}(h:cT blocks l):lz blocks l=true:=by unfold lz;exact @decide_eq_true _ (Classical.propDecidable _) h
structure aX (w:World)(A:Option Addr)(n c:Nat)(l:List aH):Prop where
 len:n=l.length
 cap:n≤c
 max:c≤maxLen
 at_:∀i,i<l.length→∃g o,A=some ⟨g,o,none⟩∧g<w.heap.size∧aF w g (o+i*4) ((l.getD i default).fr)∧aF w g (o+i*4+1) ((l.getD i default).size)∧
  aF w g (o+i*4+2) ((l.getD i default).often)∧aM w g (o+i*4+3) (.bool (l.getD i default).loop)
theorem aX.ar {S:Nat→Prop}{w w':World}{A:Option Addr}{n c:Nat}{l:List aH}(h:aX w A n c l)(ho:af S w w')(hS:∀k,k<w.heap.size→¬S k):aX w' A n c l:=
 ⟨h.len,h.cap,h.max,fun i hi=>by
  obtain⟨g,o,e,hg,h0,h1,h2,h3⟩:=h.at_ i hi;have hn:=hS g hg;exact⟨g,o,e,Nat.lt_of_lt_of_le hg ho.size,ho.cell h0 hn,ho.cell h1 hn,ho.cell h2 hn,ho.cell h3 hn⟩⟩
theorem aX.keep {w w':World}{A:Option Addr}{n c:Nat}{l:List aH}(h:aX w A n c l)(ho:af au w w'):aX w' A n c l:=h.ar ho fun _ _=>id
section
theorem rL (n a b:Int)(w:World):Calls Tryz.prog 79 #[ah n,ah a,ah b] w fun e w'=>e= .returned (.bool (decide (a≤n)&&decide (n≤b)))∧w=w':=by
 by_cases h1:a≤n
 ·by_cases h2:n≤b
  ·go_enter Tryz.func79,Tryz.ntmps79
   go_wp2_with fail;go_ret;exact⟨by simp[h1,h2],rfl⟩
  ·go_enter Tryz.func79,Tryz.ntmps79
   go_wp2_with fail;go_ret;exact⟨by simp[h1,h2],rfl⟩
 ·go_enter Tryz.func79,Tryz.ntmps79
  go_wp2_with fail;go_ret;exact⟨by rw[decide_eq_false (show¬a≤n by omega)];rfl,rfl⟩
structure BN (wr:World)(mb:Nat)(f:Nat→Prop):Prop where
 ex:∃cs:Array Value,Box wr mb 188 cs∧cs.size=32∧∀b,b<32→∃x:Bool,cs[b]? =some (.bool x)∧(x=true↔f b)
def WZ (blocks:Int)(l:List aH)(w:World)(i:Value)(wr:World):Prop:=
 ∃k:Nat,k≤l.length∧i=ah k∧BN wr w.heap.size (fun b=>∃j,j<k∧C9 (l.getD j default) b)∧(∀j,j<k→Aj blocks (l.getD j default))∧(∀i j,i<j→j<k→vC (l.getD i default) (l.getD j default))∧af au w wr
def Hi2 (l:List aH)(k F Z hb mb:Nat)(w:World)(often:Int)(loop:Bool)(i:Value)(wr:World):Prop:=
 ∃q:Nat,q≤Z∧i=ah q∧BN wr mb (fun b=>(∃j,j<k∧C9 (l.getD j default) b)∨(F≤b∧b<F+q))∧(∀b,F≤b→b<F+q→¬∃j,j<k∧C9 (l.getD j default) b)∧
  Box wr hb 100 #[ah F,ah Z,ah often,.bool loop]∧af au w wr
theorem Md (w:World)(f:Nat→Prop)(hf:∀b,¬f b)(cs:Array Value)(hcs:cs=Array.replicate 32 (.bool false)):BN (w.alloc (.cells cs 188)) w.heap.size f:=by
 subst hcs;refine⟨_,Box.fresh w _ _,by simp,fun b hb=>⟨false,by simp[hb],by simp[hf b]⟩⟩
theorem Hi2.step {l:List aH}{k F Z hb:Nat}{w wr:World}{often:Int}{loop:Bool}{q:Nat}{cs:Array Value}(hx:l.getD k default=⟨F,Z,often,loop⟩)
 (hcs:∀b,b<32→∃x:Bool,cs[b]? =some (.bool x)∧(x=true↔(∃j,j<k∧C9 (l.getD j default) b)∨F≤b∧b<F+q)) (QS:Box wr w.heap.size 188 cs) (hsz:cs.size=32)
 (JV:false=true↔(∃j,j<k∧C9 (l.getD j default) (F+q))∨F≤F+q∧F+q<F+q)
 (py:Box wr hb 100 #[ah F,ah Z,ah often,.bool loop]) (ho:af au w wr) (pN:∀b,F≤b→b<F+q→¬∃j,j<k∧C9 (l.getD j default) b) (hq:q<Z) (h32:F+Z≤32) (hne:w.heap.size≠hb):
 Hi2 l k F Z hb w.heap.size w often loop (ah ((q:Int)+1)) (wr.setCell ⟨w.heap.size,F+q,none⟩ (.bool true)):=by
 refine⟨q+1,hq,by simp,⟨_,QS.store _ _,by simpa using hsz,fun b hb=>?_⟩,fun b h1 h2=>?_,py.q7 (fun e=>hne e.symm) _,ho.setCell (.inr (dX _)) _⟩
 ·by_cases hbq:b=F+q
  ·subst hbq;exact⟨true,by rw[Array.getElem?_setIfInBounds_self_of_lt aj],⟨fun _=>.inr ⟨aj,aj⟩,fun _=>rfl⟩⟩
  ·obtain⟨x,h1,h2⟩:=hcs b hb;refine⟨x,by rw[Array.getElem?_setIfInBounds_ne aj];exact h1,h2.trans ⟨fun h=>?_,fun h=>?_⟩⟩
   ·rcases h with h|h
    ·exact .inl h
    ·exact .inr ⟨h.1,aj⟩
   ·rcases h with h|h
    ·exact .inl h
    ·exact .inr ⟨h.1,aj⟩
 ·by_cases hbq:b=F+q
  ·subst hbq;intro h;exact Bool.false_ne_true (JV.2 (.inl h))
  ·exact pN b h1 aj
theorem aeu{P:Prop}(h:P:=by
 rcases Nat.lt_or_ge j k with hk|hk
 ·exact bN j hk
 ·obtain rfl:j=k:=aj;rw[hx];exact SJ):P:=h
theorem WZ.step {blocks:Int}{l:List aH}{k F Z:Nat}{w wr:World}{often:Int}{loop:Bool}(hx:l.getD k default=⟨F,Z,often,loop⟩)
 (hm:BN wr w.heap.size (fun b=>(∃j,j<k∧C9 (l.getD j default) b)∨F≤b∧b<F+Z)) (bN:∀j,j<k→Aj blocks (l.getD j default)) (WD:∀i j,i<j→j<k→vC (l.getD i default) (l.getD j default))
 (SJ:Aj blocks ⟨F,Z,often,loop⟩) (pN:∀b,F≤b→b<F+Z→¬∃j,j<k∧C9 (l.getD j default) b) (ho:af au w wr) (aY:k<l.length):WZ blocks l w (ah ((k:Int)+1)) wr:=by
 refine⟨k+1,aY,by simp,?_,fun j hj=>?_,fun i j Dl hj=>?_,ho⟩
 ·obtain⟨cs,h1,h2,h3⟩:=hm;refine⟨cs,h1,h2,fun b hb=>?_⟩;obtain⟨x,h4,h5⟩:=h3 b hb;refine⟨x,h4,h5.trans ⟨fun h=>?_,fun⟨j,hj,h⟩=>?_⟩⟩
  ·rcases h with⟨j,hj,h⟩|h
   ·exact⟨j,aj,h⟩
   ·exact⟨k,aj,by rw[hx];unfold C9;dsimp only;omega⟩
  ·rcases Nat.lt_or_ge j k with hk|hk
   ·exact .inl ⟨j,hk,h⟩
   ·obtain rfl:j=k:=aj;rw[hx]at h;unfold C9 at h;dsimp only at h;exact .inr aj
 ·exact aeu
 ·rcases Nat.lt_or_ge j k with hk|hk
  ·exact WD i j Dl hk
  ·obtain rfl:j=k:=aj;have h1:=bN i Dl;rw[hx];unfold Aj at h1 SJ;unfold vC;dsimp only at SJ ⊢;generalize hg:l.getD i default=g at *
   by_cases hgf:g.fr≤F
   ·have:=pN F (dX _) aj;have h2:¬C9 g F:=fun h=>this ⟨i,Dl,by rw[hg];exact h⟩
    unfold C9 at h2;omega
   ·by_cases hc:g.fr<F+Z
    ·have:=pN g.fr.toNat aj aj;have h2:¬C9 g g.fr.toNat:=fun h=>this ⟨i,Dl,by rw[hg];exact h⟩
     unfold C9 at h2;omega
    ·omega
theorem gz{P:Prop}(h:P:=by
 have Hr:=ae<|Hno (fun h=>by unfold Aj at h;dsimp only at h;omega);go_wp2_with fail;go_ret;exact⟨by rw[Hr.out];rfl,Ho.alloc _⟩):P:=h
theorem aea{P:Prop}(h:P:=by
 clear hkn;go_wp2_with fail;go_ret;exact⟨by rw[Hr.out];rfl,Ho⟩):P:=h
theorem yn (A:Option Addr)(n c:Nat)(l:List aH)(blocks:Int)(w:World)(h:aX w A n c l)(ei:1≤blocks)(ez:blocks≤32):
 Calls Tryz.prog 80 #[.slice A n c,ah blocks] w fun e w'=>e= .returned (.bool (lz blocks l))∧af au w w':=by
 obtain rfl:=h.len;have za:=h.cap;have hmax:=h.max;have H:=ae h;have HW:=ae<|fun n a b w=>rL n a b w;unfold maxLen at hmax;clear h
 go_enter Tryz.func80,Tryz.ntmps80
 go_wp2_with fail
 go_loopw [11] (fun i wr=>WZ blocks l w i wr) (fun i _=>l.length - (intOf i).toNat)
 case atStart=>exact⟨0,fH _,rfl,Md w _ (fun b ⟨j,hj,_⟩=>absurd hj aj) _ rfl,fun j hj=>absurd hj aj,fun i j _ hj=>absurd hj aj,(af.ai _ _).alloc _⟩
 case round=>
  obtain⟨k,hk,rfl,hm,bN,WD,ho⟩:=hrel;have Hm:=ae hm;have Hok:=ae bN;have Hap:=ae WD;have Ho:=ae ho
  by_cases aY:k<l.length
  ·obtain⟨g,o,rfl,hg,x0,x1,x2,x3⟩:=(H.keep ho).at_ k aY;have Hno:=ae<|fun(h:¬Aj blocks (l.getD k default))=>tL (blocks:=blocks) (l:=l) fun hp=>h (hp.1 k aY);have Bm:(k:Int)<l.length:=aj;have WY:=ae aY;clear hm bN WD ho;generalize hx:l.getD k default=hd at *;obtain⟨fr,size,often,loop⟩:=hd;have Hx:=ae hx;clear hx;dsimp only at x0 x1 x2 x3
   by_cases c0:fr<0
   ·exact gz
   by_cases c1:size<1
   ·exact gz
   by_cases c2:blocks<fr
   ·exact gz
   have e1:IntKind.i64.wrap (blocks - fr)=blocks - fr:=IntWalk.i64_in _ aj
   by_cases c3:blocks - fr<size
   ·exact gz
   have e2:IntKind.i64.wrap (fr+size)=fr+size:=IntWalk.i64_in _ aj;have c4:¬32<fr+size:=aj;have HWw:=ae<|fun w=>HW often 0 2147483647 w
   by_cases c5:0≤often∧often≤2147483647
   ·have RY:=HWw.out;rw[decide_eq_true c5.1,decide_eq_true c5.2]at RY;have HWy:=ae RY;clear RY HWw;have M0:fr=((fr.toNat:Nat):Int):=aj;have hsz:size=((size.toNat:Nat):Int):=aj;generalize fr.toNat=F at *;generalize size.toNat=Z at *;subst M0 hsz;have Ym:=aq (Aj blocks ⟨(F:Int),(Z:Int),often,loop⟩) (by unfold Aj;dsimp only;omega);have HbH:=ae<|Box.fresh wr 100 #[ah F,ah Z,ah often,.bool loop];have HoH:=ae<|Ho.alloc (.cells #[ah F,ah Z,ah often,.bool loop] 100);have HmH:=aq (BN (wr.alloc (.cells #[ah F,ah Z,ah often,.bool loop] 100)) w.heap.size (fun b=>∃j,j<k∧C9 (l.getD j default) b)) (by
     obtain⟨cs,h1,h2⟩:=Hm.ex;exact⟨cs,h1.alloc _,h2⟩)
    have HzH:=aq (w.heap.size<wr.heap.size) (by obtain⟨cs,h1,h2⟩:=Hm.ex;exact h1.lt);have F32:F+Z≤32:=aj;have Hmb:=aq (w.heap.size≠wr.heap.size) (by have:=HzH.out;omega);go_wp2_with fail;refine(HWy _).mono ?_;rintro e w5 ⟨rfl,e5⟩;rw[←e5];clear e5;go_wp2_with fail;generalize wr.alloc (.cells #[ah F,ah Z,ah often,.bool loop] 100)=X at *;generalize hhb:wr.heap.size=hb at *;have Hhb:=ae hhb;clear hhb
    go_loopw [54] (fun i wr=>Hi2 l k F Z hb w.heap.size w often loop i wr) (fun i _=>Z - (intOf i).toNat)
    case atStart=>exact⟨0,fH _,rfl,by
     obtain⟨cs,h1,h2,h3⟩:=HmH.out;exact⟨cs,h1,h2,fun b hb=>by
      obtain⟨x,h4,h5⟩:=h3 b hb;exact⟨x,h4,h5.trans ⟨Or.inl,fun h=>h.resolve_right aj⟩⟩⟩,fun b h1 h2=>absurd h2 aj,HbH,HoH⟩
    case round=>
     obtain⟨q,hq,rfl,wV,pN,py,bq⟩:=hrel;have KV:=ae pN;have Hbx:=ae py;have Ho2:=ae bq;have y0:aF wr hb 0 F:=py.ag rfl;have y1:aF wr hb 1 Z:=py.ag rfl
     by_cases hqz:q<Z
     ·obtain⟨cs,QS,hsz,hcs⟩:=wV.ex;obtain⟨x,E3,JV⟩:=hcs (F+q) aj;have z0:aM wr w.heap.size (F+q) (.bool x):=QS.ag E3;have z1:wr.frozen? ⟨w.heap.size,F+q,none⟩=false:=QS.free _;have hwq:IntKind.i64.wrap ((F:Int)+q)=((F+q:Nat):Int):=by rw[←Int.natCast_add];exact IntWalk.i64_in _ aj
      have Hx2:=ae JV;have Hcs:=ae hcs;have Hbm:=ae QS;have Hsz:=ae hsz;have Hm2:=ae wV;clear wV pN py bq JV hcs QS hsz E3
      cases x with
      |true=>
       have Hr:=ae (tL (blocks:=blocks) (l:=l) fun hp=>by
        obtain⟨j,hj,bL⟩:=(Hx2.1 rfl).resolve_right aj;have:=hp.2.1 j k hj WY;rw[Hx.out]at this;unfold vC at this;unfold C9 at bL;dsimp only at this;omega)
       go_wp2_with fail;go_ret;exact⟨by rw[Hr.out];rfl,Ho2⟩
      |false=>
       go_wp2_with fail;exact⟨Hi2.step Hx Hcs Hbm Hsz Hx2 Hbx Ho2 KV hqz F32 Hmb,by simp[intOf];omega⟩
     ·obtain rfl:q=Z:=aj;have Hm2:=ae wV;clear wV pN py bq;go_wp2_with fail;refine⟨?_,?_⟩
      ·(repeat first|exact⟨WZ.step Hx Hm2 Hok Hap Ym KV Ho2 WY,rfl⟩|exact WZ.step Hx Hm2 Hok Hap Ym KV Ho2 WY|apply Exists.intro)
      ·simp[intOf];omega
   ·have RY:=HWw.out;have hf:(decide (0≤often)&&decide (often≤2147483647))=false:=by
     rw[Bool.and_eq_false_iff,decide_eq_false_iff_not,decide_eq_false_iff_not];omega
    rw[hf]at RY;have HWy:=ae RY;have Hr:=ae<|Hno (fun h=>by unfold Aj at h;dsimp only at h;omega);clear RY hf HWw;go_wp2_with fail;refine(HWy _).mono ?_;rintro e w5 ⟨rfl,rfl⟩;go_wp2_with fail;go_ret;exact⟨by rw[Hr.out];rfl,Ho.alloc _⟩
  ·have hkn:k=l.length:=aj;clear hm bN WD ho
   by_cases h8:l.length≤8
   ·have Hr:=ae<|wz (blocks:=blocks) (l:=l) ⟨fun i hi=>Hok i aj,fun i j Dl hj=>Hap i j Dl aj,h8⟩;have h8b:(l.length:Int)≤8:=aj;exact aea
   ·have Hr:=ae<|tL (blocks:=blocks) (l:=l) fun hp=>h8 hp.2.2;have h8b:¬(l.length:Int)≤8:=aj;exact aea
end
structure aQ where
 f:Nat→Int
 h:List aH
def ao (c:aQ)(hs:Value):Array Value:=#[ah (c.f 0),ah (c.f 1),ah (c.f 2),ah (c.f 3),ah (c.f 4),ah (c.f 5),ah (c.f 6),ah (c.f 7),ah (c.f 8),ah (c.f 9),ah (c.f 10),ah (c.f 11),ah (c.f 12),ah (c.f 13),ah (c.f 14),ah (c.f 15),hs]
theorem aL (c:aQ)(hs:Value){i:Nat}(hi:i<16):(ao c hs)[i]? =some (ah (c.f i)):=by
 unfold ao;rcases(show i=0∨i=1∨i=2∨i=3∨i=4∨i=5∨i=6∨i=7∨i=8∨i=9∨i=10∨i=11∨i=12∨i=13∨i=14∨i=15 from by omega)with rfl|rfl|rfl|rfl|rfl|rfl|rfl|rfl|rfl|rfl|rfl|rfl|rfl|rfl|rfl|rfl<;>rfl
theorem kX (c:aQ)(hs:Value):(ao c hs)[16]? =some hs:=rfl
structure dp (c:aQ):Prop where
 p0:1≤c.f 0∧c.f 0≤4
 p1:1≤c.f 1∧c.f 1≤4
 p2:1≤c.f 2∧c.f 2≤32
 p3:1≤c.f 3∧c.f 3≤16
 p4:1≤c.f 4∧c.f 4≤3
 p5:0≤c.f 5∧c.f 5≤2
 pp:c.f 5=0∨c.f 4=2
 pl:∀t,t<3→1≤c.f (6+t)∧c.f (6+t)≤2
 pc:∀t,t<3→1≤c.f (9+t)∧c.f (9+t)≤16
 QD:1≤c.f 12∧c.f 12≤8
 UA:1≤c.f 13∧c.f 13≤100
 Uz:0≤c.f 14∧c.f 14≤16
 p15:1≤c.f 15∧c.f 15≤16
 ph:c.f 5=2∨c.h.length=0
 hs:cT (c.f 2) c.h
noncomputable def xj (c:aQ):Bool:= @decide (dp c) (Classical.propDecidable _)
theorem eG {c:aQ}(h:¬dp c):xj c=false:=by unfold xj;exact @decide_eq_false _ (Classical.propDecidable _) h
theorem Ch {c:aQ}(h:dp c):xj c=true:=by unfold xj;exact @decide_eq_true _ (Classical.propDecidable _) h
theorem vV {c:aQ}:xj c=true↔dp c:=by unfold xj;exact @decide_eq_true_iff _ (Classical.propDecidable _)
theorem rS {b:Int}{l:List aH}:lz b l=true↔cT b l:=by unfold lz;exact @decide_eq_true_iff _ (Classical.propDecidable _)
theorem dp.range {c:aQ}(h:dp c):∀i,i<16→0≤c.f i∧c.f i≤100:=by
 intro i hi;have a0:=h.p0;have a1:=h.p1;have a2:=h.p2;have a3:=h.p3;have a4:=h.p4;have a5:=h.p5;have b0:1≤c.f 6∧c.f 6≤2:=h.pl 0 aj;have b1:1≤c.f 7∧c.f 7≤2:=h.pl 1 aj;have b2:1≤c.f 8∧c.f 8≤2:=h.pl 2 aj;have d0:1≤c.f 9∧c.f 9≤16:=h.pc 0 aj;have d1:1≤c.f 10∧c.f 10≤16:=h.pc 1 aj;have d2:1≤c.f 11∧c.f 11≤16:=h.pc 2 aj;have a12:=h.QD;have a13:=h.UA;have a14:=h.Uz;have a15:=h.p15;rcases(show i=0∨i=1∨i=2∨i=3∨i=4∨i=5∨i=6∨i=7∨i=8∨i=9∨i=10∨i=11∨i=12∨i=13∨i=14∨i=15 from by omega)with rfl|rfl|rfl|rfl|rfl|rfl|rfl|rfl|rfl|rfl|rfl|rfl|rfl|rfl|rfl|rfl<;>omega
theorem b6 {n a b:Int}(h:a≤n∧n≤b)(w:World):Calls Tryz.prog 79 #[ah n,ah a,ah b] w fun e w'=>e= .returned (.bool true)∧w=w':=by
 have:=rL n a b w;rwa [decide_eq_true h.1,decide_eq_true h.2]at this
theorem dL {n a b:Int}(h:¬(a≤n∧n≤b))(w:World):Calls Tryz.prog 79 #[ah n,ah a,ah b] w fun e w'=>e= .returned (.bool false)∧w=w':=by
 have:=rL n a b w;rwa [show(decide (a≤n)&&decide (n≤b))=false from by rw[Bool.and_eq_false_iff,decide_eq_false_iff_not,decide_eq_false_iff_not];omega]at this
def Ru (c:aQ)(hs:Value)(w:World)(i:Value)(wr:World):Prop:=
 ∃t:Nat,t≤3∧i=ah t∧(∀j,j<t→(1≤c.f (6+j)∧c.f (6+j)≤2)∧(1≤c.f (9+j)∧c.f (9+j)≤16))∧wr=w.alloc (.cells (ao c hs) 25)
section
theorem ju{P:Prop}(h:P:=by
 go_wp2_with fail;refine(yn A n cp c.h (c.f 2) _ (H.keep HO) H2.1 H2.2).mono ?_;rintro e w6 ⟨rfl,fI⟩;have Ho6:=ae<|HO.cE fI;clear fI;go_wp2_with fail;go_ret;exact⟨by rw[Hb.out];rfl,Ho6⟩):P:=h
theorem oK{P:Prop}(h:P:=by
 have Hh:=ae h2;have g2:(0:Int)<(n:Int):=by have:=H.len;omega
 clear h2;have Hr:=ae<|eG (c:=c) fun p=>p.ph.elim (fun h=>Fl h) Hh;go_wp2_with fail;go_ret;exact⟨by rw[Hr.out];rfl,HO⟩):P:=h
theorem oC{P:Prop}(h:P:=by
 refine(dL hh _).mono ?_;rintro e w5 ⟨rfl,e5⟩;rw[←e5];clear e5;have Hr:=ae<|eG (c:=c) fun p=>hh p.p15;go_wp2_with fail;go_ret;exact⟨by rw[Hr.out];rfl,HO⟩):P:=h
theorem nN{P:Prop}(h:P:=by
 refine(dL hh _).mono ?_;rintro e w5 ⟨rfl,e5⟩;rw[←e5];clear e5;have Hr:=ae<|eG (c:=c) fun p=>hh p.Uz;go_wp2_with fail;go_ret;exact⟨by rw[Hr.out];rfl,HO⟩):P:=h
theorem oL{P:Prop}(h:P:=by
 refine(dL hh _).mono ?_;rintro e w5 ⟨rfl,e5⟩;rw[←e5];clear e5;have Hr:=ae<|eG (c:=c) fun p=>hh p.QD;go_wp2_with fail;go_ret;exact⟨by rw[Hr.out];rfl,HO⟩):P:=h
theorem nR{P:Prop}(h:P:=by
 refine(dL hh _).mono ?_;rintro e w5 ⟨rfl,e5⟩;rw[←e5];clear e5;have Hr:=ae<|eG (c:=c) fun p=>hh p.UA;go_wp2_with fail;go_ret;exact⟨by rw[Hr.out];rfl,HO⟩):P:=h
theorem nc{P:Prop}(h:P:=by
 refine⟨?_,?_⟩
 ·(repeat first|exact⟨HR,rfl⟩|exact HR|apply Exists.intro)
 ·simp[intOf];omega):P:=h
theorem tE (A:Option Addr)(n cp:Nat)(c:aQ)(w:World)(h:aX w A n cp c.h):
 Calls Tryz.prog 51 #[.agg (ao c (.slice A n cp))] w fun e w'=>e= .returned (.bool (xj c))∧af au w w':=by
 have H:=ae h;clear h
 go_enter Tryz.func51,Tryz.ntmps51
 go_wp2_with fail;have HO:=aq (af au w (w.alloc (.cells (ao c (.slice A n cp)) 25))) ((af.ai _ _).alloc _);have HB:=ae<|Box.fresh w 25 (ao c (.slice A n cp))
 go_loopw [4] (fun i wr=>Ru c (.slice A n cp) w i wr) (fun i _=>3 - (intOf i).toNat)
 case atStart=>exact⟨0,aj,rfl,fun j hj=>absurd hj aj,rfl⟩
 case round=>
  obtain⟨t,ht,rfl,hl,rfl⟩:=hrel;have HL:=ae hl;clear hl
  by_cases aY:t<3
  ·have x6:aF (w.alloc (.cells (ao c (.slice A n cp)) 25)) w.heap.size (6+t) (c.f (6+t)):=HB.ag (aL c _ aj);have x9:aF (w.alloc (.cells (ao c (.slice A n cp)) 25)) w.heap.size (9+t) (c.f (9+t)):=HB.ag (aL c _ aj);generalize Nz:w.alloc (.cells (ao c (.slice A n cp)) 25)=w1 at *;have Hw1:=ae Nz;clear Nz;have Bm:(t:Int)<3:=aj;go_wp2_with fail
   by_cases hh:1≤c.f (6+t)∧c.f (6+t)≤2
   rotate_left
   ·refine(dL hh _).mono ?_;rintro e w5 ⟨rfl,e5⟩;rw[←e5];clear e5;have Hr:=ae<|eG (c:=c) fun p=>hh (p.pl t aY);go_wp2_with fail;go_ret;exact⟨by rw[Hr.out];rfl,HO⟩
   have G6:=ae hh;refine(b6 hh _).mono ?_;rintro e w5 ⟨rfl,e5⟩;rw[←e5];clear e5 hh;go_wp2_with fail
   by_cases hh:1≤c.f (9+t)∧c.f (9+t)≤16
   rotate_left
   ·refine(dL hh _).mono ?_;rintro e w5 ⟨rfl,e5⟩;rw[←e5];clear e5;have Hr:=ae<|eG (c:=c) fun p=>hh (p.pc t aY);go_wp2_with fail;go_ret;exact⟨by rw[Hr.out];rfl,HO⟩
   have G9:=ae hh;refine(b6 hh _).mono ?_;rintro e w5 ⟨rfl,e5⟩;rw[←e5];clear e5 hh;go_wp2_with fail;have HR:=aq (Ru c (.slice A n cp) w (ah ((t:Int)+1)) w1) (⟨t+1,aY,by simp,fun j hj=>by
    rcases Nat.lt_or_ge j t with h|h
    ·exact HL j h
    ·obtain rfl:j=t:=aj;exact⟨G6.out,G9.out⟩,Hw1.symm⟩)
   exact nc
  ·obtain rfl:t=3:=aj;have HL:=aq ((∀t,t<3→1≤c.f (6+t)∧c.f (6+t)≤2)∧(∀t,t<3→1≤c.f (9+t)∧c.f (9+t)≤16)) (⟨fun j hj=>(HL j hj).1,fun j hj=>(HL j hj).2⟩);have x0:=HB.ag (aL c (.slice A n cp) (i:=0) aj);have x1:=HB.ag (aL c (.slice A n cp) (i:=1) aj);have x2:=HB.ag (aL c (.slice A n cp) (i:=2) aj);have x3:=HB.ag (aL c (.slice A n cp) (i:=3) aj);have x4:=HB.ag (aL c (.slice A n cp) (i:=4) aj);have x5:=HB.ag (aL c (.slice A n cp) (i:=5) aj);have x12:=HB.ag (aL c (.slice A n cp) (i:=12) aj);have x13:=HB.ag (aL c (.slice A n cp) (i:=13) aj);have x14:=HB.ag (aL c (.slice A n cp) (i:=14) aj);have x15:=HB.ag (aL c (.slice A n cp) (i:=15) aj);have x16:=HB.ag (kX c (.slice A n cp));generalize Nz:w.alloc (.cells (ao c (.slice A n cp)) 25)=w1 at *;have Hw1:=ae Nz;clear Nz;go_wp2_with fail
   by_cases hh:1≤c.f 0∧c.f 0≤4
   rotate_left
   ·refine(dL hh _).mono ?_;rintro e w5 ⟨rfl,e5⟩;rw[←e5];clear e5;have Hr:=ae<|eG (c:=c) fun p=>hh p.p0;go_wp2_with fail;go_ret;exact⟨by rw[Hr.out];rfl,HO⟩
   have H0:=ae hh;refine(b6 hh _).mono ?_;rintro e w5 ⟨rfl,e5⟩;rw[←e5];clear e5 hh;go_wp2_with fail
   by_cases hh:1≤c.f 1∧c.f 1≤4
   rotate_left
   ·refine(dL hh _).mono ?_;rintro e w5 ⟨rfl,e5⟩;rw[←e5];clear e5;have Hr:=ae<|eG (c:=c) fun p=>hh p.p1;go_wp2_with fail;go_ret;exact⟨by rw[Hr.out];rfl,HO⟩
   have H1:=ae hh;refine(b6 hh _).mono ?_;rintro e w5 ⟨rfl,e5⟩;rw[←e5];clear e5 hh;go_wp2_with fail
   by_cases hh:1≤c.f 2∧c.f 2≤32
   rotate_left
   ·refine(dL hh _).mono ?_;rintro e w5 ⟨rfl,e5⟩;rw[←e5];clear e5;have Hr:=ae<|eG (c:=c) fun p=>hh p.p2;go_wp2_with fail;go_ret;exact⟨by rw[Hr.out];rfl,HO⟩
   have H2:=ae hh;refine(b6 hh _).mono ?_;rintro e w5 ⟨rfl,e5⟩;rw[←e5];clear e5 hh;go_wp2_with fail
   by_cases hh:1≤c.f 3∧c.f 3≤16
   rotate_left
   ·refine(dL hh _).mono ?_;rintro e w5 ⟨rfl,e5⟩;rw[←e5];clear e5;have Hr:=ae<|eG (c:=c) fun p=>hh p.p3;go_wp2_with fail;go_ret;exact⟨by rw[Hr.out];rfl,HO⟩
   have H3:=ae hh;refine(b6 hh _).mono ?_;rintro e w5 ⟨rfl,e5⟩;rw[←e5];clear e5 hh;go_wp2_with fail
   by_cases hh:1≤c.f 4∧c.f 4≤3
   rotate_left
   ·refine(dL hh _).mono ?_;rintro e w5 ⟨rfl,e5⟩;rw[←e5];clear e5;have Hr:=ae<|eG (c:=c) fun p=>hh p.p4;go_wp2_with fail;go_ret;exact⟨by rw[Hr.out];rfl,HO⟩
   have H4:=ae hh;refine(b6 hh _).mono ?_;rintro e w5 ⟨rfl,e5⟩;rw[←e5];clear e5 hh;go_wp2_with fail
   by_cases hh:0≤c.f 5∧c.f 5≤2
   rotate_left
   ·refine(dL hh _).mono ?_;rintro e w5 ⟨rfl,e5⟩;rw[←e5];clear e5;have Hr:=ae<|eG (c:=c) fun p=>hh p.p5;go_wp2_with fail;go_ret;exact⟨by rw[Hr.out];rfl,HO⟩
   have H5:=ae hh;refine(b6 hh _).mono ?_;rintro e w5 ⟨rfl,e5⟩;rw[←e5];clear e5 hh
   by_cases hz:c.f 5=0
   ·have Fl:=aq (¬c.f 5=2) aj;have HZ:=ae hz;have g5:(c.f 5 != 0)=false:=by simp[hz]
    have g6:(c.f 5 != 2)=true:=by simp[hz]
    clear hz;go_wp2_with fail
    by_cases hh:1≤c.f 12∧c.f 12≤8
    rotate_left
    ·exact oL
    have H12:=ae hh;refine(b6 hh _).mono ?_;rintro e w5 ⟨rfl,e5⟩;rw[←e5];clear e5 hh;go_wp2_with fail
    by_cases hh:1≤c.f 13∧c.f 13≤100
    rotate_left
    ·exact nR
    have H13:=ae hh;refine(b6 hh _).mono ?_;rintro e w5 ⟨rfl,e5⟩;rw[←e5];clear e5 hh;go_wp2_with fail
    by_cases hh:0≤c.f 14∧c.f 14≤16
    rotate_left
    ·exact nN
    have H14:=ae hh;refine(b6 hh _).mono ?_;rintro e w5 ⟨rfl,e5⟩;rw[←e5];clear e5 hh;go_wp2_with fail
    by_cases hh:1≤c.f 15∧c.f 15≤16
    rotate_left
    ·exact oC
    have H15:=ae hh;refine(b6 hh _).mono ?_;rintro e w5 ⟨rfl,e5⟩;rw[←e5];clear e5 hh
    by_cases h2:c.h.length=0
    ·have Hh:=ae h2;have g2:¬((0:Int)<(n:Int)):=by have:=H.len;omega
     clear h2;have Hb:=aq (xj c=lz (c.f 2) c.h) (by
      rw[Bool.eq_iff_iff,vV,rS];exact⟨fun p=>p.hs,fun p=>⟨H0,H1,H2,H3,H4,H5,.inl HZ,HL.1,HL.2,H12,H13,H14,H15,.inr Hh,p⟩⟩)
     exact ju
    ·exact oK
   ·by_cases hm:c.f 4=2
    ·have g5:(c.f 5 != 0)=true:=by simp[hz]
     have g4:(c.f 4 != 2)=false:=by simp[hm]
     have HM:=ae hm;clear hz hm;go_wp2_with fail
     by_cases hh:1≤c.f 12∧c.f 12≤8
     rotate_left
     ·exact oL
     have H12:=ae hh;refine(b6 hh _).mono ?_;rintro e w5 ⟨rfl,e5⟩;rw[←e5];clear e5 hh;go_wp2_with fail
     by_cases hh:1≤c.f 13∧c.f 13≤100
     rotate_left
     ·exact nR
     have H13:=ae hh;refine(b6 hh _).mono ?_;rintro e w5 ⟨rfl,e5⟩;rw[←e5];clear e5 hh;go_wp2_with fail
     by_cases hh:0≤c.f 14∧c.f 14≤16
     rotate_left
     ·exact nN
     have H14:=ae hh;refine(b6 hh _).mono ?_;rintro e w5 ⟨rfl,e5⟩;rw[←e5];clear e5 hh;go_wp2_with fail
     by_cases hh:1≤c.f 15∧c.f 15≤16
     rotate_left
     ·exact oC
     have H15:=ae hh;refine(b6 hh _).mono ?_;rintro e w5 ⟨rfl,e5⟩;rw[←e5];clear e5 hh
     by_cases h5:c.f 5=2
     ·have Fl:=ae h5;have g6:(c.f 5 != 2)=false:=by simp[h5]
      clear h5;have Hb:=aq (xj c=lz (c.f 2) c.h) (by
       rw[Bool.eq_iff_iff,vV,rS];exact⟨fun p=>p.hs,fun p=>⟨H0,H1,H2,H3,H4,H5,.inr HM,HL.1,HL.2,H12,H13,H14,H15,.inl Fl,p⟩⟩)
      exact ju
     ·have Fl:=ae h5;have g6:(c.f 5 != 2)=true:=by simp[h5]
      clear h5
      by_cases h2:c.h.length=0
      ·have Hh:=ae h2;have g2:¬((0:Int)<(n:Int)):=by have:=H.len;omega
       clear h2;have Hb:=aq (xj c=lz (c.f 2) c.h) (by
        rw[Bool.eq_iff_iff,vV,rS];exact⟨fun p=>p.hs,fun p=>⟨H0,H1,H2,H3,H4,H5,.inr HM,HL.1,HL.2,H12,H13,H14,H15,.inr Hh,p⟩⟩)
       exact ju
      ·exact oK
    ·have g5:(c.f 5 != 0)=true:=by simp[hz]
     have g4:(c.f 4 != 2)=true:=by simp[hm]
     have HH:=ae<|And.intro hz hm;clear hz hm;have Hr:=ae<|eG (c:=c) fun p=>p.pp.elim HH.1 HH.2;go_wp2_with fail;go_ret;exact⟨by rw[Hr.out];rfl,HO⟩
end
structure Left (N:Nat)(pre:List Int)(n':Nat):Prop where
 ex:∃f,dY N=pre ++ jm f n'∧n'<128 ^ (f+1)∧pre.length+f=8
theorem Left.first (N:Nat)(h:N<2 ^ 63):Left N [] N:=⟨8,rfl,Nat.lt_of_lt_of_eq h aE,rfl⟩
theorem Left.next {N n':Nat}{pre:List Int}(h:Left N pre n')(hn:128≤n'):Left N (pre ++ [((128+n' % 128:Nat):Int)]) (n' / 128):=by
 obtain⟨f,e,hl,hf⟩:=h.ex
 cases f with
 |zero=>simp at hl;omega
 |succ f=>
  refine⟨f,?_,?_,by simp;omega⟩
  ·rw[e,jm,if_neg aj,List.append_assoc];rfl
  ·rw[Nat.div_lt_iff_lt_mul aE,←Nat.pow_succ];exact hl
theorem Left.last {N n':Nat}{pre:List Int}(h:Left N pre n')(hn:n'<128):dY N=pre ++ [(n':Int)]:=by
 obtain⟨f,e,hl,hf⟩:=h.ex;rw[e]
 cases f with
 |zero=>rfl
 |succ f=>rw[jm,if_pos hn]
theorem Left.len {N n':Nat}{pre:List Int}(h:Left N pre n'):pre.length≤8:=by obtain⟨f,_,_,hf⟩:=h.ex;omega
theorem Left.le {N n':Nat}{pre:List Int}(h:Left N pre n'):n'<2 ^ 63:=by
 obtain⟨f,_,hl,hf⟩:=h.ex;have:(128:Nat) ^ (f+1)≤128 ^ 9:=Nat.pow_le_pow_right aE aj;have e:(128:Nat) ^ 9=2 ^ 63:=aE;omega
theorem Ra (N:Nat):bits BinOp.or IntKind.u8 ((N:Int) % 256) 128=((128+N % 128:Nat):Int):=by
 have key:∀m,m<256→bits BinOp.or IntKind.u8 ((m:Nat):Int) 128=((128+m % 128:Nat):Int):=by decide +kernel
 have:=key (N % 256) aj;rw[show(((N % 256:Nat)):Int)=(N:Int) % 256 from by simp,show 128+N % 256 % 128=128+N % 128 from by omega]at this;exact this
section
theorem gI{P:Prop}(h:P:=by rw[←List.append_assoc];simpa [bytes] using kS):P:=h
theorem aU{P:Prop}(h:P:=by simp[Value.oneCell']):P:=h
theorem Eh (v:Value)(l:List Int)(N:Nat)(w:World)(h:cH w v l)(hl:l.length≤1000000)(hn:N<2 ^ 63)(yR:0<N):
 Calls Tryz.prog 119 #[v,ah N] w (mM (l ++ dY N) w):=by
 have HC:=ae<|gX v l w h;have Xt:=ae<|Left.first N hn;obtain⟨A,c,rfl,_,_,_⟩:=h;have Ks:(0:Int)<N:=aj;have ab2:¬(N:Int)≤0:=aj
 go_enter Tryz.func119,Tryz.ntmps119
 go_wp2_with fail;refine wp_scope_jumps 0 (fun a' w'=>∃(N':Nat) (pre:List Int) (vo u6 u7 u8 u9 u10 u11 u12 u13 u14 u15 u16 u17 u18 u19:Value),a'= {tmps:=#[.slice A l.length c,ah N',undef,undef,aT,vo,u6,u7,u8,u9,u10,u11,u12,u13,u14,u15,u16,u17,u18,u19,undef,undef,undef,undef,undef],defers:=[]}∧Left N pre N'∧Row 5 w' vo (bytes (l ++ pre))∧(∀k,aJ vo k→w.heap.size≤k)∧af au w w') (fun a' _=>(intOf (a'.tmps.getD 1 undef)).toNat) rfl ?_ ?_
 ·go_wp2_with fail;refine HC.mono ?_;rintro e wr ⟨v5,rfl,gY,ho,bf⟩;obtain⟨B,q5,e5,_,_⟩:=gY.shape;rw[show bytes l=bytes (l ++ [])from by rw[List.append_nil]]at gY;have zd:=ae gY;have Ho:=ae ho;have rE:=ae bf;clear gY ho bf;generalize Gh:(bytes l).length=n5 at *;have Sj:=ae Gh;clear Gh;subst e5;generalize aaI:([]:List Int)=pre at *;clear aaI;have HL:=Xt;clear Xt;generalize hN':(N:Int)=X at *;obtain⟨N',rfl⟩:∃N':Nat,X=N':=⟨N,hN'.symm⟩;have hNN:N=N':=aj;rw[hNN]at HL;go_wp2_with fail
  go_step3
  have hN:=HL.le;have L1:=aq ((bytes (l ++ pre)).length+1≤maxLen) (by have:=HL.len;simp[maxLen];omega);have L2:=aq (((bytes (l ++ pre)).length+1)*1≤140737488355328) (by have:=HL.len;simp;omega)
  by_cases uy:128≤N'
  ·have uE:(128:Int)≤N':=aj;have hor:bits BinOp.or IntKind.u8 ((N':Int) % 256) 128=((128+N' % 128:Nat):Int):=Ra N';have Q0:=ae<|HL.next uy;generalize hq:128+N' % 128=z at *;clear hq;go_wp2_with (at_builtin;refine bA _ rfl (.tmp 12) (.tmp 16) 35 5 rfl fC rfl Tryz.underlying35 (.slice B n5 q5) (bytes (l ++ pre)) rfl (zd.ar ((af.ai au wr).alloc _) fun _ _=>id) (some ⟨wr.heap.size,0,none⟩) 1 1 [.int .u8 ((z:Nat):Int)] rfl rfl (kg wr (.int .u8 ((z:Nat):Int)) 5) aU L1.out L2.out ?_;intro v1 w1 kS fB gV _;have pR:=aq (Row 5 w1 v1 (bytes (l ++ (pre ++ [((z:Nat):Int)])))) gI;have J7:=ae<|(Ho.alloc (.cells #[.int .u8 ((z:Nat):Int)] 5)).aG fB fun k hk=>.inr (rE k hk);have pS:=aq (∀k,aJ v1 k→w.heap.size≤k) (fun k hk=>(gV k hk).elim (rE k) fun h=>by have:=Ho.size;rw[World.size_alloc]at h;omega);clear kS fB gV);rw[show(N':Int) / 128=((N' / 128:Nat):Int)from by omega]
   go_step3
   refine⟨rfl,N' / 128,pre ++ [((z:Nat):Int)],v1,_,_,_,_,_,_,_,_,_,_,_,_,_,_,rfl,?_,pR,pS,J7⟩
   first|exact Q0|(rw[hNN];exact Q0)
  ·have uE:¬(128:Int)≤N':=aj;have aY:(N':Int) % 256=N':=aj;have Q0:=ae<|HL.last aj;go_wp2_with (at_builtin;refine bA _ rfl (.tmp 20) (.tmp 23) 35 5 rfl fC rfl Tryz.underlying35 (.slice B n5 q5) (bytes (l ++ pre)) rfl (zd.ar ((af.ai au wr).alloc _) fun _ _=>id) (some ⟨wr.heap.size,0,none⟩) 1 1 [.int .u8 ((N':Nat):Int)] rfl rfl (kg wr (.int .u8 ((N':Nat):Int)) 5) aU L1.out L2.out ?_;intro v1 w1 kS fB gV _;have pR:=aq (Row 5 w1 v1 (bytes (l ++ (pre ++ [((N':Nat):Int)])))) gI;have J7:=ae<|(Ho.alloc (.cells #[.int .u8 ((N':Nat):Int)] 5)).aG fB fun k hk=>.inr (rE k hk);have pS:=aq (∀k,aJ v1 k→w.heap.size≤k) (fun k hk=>(gV k hk).elim (rE k) fun h=>by have:=Ho.size;rw[World.size_alloc]at h;omega);clear kS fB gV);simp only[Exit.jump];go_ret
   try rw[hNN]
   refine⟨v1,rfl,?_,J7,pS⟩;rw[Q0.out];exact pR
 ·rintro a' wr ⟨N',pre,vo,u6,u7,u8,u9,u10,u11,u12,u13,u14,u15,u16,u17,u18,u19,rfl,hL,gY,bf,ho⟩;have HL:=ae hL;have Sj:=ae hn;obtain⟨B,q5,e5,_,_⟩:=gY.shape;have zd:=ae gY;have Ho:=ae ho;have rE:=ae bf;clear gY ho bf hL Xt HC;generalize(bytes (l ++ pre)).length=n5 at *;subst e5;have hN:=HL.le;have L1:=aq ((bytes (l ++ pre)).length+1≤maxLen) (by have:=HL.len;simp[maxLen];omega);have L2:=aq (((bytes (l ++ pre)).length+1)*1≤140737488355328) (by have:=HL.len;simp;omega)
  by_cases uy:128≤N'
  ·have uE:(128:Int)≤N':=aj;have hor:bits BinOp.or IntKind.u8 ((N':Int) % 256) 128=((128+N' % 128:Nat):Int):=Ra N';have Q0:=ae<|HL.next uy;generalize hq:128+N' % 128=z at *;clear hq;go_wp2_with (at_builtin;refine bA _ rfl (.tmp 12) (.tmp 16) 35 5 rfl fC rfl Tryz.underlying35 (.slice B n5 q5) (bytes (l ++ pre)) rfl (zd.ar ((af.ai au wr).alloc _) fun _ _=>id) (some ⟨wr.heap.size,0,none⟩) 1 1 [.int .u8 ((z:Nat):Int)] rfl rfl (kg wr (.int .u8 ((z:Nat):Int)) 5) aU L1.out L2.out ?_;intro v1 w1 kS fB gV _;have pR:=aq (Row 5 w1 v1 (bytes (l ++ (pre ++ [((z:Nat):Int)])))) gI;have J7:=ae<|(Ho.alloc (.cells #[.int .u8 ((z:Nat):Int)] 5)).aG fB fun k hk=>.inr (rE k hk);have pS:=aq (∀k,aJ v1 k→w.heap.size≤k) (fun k hk=>(gV k hk).elim (rE k) fun h=>by have:=Ho.size;rw[World.size_alloc]at h;omega);clear kS fB gV);rw[show(N':Int) / 128=((N' / 128:Nat):Int)from by omega]
   go_step3
   refine⟨rfl,⟨N' / 128,pre ++ [((z:Nat):Int)],v1,_,_,_,_,_,_,_,_,_,_,_,_,_,_,rfl,?_,pR,pS,J7⟩,?_⟩
   ·exact Q0
   ·simp[intOf];omega
  ·have uE:¬(128:Int)≤N':=aj;have aY:(N':Int) % 256=N':=aj;have Q0:=ae<|HL.last aj;go_wp2_with (at_builtin;refine bA _ rfl (.tmp 20) (.tmp 23) 35 5 rfl fC rfl Tryz.underlying35 (.slice B n5 q5) (bytes (l ++ pre)) rfl (zd.ar ((af.ai au wr).alloc _) fun _ _=>id) (some ⟨wr.heap.size,0,none⟩) 1 1 [.int .u8 ((N':Nat):Int)] rfl rfl (kg wr (.int .u8 ((N':Nat):Int)) 5) aU L1.out L2.out ?_;intro v1 w1 kS fB gV _;have pR:=aq (Row 5 w1 v1 (bytes (l ++ (pre ++ [((N':Nat):Int)])))) gI;have J7:=ae<|(Ho.alloc (.cells #[.int .u8 ((N':Nat):Int)] 5)).aG fB fun k hk=>.inr (rE k hk);have pS:=aq (∀k,aJ v1 k→w.heap.size≤k) (fun k hk=>(gV k hk).elim (rE k) fun h=>by have:=Ho.size;rw[World.size_alloc]at h;omega);clear kS fB gV);simp only[Exit.jump];go_ret
   skip
   refine⟨v1,rfl,?_,J7,pS⟩;rw[Q0.out];exact pR
end
theorem Jc (l:List Int):(bytes l).length=l.length:=List.length_map ..
theorem yB (a b:List Int):bytes (a ++ b)=bytes a ++ bytes b:=List.map_append
section
theorem cM{P:Prop}(h:P:=by simp;omega):P:=h
theorem CJ (v:Value)(l:List Int)(w:World)(h:cH w v l)(hl:l.length≤1000000):Calls Tryz.prog 119 #[v,ah 0] w (mM (l ++ dY 0) w):=by
 have HC:=ae<|gX v l w h;obtain⟨A,c,rfl,_,_,_⟩:=h
 go_enter Tryz.func119,Tryz.ntmps119
 go_wp2_with fail
 go_step3
 go_wp2_with fail;refine HC.mono ?_;rintro e wr ⟨v5,rfl,gY,ho,bf⟩;obtain⟨B,q5,e5,_,_⟩:=gY.shape;have zd:=ae gY;have Ho:=ae ho;have rE:=ae bf;have L1:=aq ((bytes l).length+1≤maxLen) (by simp[maxLen];omega);have L2:=aq (((bytes l).length+1)*1≤140737488355328) cM;clear gY ho bf;generalize Gh:(bytes l).length=n5 at *;have Sj:=ae Gh;clear Gh;subst e5;go_wp2_with fail
 go_step3
 go_wp2_with (at_builtin;refine bA _ rfl (.tmp 20) (.tmp 23) 35 5 rfl fC rfl Tryz.underlying35 (.slice B n5 q5) (bytes l) rfl (zd.ar ((af.ai au wr).alloc _) fun _ _=>id) (some ⟨wr.heap.size,0,none⟩) 1 1 [.int .u8 0] rfl rfl (kg wr (.int .u8 0) 5) aU (by have:=L1.out;rw[Sj.out];exact this) (by have:=L2.out;rw[Sj.out];exact this) ?_;intro v1 w1 kS fB gV _;have pR:=aq (Row 5 w1 v1 (bytes (l ++ [0]))) (by rw[yB];exact kS);have J7:=ae<|(Ho.alloc (.cells #[.int .u8 0] 5)).aG fB fun k hk=>.inr (rE k hk);have pS:=aq (∀k,aJ v1 k→w.heap.size≤k) (fun k hk=>(gV k hk).elim (rE k) fun h=>by have:=Ho.size;rw[World.size_alloc]at h;omega);clear kS fB gV);rw[Exit.noGoto_ret];go_ret;exact⟨v1,rfl,pR,J7,pS⟩
end
theorem wm (v:Value)(l:List Int)(N:Nat)(w:World)(h:cH w v l)(hl:l.length≤1000000)(hn:N<2 ^ 63):Calls Tryz.prog 119 #[v,ah N] w (mM (l ++ dY N) w):=by
 cases N with
 |zero=>exact CJ v l w h hl
 |succ N=>exact Eh v l (N+1) w h hl hn aj
theorem Cd (N:Nat):1≤(dY N).length∧(dY N).length≤9:=Ce 8 N
section
theorem uj (v u:Value)(l t:List Int)(w:World)(h:cH w v l)(hu:cH w u t)(hl:l.length≤1000000)(ht:t.length≤1000000):
 Calls Tryz.prog 91 #[v,u] w (mM (l ++ (dY t.length ++ t)) w):=by
 have HP:=ae<|wm v l t.length w h hl aj;have Hu:=ae hu;obtain⟨A,c,rfl,_,_,_⟩:=h;obtain⟨B,d,rfl,_,_,_⟩:=hu;have NI:=Cd t.length;have L1:=aq ((bytes (l ++ dY t.length)).length+(bytes t).length≤maxLen) (by simp[maxLen];omega);have L2:=aq (((bytes (l ++ dY t.length)).length+(bytes t).length)*1≤140737488355328) cM;have hsw:(t.length:Int)≤1000000:=aj;generalize V6:t.length=tn at *;have Ht:=aq (tn=(bytes t).length) (by rw[Jc,V6]);have Ht2:=ae V6;clear V6 NI
 go_enter Tryz.func91,Tryz.ntmps91
 go_wp2_with fail;refine HP.mono ?_;rintro e wr ⟨v5,rfl,gY,ho,bf⟩;obtain⟨B5,q5,e5,_,_⟩:=gY.shape;have zd:=ae gY;have Ho:=ae ho;have rE:=ae bf;have aa8:=aq (Src wr B (bytes t)) (by
  obtain⟨_,_,e,_,_,h3⟩:=Hu.ar ho fun _ _=>id
  injection e with e1;subst e1;exact h3)
 clear gY ho bf;generalize Gh:(bytes (l ++ dY tn)).length=n5 at *;have Sj:=ae Gh;clear Gh;subst e5;go_wp2_with (at_builtin;refine bA _ rfl (.tmp 8) (.tmp 9) 35 5 rfl fC rfl Tryz.underlying35 (.slice B5 n5 q5) (bytes (l ++ dY tn)) rfl zd B tn d (bytes t) rfl Ht aa8 (qK t) (by have:=L1.out;rw[Sj.out];exact this) (by have:=L2.out;rw[Sj.out];exact this) ?_;intro v1 w1 kS fB gV _;have pR:=aq (Row 5 w1 v1 (bytes (l ++ (dY tn ++ t)))) (by rw[←List.append_assoc,yB];exact kS);have J7:=ae<|Ho.aG fB fun k hk=>.inr (rE k hk);have pS:=aq (∀k,aJ v1 k→w.heap.size≤k) (fun k hk=>(gV k hk).elim (rE k) fun h=>by have:=Ho.size;omega);clear kS fB gV);go_ret;exact⟨v1,rfl,pR,J7,pS⟩
end
def C8:List Int→Nat→Prop
 | [],_=>True
 |c :: cs,i=>(0≤c∧c≤255)∧(128≤c→i<8→C8 cs (i+1))
def Bn (b:List Int)(p:Nat):Value:=match rd (b.drop p)with
 | .ok n k=>.tuple #[.int .i64 n,.int .i64 ((p+k:Nat):Int),.int .i64 0]
 | .short=>.tuple #[.int .i64 0,.int .i64 0,.int .i64 1]
 | .form=>.tuple #[.int .i64 0,.int .i64 0,.int .i64 2]
theorem Lp {x:Int}(h:0≤x∧x≤255):bits BinOp.and IntKind.u8 x 127=((x.toNat % 128:Nat):Int):=by
 have key:∀m,m<256→bits BinOp.and IntKind.u8 ((m:Nat):Int) 127=((m % 128:Nat):Int):=by decide +kernel
 have:=key x.toNat aj;rwa [show((x.toNat:Nat):Int)=x from by omega]at this
theorem Kp (a y i:Nat)(h:a<128 ^ i)(hy:y<128)(hi:i≤8):a+y*128 ^ i<2 ^ 63∧bits BinOp.or IntKind.i64 (a:Int) ((y*128 ^ i:Nat):Int)=((a+y*128 ^ i:Nat):Int):=by
 have h1:a+y*128 ^ i<128 ^ (i+1):=by
  rw[Nat.pow_succ];have:y*128 ^ i≤127*128 ^ i:=Nat.mul_le_mul_right _ aj;omega
 have h2:(128:Nat) ^ (i+1)≤128 ^ 9:=Nat.pow_le_pow_right aE aj;have h3:(128:Nat) ^ 9=2 ^ 63:=aE;have h4:a+y*128 ^ i<2 ^ 63:=aj;refine⟨h4,?_⟩;rw[(bits_nat .i64 63 aE (fun n h0 h1=>IntWalk.i64_in _ (by rw[show(2:Int) ^ 63=9223372036854775808 from by decide]at h1;omega)) a (y*128 ^ i) aj aj).2];have e:(128:Nat) ^ i=2 ^ (7*i):=by rw[Nat.pow_mul]
 rw[e]at h ⊢;rw[Nat.or_comm,←Nat.shiftLeft_eq,←Nat.shiftLeft_add_eq_or_of_lt h,Nat.add_comm]
theorem aas (a y i:Nat)(h:a<128 ^ i)(hy:y<128)(hi:i≤8):IntKind.i64.wrap ((y:Int)*2 ^ (7*i))=((y*128 ^ i:Nat):Int):=by
 have h1:=(Kp a y i h hy hi).1;have e:((y:Int)*2 ^ (7*i))=((y*128 ^ i:Nat):Int):=by
  rw[Int.natCast_mul,Int.natCast_pow,Int.pow_mul];rfl
 rw[e];exact IntWalk.i64_in _ aj
theorem qB {b:List Int}{p n k:Nat}(h:rd (b.drop p)= .ok n k):Bn b p= .tuple #[ah n,ah ((p+k:Nat):Int),ah 0]:=by unfold Bn;rw[h]
theorem mF {b:List Int}{p:Nat}(h:rd (b.drop p)= .short):Bn b p= .tuple #[ah 0,ah 0,ah 1]:=by unfold Bn;rw[h]
theorem qJ {b:List Int}{p:Nat}(h:rd (b.drop p)= .form):Bn b p= .tuple #[ah 0,ah 0,ah 2]:=by unfold Bn;rw[h]
theorem BZ {x:Int}{cs:List Int}{i acc:Nat}(h:128≤x)(hi:i≠8):se (x :: cs) i acc=se cs (i+1) (acc+x.toNat % 128*128 ^ i):=by rw[se,if_pos h,if_neg hi]
theorem Il {x:Int}{cs:List Int}{acc:Nat}(h:128≤x):se (x :: cs) 8 acc= .form:=by rw[se,if_pos h,if_pos rfl]
theorem Im {cs:List Int}{i acc:Nat}(h:0<i):se (0 :: cs) i acc= .form:=by rw[se,if_neg aE,if_pos ⟨rfl,h⟩]
theorem Lb {x:Int}{cs:List Int}{i acc:Nat}(h0:0≤x)(h:¬128≤x)(hi:¬(x=0∧0<i)):se (x :: cs) i acc= .ok (acc+x.toNat % 128*128 ^ i) (i+1):=by
 rw[se,if_neg h,if_neg hi,Nat.mod_eq_of_lt aj]
theorem iK {b:List Int}{q:Nat}(h:q<b.length):b.drop q=b.getD q 0 :: b.drop (q+1):=by
 rw[List.drop_eq_getElem_cons h];simp[List.getD,h]
section
theorem CE (A:Option Addr)(n c p:Nat)(w:World)(hp:p≤n):Calls Tryz.prog 134 #[.slice A n c,ah p] w fun e w'=>e= .returned (.bool true)∧w=w':=by
 have h1:(0:Int)≤p:=aj;have h2:(p:Int)≤n:=aj
 go_enter Tryz.func134,Tryz.ntmps134
 go_wp2_with fail;go_ret;exact⟨rfl,rfl⟩
theorem gF{P:Prop}(h:P:=by
 go_wp2_with fail
 try simp only[Exit.jump]
 go_ret3
 exact⟨by rw[HG.out];rfl,rfl⟩):P:=h
theorem jE{P:Prop}(h:P:=by
 try simp only[Exit.jump]
 go_ret3
 exact⟨by rw[HG.out,Hep.out];rfl,rfl⟩):P:=h
theorem rP (A:Option Addr)(n c:Nat)(b:List Int)(p:Nat)(w:World)(h:cH w (.slice A n c) b)(hp:p≤b.length)(hr:C8 (b.drop p) 0):
 Calls Tryz.prog 116 #[.slice A n c,ah p] w fun e w'=>e= .returned (Bn b p)∧w=w':=by
 have hn:=h.len;have H:=ae h;have Hr:=ae hr;clear h hr;have Wd:=hn.1;subst Wd
 go_enter Tryz.func116,Tryz.ntmps116
 go_wp2_with fail;refine wp_scope_jumps 0 (fun a' w'=>∃(i:Nat) (acc:Nat) (U8 U9 U10 U11 U12 U13 U14 U15 U16 U17 U18 U19 U20 U21 U22 U23 U24 U25 U26 U27 U28 U29 U30 U31 U32 U33 U34 U35 U36 U37 U38:Value),a'= {tmps:=#[.slice A b.length c,ah p,undef,undef,ah acc,ah 0,ah 0,ah i,U8,U9,U10,U11,U12,U13,U14,U15,U16,U17,U18,U19,U20,U21,U22,U23,U24,U25,U26,U27,U28,U29,U30,U31,U32,U33,U34,U35,U36,U37,U38,undef,undef,undef,undef,undef,undef,undef,undef,undef,undef],defers:=[]}∧(p+i≤b.length∧i≤8∧acc<128 ^ i∧C8 (b.drop (p+i)) i∧rd (b.drop p)=se (b.drop (p+i)) i acc)∧w'=w) (fun a' _=>9 - (intOf (a'.tmps.getD 7 undef)).toNat) rfl ?_ ?_
 ·go_wp2_with fail;refine(CE A b.length c p w hp).mono ?_;rintro e w1 ⟨rfl,e1⟩;rw[←e1];clear e1
  by_cases aY:p<b.length
  ·obtain⟨g,o,rfl,hc⟩:=H.ag aY;generalize hx:b.getD p 0=x at *;have Hx:=ae hx;clear hx;have hpl:¬(p:Int)=b.length:=aj;have aaJ:(p:Int)<b.length:=aj;have VW:0≤x∧x≤255:=by
    have:=Hr.out;rw[iK aY,Hx.out]at this;exact this.1
   have e1:=Lp VW;have hy:x.toNat % 128<128:=Nat.mod_lt _ aE;have Hy:=aq (((x.toNat % 128:Nat):Int)=((0+x.toNat % 128*128 ^ 0:Nat):Int)) (by simp);have HyE:=ae (rfl:x.toNat % 128=x.toNat % 128);generalize VU:x.toNat % 128=y at e1 hy Hy;have WX:=ae VU;clear VU HyE;have e2:IntKind.i64.wrap (y:Int)=y:=IntWalk.i64_in _ aj;have e4:bits BinOp.or IntKind.i64 0 (y:Int)=y:=by
    have:=(Kp 0 y 0 aE hy aE).2;simpa using this
   by_cases uy:128≤x
   ·have HN:=aq (rd (b.drop p)=se (b.drop (p+1)) 1 (0+y*128 ^ 0)) (by
     rw[iK aY,Hx.out];have:=BZ (cs:=b.drop (p+1)) (acc:=0) uy (show(0:Nat)≠8 by decide);rw[WX.out]at this;exact this)
    have cy:=aq (C8 (b.drop (p+1)) 1) (by
     have:=Hr.out;rw[iK aY,Hx.out]at this;exact this.2 uy aE)
    have dZ:=aq (y<128 ^ 1) aj;go_wp2_with fail
    go_step3
    go_wp2_with fail
    go_step3
    refine⟨rfl,1,y,_,_,_,_,_,_,_,_,_,_,_,_,_,_,_,_,_,_,_,_,_,_,_,_,_,_,_,_,_,_,_,rfl,⟨aj,aE,dZ,cy,?_⟩,rfl⟩;have:=HN.out;rwa [show 0+y*128 ^ 0=y from by simp]at this
   ·have HN:=aq (rd (b.drop p)= .ok y 1) (by
     rw[iK aY,Hx.out];have:=Lb (cs:=b.drop (p+1)) (acc:=0) VW.1 uy (show¬(x=0∧0<0) by omega);rw[WX.out]at this;rw[show 0+y*128 ^ 0=y from by simp]at this;exact this)
    have HG:=ae<|qB HN;have ep:((p+1:Nat):Int)=(p:Int)+1:=aj;have Hep:=ae ep;clear ep;go_wp2_with fail
    go_step3
    go_wp2_with fail
    all_goals
     exact jE
  ·obtain rfl:p=b.length:=aj;have HG:=ae<|mF (b:=b) (p:=b.length) (by rw[List.drop_length];rfl);go_wp2_with fail
   go_step3
   exact gF
 ·rintro a' w1 ⟨i,acc,U8,U9,U10,U11,U12,U13,U14,U15,U16,U17,U18,U19,U20,U21,U22,U23,U24,U25,U26,U27,U28,U29,U30,U31,U32,U33,U34,U35,U36,U37,U38,rfl,⟨hi,Wj,Yf,hR,hE⟩,rfl⟩;have HR:=ae hR;have HE:=ae hE;have OD:=ae Yf;clear hR hE Yf Hr;obtain⟨q,hq⟩:∃q,q=p+i:=⟨_,rfl⟩;have UN:(p:Int)+i=q:=aj;rw[←hq]at HR HE;have Hq:=ae hq;clear hq
  by_cases aY:q<b.length
  ·obtain⟨g,o,rfl,hc⟩:=H.ag aY;generalize hx:b.getD q 0=x at *;have Hx:=ae hx;clear hx;have hpl:¬(q:Int)=b.length:=aj;have aaJ:(q:Int)<b.length:=aj;have VW:0≤x∧x≤255:=by
    have:=HR.out;rw[iK aY,Hx.out]at this;exact this.1
   have e1:=Lp VW;have hy:x.toNat % 128<128:=Nat.mod_lt _ aE;generalize VU:x.toNat % 128=y at e1 hy;have WX:=ae VU;clear VU;have e2:IntKind.i64.wrap (y:Int)=y:=IntWalk.i64_in _ aj;have e3:=aas acc y i OD hy Wj;rw[IntWalk.i64_left]at e3;have e4:=(Kp acc y i OD hy Wj).2;have H63:=ae (Kp acc y i OD hy Wj).1;generalize hY:y*128 ^ i=Y at e3 e4 H63;have HY:=ae hY;clear hY;generalize hZ:acc+Y=Z at e4 H63;have HZ:=ae hZ;clear hZ
   by_cases uy:128≤x
   ·by_cases h8:i=8
    ·have HG:=ae<|qJ (b:=b) (p:=p) (by rw[HE.out,iK aY,Hx.out,h8];exact Il uy);have h9:(i:Int)+1=9:=aj;clear h8;exact gF
    ·have h9:¬(i:Int)+1=9:=aj;have HN:=aq (rd (b.drop p)=se (b.drop (q+1)) (i+1) Z) (by
      rw[HE.out,iK aY,Hx.out];have:=BZ (cs:=b.drop (q+1)) (acc:=acc) uy h8;rw[WX.out,HY.out,HZ.out]at this;exact this)
     have cy:=aq (C8 (b.drop (q+1)) (i+1)) (by
      have:=HR.out;rw[iK aY,Hx.out]at this;exact this.2 uy aj)
     have dZ:=aq (Z<128 ^ (i+1)) (by
      rw[←HZ.out,←HY.out,Nat.pow_succ];have:=Nat.mul_le_mul_right (128 ^ i) (show y≤127 by omega);have:=OD.out;omega)
     go_wp2_with fail
     go_step3
     refine⟨rfl,⟨i+1,Z,_,_,_,_,_,_,_,_,_,_,_,_,_,_,_,_,_,_,_,_,_,_,_,_,_,_,_,_,_,_,_,rfl,⟨by have:=Hq.out;omega,aj,dZ,?_,?_⟩,rfl⟩,?_⟩
     ·have:=cy.out;rwa [Hq.out,Nat.add_assoc]at this
     ·have:=HN.out;rwa [Hq.out,Nat.add_assoc]at this
     ·simp[intOf];omega
   ·by_cases h0:x=0∧0<i
    ·obtain⟨rfl,h0i⟩:=h0;have HG:=ae<|qJ (b:=b) (p:=p) (by rw[HE.out,iK aY,Hx.out];exact Im h0i);have WL:(1:Int)<(i:Int)+1:=aj;exact gF
    ·have HN:=aq (rd (b.drop p)= .ok Z (i+1)) (by
      rw[HE.out,iK aY,Hx.out];have:=Lb (cs:=b.drop (q+1)) (acc:=acc) VW.1 uy h0;rw[WX.out,HY.out,HZ.out]at this;exact this)
     have HG:=ae<|qB HN;have Hep:=aq (((p+(i+1):Nat):Int)=(p:Int)+((i:Int)+1)) aj
     by_cases AU:x=0
     ·have WL:¬(1:Int)<(i:Int)+1:=aj;clear h0;subst AU;go_wp2_with fail;exact jE
     ·clear h0;go_wp2_with fail;exact jE
  ·obtain rfl:q=b.length:=by have:=Hq.out;omega
   have HG:=ae<|mF (b:=b) (p:=p) (by rw[HE.out,List.drop_length];rfl);exact gF
end
theorem Ld:∀(l:List Int) (i acc n k:Nat),se l i acc= .ok n k→k≤i+l.length
 | [],_,_,_,_,h=>by simp[se]at h
 |c :: cs,i,acc,n,k,h=>by
  rw[se]at h
  split at h
  ·split at h
   ·cases h
   ·have:=Ld cs (i+1) _ n k h;simp;omega
  ·split at h
   ·cases h
   ·injection h with h1 h2;simp;omega
theorem Fu {b:List Int}{p n k:Nat}(hp:p≤b.length)(h:rd (b.drop p)= .ok n k):p+k≤b.length:=by
 have:=Ld _ _ _ _ _ h;rw[List.length_drop]at this;omega
theorem BP {most:Nat}{b t:List Int}{p j:Nat}(h:fT most b p= .ok (t,j)):
 ∃n k,rd (b.drop p)= .ok n k∧n≤most∧n≤b.length - (p+k)∧t=(b.drop (p+k)).take n∧j=p+k+n:=by
 unfold fT ix ji at h
 cases hr:rd (b.drop p)with
 |ok n k=>
  rw[hr]at h;simp only at h
  split at h
  ·simp[BK]at h
  ·simp only[vt]at h
   split at h
   ·cases h
   ·injection h with h;injection h with h1 h2;exact⟨n,k,rfl,aj,aj,h1.symm,h2.symm⟩
 |short=>rw[hr]at h;cases h
 |form=>rw[hr]at h;cases h
theorem xW {most:Nat}{b:List Int}{p:Nat}{x:Int}(h:fT most b p= .error x):
 (rd (b.drop p)= .short∧x=1)∨(rd (b.drop p)= .form∧x=2)∨(∃n k,rd (b.drop p)= .ok n k∧most<n∧x=4)∨∃n k,rd (b.drop p)= .ok n k∧n≤most∧b.length - (p+k)<n∧x=1:=by
 unfold fT ix ji at h
 cases hr:rd (b.drop p)with
 |ok n k=>
  rw[hr]at h;simp only at h
  split at h
  ·injection h with h;exact .inr (.inr (.inl ⟨n,k,rfl,by assumption,h.symm⟩))
  ·simp only[vt]at h
   split at h
   ·injection h with h;exact .inr (.inr (.inr ⟨n,k,rfl,aj,by assumption,h.symm⟩))
   ·cases h
 |short=>rw[hr]at h;injection h with h;exact .inl ⟨rfl,h.symm⟩
 |form=>rw[hr]at h;injection h with h;exact .inr (.inl ⟨rfl,h.symm⟩)
theorem cH.sub {w:World}{g o c:Nat}{b:List Int}(h:cH w (.slice (some ⟨g,o,none⟩) b.length c) b){q n:Nat}(hq:q+n≤b.length):
 cH w (.slice (some ⟨g,o+q,none⟩) n (c - q)) ((b.drop q).take n):=by
 obtain⟨A,c',e,h1,h2,h3⟩:=h;injection e with e1 e2 e3;subst e1 e3;have hl:((b.drop q).take n).length=n:=by rw[List.length_take,List.length_drop];omega
 refine⟨_,c - q,by rw[hl],aj,aj,fun j u hj=>?_⟩;have hj':j<n:=by
  rcases Nat.lt_or_ge j n with h|h
  ·exact h
  ·rw[List.getElem?_eq_none (by rw[List.length_map,hl];exact h)]at hj;cases hj
 obtain⟨g',o',e',hc⟩:=h3 (q+j) u (by
  rw[List.getElem?_map]at hj ⊢;rw[List.getElem?_take_of_lt hj',List.getElem?_drop]at hj;exact hj)
 injection e' with e';injection e' with e1 e2;subst e1 e2;exact⟨_,_,rfl,by rw[Nat.add_assoc];exact hc⟩
section
theorem oh{P:Prop}(h:P:=by
 go_enter Tryz.func117,Tryz.ntmps117
 go_wp2_with fail;refine HG.mono ?_;rintro e w5 ⟨rfl,e5⟩;rw[←e5];clear e5;go_wp2_with fail
 go_ret3
 exact⟨rfl,rfl⟩):P:=h
theorem jJ{P:Prop}(h:P:=by
 clear he h1 h hr;exact oh):P:=h
theorem CR (A:Option Addr)(n c:Nat)(b:List Int)(p most:Nat)(x:Int)(w:World)(h:cH w (.slice A n c) b)(hp:p≤b.length)(hr:C8 (b.drop p) 0)(he:fT most b p= .error x):
 Calls Tryz.prog 117 #[.slice A n c,ah p,ah most] w fun e w'=>e= .returned (.tuple #[aT,ah 0,ah x])∧w=w':=by
 have HG:=ae<|rP A n c b p w h hp hr;have hl:=h.len;have Wd:=hl.1;subst Wd;rcases xW he with⟨h1,rfl⟩|⟨h1,rfl⟩|⟨m,k,h1,h2,rfl⟩|⟨m,k,h1,h2,h3,rfl⟩
 ·rw[mF h1]at HG;exact jJ
 ·rw[qJ h1]at HG;exact jJ
 ·rw[qB h1]at HG;have h4:(most:Int)<m:=aj;clear he h1 h hr;generalize p+k=q at *;exact oh
 ·rw[qB h1]at HG;have h4:¬(most:Int)<m:=aj;have h5:=Fu hp h1;generalize p+k=q at *;have h6:(b.length:Int) - q<m:=aj;exact jJ
theorem nT{P:Prop}(h:P:=by
 rintro e w6 ⟨v6,rfl,gY,ho,bf⟩;have HF:=ae<|And.intro gY (And.intro ho bf);clear gY ho bf;go_wp2_with fail
 go_ret3
 exact⟨v6,by rw[Hjj.out];rfl,HF.1,HF.2.1,HF.2.2⟩):P:=h
theorem EF (A:Option Addr)(n c:Nat)(b:List Int)(p most:Nat)(t:List Int)(j:Nat)(w:World)(h:cH w (.slice A n c) b)(hp:p≤b.length)(hr:C8 (b.drop p) 0)(he:fT most b p= .ok (t,j)):
 Calls Tryz.prog 117 #[.slice A n c,ah p,ah most] w fun e w'=>∃v,e= .returned (.tuple #[v,ah j,ah 0])∧Row 5 w' v (bytes t)∧af au w w'∧∀k,aJ v k→w.heap.size≤k:=by
 have HG:=ae<|rP A n c b p w h hp hr;have hl:=h.len;have Wd:=hl.1;subst Wd;obtain⟨m,k,h1,h2,h3,h4,h5⟩:=BP he;rw[qB h1]at HG;have h6:=Fu hp h1;have yU:0<b.length:=by
  rcases Nat.eq_zero_or_pos b.length with h0|h0
  ·rw[List.eq_nil_of_length_eq_zero h0,List.drop_nil]at h1;cases h1
  ·exact h0
 obtain⟨g,o,rfl,_⟩:=h.ag yU;have za:b.length≤c:=by
  obtain⟨A',c',e,h1,_⟩:=h;injection e with _ _ e3;omega
 have HS:=ae<|h.sub (q:=p+k) (n:=m) aj;have h7:¬(most:Int)<m:=aj;rw[←h4]at HS;have HS0:=aq (c - (p+k)=0→cH w (.slice (some ⟨g,o,none⟩) m 0) t) (fun h0=>by
  have hm:m=0:=aj;rw[hm,List.take_zero]at h4;rw[h4,hm];exact⟨_,0,rfl,dX _,fH _,Src.lJ _ _⟩)
 have Hj:=ae h5;clear he h1 h hr h4 h5 hp;generalize p+k=q at *;have h8:¬(b.length:Int) - q<m:=aj;have WN:q+m≤b.length:=aj;have h11:q+m≤c:=aj;have JB:q≤q+m:=aj;have WM:q+m - q=m:=aj;obtain⟨S,hS⟩:∃S,S=q+m:=⟨_,rfl⟩;have h9:(q:Int)+m=S:=aj;rw[←hS]at WN h11 JB WM;rw[←hS]at Hj;have AG:=ae hS;clear hS
 go_enter Tryz.func117,Tryz.ntmps117
 go_wp2_with fail;refine HG.mono ?_;rintro e w5 ⟨rfl,e5⟩;rw[←e5];clear e5;have Hjj:=aq ((j:Int)=S) (by rw[Hj.out])
 by_cases Dn:c - q=0
 ·have HS':=ae<|HS0 Dn;have aaX:c≤q:=aj;go_wp2_with fail;refine(gX _ t w HS').mono ?_;exact nT
 ·have aaX:¬c≤q:=aj;go_wp2_with fail;refine(gX _ t w HS).mono ?_;exact nT
end
def ed (b:List Int)(p:Nat)(e:Int):Nat×Nat×Int:=if e=0 then match ji b p with| .ok (n,j)=>(n,j,0)| .error x=>(0,0,x)else(0,p,e)
def jX (b:List Int):Prop:=∀x∈b,0≤x∧x≤255
theorem F0:∀(b:List Int) (i:Nat),jX b→C8 b i
 | [],_,_=>trivial
 |c :: cs,i,h=>⟨h c (List.mem_cons_self ..),fun _ _=>F0 cs (i+1) fun x hx=>h x (List.mem_cons_of_mem _ hx)⟩
theorem vP {b:List Int}(h:jX b)(p:Nat):C8 (b.drop p) 0:=F0 _ _ fun x hx=>h x (List.mem_of_mem_drop hx)
theorem FT {b:List Int}{p n j:Nat}(h:ji b p= .ok (n,j)):∃k,rd (b.drop p)= .ok n k∧j=p+k:=by
 unfold ji at h
 cases hr:rd (b.drop p)with
 |ok m k=>rw[hr]at h;injection h with h;injection h with h1 h2;exact⟨k,by rw[h1],h2.symm⟩
 |short=>rw[hr]at h;cases h
 |form=>rw[hr]at h;cases h
theorem B2 {b:List Int}{p:Nat}{x:Int}(h:ji b p= .error x):(rd (b.drop p)= .short∧x=1)∨(rd (b.drop p)= .form∧x=2):=by
 unfold ji at h
 cases hr:rd (b.drop p)with
 |ok m k=>rw[hr]at h;cases h
 |short=>rw[hr]at h;injection h with h;exact .inl ⟨rfl,h.symm⟩
 |form=>rw[hr]at h;injection h with h;exact .inr ⟨rfl,h.symm⟩
theorem My {b:List Int}{p:Nat}:Bn b p= .tuple #[ah ((ed b p 0).1:Nat),ah ((ed b p 0).2.1:Nat),ah (ed b p 0).2.2]:=by
 unfold ed;rw[if_pos rfl]
 cases hn:ji b p with
 |ok q=>obtain⟨n,j⟩:=q;obtain⟨k,hk,rfl⟩:=FT hn;rw[qB hk]
 |error x=>
  rcases B2 hn with⟨h,rfl⟩|⟨h,rfl⟩
  ·rw[mF h];rfl
  ·rw[qJ h];rfl
theorem Py {b:List Int}{p n j:Nat}(hp:p≤b.length)(h:ji b p= .ok (n,j)):j≤b.length:=by
 obtain⟨k,hk,rfl⟩:=FT h;exact Fu hp hk
theorem Px {b:List Int}{p:Nat}{x:Int}(h:ji b p= .error x):x≠0:=by
 rcases B2 h with⟨_,rfl⟩|⟨_,rfl⟩<;>decide
theorem Lz {most:Nat}{b:List Int}{p:Nat}{x:Int}(h:fT most b p= .error x):x≠0:=by
 rcases xW h with⟨_,rfl⟩|⟨_,rfl⟩|⟨_,_,_,_,rfl⟩|⟨_,_,_,_,_,rfl⟩<;>decide
theorem Hp {b:List Int}{p:Nat}{e:Int}(he:e≠0):ed b p e=(0,p,e):=by unfold ed;rw[if_neg he]
theorem vG {b:List Int}{p n j:Nat}(h:ji b p= .ok (n,j)):ed b p 0=(n,j,0):=by unfold ed;rw[if_pos rfl,h]
theorem Hs {b:List Int}{p:Nat}{x:Int}(h:ji b p= .error x):ed b p 0=(0,0,x):=by unfold ed;rw[if_pos rfl,h]
theorem LD {b:List Int}{p:Nat}{e:Int}(hp:e=0→p≤b.length)(h:(ed b p e).2.2=0):(ed b p e).2.1≤b.length:=by
 by_cases he:e=0
 ·subst he
  cases hn:ji b p with
  |ok q=>obtain⟨n,j⟩:=q;rw[vG hn];exact Py (hp rfl) hn
  |error x=>rw[Hs hn]at h;exact absurd h (Px hn)
 ·rw[Hp he]at h;exact absurd h he
end
section
open Go.ChangeShapes Go.RowKit Go.WideShapes
theorem sJ {α β:Type}(f:α→List β)(s:Nat)(d:α)(hf:∀a,(f a).length=s):∀(l:List α) (i j:Nat),i<l.length→j<s→(l.flatMap f)[i*s+j]? =(f (l.getD i d))[j]?
 | [],i,j,h,_=>absurd h (Nat.not_lt_zero _)
 |a :: l,0,j,_,hj=>by
  rw[List.flatMap_cons,Nat.zero_mul,Nat.zero_add,List.getElem?_append_left (by rw[hf];exact hj)];rfl
 |a :: l,i+1,j,h,hj=>by
  rw[List.flatMap_cons,List.getElem?_append_right (by rw[hf,Nat.succ_mul];omega),hf,show(i+1)*s+j - s=i*s+j from by rw[Nat.succ_mul];omega];exact sJ f s d hf l i j (by simpa using h) hj
def hC (h:aH):List Value:=[ah h.fr,ah h.size,ah h.often,.bool h.loop]
theorem Lm (h:aH):(hC h).length=4:=rfl
theorem tN (L:List aH):(L.flatMap hC).length=L.length*4:=by
 rw[List.length_flatMap];have:(L.map fun p=>(hC p).length)=L.map fun _=>4:=rfl
 rw[this,List.map_const',List.sum_replicate_nat]
theorem aX.cells {w:World}{A:Option Addr}{n c:Nat}{l:List aH}(h:aX w A n c l)(ad:Addr)(had:A=some ad):∀j u,(l.flatMap hC)[j]? =some u→w.cell? (ad.add j)=some u:=by
 intro j u hj;have NH:j<l.length*4:=by rw[←tN];exact(List.getElem?_eq_some_iff.1 hj).1
 have hi:j / 4<l.length:=aj;obtain⟨g,o,e,hg,c0,c1,c2,c3⟩:=h.at_ (j / 4) hi;rw[had]at e;injection e with e;subst e;have hd:j=j / 4*4+j % 4:=aj;rw[hd,sJ hC 4 default Lm l (j / 4) (j % 4) hi aj]at hj;rw[Addr.add_lit];have hm:j % 4<4:=Nat.mod_lt _ aE;rw[show o+j=o+j / 4*4+j % 4 from by omega];generalize j % 4=q at *;rcases(show q=0∨q=1∨q=2∨q=3 by omega)with rfl|rfl|rfl|rfl
 ·exact c0.trans hj
 ·exact c1.trans hj
 ·exact c2.trans hj
 ·exact c3.trans hj
theorem wy {w:World}{base:Nat}{v:Value}{L:List aH}(h:w.ownsRow base 100 4 v L.length (L.flatMap hC)):∃A c,v= .slice A L.length c∧aX w A L.length c L:=by
 rcases h.2 with⟨e,h0⟩|⟨g,cap,cur,e,hb,hg,hn,hm,hs,ht⟩
 ·rw[h0];refine⟨none,0,e,⟨h0.symm,fH _,fH _,fun i hi=>?_⟩⟩;omega
 ·refine⟨some ⟨g,0,none⟩,cap,e,⟨rfl,hn,hm,fun i hi=>?_⟩⟩;have key:∀j u,j<4→(hC (L.getD i default))[j]? =some u→aM w g (0+i*4+j) u:=fun j u hj hu=>by
   have hc:=h.cells (g:=g) (by rw[e];rfl) (i*4+j) u (by rw[sJ hC 4 default Lm L i j hi hj];exact hu);rw[Addr.add_lit,←Nat.add_assoc]at hc;exact hc
  exact⟨g,0,rfl,(Array.getElem?_eq_some_iff.1 hg).1,key 0 _ aE rfl,key 1 _ aE rfl,key 2 _ aE rfl,key 3 _ aE rfl⟩
def zH:Array Value:=#[ah 0,ah 0,ah 0,.bool false]
theorem vQ:(Tryz.prog.info? 100).map (fun i=>(i.zero,i.size,i.bytes))=some (some (.agg zH),4,32):=by kernel_rfl
def Qw (l:List aH)(w:World)(e:Ending)(w':World):Prop:=
 ∃A c,e= .returned (.slice A l.length c)∧aX w' A l.length c l∧af au w w'∧(∀k,aJ (.slice A l.length c) k→w.heap.size≤k)∧∀k,aJ (.slice A l.length c) k→∃cs,Box w' k 100 cs
def Ua (l:List aH)(w:World)(e:Ending)(w':World):Prop:=
 ∃A c,e= .returned (.slice A l.length c)∧aX w' A l.length c l∧af au w w'∧∀k,aJ (.slice A l.length c) k→w.heap.size≤k
section
theorem jT{P:Prop}(h:P:=by have:=HL.out;unfold maxLen;omega):P:=h
theorem eZ{P:Prop}(h:P:=by have:=HL.out;omega):P:=h
theorem s5 {A:Option Addr}{n c:Nat}{l:List aH}(w:World)(h:aX w A n c l)(hl:l.length≤100):Calls Tryz.prog 52 #[.slice A n c] w (Qw l w):=by
 have he:=fun w=>Lib.run_eql_slice_nil (P:=Tryz.prog) (w:=w)
 obtain rfl:=h.len
 cases A with
 |none=>
  have h0:l= []:=by
   cases l with
   |nil=>rfl
   |cons a l=>
    obtain⟨g,o,e,_⟩:=h.at_ 0 (Nat.zero_lt_succ _)
    cases e
  subst h0;clear h
  go_enter Tryz.func52,Tryz.ntmps52
  go_wp2_with fail;go_ret;exact⟨none,0,rfl,⟨rfl,dX _,fH _,fun i hi=>absurd hi (Nat.not_lt_zero _)⟩,af.ai _ _,fun k hk=>(bo hk).elim,fun k hk=>(bo hk).elim⟩
 |some ad=>
  obtain⟨i0,hi,hz,hsz,iq⟩:=info_parts vQ;have fW:af au w (w.alloc (.cells #[] 100)):=(af.ai _ _).alloc _;have bf:(w.alloc (.cells #[] 100)).ownsRow w.heap.size 100 4 (bp w.heap.size 0 0) 0 []:=⟨rfl,.inr ⟨w.heap.size,0,#[],rfl,dX _,Box.fresh w 100 #[],dX _,fH _,rfl,rfl⟩⟩;have tm:=(h.keep fW).cells ad rfl;have lI:=ae bf;have Vz:=ae tm;have Dt:=ae fW;have rC:=aq (∀u∈l.flatMap hC,u.oneCell'=true) (fun u hu=>by
   obtain⟨p,hp,hu⟩:=List.mem_flatMap.1 hu;simp[hC]at hu;rcases hu with rfl|rfl|rfl|rfl<;>rfl)
  have HL:=ae hl;have HI:=ae hi;have HZ:=ae hz;have HS:=ae hsz;have HB:=ae iq;clear bf tm fW h hl hi hz hsz iq
  go_enter Tryz.func52,Tryz.ntmps52
  go_wp2_with (at_builtin;refine wpList_append_own_at (w.alloc (.cells #[] 100)) rfl (.tmp 5) (.tmp 6) 23 rfl w.heap.size 100 i0 _ 4 32 Tryz.underlying23 HI HZ HS HB rfl aE _ 0 [] rfl lI ad l.length c (l.flatMap hC) rfl (tN l) Vz rC jT eZ (by rw[World.size_alloc];omega) ?_;intro v' w1 h2 h3 h4 h5;have H2:=ae h2;have H3:=ae h3;have H5:=ae h5;clear h2 h3 h4 h5);go_ret;have h2:=H2.out;rw[Nat.zero_add,List.nil_append]at h2;obtain⟨A',c',rfl,hh⟩:=wy h2;exact⟨A',c',rfl,hh,Dt.aG ((af.ai _ _).grown (S:=fun k=>w.heap.size≤k) H3 fun k hk=>.inl (by
   have:w.heap.size=k:=aD.1 hk;omega)) fun k hk=>.inr hk,fun k hk=>(World.ownsRow.lt h2 k hk).1,fun k hk=>by
   rcases h2.2 with⟨e9,_⟩|⟨g9,Yi,S6,e9,_,hg9,_⟩
   ·rw[e9]at hk;exact(bo hk).elim
   ·rw[e9]at hk;rw[←aD.1 hk];exact⟨S6,hg9⟩⟩
theorem EE {A:Option Addr}{n c:Nat}{l:List aH}(w:World)(h:aX w A n c l)(hl:l.length≤100):Calls Tryz.prog 52 #[.slice A n c] w (Ua l w):=
 (s5 w h hl).mono fun e w' ⟨A,c,h1,h2,h3,h4,_⟩=>⟨A,c,h1,h2,h3,h4⟩
end
end
section
open Go.RowKit
section
theorem aec{P:Prop}(h:P:=by
 go_enter Tryz.func38,Tryz.ntmps38
 go_wp2_with fail;go_ret;exact⟨rfl,rfl⟩):P:=h
theorem adN {n a b:Int}(h:a≤n∧n≤b)(w:World):Calls Tryz.prog 38 #[ah n,ah a,ah b] w fun e w'=>e= .returned (.bool true)∧w=w':=by
 obtain⟨h1,h2⟩:=h;exact aec
theorem adP {n a b:Int}(h:¬(a≤n∧n≤b))(w:World):Calls Tryz.prog 38 #[ah n,ah a,ah b] w fun e w'=>e= .returned (.bool false)∧w=w':=by
 by_cases h1:a≤n
 ·have h2:¬n≤b:=aj;clear h;exact aec
 ·clear h;exact aec
theorem aep{P:Prop}(h:P:=by
 go_enter Tryz.func68,Tryz.ntmps68
 go_wp2_with fail;go_ret;exact⟨rfl,(af.ai _ _).alloc _⟩):P:=h
theorem afs {hd:aH}{b:Nat}(h:C9 hd b)(h32:0≤hd.fr∧hd.fr≤32)(hb:b≤32)(w:World):Calls Tryz.prog 68 #[.agg #[ah hd.fr,ah hd.size,ah hd.often,.bool hd.loop],ah b] w fun e w'=>e= .returned (.bool true)∧af au w w':=by
 obtain⟨fr,size,often,loop⟩:=hd;obtain⟨h1,h2⟩:=h;dsimp only at h1 h2 h32 ⊢;have e1:IntKind.i64.wrap ((b:Int) - fr)=b - fr:=IntWalk.i64_in _ aj;have h3:(b:Int) - fr<size:=aj;exact aep
theorem aes{P:Prop}(h:P:=by
 clear h;exact aep):P:=h
theorem afP {hd:aH}{b:Nat}(h:¬C9 hd b)(h32:0≤hd.fr∧hd.fr≤32)(hb:b≤32)(w:World):Calls Tryz.prog 68 #[.agg #[ah hd.fr,ah hd.size,ah hd.often,.bool hd.loop],ah b] w fun e w'=>e= .returned (.bool false)∧af au w w':=by
 obtain⟨fr,size,often,loop⟩:=hd;unfold C9 at h;dsimp only at h h32 ⊢
 by_cases h1:fr≤(b:Int)
 ·have e1:IntKind.i64.wrap ((b:Int) - fr)=b - fr:=IntWalk.i64_in _ aj;have h3:¬(b:Int) - fr<size:=aj;exact aes
 ·exact aes
def Rh1 (blocks:Int)(l:List aH)(w:World)(i:Value)(wr:World):Prop:=
 ∃k:Nat,k≤l.length∧i=ah k∧(∀j,j<k→Aj blocks (l.getD j default))∧(∀i j,i<j→j<k→vC (l.getD i default) (l.getD j default))∧af au w wr
def Rh2 (l:List aH)(k F Z hb:Nat)(w:World)(often:Int)(loop:Bool)(i:Value)(wr:World):Prop:=
 ∃q:Nat,q≤32∧i=ah q∧(∀b j,b<q→j<k→¬(C9 ⟨F,Z,often,loop⟩ b∧C9 (l.getD j default) b))∧Box wr hb 100 #[ah F,ah Z,ah often,.bool loop]∧af au w wr
def Rh3 (l:List aH)(k q F Z hb:Nat)(w:World)(often:Int)(loop:Bool)(i:Value)(wr:World):Prop:=
 ∃r:Nat,r≤k∧i=ah r∧(∀j,j<r→¬(C9 ⟨F,Z,often,loop⟩ q∧C9 (l.getD j default) q))∧Box wr hb 100 #[ah F,ah Z,ah often,.bool loop]∧af au w wr
theorem Rh1.step {blocks:Int}{l:List aH}{k F Z:Nat}{w wr:World}{often:Int}{loop:Bool}(hx:l.getD k default=⟨F,Z,often,loop⟩)
 (hm:∀b j,b<32→j<k→¬(C9 ⟨F,Z,often,loop⟩ b∧C9 (l.getD j default) b)) (bN:∀j,j<k→Aj blocks (l.getD j default)) (WD:∀i j,i<j→j<k→vC (l.getD i default) (l.getD j default))
 (SJ:Aj blocks ⟨F,Z,often,loop⟩) (ho:af au w wr) (aY:k<l.length):Rh1 blocks l w (ah ((k:Int)+1)) wr:=by
 refine⟨k+1,aY,by simp,fun j hj=>?_,fun i j Dl hj=>?_,ho⟩
 ·exact aeu
 ·rcases Nat.lt_or_ge j k with hk|hk
  ·exact WD i j Dl hk
  ·obtain rfl:j=k:=aj;have h1:=bN i Dl;rw[hx];unfold Aj at h1 SJ;unfold vC;dsimp only at SJ ⊢;generalize hg:l.getD i default=g at *
   by_cases hgf:g.fr≤F
   ·have:=hm F i aj Dl;rw[hg]at this;unfold C9 at this;dsimp only at this;omega
   ·by_cases hc:g.fr<F+Z
    ·have:=hm g.fr.toNat i aj Dl;rw[hg]at this;unfold C9 at this;dsimp only at this;omega
    ·omega
theorem ae5 (A:Option Addr)(n c:Nat)(l:List aH)(blocks:Int)(w:World)(h:aX w A n c l)(ei:1≤blocks)(ez:blocks≤32):
 Calls Tryz.prog 39 #[.slice A n c,ah blocks] w fun e w'=>e= .returned (.bool (lz blocks l))∧af au w w':=by
 obtain rfl:=h.len;have za:=h.cap;have hmax:=h.max;have H:=ae h;unfold maxLen at hmax;clear h
 by_cases h8:l.length≤8
 rotate_left
 ·have Hr:=ae<|tL (blocks:=blocks) (l:=l) fun hp=>h8 hp.2.2;have h8b:(8:Int)<(l.length:Int):=aj
  go_enter Tryz.func39,Tryz.ntmps39
  go_wp2_with fail;go_ret;exact⟨by rw[Hr.out];rfl,af.ai _ _⟩
 have h8b:¬(8:Int)<(l.length:Int):=aj;have H8:=ae h8
 go_enter Tryz.func39,Tryz.ntmps39
 go_wp2_with fail;clear h8 h8b
 go_loopw [5] (fun i wr=>Rh1 blocks l w i wr) (fun i _=>l.length - (intOf i).toNat)
 case atStart=>exact⟨0,fH _,rfl,fun j hj=>absurd hj aj,fun i j _ hj=>absurd hj aj,af.ai _ _⟩
 case round=>
  obtain⟨k,hk,rfl,bN,WD,ho⟩:=hrel;have Hok:=ae bN;have Hap:=ae WD;have Ho:=ae ho
  by_cases aY:k<l.length
  ·obtain⟨g,o,rfl,hg,x0,x1,x2,x3⟩:=(H.keep ho).at_ k aY;have Hno:=ae<|fun(h:¬Aj blocks (l.getD k default))=>tL (blocks:=blocks) (l:=l) fun hp=>h (hp.1 k aY);have Bm:(k:Int)<l.length:=aj;have WY:=ae aY;clear bN WD ho;generalize hx:l.getD k default=hd at *;obtain⟨fr,size,often,loop⟩:=hd;have Hx:=ae hx;clear hx;dsimp only at x0 x1 x2 x3
   by_cases c0:fr<0
   ·exact gz
   by_cases c1:size<1
   ·exact gz
   by_cases c2:32<fr
   ·exact gz
   by_cases c3:32<size
   ·exact gz
   have e1:IntKind.i64.wrap (fr+size)=fr+size:=IntWalk.i64_in _ aj
   by_cases c4:blocks<fr+size
   ·exact gz
   have c5:¬32<fr+size:=aj
   by_cases c6:often<0
   ·exact gz
   by_cases c7:2147483647<often
   ·exact gz
   have M0:fr=((fr.toNat:Nat):Int):=aj;have hsz:size=((size.toNat:Nat):Int):=aj;generalize fr.toNat=F at *;generalize size.toNat=Z at *;subst M0 hsz;have Ym:=aq (Aj blocks ⟨(F:Int),(Z:Int),often,loop⟩) (by unfold Aj;dsimp only;omega);have HbH:=ae<|Box.fresh wr 100 #[ah F,ah Z,ah often,.bool loop];have HoH:=ae<|Ho.alloc (.cells #[ah F,ah Z,ah often,.bool loop] 100);have HhB:=aq (w.heap.size≤wr.heap.size) (Ho.size);have agX:=aq (0≤(F:Int)∧(F:Int)≤32) aj;go_wp2_with fail;clear c0 c1 c2 c3 c4 c5 c6 c7 e1;generalize wr.alloc (.cells #[ah F,ah Z,ah often,.bool loop] 100)=X at *;generalize hhb:wr.heap.size=hb at *;have Hhb:=ae hhb;clear hhb x0 x1 x2 x3
   go_loopw [7] (fun i wr=>Rh2 l k F Z hb w often loop i wr) (fun i _=>32 - (intOf i).toNat)
   case atStart=>exact⟨0,fH _,rfl,fun b j h=>absurd h (Nat.not_lt_zero _),HbH,HoH⟩
   case round=>
    obtain⟨q,hq,rfl,wV,py,bq⟩:=hrel;have Hm2:=ae wV;have ahi:=ae py;have Ho2:=ae bq;clear wV py bq
    by_cases hqz:q<32
    ·have hqi:(q:Int)<32:=aj;go_wp2_with fail
     go_loopw [8] (fun i wr=>Rh3 l k q F Z hb w often loop i wr) (fun i _=>k - (intOf i).toNat)
     case atStart=>exact⟨0,fH _,rfl,fun j h=>absurd h (Nat.not_lt_zero _),ahi,Ho2⟩
     case round=>
      obtain⟨r,hr,rfl,Dd,py,bV⟩:=hrel;have Hm3:=ae Dd;have Hbx:=ae py;have Ho3:=ae bV
      by_cases hrk:r<k
      ·have y0:aF wr hb 0 F:=py.ag rfl;have y1:aF wr hb 1 Z:=py.ag rfl;have y2:aF wr hb 2 often:=py.ag rfl;have y3:aM wr hb 3 (.bool loop):=py.ag rfl;have ahq:(r:Int)<k:=aj;have hrl:(r:Int)<l.length:=aj;clear Dd py bV
       by_cases bL:C9 ⟨(F:Int),(Z:Int),often,loop⟩ q
       ·have Vv:=ae<|fun w=>afs (hd:=⟨(F:Int),(Z:Int),often,loop⟩) bL agX.out (by omega:q≤32) w;have Hin:=ae bL;clear bL;go_wp2_with fail;refine(Vv _).mono ?_;rintro e w5 ⟨rfl,fz⟩;have Ho5:=ae<|Ho3.cE fz;have ahh:=ae<|fz.ak Hbx id;clear fz;obtain⟨g2,o2,hA2,hg2,z0,z1,z2,z3⟩:=(H.keep Ho5).at_ r aj;injection hA2 with hA2;injection hA2 with hg R4 UJ;subst hg R4;have ahg:=ae<|Hok r hrk;generalize VW:l.getD r default=kJ at *;obtain⟨fr2,afm,ae1,afo⟩:=kJ;have Hxr:=ae VW;clear VW;dsimp only at z0 z1 z2 z3;have f2:0≤fr2∧fr2≤32:=by have:=ahg.out;unfold Aj at this;dsimp only at this;omega
        have F2n:=ae f2;clear f2
        by_cases aeK:C9 ⟨fr2,afm,ae1,afo⟩ q
        ·have HI2:=ae<|fun w=>afs (hd:=⟨fr2,afm,ae1,afo⟩) aeK F2n.out (by omega:q≤32) w;have Hr:=ae (tL (blocks:=blocks) (l:=l) fun hp=>by
          have:=hp.2.1 r k hrk WY;rw[Hx.out,Hxr.out]at this;have h1:=Hin.out;have h2:=aeK;unfold vC at this;unfold C9 at h1 h2;dsimp only at this h1 h2;omega)
         clear aeK;go_wp2_with fail;refine(HI2 _).mono ?_;rintro e w6 ⟨rfl,fI⟩;have Ho6:=ae<|Ho5.cE fI;clear fI;go_wp2_with fail;go_ret;exact⟨by rw[Hr.out];rfl,Ho6⟩
        ·have HI2:=ae<|fun w=>afP (hd:=⟨fr2,afm,ae1,afo⟩) aeK F2n.out (by omega:q≤32) w;have HN:=ae aeK;clear aeK;go_wp2_with fail;refine(HI2 _).mono ?_;rintro e w6 ⟨rfl,fI⟩;have Ho6:=ae<|Ho5.cE fI;have af0:=ae<|fI.ak ahh id;clear fI;go_wp2_with fail;have HR:=aq (Rh3 l k q F Z hb w often loop (ah ((r:Int)+1)) w6) (⟨r+1,hrk,by simp,fun j hj=>by
          rcases Nat.lt_or_ge j r with h|h
          ·exact Hm3 j h
          ·obtain rfl:j=r:=aj;rw[Hxr.out];exact fun h=>HN h.2,af0,Ho6⟩)
         exact nc
       ·have Vv:=ae<|fun w=>afP (hd:=⟨(F:Int),(Z:Int),often,loop⟩) bL agX.out (by omega:q≤32) w;have HN:=ae bL;clear bL;go_wp2_with fail;refine(Vv _).mono ?_;rintro e w6 ⟨rfl,fI⟩;have Ho6:=ae<|Ho3.cE fI;have af0:=ae<|fI.ak Hbx id;clear fI;go_wp2_with fail;have HR:=aq (Rh3 l k q F Z hb w often loop (ah ((r:Int)+1)) w6) (⟨r+1,hrk,by simp,fun j hj h=>HN h.1,af0,Ho6⟩);exact nc
      ·obtain rfl:r=k:=aj;clear Dd py bV;go_wp2_with fail;have HR:=aq (Rh2 l r F Z hb w often loop (ah ((q:Int)+1)) wr) (⟨q+1,hqz,by simp,fun b j hb hj=>by
        rcases Nat.lt_or_ge b q with h|h
        ·exact Hm2 b j h hj
        ·obtain rfl:b=q:=aj;exact Hm3 j hj,Hbx,Ho3⟩)
       exact nc
    ·obtain rfl:q=32:=aj;go_wp2_with fail;have HR:=aq (Rh1 blocks l w (ah ((k:Int)+1)) wr) (Rh1.step Hx Hm2 Hok Hap Ym Ho2 WY);exact nc
  ·have hkn:k=l.length:=aj;have Hr:=ae<|wz (blocks:=blocks) (l:=l) ⟨fun i hi=>Hok i aj,fun i j Dl hj=>Hap i j Dl aj,H8⟩;clear bN WD ho;exact aea
end
end
end Go.Proofs.YtpcfhbeakecihaaGreat
