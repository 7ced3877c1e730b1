/- Lemmas. -/
import Derived.Test.YtpcfhbeakecihaaGreatM5
import Derived.Test.YtpcfhbeakecihaaGreatM9
import Derived.BigQuiet
import Derived.Deep.OwnRows
import Derived.Test.YtpcfhbeakecihaaGreatProg
import Derived.WalkLawsBesides
set_option linter.all false
set_option maxHeartbeats 20000000
set_option maxRecDepth 100000
namespace Go.Proofs.YtpcfhbeakecihaaGreat
section
open Go.RowKit
def b8 (w:World)(v:Value)(l:List Int):Prop:=∃A c,v= .slice A l.length c∧l.length≤c∧l.length≤140737488355328∧Src w A (l.map (Value.int .u8))
theorem b8.ao {S:Nat→Prop}{w w':World}{v:Value}{l:List Int}(h:b8 w v l)(ho:af S w w')(hn:∀k,aJ v k→¬S k):b8 w' v l:=by
 obtain⟨A,c,rfl,h1,h2,h3⟩:=h;exact⟨A,c,rfl,h1,h2,h3.ao ho fun g o e _=>hn g (by subst e;exact aq.2 rfl)⟩
theorem b8.keep {S:Nat→Prop}{w w':World}{v:Value}{l:List Int}(h:b8 w v l)(ho:af S w w')(hn:0<l.length→∀k,aJ v k→k<w.heap.size→¬S k):b8 w' v l:=by
 obtain⟨A,c,rfl,h1,h2,h3⟩:=h
 by_cases hz:0<l.length
 ·exact⟨A,c,rfl,h1,h2,h3.ao ho fun g o e hg=>hn hz g (by subst e;exact aq.2 rfl) hg⟩
 ·have:l= []:=List.eq_nil_of_length_eq_zero ai;subst this;exact⟨A,c,rfl,h1,h2,Src.kv _ _⟩
theorem cP:(Tryz.prog.info? 5).map (fun i=>(i.zero,i.size,i.bytes))=some (some (.int .u8 0),1,1):=by kernel_rfl
section
theorem qV (n c:Nat)(w:World):Calls Tryz.prog 60 #[.slice none n c] w fun e w'=>e= .returned ey∧w=w':=by
 have he:=fun w=>Lib.run_eql_slice_nil (P:=Tryz.prog) (w:=w)
 go_enter Tryz.func60,Tryz.ntmps60
 go_wp2_with fail;go_ret;exact⟨rfl,rfl⟩
theorem Row.nR {w:World}{v:Value}{l:List Int}(h:Row 5 w v (l.map (Value.int .u8)))(hl:l.length≤140737488355328):b8 w v l:=by
 obtain⟨A,c,hv,hs⟩:=h.src;obtain⟨A',c',yZ,h1,h2⟩:=h.shape;rw[List.length_map]at hv yZ h1;rw[hv]at yZ;injection yZ with e1 e2 e3;subst e1 e3;exact⟨A,c,hv,h1,hl,hs⟩
abbrev bytes (l:List Int):List Value:=l.map (Value.int .u8)
theorem mz (l:List Int):∀u∈bytes l,u.oneCell'=true:=fun u hu=>by obtain⟨x,_,rfl⟩:=List.mem_map.1 hu;rfl
def oB (l:List Int)(w:World)(e:Ending)(w':World):Prop:=
 ∃v,e= .returned v∧Row 5 w' v (bytes l)∧af aA w w'∧∀k,aJ v k→w.heap.size≤k
def Cl (l:List Int)(w:World)(e:Ending)(w':World):Prop:=oB l w e w'
theorem qU (a:Addr)(c:Nat)(l:List Int)(w:World)(h:b8 w (.slice (some a) l.length c) l):
 Calls Tryz.prog 60 #[.slice (some a) l.length c] w (Cl l w):=by
 obtain⟨A,c',e,h1,h2,h3⟩:=h;injection e with e1 e2 e3;subst e1;have mK:af aA w (w.alloc (.cells #[] 5)):=(af.ak _ _).alloc _;have dr:Row 5 (w.alloc (.cells #[] 5)) (cS w.heap.size 0 0) []:=.inr ⟨_,0,#[],rfl,Box.fresh _ _ _,dT _,dT _,eK _,rfl⟩;have mN:Src (w.alloc (.cells #[] 5)) (some a) (l.map (Value.int .u8)):=h3.ao mK fun _ _ _ _=>id
 have he:=fun w=>Lib.run_eql_slice_nil (P:=Tryz.prog) (w:=w)
 have lC:∀u∈l.map (Value.int .u8),u.oneCell'=true:=by
  intro u hu;obtain⟨z,_,rfl⟩:=List.mem_map.1 hu;rfl
 have dq:([]:List Value).length+(l.map (Value.int .u8)).length≤maxLen:=by simp only[List.length_nil,List.length_map,maxLen];omega
 have dF:(([]:List Value).length+(l.map (Value.int .u8)).length)*1≤140737488355328:=by simp only[List.length_nil,List.length_map];omega
 have O4:=ae dq;clear dq;have O3:=ae dF;clear dF;have Jq:=ae lC;clear lC;have BS:l.length=(l.map (Value.int .u8)).length:=by simp
 have OX:=ae BS;clear BS;generalize JZ:l.map (Value.int .u8)=vs at *;have OQ:=ae JZ;clear JZ;clear e2 e3 h3
 go_enter Tryz.func60,Tryz.ntmps60
 go_wp2_with (at_builtin;refine aY _ rfl (.tmp 5) (.tmp 6) 35 5 rfl cP rfl Tryz.underlying35 (cS w.heap.size 0 0) [] rfl dr (some a) l.length c vs rfl OX mN Jq O4 O3 ?_;intro v' w1 zw ow bp _);go_ret;rw[List.nil_append]at zw;refine⟨v',rfl,by rw[bytes,OQ.out];exact zw,mK.aE ow (fun k hk=>.inr (by rw[aq]at hk;omega)),fun k hk=>?_⟩;rcases bp k hk with h|h
 ·rw[aq]at h;omega
 ·simp at h;omega
theorem cI (v:Value)(l:List Int)(w:World)(h:b8 w v l):Calls Tryz.prog 60 #[v] w (Cl l w):=by
 have h':=h;obtain⟨A,c,rfl,h1,h2,h3⟩:=h
 cases A with
 |some a=>exact qU a c l w h'
 |none=>
  have hl:l= []:=by
   cases l with
   |nil=>rfl
   |cons x l=>obtain⟨g,o,e,_⟩:=h3 0 _ rfl;cases e
  subst hl;refine(qV _ _ w).mono ?_;rintro e w' ⟨rfl,rfl⟩;exact⟨_,rfl,Row.kv _ _,af.ak _ _,fun k hk=>(bq hk).elim⟩
def Ep (la lb:List Int)(w:World)(i:Value)(wr:World):Prop:=∃k:Nat,k≤la.length∧i=ah k∧(∀j,j<k→la.getD j 0=lb.getD j 0)∧∃m,w.drewN m=wr
theorem alike (la lb:List Int)(hl:la.length=lb.length)(h:∀j,j<la.length→la.getD j 0=lb.getD j 0):la=lb:=by
 apply List.ext_getElem hl;intro i h1 h2;have:=h i h1;simpa [List.getD,h1,h2] using this
theorem b8.ag {w:World}{A:Option Addr}{n c:Nat}{l:List Int}(h:b8 w (.slice A n c) l){i:Nat}(hi:i<l.length):
 ∃g o,A=some ⟨g,o,none⟩∧ba w g (o+i) (.int .u8 (l.getD i 0)):=by
 obtain⟨A',c',e,_,_,h3⟩:=h;injection e with e1 e2 e3;subst e1;exact h3 i _ (by simp[hi])
theorem b8.len {w:World}{A:Option Addr}{n c:Nat}{l:List Int}(h:b8 w (.slice A n c) l):n=l.length∧l.length≤140737488355328:=by
 obtain⟨A',c',e,_,h2,h3⟩:=h;injection e with e1 e2;exact⟨e2,h2⟩
theorem sP (A B:Option Addr)(ca cb:Nat)(la lb:List Int)(w:World)(ha:b8 w (.slice A la.length ca) la)(hb:b8 w (.slice B lb.length cb) lb):
 Calls Tryz.prog 15 #[.slice A la.length ca,.slice B lb.length cb] w fun e w'=>e= .returned (.bool (decide (la=lb)))∧∃m,w.drewN m=w':=by
 have h1:=ha.len.2;have h2:=hb.len.2
 by_cases hl:la.length=lb.length
 ·have BS:((la.length:Int) != (lb.length:Int))=false:=by simp[hl]
  have Hl:=ae hl;have NU:la.length≤lb.length:=ai;clear hl
  go_enter Tryz.func15,Tryz.ntmps15
  go_wp2_with fail
  go_loopw [5] (fun i wr=>Ep la lb w i wr) (fun i _=>la.length - (intOf i).toNat)
  case atStart=>exact⟨0,ai,rfl,fun j hj=>absurd hj ai,0,rfl⟩
  case round=>
   obtain⟨k,hk,rfl,heq,m,rfl⟩:=hrel;have Dd:=ae heq;clear heq
   by_cases aO:k<la.length
   ·obtain⟨g,o,rfl,hc⟩:=ha.ag aO;obtain⟨g',o',rfl,Oe⟩:=hb.ag (show k<lb.length by omega);generalize hx:la.getD k 0=x at *;generalize hy:lb.getD k 0=y at *;have Hx:=ae hx;have Hy:=ae hy;clear hx hy
    by_cases sg:x=y
    ·subst sg;have nY:(k:Int)<lb.length:=ai;have AG:(k:Int)<la.length:=ai;go_wp2_with fail
     go_quiet (fail)
     go_wp2
     go_roundw
     case rel=>exact⟨k+1,ai,by go_num,fun j hj=>by
      rcases Nat.lt_or_ge j k with h|h
      ·exact Dd j h
      ·obtain rfl:j=k:=ai;rw[Hx.out,Hy.out],_,rfl⟩
     case measure=>simp[intOf];omega
    ·have hne:(x != y)=true:=by simp[sg]
     have nY:(k:Int)<lb.length:=ai;have AG:(k:Int)<la.length:=ai;have hf:decide (la=lb)=false:=decide_eq_false fun e=>sg (by rw[←Hx.out,←Hy.out,e])
     have Hf:=ae hf;clear hf sg;go_wp2_with fail
     go_quiet (fail)
     go_wp2;go_ret;exact⟨by rw[Hf.out];rfl,_,(World.drewN_drewN _ _ _).symm⟩
   ·have hf:decide (la=lb)=true:=decide_eq_true (alike la lb Hl fun j hj=>Dd j ai);have Hf:=ae hf;clear hf;go_wp2_with fail;go_ret;exact⟨by rw[Hf.out];rfl,_,rfl⟩
 ·have BS:((la.length:Int) != (lb.length:Int))=true:=by simp;omega
  have hf:decide (la=lb)=false:=decide_eq_false fun e=>hl (by rw[e])
  have Hf:=ae hf;clear hl hf
  go_enter Tryz.func15,Tryz.ntmps15
  go_wp2_with fail;go_ret;exact⟨by rw[Hf.out];rfl,0,rfl⟩
theorem oG (va vb:Value)(la lb:List Int)(w:World)(ha:b8 w va la)(hb:b8 w vb lb):
 Calls Tryz.prog 15 #[va,vb] w fun e w'=>e= .returned (.bool (decide (la=lb)))∧∃m,w.drewN m=w':=by
 have ha':=ha;have iF:=hb;obtain⟨A,ca,rfl,_⟩:=ha;obtain⟨B,cb,rfl,_⟩:=hb;exact sP A B ca cb la lb w ha' iF
end
structure au where
 fr:Int
 size:Int
 often:Int
 loop:Bool
 deriving DecidableEq
instance:Inhabited au:=⟨⟨0,0,0,false⟩⟩
def pU (blocks:Int)(h:au):Prop:=0≤h.fr∧1≤h.size∧h.fr≤blocks∧h.size≤blocks - h.fr∧h.fr+h.size≤32∧0≤h.often∧h.often≤2147483647
def kC (g h:au):Prop:=g.fr+g.size≤h.fr∨h.fr+h.size≤g.fr
def pN (h:au)(b:Nat):Prop:=h.fr≤b∧(b:Int)<h.fr+h.size
def cW (blocks:Int)(l:List au):Prop:=
 (∀i,i<l.length→pU blocks (l.getD i default))∧(∀i j,i<j→j<l.length→kC (l.getD i default) (l.getD j default))∧l.length≤8
noncomputable def eB (blocks:Int)(l:List au):Bool:= @decide (cW blocks l) (Classical.propDecidable _)
theorem jQ {blocks:Int}{l:List au}(h:¬cW blocks l):eB blocks l=false:=by unfold eB;exact @decide_eq_false _ (Classical.propDecidable _) h
theorem kT {blocks:Int}{l:List au}(h:cW blocks l):eB blocks l=true:=by unfold eB;exact @decide_eq_true _ (Classical.propDecidable _) h
structure aL (w:World)(A:Option Addr)(n c:Nat)(l:List au):Prop where
 len:n=l.length
 cap:n≤c
 max:c≤maxLen
 at_:∀i,i<l.length→∃g o,A=some ⟨g,o,none⟩∧g<w.heap.size∧aF w g (o+i*4) ((l.getD i default).fr)∧aF w g (o+i*4+1) ((l.getD i default).size)∧
  aF w g (o+i*4+2) ((l.getD i default).often)∧ba w g (o+i*4+3) (.bool (l.getD i default).loop)
theorem aL.ao {S:Nat→Prop}{w w':World}{A:Option Addr}{n c:Nat}{l:List au}(h:aL w A n c l)(ho:af S w w')(hS:∀k,k<w.heap.size→¬S k):aL w' A n c l:=
 ⟨h.len,h.cap,h.max,fun i hi=>by
  obtain⟨g,o,e,hg,h0,h1,h2,h3⟩:=h.at_ i hi;have hn:=hS g hg;exact⟨g,o,e,Nat.lt_of_lt_of_le hg ho.size,ho.cell h0 hn,ho.cell h1 hn,ho.cell h2 hn,ho.cell h3 hn⟩⟩
theorem aL.keep {w w':World}{A:Option Addr}{n c:Nat}{l:List au}(h:aL w A n c l)(ho:af aA w w'):aL w' A n c l:=h.ao ho fun _ _=>id
section
theorem iM (n a b:Int)(w:World):Calls Tryz.prog 79 #[ah n,ah a,ah b] w fun e w'=>e= .returned (.bool (decide (a≤n)&&decide (n≤b)))∧w=w':=by
 by_cases h1:a≤n
 ·by_cases h2:n≤b
  ·go_enter Tryz.func79,Tryz.ntmps79
   go_wp2_with fail;go_ret;exact⟨by simp[h1,h2],rfl⟩
  ·go_enter Tryz.func79,Tryz.ntmps79
   go_wp2_with fail;go_ret;exact⟨by simp[h1,h2],rfl⟩
 ·go_enter Tryz.func79,Tryz.ntmps79
  go_wp2_with fail;go_ret;exact⟨by rw[decide_eq_false (show¬a≤n by omega)];rfl,rfl⟩
structure oA (wr:World)(mb:Nat)(f:Nat→Prop):Prop where
 ex:∃cs:Array Value,Box wr mb 188 cs∧cs.size=32∧∀b,b<32→∃x:Bool,cs[b]? =some (.bool x)∧(x=true↔f b)
def Dc (blocks:Int)(l:List au)(w:World)(i:Value)(wr:World):Prop:=
 ∃k:Nat,k≤l.length∧i=ah k∧oA wr w.heap.size (fun b=>∃j,j<k∧pN (l.getD j default) b)∧(∀j,j<k→pU blocks (l.getD j default))∧(∀i j,i<j→j<k→kC (l.getD i default) (l.getD j default))∧af aA w wr
def FJ (l:List au)(k F Z hb mb:Nat)(w:World)(often:Int)(loop:Bool)(i:Value)(wr:World):Prop:=
 ∃q:Nat,q≤Z∧i=ah q∧oA wr mb (fun b=>(∃j,j<k∧pN (l.getD j default) b)∨(F≤b∧b<F+q))∧(∀b,F≤b→b<F+q→¬∃j,j<k∧pN (l.getD j default) b)∧
  Box wr hb 100 #[ah F,ah Z,ah often,.bool loop]∧af aA w wr
theorem vV (w:World)(f:Nat→Prop)(hf:∀b,¬f b)(cs:Array Value)(hcs:cs=Array.replicate 32 (.bool false)):oA (w.alloc (.cells cs 188)) w.heap.size f:=by
 subst hcs;refine⟨_,Box.fresh w _ _,by simp,fun b hb=>⟨false,by simp[hb],by simp[hf b]⟩⟩
theorem FJ.step {l:List au}{k F Z hb:Nat}{w wr:World}{often:Int}{loop:Bool}{q:Nat}{cs:Array Value}(hx:l.getD k default=⟨F,Z,often,loop⟩)
 (hcs:∀b,b<32→∃x:Bool,cs[b]? =some (.bool x)∧(x=true↔(∃j,j<k∧pN (l.getD j default) b)∨F≤b∧b<F+q)) (BW:Box wr w.heap.size 188 cs) (hsz:cs.size=32)
 (E4:false=true↔(∃j,j<k∧pN (l.getD j default) (F+q))∨F≤F+q∧F+q<F+q)
 (jY:Box wr hb 100 #[ah F,ah Z,ah often,.bool loop]) (ho:af aA w wr) (gH:∀b,F≤b→b<F+q→¬∃j,j<k∧pN (l.getD j default) b) (hq:q<Z) (QM:F+Z≤32) (hne:w.heap.size≠hb):
 FJ l k F Z hb w.heap.size w often loop (ah ((q:Int)+1)) (wr.setCell ⟨w.heap.size,F+q,none⟩ (.bool true)):=by
 refine⟨q+1,hq,by simp,⟨_,BW.store _ _,by simpa using hsz,fun b hb=>?_⟩,fun b h1 h2=>?_,jY.jB (fun e=>hne e.symm) _,ho.setCell (.inr (dT _)) _⟩
 ·by_cases Hg:b=F+q
  ·subst Hg;exact⟨true,by rw[Array.getElem?_setIfInBounds_self_of_lt ai],⟨fun _=>.inr ⟨ai,ai⟩,fun _=>rfl⟩⟩
  ·obtain⟨x,h1,h2⟩:=hcs b hb;refine⟨x,by rw[Array.getElem?_setIfInBounds_ne ai];exact h1,h2.trans ⟨fun h=>?_,fun h=>?_⟩⟩
   ·rcases h with h|h
    ·exact .inl h
    ·exact .inr ⟨h.1,ai⟩
   ·rcases h with h|h
    ·exact .inl h
    ·exact .inr ⟨h.1,ai⟩
 ·by_cases Hg:b=F+q
  ·subst Hg;intro h;exact Bool.false_ne_true (E4.2 (.inl h))
  ·exact gH b h1 ai
theorem Dc.step {blocks:Int}{l:List au}{k F Z:Nat}{w wr:World}{often:Int}{loop:Bool}(hx:l.getD k default=⟨F,Z,often,loop⟩)
 (hm:oA wr w.heap.size (fun b=>(∃j,j<k∧pN (l.getD j default) b)∨F≤b∧b<F+Z)) (bG:∀j,j<k→pU blocks (l.getD j default)) (CY:∀i j,i<j→j<k→kC (l.getD i default) (l.getD j default))
 (AB:pU blocks ⟨F,Z,often,loop⟩) (gH:∀b,F≤b→b<F+Z→¬∃j,j<k∧pN (l.getD j default) b) (ho:af aA w wr) (aO:k<l.length):Dc blocks l w (ah ((k:Int)+1)) wr:=by
 refine⟨k+1,aO,by simp,?_,fun j hj=>?_,fun i j tR hj=>?_,ho⟩
 ·obtain⟨cs,h1,h2,h3⟩:=hm;refine⟨cs,h1,h2,fun b hb=>?_⟩;obtain⟨x,h4,h5⟩:=h3 b hb;refine⟨x,h4,h5.trans ⟨fun h=>?_,fun⟨j,hj,h⟩=>?_⟩⟩
  ·rcases h with⟨j,hj,h⟩|h
   ·exact⟨j,ai,h⟩
   ·exact⟨k,ai,by rw[hx];unfold pN;dsimp only;omega⟩
  ·rcases Nat.lt_or_ge j k with hk|hk
   ·exact .inl ⟨j,hk,h⟩
   ·obtain rfl:j=k:=ai;rw[hx]at h;unfold pN at h;dsimp only at h;exact .inr ai
 ·rcases Nat.lt_or_ge j k with hk|hk
  ·exact bG j hk
  ·obtain rfl:j=k:=ai;rw[hx];exact AB
 ·rcases Nat.lt_or_ge j k with hk|hk
  ·exact CY i j tR hk
  ·obtain rfl:j=k:=ai;have h1:=bG i tR;rw[hx];unfold pU at h1 AB;unfold kC;dsimp only at AB ⊢;generalize hg:l.getD i default=g at *
   by_cases QF:g.fr≤F
   ·have:=gH F (dT _) ai;have h2:¬pN g F:=fun h=>this ⟨i,tR,by rw[hg];exact h⟩
    unfold pN at h2;omega
   ·by_cases hc:g.fr<F+Z
    ·have:=gH g.fr.toNat ai ai;have h2:¬pN g g.fr.toNat:=fun h=>this ⟨i,tR,by rw[hg];exact h⟩
     unfold pN at h2;omega
    ·omega
theorem ct{P:Prop}(h:P:=by
 have Hr:=ae<|LO (fun h=>by unfold pU at h;dsimp only at h;omega);go_wp2_with fail;go_ret;exact⟨by rw[Hr.out];rfl,Ho.alloc _⟩):P:=h
theorem mh (A:Option Addr)(n c:Nat)(l:List au)(blocks:Int)(w:World)(h:aL w A n c l)(dq:1≤blocks)(dF:blocks≤32):
 Calls Tryz.prog 80 #[.slice A n c,ah blocks] w fun e w'=>e= .returned (.bool (eB blocks l))∧af aA w w':=by
 obtain rfl:=h.len;have nZ:=h.cap;have hmax:=h.max;have H:=ae h;have HW:=ae<|fun n a b w=>iM n a b w;unfold maxLen at hmax;clear h
 go_enter Tryz.func80,Tryz.ntmps80
 go_wp2_with fail
 go_loopw [11] (fun i wr=>Dc blocks l w i wr) (fun i _=>l.length - (intOf i).toNat)
 case atStart=>exact⟨0,eK _,rfl,vV w _ (fun b ⟨j,hj,_⟩=>absurd hj ai) _ rfl,fun j hj=>absurd hj ai,fun i j _ hj=>absurd hj ai,(af.ak _ _).alloc _⟩
 case round=>
  obtain⟨k,hk,rfl,hm,bG,CY,ho⟩:=hrel;have Hm:=ae hm;have Ic:=ae bG;have Ig:=ae CY;have Ho:=ae ho
  by_cases aO:k<l.length
  ·obtain⟨g,o,rfl,hg,x0,x1,x2,x3⟩:=(H.keep ho).at_ k aO;have LO:=ae<|fun(h:¬pU blocks (l.getD k default))=>jQ (blocks:=blocks) (l:=l) fun hp=>h (hp.1 k aO);have nY:(k:Int)<l.length:=ai;have Db:=ae aO;clear hm bG CY ho;generalize hx:l.getD k default=hd at *;obtain⟨fr,size,often,loop⟩:=hd;have Hx:=ae hx;clear hx;dsimp only at x0 x1 x2 x3
   by_cases c0:fr<0
   ·exact ct
   by_cases c1:size<1
   ·exact ct
   by_cases c2:blocks<fr
   ·exact ct
   have e1:IntKind.i64.wrap (blocks - fr)=blocks - fr:=IntWalk.i64_in _ ai
   by_cases c3:blocks - fr<size
   ·exact ct
   have e2:IntKind.i64.wrap (fr+size)=fr+size:=IntWalk.i64_in _ ai;have c4:¬32<fr+size:=ai;have FP:=ae<|fun w=>HW often 0 2147483647 w
   by_cases c5:0≤often∧often≤2147483647
   ·have zY:=FP.out;rw[decide_eq_true c5.1,decide_eq_true c5.2]at zY;have Ii:=ae zY;clear zY FP;have CX:fr=((fr.toNat:Nat):Int):=ai;have hsz:size=((size.toNat:Nat):Int):=ai;generalize fr.toNat=F at *;generalize size.toNat=Z at *;subst CX hsz;have DV:=aH (pU blocks ⟨(F:Int),(Z:Int),often,loop⟩) (by unfold pU;dsimp only;omega);have O2:=ae<|Box.fresh wr 100 #[ah F,ah Z,ah often,.bool loop];have OT:=ae<|Ho.alloc (.cells #[ah F,ah Z,ah often,.bool loop] 100);have OW:=aH (oA (wr.alloc (.cells #[ah F,ah Z,ah often,.bool loop] 100)) w.heap.size (fun b=>∃j,j<k∧pN (l.getD j default) b)) (by
     obtain⟨cs,h1,h2⟩:=Hm.ex;exact⟨cs,h1.alloc _,h2⟩)
    have OO:=aH (w.heap.size<wr.heap.size) (by obtain⟨cs,h1,h2⟩:=Hm.ex;exact h1.lt);have PQ:F+Z≤32:=ai;have OV:=aH (w.heap.size≠wr.heap.size) (by have:=OO.out;omega);go_wp2_with fail;refine(Ii _).mono ?_;rintro e w5 ⟨rfl,e5⟩;rw[←e5];clear e5;go_wp2_with fail;generalize wr.alloc (.cells #[ah F,ah Z,ah often,.bool loop] 100)=X at *;generalize Kw:wr.heap.size=hb at *;have Q3:=ae Kw;clear Kw
    go_loopw [54] (fun i wr=>FJ l k F Z hb w.heap.size w often loop i wr) (fun i _=>Z - (intOf i).toNat)
    case atStart=>exact⟨0,eK _,rfl,by
     obtain⟨cs,h1,h2,h3⟩:=OW.out;exact⟨cs,h1,h2,fun b hb=>by
      obtain⟨x,h4,h5⟩:=h3 b hb;exact⟨x,h4,h5.trans ⟨Or.inl,fun h=>h.resolve_right ai⟩⟩⟩,fun b h1 h2=>absurd h2 ai,O2,OT⟩
    case round=>
     obtain⟨q,hq,rfl,nN,gH,jY,bd⟩:=hrel;have uL:=ae gH;have O0:=ae jY;have FH:=ae bd;have y0:aF wr hb 0 F:=jY.ag rfl;have y1:aF wr hb 1 Z:=jY.ag rfl
     by_cases NC:q<Z
     ·obtain⟨cs,BW,hsz,hcs⟩:=nN.ex;obtain⟨x,rh,E4⟩:=hcs (F+q) ai;have z0:ba wr w.heap.size (F+q) (.bool x):=BW.ag rh;have z1:wr.frozen? ⟨w.heap.size,F+q,none⟩=false:=BW.free _;have GK:IntKind.i64.wrap ((F:Int)+q)=((F+q:Nat):Int):=by rw[←Int.natCast_add];exact IntWalk.i64_in _ ai
      have LM:=ae E4;have OZ:=ae hcs;have O1:=ae BW;have OS:=ae hsz;have Ie:=ae nN;clear nN gH jY bd E4 hcs BW hsz rh
      cases x with
      |true=>
       have Hr:=ae (jQ (blocks:=blocks) (l:=l) fun hp=>by
        obtain⟨j,hj,bI⟩:=(LM.1 rfl).resolve_right ai;have:=hp.2.1 j k hj Db;rw[Hx.out]at this;unfold kC at this;unfold pN at bI;dsimp only at this;omega)
       go_wp2_with fail;go_ret;exact⟨by rw[Hr.out];rfl,FH⟩
      |false=>
       go_wp2_with fail;exact⟨FJ.step Hx OZ O1 OS LM O0 FH uL NC PQ OV,by simp[intOf];omega⟩
     ·obtain rfl:q=Z:=ai;have Ie:=ae nN;clear nN gH jY bd;go_wp2_with fail;refine⟨?_,?_⟩
      ·(repeat first|exact⟨Dc.step Hx Ie Ic Ig DV uL FH Db,rfl⟩|exact Dc.step Hx Ie Ic Ig DV uL FH Db|apply Exists.intro)
      ·simp[intOf];omega
   ·have zY:=FP.out;have hf:(decide (0≤often)&&decide (often≤2147483647))=false:=by
     rw[Bool.and_eq_false_iff,decide_eq_false_iff_not,decide_eq_false_iff_not];omega
    rw[hf]at zY;have Ii:=ae zY;have Hr:=ae<|LO (fun h=>by unfold pU at h;dsimp only at h;omega);clear zY hf FP;go_wp2_with fail;refine(Ii _).mono ?_;rintro e w5 ⟨rfl,rfl⟩;go_wp2_with fail;go_ret;exact⟨by rw[Hr.out];rfl,Ho.alloc _⟩
  ·have Ks:k=l.length:=ai;clear hm bG CY ho
   by_cases h8:l.length≤8
   ·have Hr:=ae<|kT (blocks:=blocks) (l:=l) ⟨fun i hi=>Ic i ai,fun i j tR hj=>Ig i j tR ai,h8⟩;have Oq:(l.length:Int)≤8:=ai;clear Ks;go_wp2_with fail;go_ret;exact⟨by rw[Hr.out];rfl,Ho⟩
   ·have Hr:=ae<|jQ (blocks:=blocks) (l:=l) fun hp=>h8 hp.2.2;have Oq:¬(l.length:Int)≤8:=ai;clear Ks;go_wp2_with fail;go_ret;exact⟨by rw[Hr.out];rfl,Ho⟩
end
structure aN where
 f:Nat→Int
 h:List au
def aj (c:aN)(hs:Value):Array Value:=#[ah (c.f 0),ah (c.f 1),ah (c.f 2),ah (c.f 3),ah (c.f 4),ah (c.f 5),ah (c.f 6),ah (c.f 7),ah (c.f 8),ah (c.f 9),ah (c.f 10),ah (c.f 11),ah (c.f 12),ah (c.f 13),ah (c.f 14),ah (c.f 15),hs]
theorem aB (c:aN)(hs:Value){i:Nat}(hi:i<16):(aj c hs)[i]? =some (ah (c.f i)):=by
 unfold aj;rcases(show i=0∨i=1∨i=2∨i=3∨i=4∨i=5∨i=6∨i=7∨i=8∨i=9∨i=10∨i=11∨i=12∨i=13∨i=14∨i=15 from by omega)with rfl|rfl|rfl|rfl|rfl|rfl|rfl|rfl|rfl|rfl|rfl|rfl|rfl|rfl|rfl|rfl<;>rfl
theorem eu (c:aN)(hs:Value):(aj c hs)[16]? =some hs:=rfl
structure dJ (c:aN):Prop where
 p0:1≤c.f 0∧c.f 0≤4
 p1:1≤c.f 1∧c.f 1≤4
 p2:1≤c.f 2∧c.f 2≤32
 p3:1≤c.f 3∧c.f 3≤16
 p4:1≤c.f 4∧c.f 4≤3
 p5:0≤c.f 5∧c.f 5≤2
 pp:c.f 5=0∨c.f 4=2
 pl:∀t,t<3→1≤c.f (6+t)∧c.f (6+t)≤2
 pc:∀t,t<3→1≤c.f (9+t)∧c.f (9+t)≤16
 CA:1≤c.f 12∧c.f 12≤8
 Cz:1≤c.f 13∧c.f 13≤100
 Cy:0≤c.f 14∧c.f 14≤16
 GF:1≤c.f 15∧c.f 15≤16
 ph:c.f 5=2∨c.h.length=0
 hs:cW (c.f 2) c.h
noncomputable def lF (c:aN):Bool:= @decide (dJ c) (Classical.propDecidable _)
theorem bN {c:aN}(h:¬dJ c):lF c=false:=by unfold lF;exact @decide_eq_false _ (Classical.propDecidable _) h
theorem oZ {c:aN}(h:dJ c):lF c=true:=by unfold lF;exact @decide_eq_true _ (Classical.propDecidable _) h
theorem kK {c:aN}:lF c=true↔dJ c:=by unfold lF;exact @decide_eq_true_iff _ (Classical.propDecidable _)
theorem iU {b:Int}{l:List au}:eB b l=true↔cW b l:=by unfold eB;exact @decide_eq_true_iff _ (Classical.propDecidable _)
theorem dJ.range {c:aN}(h:dJ c):∀i,i<16→0≤c.f i∧c.f i≤100:=by
 intro i hi;have a0:=h.p0;have a1:=h.p1;have a2:=h.p2;have a3:=h.p3;have a4:=h.p4;have a5:=h.p5;have b0:1≤c.f 6∧c.f 6≤2:=h.pl 0 ai;have b1:1≤c.f 7∧c.f 7≤2:=h.pl 1 ai;have b2:1≤c.f 8∧c.f 8≤2:=h.pl 2 ai;have d0:1≤c.f 9∧c.f 9≤16:=h.pc 0 ai;have d1:1≤c.f 10∧c.f 10≤16:=h.pc 1 ai;have d2:1≤c.f 11∧c.f 11≤16:=h.pc 2 ai;have a12:=h.CA;have QX:=h.Cz;have QW:=h.Cy;have QV:=h.GF;rcases(show i=0∨i=1∨i=2∨i=3∨i=4∨i=5∨i=6∨i=7∨i=8∨i=9∨i=10∨i=11∨i=12∨i=13∨i=14∨i=15 from by omega)with rfl|rfl|rfl|rfl|rfl|rfl|rfl|rfl|rfl|rfl|rfl|rfl|rfl|rfl|rfl|rfl<;>omega
theorem aU {n a b:Int}(h:a≤n∧n≤b)(w:World):Calls Tryz.prog 79 #[ah n,ah a,ah b] w fun e w'=>e= .returned (.bool true)∧w=w':=by
 have:=iM n a b w;rwa [decide_eq_true h.1,decide_eq_true h.2]at this
theorem bB {n a b:Int}(h:¬(a≤n∧n≤b))(w:World):Calls Tryz.prog 79 #[ah n,ah a,ah b] w fun e w'=>e= .returned (.bool false)∧w=w':=by
 have:=iM n a b w;rwa [show(decide (a≤n)&&decide (n≤b))=false from by rw[Bool.and_eq_false_iff,decide_eq_false_iff_not,decide_eq_false_iff_not];omega]at this
def zC (c:aN)(hs:Value)(w:World)(i:Value)(wr:World):Prop:=
 ∃t:Nat,t≤3∧i=ah t∧(∀j,j<t→(1≤c.f (6+j)∧c.f (6+j)≤2)∧(1≤c.f (9+j)∧c.f (9+j)≤16))∧wr=w.alloc (.cells (aj c hs) 25)
section
theorem dy{P:Prop}(h:P:=by
 go_wp2_with fail;refine(mh A n cp c.h (c.f 2) _ (H.keep HO) H2.1 H2.2).mono ?_;rintro e w6 ⟨rfl,nQ⟩;have OU:=ae<|HO.iJ nQ;clear nQ;go_wp2_with fail;go_ret;exact⟨by rw[Hb.out];rfl,OU⟩):P:=h
theorem fY{P:Prop}(h:P:=by
 have Hh:=ae h2;have g2:(0:Int)<(n:Int):=by have:=H.len;omega
 clear h2;have Hr:=ae<|bN (c:=c) fun p=>p.ph.elim (fun h=>B9 h) Hh;go_wp2_with fail;go_ret;exact⟨by rw[Hr.out];rfl,HO⟩):P:=h
theorem fS{P:Prop}(h:P:=by
 refine(bB hh _).mono ?_;rintro e w5 ⟨rfl,e5⟩;rw[←e5];clear e5;have Hr:=ae<|bN (c:=c) fun p=>hh p.GF;go_wp2_with fail;go_ret;exact⟨by rw[Hr.out];rfl,HO⟩):P:=h
theorem fF{P:Prop}(h:P:=by
 refine(bB hh _).mono ?_;rintro e w5 ⟨rfl,e5⟩;rw[←e5];clear e5;have Hr:=ae<|bN (c:=c) fun p=>hh p.Cy;go_wp2_with fail;go_ret;exact⟨by rw[Hr.out];rfl,HO⟩):P:=h
theorem fZ{P:Prop}(h:P:=by
 refine(bB hh _).mono ?_;rintro e w5 ⟨rfl,e5⟩;rw[←e5];clear e5;have Hr:=ae<|bN (c:=c) fun p=>hh p.CA;go_wp2_with fail;go_ret;exact⟨by rw[Hr.out];rfl,HO⟩):P:=h
theorem fI{P:Prop}(h:P:=by
 refine(bB hh _).mono ?_;rintro e w5 ⟨rfl,e5⟩;rw[←e5];clear e5;have Hr:=ae<|bN (c:=c) fun p=>hh p.Cz;go_wp2_with fail;go_ret;exact⟨by rw[Hr.out];rfl,HO⟩):P:=h
theorem fp{P:Prop}(h:P:=by
 refine⟨?_,?_⟩
 ·(repeat first|exact⟨HR,rfl⟩|exact HR|apply Exists.intro)
 ·simp[intOf];omega):P:=h
theorem jM (A:Option Addr)(n cp:Nat)(c:aN)(w:World)(h:aL w A n cp c.h):
 Calls Tryz.prog 51 #[.agg (aj c (.slice A n cp))] w fun e w'=>e= .returned (.bool (lF c))∧af aA w w':=by
 have H:=ae h;clear h
 go_enter Tryz.func51,Tryz.ntmps51
 go_wp2_with fail;have HO:=aH (af aA w (w.alloc (.cells (aj c (.slice A n cp)) 25))) ((af.ak _ _).alloc _);have HB:=ae<|Box.fresh w 25 (aj c (.slice A n cp))
 go_loopw [4] (fun i wr=>zC c (.slice A n cp) w i wr) (fun i _=>3 - (intOf i).toNat)
 case atStart=>exact⟨0,ai,rfl,fun j hj=>absurd hj ai,rfl⟩
 case round=>
  obtain⟨t,ht,rfl,hl,rfl⟩:=hrel;have HL:=ae hl;clear hl
  by_cases aO:t<3
  ·have x6:aF (w.alloc (.cells (aj c (.slice A n cp)) 25)) w.heap.size (6+t) (c.f (6+t)):=HB.ag (aB c _ ai);have x9:aF (w.alloc (.cells (aj c (.slice A n cp)) 25)) w.heap.size (9+t) (c.f (9+t)):=HB.ag (aB c _ ai);generalize yX:w.alloc (.cells (aj c (.slice A n cp)) 25)=w1 at *;have LN:=ae yX;clear yX;have nY:(t:Int)<3:=ai;go_wp2_with fail
   by_cases hh:1≤c.f (6+t)∧c.f (6+t)≤2
   rotate_left
   ·refine(bB hh _).mono ?_;rintro e w5 ⟨rfl,e5⟩;rw[←e5];clear e5;have Hr:=ae<|bN (c:=c) fun p=>hh (p.pl t aO);go_wp2_with fail;go_ret;exact⟨by rw[Hr.out];rfl,HO⟩
   have G6:=ae hh;refine(aU hh _).mono ?_;rintro e w5 ⟨rfl,e5⟩;rw[←e5];clear e5 hh;go_wp2_with fail
   by_cases hh:1≤c.f (9+t)∧c.f (9+t)≤16
   rotate_left
   ·refine(bB hh _).mono ?_;rintro e w5 ⟨rfl,e5⟩;rw[←e5];clear e5;have Hr:=ae<|bN (c:=c) fun p=>hh (p.pc t aO);go_wp2_with fail;go_ret;exact⟨by rw[Hr.out];rfl,HO⟩
   have G9:=ae hh;refine(aU hh _).mono ?_;rintro e w5 ⟨rfl,e5⟩;rw[←e5];clear e5 hh;go_wp2_with fail;have HR:=aH (zC c (.slice A n cp) w (ah ((t:Int)+1)) w1) (⟨t+1,aO,by simp,fun j hj=>by
    rcases Nat.lt_or_ge j t with h|h
    ·exact HL j h
    ·obtain rfl:j=t:=ai;exact⟨G6.out,G9.out⟩,LN.symm⟩)
   exact fp
  ·obtain rfl:t=3:=ai;have HL:=aH ((∀t,t<3→1≤c.f (6+t)∧c.f (6+t)≤2)∧(∀t,t<3→1≤c.f (9+t)∧c.f (9+t)≤16)) (⟨fun j hj=>(HL j hj).1,fun j hj=>(HL j hj).2⟩);have x0:=HB.ag (aB c (.slice A n cp) (i:=0) ai);have x1:=HB.ag (aB c (.slice A n cp) (i:=1) ai);have x2:=HB.ag (aB c (.slice A n cp) (i:=2) ai);have x3:=HB.ag (aB c (.slice A n cp) (i:=3) ai);have x4:=HB.ag (aB c (.slice A n cp) (i:=4) ai);have x5:=HB.ag (aB c (.slice A n cp) (i:=5) ai);have Qg:=HB.ag (aB c (.slice A n cp) (i:=12) ai);have Qf:=HB.ag (aB c (.slice A n cp) (i:=13) ai);have Qe:=HB.ag (aB c (.slice A n cp) (i:=14) ai);have Qd:=HB.ag (aB c (.slice A n cp) (i:=15) ai);have M6:=HB.ag (eu c (.slice A n cp));generalize yX:w.alloc (.cells (aj c (.slice A n cp)) 25)=w1 at *;have LN:=ae yX;clear yX;go_wp2_with fail
   by_cases hh:1≤c.f 0∧c.f 0≤4
   rotate_left
   ·refine(bB hh _).mono ?_;rintro e w5 ⟨rfl,e5⟩;rw[←e5];clear e5;have Hr:=ae<|bN (c:=c) fun p=>hh p.p0;go_wp2_with fail;go_ret;exact⟨by rw[Hr.out];rfl,HO⟩
   have H0:=ae hh;refine(aU hh _).mono ?_;rintro e w5 ⟨rfl,e5⟩;rw[←e5];clear e5 hh;go_wp2_with fail
   by_cases hh:1≤c.f 1∧c.f 1≤4
   rotate_left
   ·refine(bB hh _).mono ?_;rintro e w5 ⟨rfl,e5⟩;rw[←e5];clear e5;have Hr:=ae<|bN (c:=c) fun p=>hh p.p1;go_wp2_with fail;go_ret;exact⟨by rw[Hr.out];rfl,HO⟩
   have H1:=ae hh;refine(aU hh _).mono ?_;rintro e w5 ⟨rfl,e5⟩;rw[←e5];clear e5 hh;go_wp2_with fail
   by_cases hh:1≤c.f 2∧c.f 2≤32
   rotate_left
   ·refine(bB hh _).mono ?_;rintro e w5 ⟨rfl,e5⟩;rw[←e5];clear e5;have Hr:=ae<|bN (c:=c) fun p=>hh p.p2;go_wp2_with fail;go_ret;exact⟨by rw[Hr.out];rfl,HO⟩
   have H2:=ae hh;refine(aU hh _).mono ?_;rintro e w5 ⟨rfl,e5⟩;rw[←e5];clear e5 hh;go_wp2_with fail
   by_cases hh:1≤c.f 3∧c.f 3≤16
   rotate_left
   ·refine(bB hh _).mono ?_;rintro e w5 ⟨rfl,e5⟩;rw[←e5];clear e5;have Hr:=ae<|bN (c:=c) fun p=>hh p.p3;go_wp2_with fail;go_ret;exact⟨by rw[Hr.out];rfl,HO⟩
   have H3:=ae hh;refine(aU hh _).mono ?_;rintro e w5 ⟨rfl,e5⟩;rw[←e5];clear e5 hh;go_wp2_with fail
   by_cases hh:1≤c.f 4∧c.f 4≤3
   rotate_left
   ·refine(bB hh _).mono ?_;rintro e w5 ⟨rfl,e5⟩;rw[←e5];clear e5;have Hr:=ae<|bN (c:=c) fun p=>hh p.p4;go_wp2_with fail;go_ret;exact⟨by rw[Hr.out];rfl,HO⟩
   have H4:=ae hh;refine(aU hh _).mono ?_;rintro e w5 ⟨rfl,e5⟩;rw[←e5];clear e5 hh;go_wp2_with fail
   by_cases hh:0≤c.f 5∧c.f 5≤2
   rotate_left
   ·refine(bB hh _).mono ?_;rintro e w5 ⟨rfl,e5⟩;rw[←e5];clear e5;have Hr:=ae<|bN (c:=c) fun p=>hh p.p5;go_wp2_with fail;go_ret;exact⟨by rw[Hr.out];rfl,HO⟩
   have H5:=ae hh;refine(aU hh _).mono ?_;rintro e w5 ⟨rfl,e5⟩;rw[←e5];clear e5 hh
   by_cases hz:c.f 5=0
   ·have B9:=aH (¬c.f 5=2) ai;have HZ:=ae hz;have g5:(c.f 5 != 0)=false:=by simp[hz]
    have g6:(c.f 5 != 2)=true:=by simp[hz]
    clear hz;go_wp2_with fail
    by_cases hh:1≤c.f 12∧c.f 12≤8
    rotate_left
    ·exact fZ
    have Gf:=ae hh;refine(aU hh _).mono ?_;rintro e w5 ⟨rfl,e5⟩;rw[←e5];clear e5 hh;go_wp2_with fail
    by_cases hh:1≤c.f 13∧c.f 13≤100
    rotate_left
    ·exact fI
    have Ge:=ae hh;refine(aU hh _).mono ?_;rintro e w5 ⟨rfl,e5⟩;rw[←e5];clear e5 hh;go_wp2_with fail
    by_cases hh:0≤c.f 14∧c.f 14≤16
    rotate_left
    ·exact fF
    have Gd:=ae hh;refine(aU hh _).mono ?_;rintro e w5 ⟨rfl,e5⟩;rw[←e5];clear e5 hh;go_wp2_with fail
    by_cases hh:1≤c.f 15∧c.f 15≤16
    rotate_left
    ·exact fS
    have Gc:=ae hh;refine(aU hh _).mono ?_;rintro e w5 ⟨rfl,e5⟩;rw[←e5];clear e5 hh
    by_cases h2:c.h.length=0
    ·have Hh:=ae h2;have g2:¬((0:Int)<(n:Int)):=by have:=H.len;omega
     clear h2;have Hb:=aH (lF c=eB (c.f 2) c.h) (by
      rw[Bool.eq_iff_iff,kK,iU];exact⟨fun p=>p.hs,fun p=>⟨H0,H1,H2,H3,H4,H5,.inl HZ,HL.1,HL.2,Gf,Ge,Gd,Gc,.inr Hh,p⟩⟩)
     exact dy
    ·exact fY
   ·by_cases hm:c.f 4=2
    ·have g5:(c.f 5 != 0)=true:=by simp[hz]
     have g4:(c.f 4 != 2)=false:=by simp[hm]
     have HM:=ae hm;clear hz hm;go_wp2_with fail
     by_cases hh:1≤c.f 12∧c.f 12≤8
     rotate_left
     ·exact fZ
     have Gf:=ae hh;refine(aU hh _).mono ?_;rintro e w5 ⟨rfl,e5⟩;rw[←e5];clear e5 hh;go_wp2_with fail
     by_cases hh:1≤c.f 13∧c.f 13≤100
     rotate_left
     ·exact fI
     have Ge:=ae hh;refine(aU hh _).mono ?_;rintro e w5 ⟨rfl,e5⟩;rw[←e5];clear e5 hh;go_wp2_with fail
     by_cases hh:0≤c.f 14∧c.f 14≤16
     rotate_left
     ·exact fF
     have Gd:=ae hh;refine(aU hh _).mono ?_;rintro e w5 ⟨rfl,e5⟩;rw[←e5];clear e5 hh;go_wp2_with fail
     by_cases hh:1≤c.f 15∧c.f 15≤16
     rotate_left
     ·exact fS
     have Gc:=ae hh;refine(aU hh _).mono ?_;rintro e w5 ⟨rfl,e5⟩;rw[←e5];clear e5 hh
     by_cases h5:c.f 5=2
     ·have B9:=ae h5;have g6:(c.f 5 != 2)=false:=by simp[h5]
      clear h5;have Hb:=aH (lF c=eB (c.f 2) c.h) (by
       rw[Bool.eq_iff_iff,kK,iU];exact⟨fun p=>p.hs,fun p=>⟨H0,H1,H2,H3,H4,H5,.inr HM,HL.1,HL.2,Gf,Ge,Gd,Gc,.inl B9,p⟩⟩)
      exact dy
     ·have B9:=ae h5;have g6:(c.f 5 != 2)=true:=by simp[h5]
      clear h5
      by_cases h2:c.h.length=0
      ·have Hh:=ae h2;have g2:¬((0:Int)<(n:Int)):=by have:=H.len;omega
       clear h2;have Hb:=aH (lF c=eB (c.f 2) c.h) (by
        rw[Bool.eq_iff_iff,kK,iU];exact⟨fun p=>p.hs,fun p=>⟨H0,H1,H2,H3,H4,H5,.inr HM,HL.1,HL.2,Gf,Ge,Gd,Gc,.inr Hh,p⟩⟩)
       exact dy
      ·exact fY
    ·have g5:(c.f 5 != 0)=true:=by simp[hz]
     have g4:(c.f 4 != 2)=true:=by simp[hm]
     have HH:=ae<|And.intro hz hm;clear hz hm;have Hr:=ae<|bN (c:=c) fun p=>p.pp.elim HH.1 HH.2;go_wp2_with fail;go_ret;exact⟨by rw[Hr.out];rfl,HO⟩
end
end
section
open Go.ChangeShapes Go.RowKit Go.WideShapes
theorem kq {α β:Type}(f:α→List β)(s:Nat)(d:α)(hf:∀a,(f a).length=s):∀(l:List α) (i j:Nat),i<l.length→j<s→(l.flatMap f)[i*s+j]? =(f (l.getD i d))[j]?
 | [],i,j,h,_=>absurd h (Nat.not_lt_zero _)
 |a :: l,0,j,_,hj=>by
  rw[List.flatMap_cons,Nat.zero_mul,Nat.zero_add,List.getElem?_append_left (by rw[hf];exact hj)];rfl
 |a :: l,i+1,j,h,hj=>by
  rw[List.flatMap_cons,List.getElem?_append_right (by rw[hf,Nat.succ_mul];omega),hf,show(i+1)*s+j - s=i*s+j from by rw[Nat.succ_mul];omega];exact kq f s d hf l i j (by simpa using h) hj
def hC (h:au):List Value:=[ah h.fr,ah h.size,ah h.often,.bool h.loop]
theorem vm (h:au):(hC h).length=4:=rfl
theorem ml (L:List au):(L.flatMap hC).length=L.length*4:=by
 rw[List.length_flatMap];have:(L.map fun p=>(hC p).length)=L.map fun _=>4:=rfl
 rw[this,List.map_const',List.sum_replicate_nat]
theorem aL.cells {w:World}{A:Option Addr}{n c:Nat}{l:List au}(h:aL w A n c l)(ad:Addr)(had:A=some ad):∀j u,(l.flatMap hC)[j]? =some u→w.cell? (ad.add j)=some u:=by
 intro j u hj;have Aj:j<l.length*4:=by rw[←ml];exact(List.getElem?_eq_some_iff.1 hj).1
 have hi:j / 4<l.length:=ai;obtain⟨g,o,e,hg,c0,c1,c2,c3⟩:=h.at_ (j / 4) hi;rw[had]at e;injection e with e;subst e;have hd:j=j / 4*4+j % 4:=ai;rw[hd,kq hC 4 default vm l (j / 4) (j % 4) hi ai]at hj;rw[Addr.add_lit];have hm:j % 4<4:=Nat.mod_lt _ av;rw[show o+j=o+j / 4*4+j % 4 from by omega];generalize j % 4=q at *;rcases(show q=0∨q=1∨q=2∨q=3 by omega)with rfl|rfl|rfl|rfl
 ·exact c0.trans hj
 ·exact c1.trans hj
 ·exact c2.trans hj
 ·exact c3.trans hj
theorem qC {w:World}{base:Nat}{v:Value}{L:List au}(h:w.ownsRow base 100 4 v L.length (L.flatMap hC)):∃A c,v= .slice A L.length c∧aL w A L.length c L:=by
 rcases h.2 with⟨e,h0⟩|⟨g,cap,cur,e,hb,hg,hn,hm,hs,ht⟩
 ·rw[h0];refine⟨none,0,e,⟨h0.symm,eK _,eK _,fun i hi=>?_⟩⟩;omega
 ·refine⟨some ⟨g,0,none⟩,cap,e,⟨rfl,hn,hm,fun i hi=>?_⟩⟩;have key:∀j u,j<4→(hC (L.getD i default))[j]? =some u→ba w g (0+i*4+j) u:=fun j u hj hu=>by
   have hc:=h.cells (g:=g) (by rw[e];rfl) (i*4+j) u (by rw[kq hC 4 default vm L i j hi hj];exact hu);rw[Addr.add_lit,←Nat.add_assoc]at hc;exact hc
  exact⟨g,0,rfl,(Array.getElem?_eq_some_iff.1 hg).1,key 0 _ av rfl,key 1 _ av rfl,key 2 _ av rfl,key 3 _ av rfl⟩
def zH:Array Value:=#[ah 0,ah 0,ah 0,.bool false]
theorem wa:(Tryz.prog.info? 100).map (fun i=>(i.zero,i.size,i.bytes))=some (some (.agg zH),4,32):=by kernel_rfl
def yR (l:List au)(w:World)(e:Ending)(w':World):Prop:=
 ∃A c,e= .returned (.slice A l.length c)∧aL w' A l.length c l∧af aA w w'∧(∀k,aJ (.slice A l.length c) k→w.heap.size≤k)∧∀k,aJ (.slice A l.length c) k→∃cs,Box w' k 100 cs
def Bu (l:List au)(w:World)(e:Ending)(w':World):Prop:=
 ∃A c,e= .returned (.slice A l.length c)∧aL w' A l.length c l∧af aA w w'∧∀k,aJ (.slice A l.length c) k→w.heap.size≤k
section
theorem jx {A:Option Addr}{n c:Nat}{l:List au}(w:World)(h:aL w A n c l)(hl:l.length≤100):Calls Tryz.prog 52 #[.slice A n c] w (yR l w):=by
 have he:=fun w=>Lib.run_eql_slice_nil (P:=Tryz.prog) (w:=w)
 obtain rfl:=h.len
 cases A with
 |none=>
  have h0:l= []:=by
   cases l with
   |nil=>rfl
   |cons a l=>
    obtain⟨g,o,e,_⟩:=h.at_ 0 (Nat.zero_lt_succ _)
    cases e
  subst h0;clear h
  go_enter Tryz.func52,Tryz.ntmps52
  go_wp2_with fail;go_ret;exact⟨none,0,rfl,⟨rfl,dT _,eK _,fun i hi=>absurd hi (Nat.not_lt_zero _)⟩,af.ak _ _,fun k hk=>(bq hk).elim,fun k hk=>(bq hk).elim⟩
 |some ad=>
  obtain⟨i0,hi,hz,hsz,eE⟩:=info_parts wa;have mK:af aA w (w.alloc (.cells #[] 100)):=(af.ak _ _).alloc _;have bp:(w.alloc (.cells #[] 100)).ownsRow w.heap.size 100 4 (cS w.heap.size 0 0) 0 []:=⟨rfl,.inr ⟨w.heap.size,0,#[],rfl,dT _,Box.fresh w 100 #[],dT _,eK _,rfl,rfl⟩⟩;have jI:=(h.keep mK).cells ad rfl;have kc:=ae bp;have II:=ae jI;have xl:=ae mK;have tY:=aH (∀u∈l.flatMap hC,u.oneCell'=true) (fun u hu=>by
   obtain⟨p,hp,hu⟩:=List.mem_flatMap.1 hu;simp[hC]at hu;rcases hu with rfl|rfl|rfl|rfl<;>rfl)
  have HL:=ae hl;have HI:=ae hi;have HZ:=ae hz;have HS:=ae hsz;have HB:=ae eE;clear bp jI mK h hl hi hz hsz eE
  go_enter Tryz.func52,Tryz.ntmps52
  go_wp2_with (at_builtin;refine wpList_append_own_at (w.alloc (.cells #[] 100)) rfl (.tmp 5) (.tmp 6) 23 rfl w.heap.size 100 i0 _ 4 32 Tryz.underlying23 HI HZ HS HB rfl av _ 0 [] rfl kc ad l.length c (l.flatMap hC) rfl (ml l) II tY (by have:=HL.out;unfold maxLen;omega) (by have:=HL.out;omega) (by rw[World.size_alloc];omega) ?_;intro v' w1 h2 h3 h4 h5;have H2:=ae h2;have H3:=ae h3;have H5:=ae h5;clear h2 h3 h4 h5);go_ret;have h2:=H2.out;rw[Nat.zero_add,List.nil_append]at h2;obtain⟨A',c',rfl,hh⟩:=qC h2;exact⟨A',c',rfl,hh,xl.aE ((af.ak _ _).grown (S:=fun k=>w.heap.size≤k) H3 fun k hk=>.inl (by
   have:w.heap.size=k:=aq.1 hk;omega)) fun k hk=>.inr hk,fun k hk=>(World.ownsRow.lt h2 k hk).1,fun k hk=>by
   rcases h2.2 with⟨e9,_⟩|⟨g9,DR,AP,e9,_,N8,_⟩
   ·rw[e9]at hk;exact(bq hk).elim
   ·rw[e9]at hk;rw[←aq.1 hk];exact⟨AP,N8⟩⟩
theorem qP {A:Option Addr}{n c:Nat}{l:List au}(w:World)(h:aL w A n c l)(hl:l.length≤100):Calls Tryz.prog 52 #[.slice A n c] w (Bu l w):=
 (jx w h hl).mono fun e w' ⟨A,c,h1,h2,h3,h4,_⟩=>⟨A,c,h1,h2,h3,h4⟩
end
end
section
open Go.RowKit
structure Left (N:Nat)(pre:List Int)(n':Nat):Prop where
 ex:∃f,cL N=pre ++ dZ f n'∧n'<128 ^ (f+1)∧pre.length+f=8
theorem Left.first (N:Nat)(h:N<2 ^ 63):Left N [] N:=⟨8,rfl,Nat.lt_of_lt_of_eq h av,rfl⟩
theorem Left.next {N n':Nat}{pre:List Int}(h:Left N pre n')(hn:128≤n'):Left N (pre ++ [((128+n' % 128:Nat):Int)]) (n' / 128):=by
 obtain⟨f,e,hl,hf⟩:=h.ex
 cases f with
 |zero=>simp at hl;omega
 |succ f=>
  refine⟨f,?_,?_,by simp;omega⟩
  ·rw[e,dZ,if_neg ai,List.append_assoc];rfl
  ·rw[Nat.div_lt_iff_lt_mul av,←Nat.pow_succ];exact hl
theorem Left.last {N n':Nat}{pre:List Int}(h:Left N pre n')(hn:n'<128):cL N=pre ++ [(n':Int)]:=by
 obtain⟨f,e,hl,hf⟩:=h.ex;rw[e]
 cases f with
 |zero=>rfl
 |succ f=>rw[dZ,if_pos hn]
theorem Left.len {N n':Nat}{pre:List Int}(h:Left N pre n'):pre.length≤8:=by obtain⟨f,_,_,hf⟩:=h.ex;omega
theorem Left.le {N n':Nat}{pre:List Int}(h:Left N pre n'):n'<2 ^ 63:=by
 obtain⟨f,_,hl,hf⟩:=h.ex;have:(128:Nat) ^ (f+1)≤128 ^ 9:=Nat.pow_le_pow_right av ai;have e:(128:Nat) ^ 9=2 ^ 63:=av;omega
theorem zq (N:Nat):bits BinOp.or IntKind.u8 ((N:Int) % 256) 128=((128+N % 128:Nat):Int):=by
 have key:∀m,m<256→bits BinOp.or IntKind.u8 ((m:Nat):Int) 128=((128+m % 128:Nat):Int):=by decide +kernel
 have:=key (N % 256) ai;rw[show(((N % 256:Nat)):Int)=(N:Int) % 256 from by simp,show 128+N % 256 % 128=128+N % 128 from by omega]at this;exact this
section
theorem cA{P:Prop}(h:P:=by rw[←List.append_assoc];simpa [bytes] using ef):P:=h
theorem qt (v:Value)(l:List Int)(N:Nat)(w:World)(h:b8 w v l)(hl:l.length≤1000000)(hn:N<2 ^ 63)(wF:0<N):
 Calls Tryz.prog 119 #[v,ah N] w (oB (l ++ cL N) w):=by
 have HC:=ae<|cI v l w h;have IE:=ae<|Left.first N hn;obtain⟨A,c,rfl,_,_,_⟩:=h;have uu:(0:Int)<N:=ai;have MP:¬(N:Int)≤0:=ai
 go_enter Tryz.func119,Tryz.ntmps119
 go_wp2_with fail;refine wp_scope_jumps 0 (fun a' w'=>∃(N':Nat) (pre:List Int) (vo u6 u7 u8 u9 u10 u11 u12 u13 u14 u15 u16 u17 u18 u19:Value),a'= {tmps:=#[.slice A l.length c,ah N',undef,undef,ey,vo,u6,u7,u8,u9,u10,u11,u12,u13,u14,u15,u16,u17,u18,u19,undef,undef,undef,undef,undef],defers:=[]}∧Left N pre N'∧Row 5 w' vo (bytes (l ++ pre))∧(∀k,aJ vo k→w.heap.size≤k)∧af aA w w') (fun a' _=>(intOf (a'.tmps.getD 1 undef)).toNat) rfl ?_ ?_
 ·go_wp2_with fail;refine HC.mono ?_;rintro e wr ⟨v5,rfl,dr,ho,bp⟩;obtain⟨B,q5,e5,_,_⟩:=dr.shape;rw[show bytes l=bytes (l ++ [])from by rw[List.append_nil]]at dr;have mP:=ae dr;have Ho:=ae ho;have iH:=ae bp;clear dr ho bp;generalize zd:(bytes l).length=n5 at *;have Ap:=ae zd;clear zd;subst e5;generalize I5:([]:List Int)=pre at *;clear I5;have HL:=IE;clear IE;generalize Om:(N:Int)=X at *;obtain⟨N',rfl⟩:∃N':Nat,X=N':=⟨N,Om.symm⟩;have H7:N=N':=ai;rw[H7]at HL;go_wp2_with fail
  go_step3
  have hN:=HL.le;have L1:=aH ((bytes (l ++ pre)).length+1≤maxLen) (by have:=HL.len;simp[maxLen];omega);have L2:=aH (((bytes (l ++ pre)).length+1)*1≤140737488355328) (by have:=HL.len;simp;omega)
  by_cases kd:128≤N'
  ·have zf:(128:Int)≤N':=ai;have NL:bits BinOp.or IntKind.u8 ((N':Int) % 256) 128=((128+N' % 128:Nat):Int):=zq N';have zm:=ae<|HL.next kd;generalize hq:128+N' % 128=z at *;clear hq;go_wp2_with (at_builtin;refine aY _ rfl (.tmp 12) (.tmp 16) 35 5 rfl cP rfl Tryz.underlying35 (.slice B n5 q5) (bytes (l ++ pre)) rfl (mP.ao ((af.ak aA wr).alloc _) fun _ _=>id) (some ⟨wr.heap.size,0,none⟩) 1 1 [.int .u8 ((z:Nat):Int)] rfl rfl (hV wr (.int .u8 ((z:Nat):Int)) 5) (by simp[Value.oneCell']) L1.out L2.out ?_;intro v1 w1 ef bV df _;have gK:=aH (Row 5 w1 v1 (bytes (l ++ (pre ++ [((z:Nat):Int)])))) cA;have ui:=ae<|(Ho.alloc (.cells #[.int .u8 ((z:Nat):Int)] 5)).aE bV fun k hk=>.inr (iH k hk);have gL:=aH (∀k,aJ v1 k→w.heap.size≤k) (fun k hk=>(df k hk).elim (iH k) fun h=>by have:=Ho.size;rw[World.size_alloc]at h;omega);clear ef bV df);rw[show(N':Int) / 128=((N' / 128:Nat):Int)from by omega]
   go_step3
   refine⟨rfl,N' / 128,pre ++ [((z:Nat):Int)],v1,_,_,_,_,_,_,_,_,_,_,_,_,_,_,rfl,?_,gK,gL,ui⟩
   first|exact zm|(rw[H7];exact zm)
  ·have zf:¬(128:Int)≤N':=ai;have aO:(N':Int) % 256=N':=ai;have zm:=ae<|HL.last ai;go_wp2_with (at_builtin;refine aY _ rfl (.tmp 20) (.tmp 23) 35 5 rfl cP rfl Tryz.underlying35 (.slice B n5 q5) (bytes (l ++ pre)) rfl (mP.ao ((af.ak aA wr).alloc _) fun _ _=>id) (some ⟨wr.heap.size,0,none⟩) 1 1 [.int .u8 ((N':Nat):Int)] rfl rfl (hV wr (.int .u8 ((N':Nat):Int)) 5) (by simp[Value.oneCell']) L1.out L2.out ?_;intro v1 w1 ef bV df _;have gK:=aH (Row 5 w1 v1 (bytes (l ++ (pre ++ [((N':Nat):Int)])))) cA;have ui:=ae<|(Ho.alloc (.cells #[.int .u8 ((N':Nat):Int)] 5)).aE bV fun k hk=>.inr (iH k hk);have gL:=aH (∀k,aJ v1 k→w.heap.size≤k) (fun k hk=>(df k hk).elim (iH k) fun h=>by have:=Ho.size;rw[World.size_alloc]at h;omega);clear ef bV df);simp only[Exit.jump];go_ret
   try rw[H7]
   refine⟨v1,rfl,?_,ui,gL⟩;rw[zm.out];exact gK
 ·rintro a' wr ⟨N',pre,vo,u6,u7,u8,u9,u10,u11,u12,u13,u14,u15,u16,u17,u18,u19,rfl,hL,dr,bp,ho⟩;have HL:=ae hL;have Ap:=ae hn;obtain⟨B,q5,e5,_,_⟩:=dr.shape;have mP:=ae dr;have Ho:=ae ho;have iH:=ae bp;clear dr ho bp hL IE HC;generalize(bytes (l ++ pre)).length=n5 at *;subst e5;have hN:=HL.le;have L1:=aH ((bytes (l ++ pre)).length+1≤maxLen) (by have:=HL.len;simp[maxLen];omega);have L2:=aH (((bytes (l ++ pre)).length+1)*1≤140737488355328) (by have:=HL.len;simp;omega)
  by_cases kd:128≤N'
  ·have zf:(128:Int)≤N':=ai;have NL:bits BinOp.or IntKind.u8 ((N':Int) % 256) 128=((128+N' % 128:Nat):Int):=zq N';have zm:=ae<|HL.next kd;generalize hq:128+N' % 128=z at *;clear hq;go_wp2_with (at_builtin;refine aY _ rfl (.tmp 12) (.tmp 16) 35 5 rfl cP rfl Tryz.underlying35 (.slice B n5 q5) (bytes (l ++ pre)) rfl (mP.ao ((af.ak aA wr).alloc _) fun _ _=>id) (some ⟨wr.heap.size,0,none⟩) 1 1 [.int .u8 ((z:Nat):Int)] rfl rfl (hV wr (.int .u8 ((z:Nat):Int)) 5) (by simp[Value.oneCell']) L1.out L2.out ?_;intro v1 w1 ef bV df _;have gK:=aH (Row 5 w1 v1 (bytes (l ++ (pre ++ [((z:Nat):Int)])))) cA;have ui:=ae<|(Ho.alloc (.cells #[.int .u8 ((z:Nat):Int)] 5)).aE bV fun k hk=>.inr (iH k hk);have gL:=aH (∀k,aJ v1 k→w.heap.size≤k) (fun k hk=>(df k hk).elim (iH k) fun h=>by have:=Ho.size;rw[World.size_alloc]at h;omega);clear ef bV df);rw[show(N':Int) / 128=((N' / 128:Nat):Int)from by omega]
   go_step3
   refine⟨rfl,⟨N' / 128,pre ++ [((z:Nat):Int)],v1,_,_,_,_,_,_,_,_,_,_,_,_,_,_,rfl,?_,gK,gL,ui⟩,?_⟩
   ·exact zm
   ·simp[intOf];omega
  ·have zf:¬(128:Int)≤N':=ai;have aO:(N':Int) % 256=N':=ai;have zm:=ae<|HL.last ai;go_wp2_with (at_builtin;refine aY _ rfl (.tmp 20) (.tmp 23) 35 5 rfl cP rfl Tryz.underlying35 (.slice B n5 q5) (bytes (l ++ pre)) rfl (mP.ao ((af.ak aA wr).alloc _) fun _ _=>id) (some ⟨wr.heap.size,0,none⟩) 1 1 [.int .u8 ((N':Nat):Int)] rfl rfl (hV wr (.int .u8 ((N':Nat):Int)) 5) (by simp[Value.oneCell']) L1.out L2.out ?_;intro v1 w1 ef bV df _;have gK:=aH (Row 5 w1 v1 (bytes (l ++ (pre ++ [((N':Nat):Int)])))) cA;have ui:=ae<|(Ho.alloc (.cells #[.int .u8 ((N':Nat):Int)] 5)).aE bV fun k hk=>.inr (iH k hk);have gL:=aH (∀k,aJ v1 k→w.heap.size≤k) (fun k hk=>(df k hk).elim (iH k) fun h=>by have:=Ho.size;rw[World.size_alloc]at h;omega);clear ef bV df);simp only[Exit.jump];go_ret
   skip
   refine⟨v1,rfl,?_,ui,gL⟩;rw[zm.out];exact gK
end
theorem tF (l:List Int):(bytes l).length=l.length:=List.length_map ..
theorem mC (a b:List Int):bytes (a ++ b)=bytes a ++ bytes b:=List.map_append
theorem Row.Gw {w:World}{v:Value}{l:List Int}(h:Row 5 w v (bytes l))(hl:l.length≤140737488355328):b8 w v l:=Row.nR h hl
section
theorem pw (v:Value)(l:List Int)(w:World)(h:b8 w v l)(hl:l.length≤1000000):Calls Tryz.prog 119 #[v,ah 0] w (oB (l ++ cL 0) w):=by
 have HC:=ae<|cI v l w h;obtain⟨A,c,rfl,_,_,_⟩:=h
 go_enter Tryz.func119,Tryz.ntmps119
 go_wp2_with fail
 go_step3
 go_wp2_with fail;refine HC.mono ?_;rintro e wr ⟨v5,rfl,dr,ho,bp⟩;obtain⟨B,q5,e5,_,_⟩:=dr.shape;have mP:=ae dr;have Ho:=ae ho;have iH:=ae bp;have L1:=aH ((bytes l).length+1≤maxLen) (by simp[maxLen];omega);have L2:=aH (((bytes l).length+1)*1≤140737488355328) (by simp;omega);clear dr ho bp;generalize zd:(bytes l).length=n5 at *;have Ap:=ae zd;clear zd;subst e5;go_wp2_with fail
 go_step3
 go_wp2_with (at_builtin;refine aY _ rfl (.tmp 20) (.tmp 23) 35 5 rfl cP rfl Tryz.underlying35 (.slice B n5 q5) (bytes l) rfl (mP.ao ((af.ak aA wr).alloc _) fun _ _=>id) (some ⟨wr.heap.size,0,none⟩) 1 1 [.int .u8 0] rfl rfl (hV wr (.int .u8 0) 5) (by simp[Value.oneCell']) (by have:=L1.out;rw[Ap.out];exact this) (by have:=L2.out;rw[Ap.out];exact this) ?_;intro v1 w1 ef bV df _;have gK:=aH (Row 5 w1 v1 (bytes (l ++ [0]))) (by rw[mC];exact ef);have ui:=ae<|(Ho.alloc (.cells #[.int .u8 0] 5)).aE bV fun k hk=>.inr (iH k hk);have gL:=aH (∀k,aJ v1 k→w.heap.size≤k) (fun k hk=>(df k hk).elim (iH k) fun h=>by have:=Ho.size;rw[World.size_alloc]at h;omega);clear ef bV df);rw[Exit.noGoto_ret];go_ret;exact⟨v1,rfl,gK,ui,gL⟩
end
theorem qu (v:Value)(l:List Int)(N:Nat)(w:World)(h:b8 w v l)(hl:l.length≤1000000)(hn:N<2 ^ 63):Calls Tryz.prog 119 #[v,ah N] w (oB (l ++ cL N) w):=by
 cases N with
 |zero=>exact pw v l w h hl
 |succ N=>exact qt v l (N+1) w h hl hn ai
theorem wm (N:Nat):1≤(cL N).length∧(cL N).length≤9:=oW 8 N
section
theorem zP (v u:Value)(l t:List Int)(w:World)(h:b8 w v l)(hu:b8 w u t)(hl:l.length≤1000000)(ht:t.length≤1000000):
 Calls Tryz.prog 91 #[v,u] w (oB (l ++ (cL t.length ++ t)) w):=by
 have HP:=ae<|qu v l t.length w h hl ai;have Hu:=ae hu;obtain⟨A,c,rfl,_,_,_⟩:=h;obtain⟨B,d,rfl,_,_,_⟩:=hu;have xb:=wm t.length;have L1:=aH ((bytes (l ++ cL t.length)).length+(bytes t).length≤maxLen) (by simp[maxLen];omega);have L2:=aH (((bytes (l ++ cL t.length)).length+(bytes t).length)*1≤140737488355328) (by simp;omega);have Qs:(t.length:Int)≤1000000:=ai;generalize GP:t.length=tn at *;have Ht:=aH (tn=(bytes t).length) (by rw[tF,GP]);have Q2:=ae GP;clear GP xb
 go_enter Tryz.func91,Tryz.ntmps91
 go_wp2_with fail;refine HP.mono ?_;rintro e wr ⟨v5,rfl,dr,ho,bp⟩;obtain⟨B5,q5,e5,_,_⟩:=dr.shape;have mP:=ae dr;have Ho:=ae ho;have iH:=ae bp;have Jp:=aH (Src wr B (bytes t)) (by
  obtain⟨_,_,e,_,_,h3⟩:=Hu.ao ho fun _ _=>id
  injection e with e1;subst e1;exact h3)
 clear dr ho bp;generalize zd:(bytes (l ++ cL tn)).length=n5 at *;have Ap:=ae zd;clear zd;subst e5;go_wp2_with (at_builtin;refine aY _ rfl (.tmp 8) (.tmp 9) 35 5 rfl cP rfl Tryz.underlying35 (.slice B5 n5 q5) (bytes (l ++ cL tn)) rfl mP B tn d (bytes t) rfl Ht Jp (mz t) (by have:=L1.out;rw[Ap.out];exact this) (by have:=L2.out;rw[Ap.out];exact this) ?_;intro v1 w1 ef bV df _;have gK:=aH (Row 5 w1 v1 (bytes (l ++ (cL tn ++ t)))) (by rw[←List.append_assoc,mC];exact ef);have ui:=ae<|Ho.aE bV fun k hk=>.inr (iH k hk);have gL:=aH (∀k,aJ v1 k→w.heap.size≤k) (fun k hk=>(df k hk).elim (iH k) fun h=>by have:=Ho.size;omega);clear ef bV df);go_ret;exact⟨v1,rfl,gK,ui,gL⟩
end
def pM:List Int→Nat→Prop
 | [],_=>True
 |c :: cs,i=>(0≤c∧c≤255)∧(128≤c→i<8→pM cs (i+1))
theorem rX:∀(f n i:Nat) (t:List Int),n<128 ^ (f+1)→pM (dZ f n ++ t) i
 |0,n,i,t,h=>by
  simp at h;exact⟨ai,fun h1=>by omega⟩
 |f+1,n,i,t,h=>by
  rw[dZ]
  split
  ·exact⟨ai,fun h1=>by omega⟩
  ·exact⟨ai,fun _ _=>rX f (n / 128) (i+1) t (by rw[Nat.div_lt_iff_lt_mul av,←Nat.pow_succ];exact h)⟩
theorem oT:∀(l:List Int) (i k:Nat),pM l i→pM (l.take k) i
 | [],i,k,_=>by simp[pM]
 |c :: cs,i,0,_=>by simp[pM]
 |c :: cs,i,k+1,h=>⟨h.1,fun h1 h2=>oT cs (i+1) k (h.2 h1 h2)⟩
theorem yt (n:Nat)(t:List Int)(h:n<2 ^ 63):pM (cL n ++ t) 0:=rX 8 n 0 t (by rw[show(128:Nat) ^ (8+1)=2 ^ 63 from by decide];exact h)
theorem Gs (n k:Nat)(h:n<2 ^ 63):pM ((cL n).take k) 0:=oT _ _ _ (by have:=yt n [] h;rwa [List.append_nil]at this)
def n9 (b:List Int)(p:Nat):Value:=match rd (b.drop p)with
 | .ok n k=>.tuple #[.int .i64 n,.int .i64 ((p+k:Nat):Int),.int .i64 0]
 | .short=>.tuple #[.int .i64 0,.int .i64 0,.int .i64 1]
 | .form=>.tuple #[.int .i64 0,.int .i64 0,.int .i64 2]
theorem vp {x:Int}(h:0≤x∧x≤255):bits BinOp.and IntKind.u8 x 127=((x.toNat % 128:Nat):Int):=by
 have key:∀m,m<256→bits BinOp.and IntKind.u8 ((m:Nat):Int) 127=((m % 128:Nat):Int):=by decide +kernel
 have:=key x.toNat ai;rwa [show((x.toNat:Nat):Int)=x from by omega]at this
theorem ur (a y i:Nat)(h:a<128 ^ i)(hy:y<128)(hi:i≤8):a+y*128 ^ i<2 ^ 63∧bits BinOp.or IntKind.i64 (a:Int) ((y*128 ^ i:Nat):Int)=((a+y*128 ^ i:Nat):Int):=by
 have h1:a+y*128 ^ i<128 ^ (i+1):=by
  rw[Nat.pow_succ];have:y*128 ^ i≤127*128 ^ i:=Nat.mul_le_mul_right _ ai;omega
 have h2:(128:Nat) ^ (i+1)≤128 ^ 9:=Nat.pow_le_pow_right av ai;have h3:(128:Nat) ^ 9=2 ^ 63:=av;have h4:a+y*128 ^ i<2 ^ 63:=ai;refine⟨h4,?_⟩;rw[(bits_nat .i64 63 av (fun n h0 h1=>IntWalk.i64_in _ (by rw[show(2:Int) ^ 63=9223372036854775808 from by decide]at h1;omega)) a (y*128 ^ i) ai ai).2];have e:(128:Nat) ^ i=2 ^ (7*i):=by rw[Nat.pow_mul]
 rw[e]at h ⊢;rw[Nat.or_comm,←Nat.shiftLeft_eq,←Nat.shiftLeft_add_eq_or_of_lt h,Nat.add_comm]
theorem IQ (a y i:Nat)(h:a<128 ^ i)(hy:y<128)(hi:i≤8):IntKind.i64.wrap ((y:Int)*2 ^ (7*i))=((y*128 ^ i:Nat):Int):=by
 have h1:=(ur a y i h hy hi).1;have e:((y:Int)*2 ^ (7*i))=((y*128 ^ i:Nat):Int):=by
  rw[Int.natCast_mul,Int.natCast_pow,Int.pow_mul];rfl
 rw[e];exact IntWalk.i64_in _ ai
theorem ia {b:List Int}{p n k:Nat}(h:rd (b.drop p)= .ok n k):n9 b p= .tuple #[ah n,ah ((p+k:Nat):Int),ah 0]:=by unfold n9;rw[h]
theorem eW {b:List Int}{p:Nat}(h:rd (b.drop p)= .short):n9 b p= .tuple #[ah 0,ah 0,ah 1]:=by unfold n9;rw[h]
theorem ik {b:List Int}{p:Nat}(h:rd (b.drop p)= .form):n9 b p= .tuple #[ah 0,ah 0,ah 2]:=by unfold n9;rw[h]
theorem oJ {x:Int}{cs:List Int}{i acc:Nat}(h:128≤x)(hi:i≠8):jc (x :: cs) i acc=jc cs (i+1) (acc+x.toNat % 128*128 ^ i):=by rw[jc,if_pos h,if_neg hi]
theorem sW {x:Int}{cs:List Int}{acc:Nat}(h:128≤x):jc (x :: cs) 8 acc= .form:=by rw[jc,if_pos h,if_pos rfl]
theorem sX {cs:List Int}{i acc:Nat}(h:0<i):jc (0 :: cs) i acc= .form:=by rw[jc,if_neg av,if_pos ⟨rfl,h⟩]
theorem uY {x:Int}{cs:List Int}{i acc:Nat}(h0:0≤x)(h:¬128≤x)(hi:¬(x=0∧0<i)):jc (x :: cs) i acc= .ok (acc+x.toNat % 128*128 ^ i) (i+1):=by
 rw[jc,if_neg h,if_neg hi,Nat.mod_eq_of_lt ai]
theorem c7 {b:List Int}{q:Nat}(h:q<b.length):b.drop q=b.getD q 0 :: b.drop (q+1):=by
 rw[List.drop_eq_getElem_cons h];simp[List.getD,h]
section
theorem pr (A:Option Addr)(n c p:Nat)(w:World)(hp:p≤n):Calls Tryz.prog 134 #[.slice A n c,ah p] w fun e w'=>e= .returned (.bool true)∧w=w':=by
 have h1:(0:Int)≤p:=ai;have h2:(p:Int)≤n:=ai
 go_enter Tryz.func134,Tryz.ntmps134
 go_wp2_with fail;go_ret;exact⟨rfl,rfl⟩
theorem cw{P:Prop}(h:P:=by
 go_wp2_with fail
 try simp only[Exit.jump]
 go_ret3
 exact⟨by rw[HG.out];rfl,rfl⟩):P:=h
theorem dB{P:Prop}(h:P:=by
 try simp only[Exit.jump]
 go_ret3
 exact⟨by rw[HG.out,LQ.out];rfl,rfl⟩):P:=h
theorem iQ (A:Option Addr)(n c:Nat)(b:List Int)(p:Nat)(w:World)(h:b8 w (.slice A n c) b)(hp:p≤b.length)(hr:pM (b.drop p) 0):
 Calls Tryz.prog 116 #[.slice A n c,ah p] w fun e w'=>e= .returned (n9 b p)∧w=w':=by
 have hn:=h.len;have H:=ae h;have Hr:=ae hr;clear h hr;have CO:=hn.1;subst CO
 go_enter Tryz.func116,Tryz.ntmps116
 go_wp2_with fail;refine wp_scope_jumps 0 (fun a' w'=>∃(i:Nat) (acc:Nat) (U8 U9 LJ LI LH LG LF LD LC LB LA Lz Ly Lx Lw Lv Lu Lt Ls Lr Lp Ln Lm Ll Lj Li Lh Lg Lf Le Ld:Value),a'= {tmps:=#[.slice A b.length c,ah p,undef,undef,ah acc,ah 0,ah 0,ah i,U8,U9,LJ,LI,LH,LG,LF,LD,LC,LB,LA,Lz,Ly,Lx,Lw,Lv,Lu,Lt,Ls,Lr,Lp,Ln,Lm,Ll,Lj,Li,Lh,Lg,Lf,Le,Ld,undef,undef,undef,undef,undef,undef,undef,undef,undef,undef],defers:=[]}∧(p+i≤b.length∧i≤8∧acc<128 ^ i∧pM (b.drop (p+i)) i∧rd (b.drop p)=jc (b.drop (p+i)) i acc)∧w'=w) (fun a' _=>9 - (intOf (a'.tmps.getD 7 undef)).toNat) rfl ?_ ?_
 ·go_wp2_with fail;refine(pr A b.length c p w hp).mono ?_;rintro e w1 ⟨rfl,e1⟩;rw[←e1];clear e1
  by_cases aO:p<b.length
  ·obtain⟨g,o,rfl,hc⟩:=H.ag aO;generalize hx:b.getD p 0=x at *;have Hx:=ae hx;clear hx;have NK:¬(p:Int)=b.length:=ai;have I6:(p:Int)<b.length:=ai;have CG:0≤x∧x≤255:=by
    have:=Hr.out;rw[c7 aO,Hx.out]at this;exact this.1
   have e1:=vp CG;have hy:x.toNat % 128<128:=Nat.mod_lt _ av;have Hy:=aH (((x.toNat % 128:Nat):Int)=((0+x.toNat % 128*128 ^ 0:Nat):Int)) (by simp);have OP:=ae (rfl:x.toNat % 128=x.toNat % 128);generalize CD:x.toNat % 128=y at e1 hy Hy;have Da:=ae CD;clear CD OP;have e2:IntKind.i64.wrap (y:Int)=y:=IntWalk.i64_in _ ai;have e4:bits BinOp.or IntKind.i64 0 (y:Int)=y:=by
    have:=(ur 0 y 0 av hy av).2;simpa using this
   by_cases kd:128≤x
   ·have HN:=aH (rd (b.drop p)=jc (b.drop (p+1)) 1 (0+y*128 ^ 0)) (by
     rw[c7 aO,Hx.out];have:=oJ (cs:=b.drop (p+1)) (acc:=0) kd (show(0:Nat)≠8 by decide);rw[Da.out]at this;exact this)
    have zj:=aH (pM (b.drop (p+1)) 1) (by
     have:=Hr.out;rw[c7 aO,Hx.out]at this;exact this.2 kd av)
    have rz:=aH (y<128 ^ 1) ai;go_wp2_with fail
    go_step3
    go_wp2_with fail
    go_step3
    refine⟨rfl,1,y,_,_,_,_,_,_,_,_,_,_,_,_,_,_,_,_,_,_,_,_,_,_,_,_,_,_,_,_,_,_,_,rfl,⟨ai,av,rz,zj,?_⟩,rfl⟩;have:=HN.out;rwa [show 0+y*128 ^ 0=y from by simp]at this
   ·have HN:=aH (rd (b.drop p)= .ok y 1) (by
     rw[c7 aO,Hx.out];have:=uY (cs:=b.drop (p+1)) (acc:=0) CG.1 kd (show¬(x=0∧0<0) by omega);rw[Da.out]at this;rw[show 0+y*128 ^ 0=y from by simp]at this;exact this)
    have HG:=ae<|ia HN;have ep:((p+1:Nat):Int)=(p:Int)+1:=ai;have LQ:=ae ep;clear ep;go_wp2_with fail
    go_step3
    go_wp2_with fail
    all_goals
     exact dB
  ·obtain rfl:p=b.length:=ai;have HG:=ae<|eW (b:=b) (p:=b.length) (by rw[List.drop_length];rfl);go_wp2_with fail
   go_step3
   exact cw
 ·rintro a' w1 ⟨i,acc,U8,U9,LJ,LI,LH,LG,LF,LD,LC,LB,LA,Lz,Ly,Lx,Lw,Lv,Lu,Lt,Ls,Lr,Lp,Ln,Lm,Ll,Lj,Li,Lh,Lg,Lf,Le,Ld,rfl,⟨hi,G8,DN,hR,hE⟩,rfl⟩;have HR:=ae hR;have HE:=ae hE;have xA:=ae DN;clear hR hE DN Hr;obtain⟨q,hq⟩:∃q,q=p+i:=⟨_,rfl⟩;have CN:(p:Int)+i=q:=ai;rw[←hq]at HR HE;have Hq:=ae hq;clear hq
  by_cases aO:q<b.length
  ·obtain⟨g,o,rfl,hc⟩:=H.ag aO;generalize hx:b.getD q 0=x at *;have Hx:=ae hx;clear hx;have NK:¬(q:Int)=b.length:=ai;have I6:(q:Int)<b.length:=ai;have CG:0≤x∧x≤255:=by
    have:=HR.out;rw[c7 aO,Hx.out]at this;exact this.1
   have e1:=vp CG;have hy:x.toNat % 128<128:=Nat.mod_lt _ av;generalize CD:x.toNat % 128=y at e1 hy;have Da:=ae CD;clear CD;have e2:IntKind.i64.wrap (y:Int)=y:=IntWalk.i64_in _ ai;have e3:=IQ acc y i xA hy G8;rw[IntWalk.i64_left]at e3;have e4:=(ur acc y i xA hy G8).2;have MJ:=ae (ur acc y i xA hy G8).1;generalize hY:y*128 ^ i=Y at e3 e4 MJ;have HY:=ae hY;clear hY;generalize hZ:acc+Y=Z at e4 MJ;have HZ:=ae hZ;clear hZ
   by_cases kd:128≤x
   ·by_cases h8:i=8
    ·have HG:=ae<|ik (b:=b) (p:=p) (by rw[HE.out,c7 aO,Hx.out,h8];exact sW kd);have h9:(i:Int)+1=9:=ai;clear h8;exact cw
    ·have h9:¬(i:Int)+1=9:=ai;have HN:=aH (rd (b.drop p)=jc (b.drop (q+1)) (i+1) Z) (by
      rw[HE.out,c7 aO,Hx.out];have:=oJ (cs:=b.drop (q+1)) (acc:=acc) kd h8;rw[Da.out,HY.out,HZ.out]at this;exact this)
     have zj:=aH (pM (b.drop (q+1)) (i+1)) (by
      have:=HR.out;rw[c7 aO,Hx.out]at this;exact this.2 kd ai)
     have rz:=aH (Z<128 ^ (i+1)) (by
      rw[←HZ.out,←HY.out,Nat.pow_succ];have:=Nat.mul_le_mul_right (128 ^ i) (show y≤127 by omega);have:=xA.out;omega)
     go_wp2_with fail
     go_step3
     refine⟨rfl,⟨i+1,Z,_,_,_,_,_,_,_,_,_,_,_,_,_,_,_,_,_,_,_,_,_,_,_,_,_,_,_,_,_,_,_,rfl,⟨by have:=Hq.out;omega,ai,rz,?_,?_⟩,rfl⟩,?_⟩
     ·have:=zj.out;rwa [Hq.out,Nat.add_assoc]at this
     ·have:=HN.out;rwa [Hq.out,Nat.add_assoc]at this
     ·simp[intOf];omega
   ·by_cases h0:x=0∧0<i
    ·obtain⟨rfl,Oz⟩:=h0;have HG:=ae<|ik (b:=b) (p:=p) (by rw[HE.out,c7 aO,Hx.out];exact sX Oz);have Ow:(1:Int)<(i:Int)+1:=ai;exact cw
    ·have HN:=aH (rd (b.drop p)= .ok Z (i+1)) (by
      rw[HE.out,c7 aO,Hx.out];have:=uY (cs:=b.drop (q+1)) (acc:=acc) CG.1 kd h0;rw[Da.out,HY.out,HZ.out]at this;exact this)
     have HG:=ae<|ia HN;have LQ:=aH (((p+(i+1):Nat):Int)=(p:Int)+((i:Int)+1)) ai
     by_cases wY:x=0
     ·have Ow:¬(1:Int)<(i:Int)+1:=ai;clear h0;subst wY;go_wp2_with fail;exact dB
     ·clear h0;go_wp2_with fail;exact dB
  ·obtain rfl:q=b.length:=by have:=Hq.out;omega
   have HG:=ae<|eW (b:=b) (p:=p) (by rw[HE.out,List.drop_length];rfl);exact cw
end
theorem vc:∀(l:List Int) (i acc n k:Nat),jc l i acc= .ok n k→k≤i+l.length
 | [],_,_,_,_,h=>by simp[jc]at h
 |c :: cs,i,acc,n,k,h=>by
  rw[jc]at h
  split at h
  ·split at h
   ·cases h
   ·have:=vc cs (i+1) _ n k h;simp;omega
  ·split at h
   ·cases h
   ·injection h with h1 h2;simp;omega
theorem rB {b:List Int}{p n k:Nat}(hp:p≤b.length)(h:rd (b.drop p)= .ok n k):p+k≤b.length:=by
 have:=vc _ _ _ _ _ h;rw[List.length_drop]at this;omega
theorem oD {most:Nat}{b t:List Int}{p j:Nat}(h:de most b p= .ok (t,j)):
 ∃n k,rd (b.drop p)= .ok n k∧n≤most∧n≤b.length - (p+k)∧t=(b.drop (p+k)).take n∧j=p+k+n:=by
 unfold de da eF at h
 cases hr:rd (b.drop p)with
 |ok n k=>
  rw[hr]at h;simp only at h
  split at h
  ·simp[ox]at h
  ·simp only[lP]at h
   split at h
   ·cases h
   ·injection h with h;injection h with h1 h2;exact⟨n,k,rfl,ai,ai,h1.symm,h2.symm⟩
 |short=>rw[hr]at h;cases h
 |form=>rw[hr]at h;cases h
theorem l5 {most:Nat}{b:List Int}{p:Nat}{x:Int}(h:de most b p= .error x):
 (rd (b.drop p)= .short∧x=1)∨(rd (b.drop p)= .form∧x=2)∨(∃n k,rd (b.drop p)= .ok n k∧most<n∧x=4)∨∃n k,rd (b.drop p)= .ok n k∧n≤most∧b.length - (p+k)<n∧x=1:=by
 unfold de da eF at h
 cases hr:rd (b.drop p)with
 |ok n k=>
  rw[hr]at h;simp only at h
  split at h
  ·injection h with h;exact .inr (.inr (.inl ⟨n,k,rfl,by assumption,h.symm⟩))
  ·simp only[lP]at h
   split at h
   ·injection h with h;exact .inr (.inr (.inr ⟨n,k,rfl,ai,by assumption,h.symm⟩))
   ·cases h
 |short=>rw[hr]at h;injection h with h;exact .inl ⟨rfl,h.symm⟩
 |form=>rw[hr]at h;injection h with h;exact .inr (.inl ⟨rfl,h.symm⟩)
theorem b8.sub {w:World}{g o c:Nat}{b:List Int}(h:b8 w (.slice (some ⟨g,o,none⟩) b.length c) b){q n:Nat}(hq:q+n≤b.length):
 b8 w (.slice (some ⟨g,o+q,none⟩) n (c - q)) ((b.drop q).take n):=by
 obtain⟨A,c',e,h1,h2,h3⟩:=h;injection e with e1 e2 e3;subst e1 e3;have hl:((b.drop q).take n).length=n:=by rw[List.length_take,List.length_drop];omega
 refine⟨_,c - q,by rw[hl],ai,ai,fun j u hj=>?_⟩;have N5:j<n:=by
  rcases Nat.lt_or_ge j n with h|h
  ·exact h
  ·rw[List.getElem?_eq_none (by rw[List.length_map,hl];exact h)]at hj;cases hj
 obtain⟨g',o',e',hc⟩:=h3 (q+j) u (by
  rw[List.getElem?_map]at hj ⊢;rw[List.getElem?_take_of_lt N5,List.getElem?_drop]at hj;exact hj)
 injection e' with e';injection e' with e1 e2;subst e1 e2;exact⟨_,_,rfl,by rw[Nat.add_assoc];exact hc⟩
section
theorem fN{P:Prop}(h:P:=by
 go_enter Tryz.func117,Tryz.ntmps117
 go_wp2_with fail;refine HG.mono ?_;rintro e w5 ⟨rfl,e5⟩;rw[←e5];clear e5;go_wp2_with fail
 go_ret3
 exact⟨rfl,rfl⟩):P:=h
theorem dE{P:Prop}(h:P:=by
 clear he h1 h hr;exact fN):P:=h
theorem pE (A:Option Addr)(n c:Nat)(b:List Int)(p most:Nat)(x:Int)(w:World)(h:b8 w (.slice A n c) b)(hp:p≤b.length)(hr:pM (b.drop p) 0)(he:de most b p= .error x):
 Calls Tryz.prog 117 #[.slice A n c,ah p,ah most] w fun e w'=>e= .returned (.tuple #[ey,ah 0,ah x])∧w=w':=by
 have HG:=ae<|iQ A n c b p w h hp hr;have hl:=h.len;have CO:=hl.1;subst CO;rcases l5 he with⟨h1,rfl⟩|⟨h1,rfl⟩|⟨m,k,h1,h2,rfl⟩|⟨m,k,h1,h2,h3,rfl⟩
 ·rw[eW h1]at HG;exact dE
 ·rw[ik h1]at HG;exact dE
 ·rw[ia h1]at HG;have h4:(most:Int)<m:=ai;clear he h1 h hr;generalize p+k=q at *;exact fN
 ·rw[ia h1]at HG;have h4:¬(most:Int)<m:=ai;have h5:=rB hp h1;generalize p+k=q at *;have h6:(b.length:Int) - q<m:=ai;exact dE
theorem fJ{P:Prop}(h:P:=by
 rintro e w6 ⟨v6,rfl,dr,ho,bp⟩;have HF:=ae<|And.intro dr (And.intro ho bp);clear dr ho bp;go_wp2_with fail
 go_ret3
 exact⟨v6,by rw[OY.out];rfl,HF.1,HF.2.1,HF.2.2⟩):P:=h
theorem qQ (A:Option Addr)(n c:Nat)(b:List Int)(p most:Nat)(t:List Int)(j:Nat)(w:World)(h:b8 w (.slice A n c) b)(hp:p≤b.length)(hr:pM (b.drop p) 0)(he:de most b p= .ok (t,j)):
 Calls Tryz.prog 117 #[.slice A n c,ah p,ah most] w fun e w'=>∃v,e= .returned (.tuple #[v,ah j,ah 0])∧Row 5 w' v (bytes t)∧af aA w w'∧∀k,aJ v k→w.heap.size≤k:=by
 have HG:=ae<|iQ A n c b p w h hp hr;have hl:=h.len;have CO:=hl.1;subst CO;obtain⟨m,k,h1,h2,h3,h4,h5⟩:=oD he;rw[ia h1]at HG;have h6:=rB hp h1;have tS:0<b.length:=by
  rcases Nat.eq_zero_or_pos b.length with h0|h0
  ·rw[List.eq_nil_of_length_eq_zero h0,List.drop_nil]at h1;cases h1
  ·exact h0
 obtain⟨g,o,rfl,_⟩:=h.ag tS;have nZ:b.length≤c:=by
  obtain⟨A',c',e,h1,_⟩:=h;injection e with _ _ e3;omega
 have HS:=ae<|h.sub (q:=p+k) (n:=m) ai;have h7:¬(most:Int)<m:=ai;rw[←h4]at HS;have Pg:=aH (c - (p+k)=0→b8 w (.slice (some ⟨g,o,none⟩) m 0) t) (fun h0=>by
  have hm:m=0:=ai;rw[hm,List.take_zero]at h4;rw[h4,hm];exact⟨_,0,rfl,dT _,eK _,Src.kv _ _⟩)
 have Hj:=ae h5;clear he h1 h hr h4 h5 hp;generalize p+k=q at *;have h8:¬(b.length:Int) - q<m:=ai;have C5:q+m≤b.length:=ai;have Oy:q+m≤c:=ai;have H9:q≤q+m:=ai;have H8:q+m - q=m:=ai;obtain⟨S,hS⟩:∃S,S=q+m:=⟨_,rfl⟩;have h9:(q:Int)+m=S:=ai;rw[←hS]at C5 Oy H9 H8;rw[←hS]at Hj;have ru:=ae hS;clear hS
 go_enter Tryz.func117,Tryz.ntmps117
 go_wp2_with fail;refine HG.mono ?_;rintro e w5 ⟨rfl,e5⟩;rw[←e5];clear e5;have OY:=aH ((j:Int)=S) (by rw[Hj.out])
 by_cases Od:c - q=0
 ·have Ph:=ae<|Pg Od;have Jg:c≤q:=ai;go_wp2_with fail;refine(cI _ t w Ph).mono ?_;exact fJ
 ·have Jg:¬c≤q:=ai;go_wp2_with fail;refine(cI _ t w HS).mono ?_;exact fJ
end
def bK (b:List Int)(p:Nat)(e:Int):Nat×Nat×Int:=if e=0 then match eF b p with| .ok (n,j)=>(n,j,0)| .error x=>(0,0,x)else(0,p,e)
def ML (b:List Int)(p:Nat)(e:Int):Int×Nat×Int:=if(bK b p e).2.2=0∧(bK b p e).1=0 then(0,(bK b p e).2.1,2)else(eJ (bK b p e).1,(bK b p e).2.1,(bK b p e).2.2)
def lR (most:Nat)(b:List Int)(p:Nat)(e:Int):List Int×Nat×Int:=if e=0 then match de most b p with| .ok (t,j)=>(t,j,0)| .error x=>([],0,x)else([],p,e)
def sm (b:List Int):Prop:=∀x∈b,0≤x∧x≤255
theorem rY:∀(b:List Int) (i:Nat),sm b→pM b i
 | [],_,_=>trivial
 |c :: cs,i,h=>⟨h c (List.mem_cons_self ..),fun _ _=>rY cs (i+1) fun x hx=>h x (List.mem_cons_of_mem _ hx)⟩
theorem kI {b:List Int}(h:sm b)(p:Nat):pM (b.drop p) 0:=rY _ _ fun x hx=>h x (List.mem_of_mem_drop hx)
theorem uZ:∀(l:List Int) (i acc n k:Nat),sm l→i≤8→acc<128 ^ i→jc l i acc= .ok n k→n<2 ^ 63
 | [],_,_,_,_,_,_,_,h=>by simp[jc]at h
 |c :: cs,i,acc,n,k,hb,hi,ha,h=>by
  have hc:=hb c (List.mem_cons_self ..);rw[jc]at h
  split at h
  ·split at h
   ·cases h
   ·refine uZ cs (i+1) _ n k (fun x hx=>hb x (List.mem_cons_of_mem _ hx)) ai ?_ h;rw[Nat.pow_succ];have:=Nat.mul_le_mul_right (128 ^ i) (show c.toNat % 128≤127 by omega);omega
  ·split at h
   ·cases h
   ·injection h with h1 h2;have:=(ur acc c.toNat i ha ai hi).1;omega
theorem Gh {b:List Int}{p n k:Nat}(hb:sm b)(h:rd (b.drop p)= .ok n k):n<2 ^ 63:=
 uZ _ 0 0 n k (fun x hx=>hb x (List.mem_of_mem_drop hx)) av av h
theorem rR {b:List Int}{p n j:Nat}(h:eF b p= .ok (n,j)):∃k,rd (b.drop p)= .ok n k∧j=p+k:=by
 unfold eF at h
 cases hr:rd (b.drop p)with
 |ok m k=>rw[hr]at h;injection h with h;injection h with h1 h2;exact⟨k,by rw[h1],h2.symm⟩
 |short=>rw[hr]at h;cases h
 |form=>rw[hr]at h;cases h
theorem oM {b:List Int}{p:Nat}{x:Int}(h:eF b p= .error x):(rd (b.drop p)= .short∧x=1)∨(rd (b.drop p)= .form∧x=2):=by
 unfold eF at h
 cases hr:rd (b.drop p)with
 |ok m k=>rw[hr]at h;cases h
 |short=>rw[hr]at h;injection h with h;exact .inl ⟨rfl,h.symm⟩
 |form=>rw[hr]at h;injection h with h;exact .inr ⟨rfl,h.symm⟩
theorem wh {b:List Int}{p:Nat}:n9 b p= .tuple #[ah ((bK b p 0).1:Nat),ah ((bK b p 0).2.1:Nat),ah (bK b p 0).2.2]:=by
 unfold bK;rw[if_pos rfl]
 cases hn:eF b p with
 |ok q=>obtain⟨n,j⟩:=q;obtain⟨k,hk,rfl⟩:=rR hn;rw[ia hk]
 |error x=>
  rcases oM hn with⟨h,rfl⟩|⟨h,rfl⟩
  ·rw[eW h];rfl
  ·rw[ik h];rfl
theorem yc {b:List Int}{p n j:Nat}(hp:p≤b.length)(h:eF b p= .ok (n,j)):j≤b.length:=by
 obtain⟨k,hk,rfl⟩:=rR h;exact rB hp hk
theorem EC {most:Nat}{b t:List Int}{p j:Nat}(hp:p≤b.length)(h:de most b p= .ok (t,j)):j≤b.length:=by
 obtain⟨n,k,h1,_,h3,_,rfl⟩:=oD h;have:=rB hp h1;omega
theorem yb {b:List Int}{p:Nat}{x:Int}(h:eF b p= .error x):x≠0:=by
 rcases oM h with⟨_,rfl⟩|⟨_,rfl⟩<;>decide
theorem vy {most:Nat}{b:List Int}{p:Nat}{x:Int}(h:de most b p= .error x):x≠0:=by
 rcases l5 h with⟨_,rfl⟩|⟨_,rfl⟩|⟨_,_,_,_,rfl⟩|⟨_,_,_,_,_,rfl⟩<;>decide
theorem sI {b:List Int}{p:Nat}{e:Int}(he:e≠0):bK b p e=(0,p,e):=by unfold bK;rw[if_neg he]
theorem vB {b:List Int}{p n j:Nat}(h:eF b p= .ok (n,j)):bK b p 0=(n,j,0):=by unfold bK;rw[if_pos rfl,h]
theorem sJ {b:List Int}{p:Nat}{x:Int}(h:eF b p= .error x):bK b p 0=(0,0,x):=by unfold bK;rw[if_pos rfl,h]
theorem Cn {most:Nat}{b:List Int}{p:Nat}{e:Int}(he:e≠0):lR most b p e=([],p,e):=by unfold lR;rw[if_neg he]
theorem ED {most:Nat}{b t:List Int}{p j:Nat}(h:de most b p= .ok (t,j)):lR most b p 0=(t,j,0):=by unfold lR;rw[if_pos rfl,h]
theorem Co {most:Nat}{b:List Int}{p:Nat}{x:Int}(h:de most b p= .error x):lR most b p 0=([],0,x):=by unfold lR;rw[if_pos rfl,h]
theorem vC {b:List Int}{p:Nat}{e:Int}(hp:e=0→p≤b.length)(h:(bK b p e).2.2=0):(bK b p e).2.1≤b.length:=by
 by_cases he:e=0
 ·subst he
  cases hn:eF b p with
  |ok q=>obtain⟨n,j⟩:=q;rw[vB hn];exact yc (hp rfl) hn
  |error x=>rw[sJ hn]at h;exact absurd h (yb hn)
 ·rw[sI he]at h;exact absurd h he
end
end Go.Proofs.YtpcfhbeakecihaaGreat
