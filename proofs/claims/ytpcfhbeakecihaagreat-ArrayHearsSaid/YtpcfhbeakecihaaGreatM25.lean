/- Lemmas. -/
import Derived.Test.YtpcfhbeakecihaaGreatM4
import Derived.Lib.BitFns
set_option linter.all false
set_option maxHeartbeats 20000000
set_option maxRecDepth 100000
namespace Go.Proofs.YtpcfhbeakecihaaGreat
structure xH (m:Nat)(S:Nat→List Int):Prop where
 nodup:∀i,(S i).Nodup
 dj:∀{i j:Nat} {b:Int},b∈S i→b∈S j→i=j
 lC:∀{i:Nat} {b:Int},b∈S i→0≤b∧b<64
 out:∀i,m≤i→S i= []
def pC (S:Nat→List Int)(b:Int):Nat→List Int:=fun j=>(S j).erase b
def uA (S:Nat→List Int)(i:Nat)(b:Int):Nat→List Int:=bm (pC S b) i b
theorem gd {m:Nat}{S:Nat→List Int}(h:xH m S){b y:Int}{j:Nat}:y∈pC S b j↔y≠b∧y∈S j:=(h.nodup j).mem_erase_iff
theorem ie {m:Nat}{S:Nat→List Int}(h:xH m S){b y:Int}{i j:Nat}:y∈uA S i b j↔(y=b∧j=i)∨(y≠b∧y∈S j):=by
 unfold uA bm ba
 split
 ·rename_i e;subst e
  rw[List.mem_cons,gd h];simp
 ·rename_i e
  rw[gd h];exact⟨.inr,fun h=>h.resolve_left fun h=>e h.2⟩
theorem xH.era {m:Nat}{S:Nat→List Int}(h:xH m S)(b:Int):xH m (pC S b):=
 ⟨fun i=>(h.nodup i).erase b,fun h1 h2=>h.dj ((gd h).1 h1).2 ((gd h).1 h2).2,fun h1=>h.lC ((gd h).1 h1).2,fun i hi=>by unfold pC;rw[h.out i hi];rfl⟩
theorem xH.uA {m:Nat}{S:Nat→List Int}(h:xH m S){b:Int}{i:Nat}(hi:i<m)(h0:0≤b)(h1:b<64):xH m (uA S i b):=by
 refine⟨fun j=>?_,fun {j k y} hj hk=>?_,fun {j y} hj=>?_,fun j hj=>?_⟩
 ·unfold Go.Proofs.YtpcfhbeakecihaaGreat.uA bm ba
  split
  ·exact List.nodup_cons.2 ⟨List.Nodup.not_mem_erase (h.nodup i),(h.era b).nodup i⟩
  ·exact(h.era b).nodup j
 ·rcases(ie h).1 hj with⟨e1,e2⟩|⟨e1,e2⟩<;>rcases(ie h).1 hk with⟨e3,e4⟩|⟨e3,e4⟩
  ·omega
  ·exact absurd e1 e3
  ·exact absurd e3 e1
  ·exact h.dj e2 e4
 ·rcases(ie h).1 hj with⟨e1,e2⟩|⟨e1,e2⟩
  ·omega
  ·exact h.lC e2
 ·unfold Go.Proofs.YtpcfhbeakecihaaGreat.uA bm ba;rw[if_neg aj];exact(h.era b).out j hj
structure cI where
 cap:Nat
 q:Nat
 iC:Nat
 ghost:Nat
structure cI.Ok (P:cI):Prop where
 c1:1≤P.cap
 M9:P.cap≤16
 q1:1≤P.q
 q8:P.q≤8
 l1:1≤P.iC
 XP:P.iC≤100
 g16:P.ghost≤16
structure cC where
 S:Nat→List Int
 now:Int
 often:Int→Int
 exp:Int→Int
def JT (P:cI)(n:Int):Nat:=min (Lib.bitLen n.toNat - 1) (P.q - 1)
def fM (P:cI)(s:cC)(i:Nat)(b:Int):cC:={s with S:=uA s.S i b,exp:=aV s.exp b (s.now+P.iC)}
def ea (P:cI)(s:cC)(b:Int):cC:=fM P s (JT P (s.often b)) b
def kD (s:cC)(i:Nat):Bool:=decide (s.S i≠[])&&decide (s.exp (gU (s.S i))<s.now)
def fA (P:cI)(s:cC)(i:Nat):cC:=if kD s i=true then fM P s (i - 1) (gU (s.S i))else s
def bF (P:cI)(s:cC):Nat→cC
 |0=>s
 |k+1=>fA P (bF P s k) (k+1)
def xL (P:cI)(s:cC):cC:=bF P s (P.q - 1)
def bt (s:cC):cC:={s with now:=s.now+1}
def cG (s:cC)(b:Int):cC:={s with often:=aV s.often b (s.often b+1)}
def dV (P:cI)(s:cC)(b:Int):cC:=xL P (ea P (cG s b) b)
def kC (P:cI)(s:cC)(b:Int):cC:=dV P (bt s) b
def bR (S:Nat→List Int):Nat→List Int
 |0=>[]
 |k+1=>S k ++ bR S k
def aI (P:cI)(s:cC):List Int:=bR s.S P.q
def mh (P:cI)(s:cC):Nat:=((List.range P.q).find? fun i=>decide (s.S i≠[])).getD 0
def dq (P:cI)(s:cC):Int:=gU (s.S (mh P s))
def bh (P:cI)(s:cC):cC:={s with S:=uA s.S P.q (dq P s)}
def bJ (P:cI)(s:cC):cC:=
 if P.ghost<((bh P s).S P.q).length then {bh P s with S:=pC (bh P s).S (gU ((bh P s).S P.q))} else bh P s
def N8 (P:cI)(s:cC)(b:Int):Bool:=(List.range (P.q+1)).any fun i=>decide (b∈s.S i)
def bz (P:cI)(s:cC)(b:Int):cC:=if N8 P s b=true then s else {s with often:=aV s.often b 0}
def cP (P:cI)(s:cC)(b:Int):cC×Int×Bool:=
 if b∈aI P s then(kC P s b,0,false)
 else if(aI P s).length=P.cap then(dV P (bz P (bJ P (bt s)) b) b,dq P (bt s),true)
 else(dV P (bz P (bt s) b) b,0,false)
def ub (s:cC)(b:Int):cC:={s with S:=pC s.S b}
structure dJ (P:cI)(s:cC):Prop where
 dj:xH (P.q+1) s.S
 now:0≤s.now
 often:∀b,0≤s.often b∧s.often b≤s.now
theorem sR (S:Nat→List Int)(y:Int):∀k,y∈bR S k↔∃i,i<k∧y∈S i
 |0=>⟨fun h=>(by cases h),fun⟨i,h,_⟩=>absurd h (Nat.not_lt_zero _)⟩
 |k+1=>by
  rw[bR,List.mem_append,sR S y k];refine⟨fun h=>h.elim (fun h=>⟨k,Nat.lt_succ_self _,h⟩) fun⟨i,h1,h2⟩=>⟨i,aj,h2⟩,fun⟨i,h1,h2⟩=>?_⟩
  by_cases e:i=k
  ·exact .inl (e▸h2)
  ·exact .inr ⟨i,aj,h2⟩
theorem cw {P:cI}{s:cC}{y:Int}:y∈aI P s↔∃i,i<P.q∧y∈s.S i:=sR _ _ _
theorem rU {m:Nat}{S:Nat→List Int}(h:xH m S):∀k,(bR S k).Nodup
 |0=>List.nodup_nil
 |k+1=>by
  rw[bR,List.nodup_append];refine⟨h.nodup k,rU h k,fun a ha b hb e=>?_⟩;subst e;obtain⟨i,hi,h2⟩:=(sR S a k).1 hb;have:=h.dj ha h2;omega
theorem mE {l l':List Int}(h:l.Nodup)(h':l'.Nodup)(hm:∀y,y∈l↔y∈l'):l.length=l'.length:=
 ((List.perm_ext_iff_of_nodup h h').2 hm).length_eq
theorem rR {P:cI}{s:cC}(h:dJ P s){i:Nat}{b:Int}(hi:i<P.q+1)(h0:0≤b)(h1:b<64):dJ P (fM P s i b):=⟨h.dj.uA hi h0 h1,h.now,h.often⟩
theorem pV {L:List Int}(h:L≠[]):gU L∈L:=by
 cases L with
 |nil=>exact absurd rfl h
 |cons a L=>
  clear h
  induction L generalizing a with
  |nil=>exact List.mem_cons_self ..
  |cons c L ih=>
   rw[eO,if_neg (by simp)];exact List.mem_cons_of_mem _ (ih c)
theorem II {s:cC}{i:Nat}(h:kD s i=true):s.S i≠[]:=by
 unfold kD at h;simp only[Bool.and_eq_true,decide_eq_true_eq]at h;exact h.1
structure sy (P:cI)(s s':cC):Prop where
 ok:dJ P s'
 mem:∀y,y∈aI P s'↔y∈aI P s
 gh:s'.S P.q=s.S P.q
 now:s'.now=s.now
 often:s'.often=s.often
theorem sy.refl {P:cI}{s:cC}(h:dJ P s):sy P s s:=⟨h,fun _=>Iff.rfl,rfl,rfl,rfl⟩
theorem sy.trans {P:cI}{a b c:cC}(h:sy P a b)(k:sy P b c):sy P a c:=⟨k.ok,fun y=>(k.mem y).trans (h.mem y),k.gh.trans h.gh,k.now.trans h.now,k.often.trans h.often⟩
theorem Jk {P:cI}{s:cC}(h:dJ P s){i:Nat}(Wl:1≤i)(hi:i<P.q):sy P s (fA P s i):=by
 unfold fA
 split
 ·rename_i hd
  have hm:=pV (II hd);obtain⟨h0,h1⟩:=h.dj.lC hm;have bN:=rR (i:=i - 1) h aj h0 h1;refine⟨bN,fun y=>?_,?_,rfl,rfl⟩
  ·rw[cw,cw];refine⟨fun⟨j,hj,hy⟩=>?_,fun⟨j,hj,hy⟩=>?_⟩
   ·rcases(ie h.dj).1 hy with⟨e1,e2⟩|⟨e1,e2⟩
    ·exact⟨i,hi,e1▸hm⟩
    ·exact⟨j,hj,e2⟩
   ·by_cases e:y=gU (s.S i)
    ·exact⟨i - 1,aj,(ie h.dj).2 (.inl ⟨e,rfl⟩)⟩
    ·exact⟨j,hj,(ie h.dj).2 (.inr ⟨e,hy⟩)⟩
  ·show uA s.S (i - 1) (gU (s.S i)) P.q=s.S P.q
   unfold uA bm ba pC;rw[if_neg aj,List.erase_of_not_mem];intro h2;have:=h.dj.dj hm h2;omega
 ·exact .refl h
theorem l3 {P:cI}{s:cC}(h:dJ P s):∀k,k<P.q→sy P s (bF P s k)
 |0,_=>.refl h
 |k+1,hk=>(l3 h k aj).trans (Jk (l3 h k aj).ok aj hk)
theorem MT {P:cI}{s:cC}(hP:P.Ok)(h:dJ P s):sy P s (xL P s):=l3 h _ (by have:=hP.q1;omega)
theorem Li {P:cI}(hP:P.Ok)(n:Int):JT P n<P.q:=by
 unfold JT;have:=hP.q1;omega
theorem qz {P:cI}{s:cC}(h:dJ P s):dJ P (bt s):=⟨h.dj,by have:=h.now;show 0≤s.now+1;omega,fun b=>by have:=h.often b;show 0≤s.often b∧s.often b≤s.now+1;omega⟩
theorem BO {P:cI}{s:cC}{b:Int}(hP:P.Ok)(h:dJ P s)(ho:s.often b+1≤s.now)(h0:0≤b)(h1:b<64):
 dJ P (dV P s b)∧(dV P s b).now=s.now∧(∀y,y∈aI P (dV P s b)↔y=b∨y∈aI P s)∧(dV P s b).S P.q=(s.S P.q).erase b:=by
 have hm:dJ P (cG s b):=⟨h.dj,h.now,fun y=>by
  show 0≤aV s.often b (s.often b+1) y∧aV s.often b (s.often b+1) y≤s.now
  unfold aV;have h2:=h.often b;have h3:=h.often y
  split<;>omega⟩
 have hq:=Li hP ((cG s b).often b);have hp:dJ P (ea P (cG s b) b):=rR hm aj h0 h1;have ha:=MT hP hp;refine⟨ha.ok,ha.now,fun y=>?_,ha.gh.trans ?_⟩
 ·rw[show aI P (dV P s b)=aI P (xL P (ea P (cG s b) b))from rfl,ha.mem y,cw,cw];refine⟨fun⟨j,hj,hy⟩=>?_,fun hy=>?_⟩
  ·rcases(ie h.dj).1 hy with⟨e1,e2⟩|⟨e1,e2⟩
   ·exact .inl e1
   ·exact .inr ⟨j,hj,e2⟩
  ·by_cases e:y=b
   ·exact⟨_,hq,(ie h.dj).2 (.inl ⟨e,rfl⟩)⟩
   ·obtain⟨j,hj,hy⟩:=hy.resolve_left e;exact⟨j,hj,(ie h.dj).2 (.inr ⟨e,hy⟩)⟩
 ·show uA s.S (JT P ((cG s b).often b)) b P.q=(s.S P.q).erase b
  unfold uA bm ba pC;rw[if_neg aj]
structure uH (P:cI)(s:cC):Prop where
 ok:dJ P s
 len:(aI P s).length≤P.cap
 gh:(s.S P.q).length≤P.ghost
theorem eh {P:cI}{s:cC}(h:dJ P s):(aI P s).Nodup:=rU h.dj _
theorem iL {P:cI}{s:cC}(h:dJ P s){b:Int}(hb:b∈aI P s):0≤b∧b<64:=by
 obtain⟨i,_,h2⟩:=cw.1 hb;exact h.dj.lC h2
theorem IB {P:cI}{s:cC}(h:dJ P s){b:Int}(hb:b∈aI P s):b∉s.S P.q:=fun h2=>by
 obtain⟨i,hi,h3⟩:=cw.1 hb;have:=h.dj.dj h2 h3;omega
theorem zD {P:cI}{s:cC}{b:Int}(hP:P.Ok)(h:uH P s)(hb:b∈aI P s):uH P (kC P s b)∧(kC P s b).now=s.now+1∧∀y,y∈aI P (kC P s b)↔y∈aI P s:=by
 obtain⟨h0,h1⟩:=iL h.ok hb;obtain⟨ha,hn,hm,hg⟩:=BO (b:=b) hP (qz h.ok) (by have:=(h.ok.often b).2;show s.often b+1≤s.now+1;omega) h0 h1;have Wg:∀y,y∈aI P (kC P s b)↔y∈aI P s:=fun y=>by
  rw[show aI P (kC P s b)=aI P (dV P (bt s) b)from rfl,hm y];exact⟨fun h=>h.elim (fun e=>e▸hb) id,.inr⟩
 refine⟨⟨ha,?_,?_⟩,hn,Wg⟩
 ·rw[mE (l:=aI P (kC P s b)) (eh ha) (eh h.ok) Wg];exact h.len
 ·show((dV P (bt s) b).S P.q).length≤P.ghost
  rw[hg];exact Nat.le_trans (List.length_erase_le ..) h.gh
theorem FL {P:cI}{s:cC}{b:Int}(h:uH P s)(hb:b∈aI P s):uH P (ub s b)∧∀y,y∈aI P (ub s b)↔y∈aI P s∧y≠b:=by
 have bN:dJ P (ub s b):=⟨h.ok.dj.era b,h.ok.now,h.ok.often⟩;have hm:∀y,y∈aI P (ub s b)↔y∈aI P s∧y≠b:=fun y=>by
  rw[cw,cw];exact⟨fun⟨i,hi,hy⟩=>⟨⟨i,hi,((gd h.ok.dj).1 hy).2⟩,((gd h.ok.dj).1 hy).1⟩,fun⟨⟨i,hi,hy⟩,hne⟩=>⟨i,hi,(gd h.ok.dj).2 ⟨hne,hy⟩⟩⟩
 refine⟨⟨bN,?_,Nat.le_trans (List.length_erase_le ..) h.gh⟩,hm⟩;have h1:=mE (eh bN) ((eh h.ok).erase b) fun y=>by rw[hm y,(eh h.ok).mem_erase_iff];exact⟨fun h=>⟨h.2,h.1⟩,fun h=>⟨h.2,h.1⟩⟩
 rw[h1];exact Nat.le_trans (List.length_erase_le ..) h.len
theorem uO {P:cI}{s:cC}(h:aI P s≠[]):mh P s<P.q∧s.S (mh P s)≠[]∧∀i,i<mh P s→s.S i= []:=by
 unfold mh
 cases hf:(List.range P.q).find? (fun i=>decide (s.S i≠[]))with
 |none=>
  exfalso
  rw[List.find?_eq_none]at hf
  cases ha:aI P s with
  |nil=>exact h ha
  |cons a l=>
   have:a∈aI P s:=by rw[ha];exact List.mem_cons_self ..
   obtain⟨i,hi,h2⟩:=cw.1 this;have:=hf i (List.mem_range.2 hi);simp only[decide_eq_true_eq,Decidable.not_not]at this;rw[this]at h2
   cases h2
 |some i=>
  obtain⟨h1,as,bs,h2,h3⟩:=List.find?_eq_some_iff_append.1 hf;have uD:i∈List.range P.q:=by rw[h2];simp
  refine⟨List.mem_range.1 uD,by simpa using h1,fun j hj=>?_⟩;have hja:j∈as:=by
   have hs:(List.range P.q).Pairwise (· < ·):=List.pairwise_lt_range;rw[h2,List.pairwise_append]at hs;have hjm:j∈as ++ i :: bs:=by rw[←h2];exact List.mem_range.2 (by have:=List.mem_range.1 uD;have hj:j<i:=hj;omega)
   rcases List.mem_append.1 hjm with h4|h4
   ·exact h4
   ·exfalso
    have hj:j<i:=hj;rcases List.mem_cons.1 h4 with rfl|h4
    ·omega
    ·have:=(List.pairwise_cons.1 hs.2.1).1 j h4;omega
  have:=h3 j hja;simpa using this
theorem FC {P:cI}{s:cC}(h:aI P s≠[]):dq P s∈s.S (mh P s):=pV (uO h).2.1
theorem vE {P:cI}{s:cC}(h:aI P s≠[]):dq P s∈aI P s:=cw.2 ⟨_,(uO h).1,FC h⟩
theorem tP {P:cI}{s:cC}(hP:P.Ok)(h:uH P s)(hne:aI P s≠[]):
 dJ P (bJ P s)∧(bJ P s).now=s.now∧(bJ P s).often=s.often∧((bJ P s).S P.q).length≤P.ghost∧∀y,y∈aI P (bJ P s)↔y∈aI P s∧y≠dq P s:=by
 have hv:=vE hne;obtain⟨h0,h1⟩:=iL h.ok hv;have hvg:=IB h.ok hv;have hg:dJ P (bh P s):=⟨h.ok.dj.uA (Nat.lt_succ_self _) h0 h1,h.ok.now,h.ok.often⟩;have Sa:(bh P s).S P.q=dq P s :: s.S P.q:=by
  show uA s.S P.q (dq P s) P.q=_
  unfold uA bm ba pC;rw[if_pos rfl,List.erase_of_not_mem hvg]
 have hgm:∀y,y∈aI P (bh P s)↔y∈aI P s∧y≠dq P s:=fun y=>by
  rw[cw,cw];refine⟨fun⟨j,hj,hy⟩=>?_,fun⟨⟨j,hj,hy⟩,hne⟩=>⟨j,hj,(ie h.ok.dj).2 (.inr ⟨hne,hy⟩)⟩⟩;rcases(ie h.ok.dj).1 hy with⟨e1,e2⟩|⟨e1,e2⟩
  ·omega
  ·exact⟨⟨j,hj,e2⟩,e1⟩
 unfold bJ
 split
 ·rename_i aY
  have hl:gU ((bh P s).S P.q)∈(bh P s).S P.q:=pV (by rw[Sa];simp);refine⟨⟨hg.dj.era _,hg.now,hg.often⟩,rfl,rfl,?_,fun y=>?_⟩
  ·show(((bh P s).S P.q).erase _).length≤P.ghost
   rw[List.length_erase_of_mem hl,Sa,List.length_cons];have:=h.gh;omega
  ·rw[←hgm y,cw,cw];refine⟨fun⟨j,hj,hy⟩=>⟨j,hj,((gd hg.dj).1 hy).2⟩,fun⟨j,hj,hy⟩=>⟨j,hj,(gd hg.dj).2 ⟨fun e=>?_,hy⟩⟩⟩;have:=hg.dj.dj (e▸hl) hy;omega
 ·rename_i aY
  exact⟨hg,rfl,rfl,aj,hgm⟩
theorem lY {P:cI}{s:cC}(h:dJ P s)(b:Int)(hn:1≤s.now)(ho:∀y,s.often y+1≤s.now):
 dJ P (bz P s b)∧(bz P s b).now=s.now∧(bz P s b).S=s.S∧(bz P s b).often b+1≤s.now:=by
 unfold bz
 split
 ·exact⟨h,rfl,rfl,ho b⟩
 ·refine⟨⟨h.dj,h.now,fun y=>?_⟩,rfl,rfl,?_⟩
  ·show 0≤aV s.often b 0 y∧aV s.often b 0 y≤s.now
   have:=h.often y;unfold aV
   split<;>omega
  ·show aV s.often b 0 b+1≤s.now
   unfold aV;rw[if_pos rfl];omega
theorem all_congr {P:cI}{s s':cC}(h:s.S=s'.S):aI P s=aI P s':=by unfold aI;rw[h]
theorem FN {P:cI}{s:cC}{b:Int}(hP:P.Ok)(h:dJ P s)(hn:1≤s.now)(ho:∀y,s.often y+1≤s.now)(hg:(s.S P.q).length≤P.ghost)(hl:(aI P s).length<P.cap)(hb:b∉aI P s)(h0:0≤b)(h1:b<64):
 uH P (dV P (bz P s b) b)∧(dV P (bz P s b) b).now=s.now∧∀y,y∈aI P (dV P (bz P s b) b)↔y=b∨y∈aI P s:=by
 obtain⟨f1,f2,f3,f4⟩:=lY h b hn ho;obtain⟨u1,u2,u3,u4⟩:=BO hP f1 (by rw[f2];exact f4) h0 h1;have hm:∀y,y∈aI P (dV P (bz P s b) b)↔y=b∨y∈aI P s:=fun y=>by rw[u3 y,all_congr f3]
 refine⟨⟨u1,?_,?_⟩,u2.trans f2,hm⟩
 ·have h2:=mE (eh u1) (List.nodup_cons.2 ⟨hb,eh h⟩) fun y=>by rw[hm y,List.mem_cons]
  rw[h2,List.length_cons];exact hl
 ·rw[u4,f3];exact Nat.le_trans (List.length_erase_le ..) hg
theorem F6 {P:cI}{s:cC}{b:Int}(hP:P.Ok)(h:uH P s)(h0:0≤b)(h1:b<64):
 uH P (cP P s b).1∧(cP P s b).1.now=s.now+1∧
 (((cP P s b).2.2=false∧(cP P s b).2.1=0∧∀y,y∈aI P (cP P s b).1↔y=b∨y∈aI P s)∨
  ((cP P s b).2.2=true∧(cP P s b).2.1∈aI P s∧b∉aI P s∧∀y,y∈aI P (cP P s b).1↔y=b∨(y∈aI P s∧y≠(cP P s b).2.1))):=by
 unfold cP
 by_cases hb:b∈aI P s
 ·rw[if_pos hb];obtain⟨u1,u2,u3⟩:=zD hP h hb;exact⟨u1,u2,.inl ⟨rfl,rfl,fun y=>(u3 y).trans ⟨.inr,fun h=>h.elim (fun e=>e▸hb) id⟩⟩⟩
 ·rw[if_neg hb];have ht:uH P (bt s):=⟨qz h.ok,h.len,h.gh⟩;have hto:∀y,(bt s).often y+1≤(bt s).now:=fun y=>by have:=(h.ok.often y).2;show s.often y+1≤s.now+1;omega
  have htn:1≤(bt s).now:=by have:=h.ok.now;show 1≤s.now+1;omega
  split
  ·rename_i hc
   have hne:aI P (bt s)≠[]:=fun e=>by have:=hP.c1;have e:aI P s= []:=e;rw[e]at hc;simp at hc;omega
   obtain⟨e1,e2,e3,e4,e5⟩:=tP hP ht hne;have hv:=vE hne;have hlen:(aI P (bJ P (bt s))).length<P.cap:=by
    have h2:=mE (eh e1) ((eh ht.ok).erase (dq P (bt s))) fun y=>by rw[e5 y,(eh ht.ok).mem_erase_iff];exact⟨fun h=>⟨h.2,h.1⟩,fun h=>⟨h.2,h.1⟩⟩
    rw[h2,List.length_erase_of_mem hv];have:(aI P (bt s)).length=P.cap:=hc;have:=hP.c1;omega
   obtain⟨p1,p2,p3⟩:=FN (b:=b) hP e1 (by rw[e2];exact htn) (fun y=>by rw[e2,e3];exact hto y) e4 hlen (fun hm=>hb ((e5 b).1 hm).1) h0 h1;exact⟨p1,p2.trans e2,.inr ⟨rfl,hv,hb,fun y=>by rw[p3 y,e5 y];exact Iff.rfl⟩⟩
  ·rename_i hc
   obtain⟨p1,p2,p3⟩:=FN (b:=b) hP ht.ok htn hto ht.gh (by have:=h.len;show(aI P s).length<P.cap;omega) hb h0 h1;exact⟨p1,p2,.inl ⟨rfl,rfl,p3⟩⟩
theorem Pz (P:cI):uH P ⟨fun _=>[],0,fun _=>0,fun _=>0⟩:=by
 have ha:aI P ⟨fun _=>[],0,fun _=>0,fun _=>0⟩= []:=by
  cases h:aI P ⟨fun _=>[],0,fun _=>0,fun _=>0⟩with
  |nil=>rfl
  |cons a l=>
   have:a∈aI P ⟨fun _=>[],0,fun _=>0,fun _=>0⟩:=by rw[h];exact List.mem_cons_self ..
   obtain⟨i,_,h2⟩:=cw.1 this
   cases h2
 exact⟨⟨⟨fun _=>List.nodup_nil,fun h=>(by cases h),fun h=>(by cases h),fun _ _=>rfl⟩,Int.le_refl _,fun _=>⟨Int.le_refl _,Int.le_refl _⟩⟩,by rw[ha];exact fH _,fH _⟩
end Go.Proofs.YtpcfhbeakecihaaGreat
