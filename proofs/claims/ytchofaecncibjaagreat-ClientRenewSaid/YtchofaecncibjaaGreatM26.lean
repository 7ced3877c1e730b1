/- Lemmas. -/
import Derived.Test.YtchofaecncibjaaGreatM4
import Derived.Lib.BitFns
set_option linter.all false
set_option maxHeartbeats 20000000
set_option maxRecDepth 100000
namespace Go.Proofs.YtchofaecncibjaaGreat
structure DP (m:Nat)(S:Nat→List Int):Prop where
 nodup:∀i,(S i).Nodup
 dj:∀{i j:Nat} {b:Int},b∈S i→b∈S j→i=j
 kA:∀{i:Nat} {b:Int},b∈S i→0≤b∧b<64
 out:∀i,m≤i→S i= []
def s7 (S:Nat→List Int)(b:Int):Nat→List Int:=fun j=>(S j).erase b
def Ax (S:Nat→List Int)(i:Nat)(b:Int):Nat→List Int:=bD (s7 S b) i b
theorem iZ {m:Nat}{S:Nat→List Int}(h:DP m S){b y:Int}{j:Nat}:y∈s7 S b j↔y≠b∧y∈S j:=(h.nodup j).mem_erase_iff
theorem kl {m:Nat}{S:Nat→List Int}(h:DP m S){b y:Int}{i j:Nat}:y∈Ax S i b j↔(y=b∧j=i)∨(y≠b∧y∈S j):=by
 unfold Ax bD aI
 split
 ·rename_i e;subst e
  rw[List.mem_cons,iZ h];simp
 ·rename_i e
  rw[iZ h];exact⟨.inr,fun h=>h.resolve_left fun h=>e h.2⟩
theorem DP.era {m:Nat}{S:Nat→List Int}(h:DP m S)(b:Int):DP m (s7 S b):=
 ⟨fun i=>(h.nodup i).erase b,fun h1 h2=>h.dj ((iZ h).1 h1).2 ((iZ h).1 h2).2,fun h1=>h.kA ((iZ h).1 h1).2,fun i hi=>by unfold s7;rw[h.out i hi];rfl⟩
theorem DP.Ax {m:Nat}{S:Nat→List Int}(h:DP m S){b:Int}{i:Nat}(hi:i<m)(h0:0≤b)(h1:b<64):DP m (Ax S i b):=by
 refine⟨fun j=>?_,fun {j k y} hj hk=>?_,fun {j y} hj=>?_,fun j hj=>?_⟩
 ·unfold Go.Proofs.YtchofaecncibjaaGreat.Ax bD aI
  split
  ·exact List.nodup_cons.2 ⟨List.Nodup.not_mem_erase (h.nodup i),(h.era b).nodup i⟩
  ·exact(h.era b).nodup j
 ·rcases(kl h).1 hj with⟨e1,e2⟩|⟨e1,e2⟩<;>rcases(kl h).1 hk with⟨e3,e4⟩|⟨e3,e4⟩
  ·omega
  ·exact absurd e1 e3
  ·exact absurd e3 e1
  ·exact h.dj e2 e4
 ·rcases(kl h).1 hj with⟨e1,e2⟩|⟨e1,e2⟩
  ·omega
  ·exact h.kA e2
 ·unfold Go.Proofs.YtchofaecncibjaaGreat.Ax bD aI;rw[if_neg ao];exact(h.era b).out j hj
structure dN where
 cap:Nat
 q:Nat
 kL:Nat
 ghost:Nat
structure dN.Ok (P:dN):Prop where
 c1:1≤P.cap
 Mr:P.cap≤16
 q1:1≤P.q
 q8:P.q≤8
 l1:1≤P.kL
 acu:P.kL≤100
 g16:P.ghost≤16
structure dB where
 S:Nat→List Int
 now:Int
 often:Int→Int
 exp:Int→Int
def QG (P:dN)(n:Int):Nat:=min (Lib.bitLen n.toNat - 1) (P.q - 1)
def iC (P:dN)(s:dB)(i:Nat)(b:Int):dB:={s with S:=Ax s.S i b,exp:=aT s.exp b (s.now+P.kL)}
def fN (P:dN)(s:dB)(b:Int):dB:=iC P s (QG P (s.often b)) b
def nj (s:dB)(i:Nat):Bool:=decide (s.S i≠[])&&decide (s.exp (eB (s.S i))<s.now)
def ik (P:dN)(s:dB)(i:Nat):dB:=if nj s i=true then iC P s (i - 1) (eB (s.S i))else s
def ch (P:dN)(s:dB):Nat→dB
 |0=>s
 |k+1=>ik P (ch P s k) (k+1)
def DQ (P:dN)(s:dB):dB:=ch P s (P.q - 1)
def bI (s:dB):dB:={s with now:=s.now+1}
def dI (s:dB)(b:Int):dB:={s with often:=aT s.often b (s.often b+1)}
def fF (P:dN)(s:dB)(b:Int):dB:=DQ P (fN P (dI s b) b)
def ni (P:dN)(s:dB)(b:Int):dB:=fF P (bI s) b
def cL (S:Nat→List Int):Nat→List Int
 |0=>[]
 |k+1=>S k ++ cL S k
def aV (P:dN)(s:dB):List Int:=cL s.S P.q
def pB (P:dN)(s:dB):Nat:=((List.range P.q).find? fun i=>decide (s.S i≠[])).getD 0
def eR (P:dN)(s:dB):Int:=eB (s.S (pB P s))
def bC (P:dN)(s:dB):dB:={s with S:=Ax s.S P.q (eR P s)}
def cC (P:dN)(s:dB):dB:=
 if P.ghost<((bC P s).S P.q).length then {bC P s with S:=s7 (bC P s).S (eB ((bC P s).S P.q))} else bC P s
def VD (P:dN)(s:dB)(b:Int):Bool:=(List.range (P.q+1)).any fun i=>decide (b∈s.S i)
def bP (P:dN)(s:dB)(b:Int):dB:=if VD P s b=true then s else {s with often:=aT s.often b 0}
def ey (P:dN)(s:dB)(b:Int):dB×Int×Bool:=
 if b∈aV P s then(ni P s b,0,false)
 else if(aV P s).length=P.cap then(fF P (bP P (cC P (bI s)) b) b,eR P (bI s),true)
 else(fF P (bP P (bI s) b) b,0,false)
def zO (s:dB)(b:Int):dB:={s with S:=s7 s.S b}
structure fi (P:dN)(s:dB):Prop where
 dj:DP (P.q+1) s.S
 now:0≤s.now
 often:∀b,0≤s.often b∧s.often b≤s.now
theorem xH (S:Nat→List Int)(y:Int):∀k,y∈cL S k↔∃i,i<k∧y∈S i
 |0=>⟨fun h=>(by cases h),fun⟨i,h,_⟩=>absurd h (Nat.not_lt_zero _)⟩
 |k+1=>by
  rw[cL,List.mem_append,xH S y k];refine⟨fun h=>h.elim (fun h=>⟨k,Nat.lt_succ_self _,h⟩) fun⟨i,h1,h2⟩=>⟨i,ao,h2⟩,fun⟨i,h1,h2⟩=>?_⟩
  by_cases e:i=k
  ·exact .inl (e▸h2)
  ·exact .inr ⟨i,ao,h2⟩
theorem dz {P:dN}{s:dB}{y:Int}:y∈aV P s↔∃i,i<P.q∧y∈s.S i:=xH _ _ _
theorem wk {m:Nat}{S:Nat→List Int}(h:DP m S):∀k,(cL S k).Nodup
 |0=>List.nodup_nil
 |k+1=>by
  rw[cL,List.nodup_append];refine⟨h.nodup k,wk h k,fun a ha b hb e=>?_⟩;subst e;obtain⟨i,hi,h2⟩:=(xH S a k).1 hb;have:=h.dj ha h2;omega
theorem pP {l l':List Int}(h:l.Nodup)(h':l'.Nodup)(hm:∀y,y∈l↔y∈l'):l.length=l'.length:=
 ((List.perm_ext_iff_of_nodup h h').2 hm).length_eq
theorem wa {P:dN}{s:dB}(h:fi P s){i:Nat}{b:Int}(hi:i<P.q+1)(h0:0≤b)(h1:b<64):fi P (iC P s i b):=⟨h.dj.Ax hi h0 h1,h.now,h.often⟩
theorem tN {L:List Int}(h:L≠[]):eB L∈L:=by
 cases L with
 |nil=>exact absurd rfl h
 |cons a L=>
  clear h
  induction L generalizing a with
  |nil=>exact List.mem_cons_self ..
  |cons c L ih=>
   rw[ff,if_neg (by simp)];exact List.mem_cons_of_mem _ (ih c)
theorem Pe {s:dB}{i:Nat}(h:nj s i=true):s.S i≠[]:=by
 unfold nj at h;simp only[Bool.and_eq_true,decide_eq_true_eq]at h;exact h.1
structure xk (P:dN)(s s':dB):Prop where
 ok:fi P s'
 mem:∀y,y∈aV P s'↔y∈aV P s
 gh:s'.S P.q=s.S P.q
 now:s'.now=s.now
 often:s'.often=s.often
theorem xk.refl {P:dN}{s:dB}(h:fi P s):xk P s s:=⟨h,fun _=>Iff.rfl,rfl,rfl,rfl⟩
theorem xk.trans {P:dN}{a b c:dB}(h:xk P a b)(k:xk P b c):xk P a c:=⟨k.ok,fun y=>(k.mem y).trans (h.mem y),k.gh.trans h.gh,k.now.trans h.now,k.often.trans h.often⟩
theorem P0 {P:dN}{s:dB}(h:fi P s){i:Nat}(C4:1≤i)(hi:i<P.q):xk P s (ik P s i):=by
 unfold ik
 split
 ·rename_i hd
  have hm:=tN (Pe hd);obtain⟨h0,h1⟩:=h.dj.kA hm;have cD:=wa (i:=i - 1) h ao h0 h1;refine⟨cD,fun y=>?_,?_,rfl,rfl⟩
  ·rw[dz,dz];refine⟨fun⟨j,hj,hy⟩=>?_,fun⟨j,hj,hy⟩=>?_⟩
   ·rcases(kl h.dj).1 hy with⟨e1,e2⟩|⟨e1,e2⟩
    ·exact⟨i,hi,e1▸hm⟩
    ·exact⟨j,hj,e2⟩
   ·by_cases e:y=eB (s.S i)
    ·exact⟨i - 1,ao,(kl h.dj).2 (.inl ⟨e,rfl⟩)⟩
    ·exact⟨j,hj,(kl h.dj).2 (.inr ⟨e,hy⟩)⟩
  ·show Ax s.S (i - 1) (eB (s.S i)) P.q=s.S P.q
   unfold Ax bD aI s7;rw[if_neg ao,List.erase_of_not_mem];intro h2;have:=h.dj.dj hm h2;omega
 ·exact .refl h
theorem pn {P:dN}{s:dB}(h:fi P s):∀k,k<P.q→xk P s (ch P s k)
 |0,_=>.refl h
 |k+1,hk=>(pn h k ao).trans (P0 (pn h k ao).ok ao hk)
theorem Up {P:dN}{s:dB}(hP:P.Ok)(h:fi P s):xk P s (DQ P s):=pn h _ (by have:=hP.q1;omega)
theorem SR {P:dN}(hP:P.Ok)(n:Int):QG P n<P.q:=by
 unfold QG;have:=hP.q1;omega
theorem uk {P:dN}{s:dB}(h:fi P s):fi P (bI s):=⟨h.dj,by have:=h.now;show 0≤s.now+1;omega,fun b=>by have:=h.often b;show 0≤s.often b∧s.often b≤s.now+1;omega⟩
theorem Ii {P:dN}{s:dB}{b:Int}(hP:P.Ok)(h:fi P s)(ho:s.often b+1≤s.now)(h0:0≤b)(h1:b<64):
 fi P (fF P s b)∧(fF P s b).now=s.now∧(∀y,y∈aV P (fF P s b)↔y=b∨y∈aV P s)∧(fF P s b).S P.q=(s.S P.q).erase b:=by
 have hm:fi P (dI s b):=⟨h.dj,h.now,fun y=>by
  show 0≤aT s.often b (s.often b+1) y∧aT s.often b (s.often b+1) y≤s.now
  unfold aT;have h2:=h.often b;have h3:=h.often y
  split<;>omega⟩
 have hq:=SR hP ((dI s b).often b);have hp:fi P (fN P (dI s b) b):=wa hm ao h0 h1;have ha:=Up hP hp;refine⟨ha.ok,ha.now,fun y=>?_,ha.gh.trans ?_⟩
 ·rw[show aV P (fF P s b)=aV P (DQ P (fN P (dI s b) b))from rfl,ha.mem y,dz,dz];refine⟨fun⟨j,hj,hy⟩=>?_,fun hy=>?_⟩
  ·rcases(kl h.dj).1 hy with⟨e1,e2⟩|⟨e1,e2⟩
   ·exact .inl e1
   ·exact .inr ⟨j,hj,e2⟩
  ·by_cases e:y=b
   ·exact⟨_,hq,(kl h.dj).2 (.inl ⟨e,rfl⟩)⟩
   ·obtain⟨j,hj,hy⟩:=hy.resolve_left e;exact⟨j,hj,(kl h.dj).2 (.inr ⟨e,hy⟩)⟩
 ·show Ax s.S (QG P ((dI s b).often b)) b P.q=(s.S P.q).erase b
  unfold Ax bD aI s7;rw[if_neg ao]
structure AE (P:dN)(s:dB):Prop where
 ok:fi P s
 len:(aV P s).length≤P.cap
 gh:(s.S P.q).length≤P.ghost
theorem fV {P:dN}{s:dB}(h:fi P s):(aV P s).Nodup:=wk h.dj _
theorem lh {P:dN}{s:dB}(h:fi P s){b:Int}(hb:b∈aV P s):0≤b∧b<64:=by
 obtain⟨i,_,h2⟩:=dz.1 hb;exact h.dj.kA h2
theorem O7 {P:dN}{s:dB}(h:fi P s){b:Int}(hb:b∈aV P s):b∉s.S P.q:=fun h2=>by
 obtain⟨i,hi,h3⟩:=dz.1 hb;have:=h.dj.dj h2 h3;omega
theorem Fs {P:dN}{s:dB}{b:Int}(hP:P.Ok)(h:AE P s)(hb:b∈aV P s):AE P (ni P s b)∧(ni P s b).now=s.now+1∧∀y,y∈aV P (ni P s b)↔y∈aV P s:=by
 obtain⟨h0,h1⟩:=lh h.ok hb;obtain⟨ha,hn,hm,hg⟩:=Ii (b:=b) hP (uk h.ok) (by have:=(h.ok.often b).2;show s.often b+1≤s.now+1;omega) h0 h1;have ZH:∀y,y∈aV P (ni P s b)↔y∈aV P s:=fun y=>by
  rw[show aV P (ni P s b)=aV P (fF P (bI s) b)from rfl,hm y];exact⟨fun h=>h.elim (fun e=>e▸hb) id,.inr⟩
 refine⟨⟨ha,?_,?_⟩,hn,ZH⟩
 ·rw[pP (l:=aV P (ni P s b)) (fV ha) (fV h.ok) ZH];exact h.len
 ·show((fF P (bI s) b).S P.q).length≤P.ghost
  rw[hg];exact Nat.le_trans (List.length_erase_le ..) h.gh
theorem MT {P:dN}{s:dB}{b:Int}(h:AE P s)(hb:b∈aV P s):AE P (zO s b)∧∀y,y∈aV P (zO s b)↔y∈aV P s∧y≠b:=by
 have cD:fi P (zO s b):=⟨h.ok.dj.era b,h.ok.now,h.ok.often⟩;have hm:∀y,y∈aV P (zO s b)↔y∈aV P s∧y≠b:=fun y=>by
  rw[dz,dz];exact⟨fun⟨i,hi,hy⟩=>⟨⟨i,hi,((iZ h.ok.dj).1 hy).2⟩,((iZ h.ok.dj).1 hy).1⟩,fun⟨⟨i,hi,hy⟩,hne⟩=>⟨i,hi,(iZ h.ok.dj).2 ⟨hne,hy⟩⟩⟩
 refine⟨⟨cD,?_,Nat.le_trans (List.length_erase_le ..) h.gh⟩,hm⟩;have h1:=pP (fV cD) ((fV h.ok).erase b) fun y=>by rw[hm y,(fV h.ok).mem_erase_iff];exact⟨fun h=>⟨h.2,h.1⟩,fun h=>⟨h.2,h.1⟩⟩
 rw[h1];exact Nat.le_trans (List.length_erase_le ..) h.len
theorem AK {P:dN}{s:dB}(h:aV P s≠[]):pB P s<P.q∧s.S (pB P s)≠[]∧∀i,i<pB P s→s.S i= []:=by
 unfold pB
 cases hf:(List.range P.q).find? (fun i=>decide (s.S i≠[]))with
 |none=>
  exfalso
  rw[List.find?_eq_none]at hf
  cases ha:aV P s with
  |nil=>exact h ha
  |cons a l=>
   have:a∈aV P s:=by rw[ha];exact List.mem_cons_self ..
   obtain⟨i,hi,h2⟩:=dz.1 this;have:=hf i (List.mem_range.2 hi);simp only[decide_eq_true_eq,Decidable.not_not]at this;rw[this]at h2
   cases h2
 |some i=>
  obtain⟨h1,as,bs,h2,h3⟩:=List.find?_eq_some_iff_append.1 hf;have CQ:i∈List.range P.q:=by rw[h2];simp
  refine⟨List.mem_range.1 CQ,by simpa using h1,fun j hj=>?_⟩;have hja:j∈as:=by
   have hs:(List.range P.q).Pairwise (· < ·):=List.pairwise_lt_range;rw[h2,List.pairwise_append]at hs;have hjm:j∈as ++ i :: bs:=by rw[←h2];exact List.mem_range.2 (by have:=List.mem_range.1 CQ;have hj:j<i:=hj;omega)
   rcases List.mem_append.1 hjm with h4|h4
   ·exact h4
   ·exfalso
    have hj:j<i:=hj;rcases List.mem_cons.1 h4 with rfl|h4
    ·omega
    ·have:=(List.pairwise_cons.1 hs.2.1).1 j h4;omega
  have:=h3 j hja;simpa using this
theorem MN {P:dN}{s:dB}(h:aV P s≠[]):eR P s∈s.S (pB P s):=tN (AK h).2.1
theorem BO {P:dN}{s:dB}(h:aV P s≠[]):eR P s∈aV P s:=dz.2 ⟨_,(AK h).1,MN h⟩
theorem zt {P:dN}{s:dB}(hP:P.Ok)(h:AE P s)(hne:aV P s≠[]):
 fi P (cC P s)∧(cC P s).now=s.now∧(cC P s).often=s.often∧((cC P s).S P.q).length≤P.ghost∧∀y,y∈aV P (cC P s)↔y∈aV P s∧y≠eR P s:=by
 have hv:=BO hne;obtain⟨h0,h1⟩:=lh h.ok hv;have hvg:=O7 h.ok hv;have hg:fi P (bC P s):=⟨h.ok.dj.Ax (Nat.lt_succ_self _) h0 h1,h.ok.now,h.ok.often⟩;have ZO:(bC P s).S P.q=eR P s :: s.S P.q:=by
  show Ax s.S P.q (eR P s) P.q=_
  unfold Ax bD aI s7;rw[if_pos rfl,List.erase_of_not_mem hvg]
 have hgm:∀y,y∈aV P (bC P s)↔y∈aV P s∧y≠eR P s:=fun y=>by
  rw[dz,dz];refine⟨fun⟨j,hj,hy⟩=>?_,fun⟨⟨j,hj,hy⟩,hne⟩=>⟨j,hj,(kl h.ok.dj).2 (.inr ⟨hne,hy⟩)⟩⟩;rcases(kl h.ok.dj).1 hy with⟨e1,e2⟩|⟨e1,e2⟩
  ·omega
  ·exact⟨⟨j,hj,e2⟩,e1⟩
 unfold cC
 split
 ·rename_i aY
  have hl:eB ((bC P s).S P.q)∈(bC P s).S P.q:=tN (by rw[ZO];simp);refine⟨⟨hg.dj.era _,hg.now,hg.often⟩,rfl,rfl,?_,fun y=>?_⟩
  ·show(((bC P s).S P.q).erase _).length≤P.ghost
   rw[List.length_erase_of_mem hl,ZO,List.length_cons];have:=h.gh;omega
  ·rw[←hgm y,dz,dz];refine⟨fun⟨j,hj,hy⟩=>⟨j,hj,((iZ hg.dj).1 hy).2⟩,fun⟨j,hj,hy⟩=>⟨j,hj,(iZ hg.dj).2 ⟨fun e=>?_,hy⟩⟩⟩;have:=hg.dj.dj (e▸hl) hy;omega
 ·rename_i aY
  exact⟨hg,rfl,rfl,ao,hgm⟩
theorem pj {P:dN}{s:dB}(h:fi P s)(b:Int)(hn:1≤s.now)(ho:∀y,s.often y+1≤s.now):
 fi P (bP P s b)∧(bP P s b).now=s.now∧(bP P s b).S=s.S∧(bP P s b).often b+1≤s.now:=by
 unfold bP
 split
 ·exact⟨h,rfl,rfl,ho b⟩
 ·refine⟨⟨h.dj,h.now,fun y=>?_⟩,rfl,rfl,?_⟩
  ·show 0≤aT s.often b 0 y∧aT s.often b 0 y≤s.now
   have:=h.often y;unfold aT
   split<;>omega
  ·show aT s.often b 0 b+1≤s.now
   unfold aT;rw[if_pos rfl];omega
theorem all_congr {P:dN}{s s':dB}(h:s.S=s'.S):aV P s=aV P s':=by unfold aV;rw[h]
theorem MY {P:dN}{s:dB}{b:Int}(hP:P.Ok)(h:fi P s)(hn:1≤s.now)(ho:∀y,s.often y+1≤s.now)(hg:(s.S P.q).length≤P.ghost)(hl:(aV P s).length<P.cap)(hb:b∉aV P s)(h0:0≤b)(h1:b<64):
 AE P (fF P (bP P s b) b)∧(fF P (bP P s b) b).now=s.now∧∀y,y∈aV P (fF P (bP P s b) b)↔y=b∨y∈aV P s:=by
 obtain⟨f1,f2,f3,f4⟩:=pj h b hn ho;obtain⟨u1,u2,u3,u4⟩:=Ii hP f1 (by rw[f2];exact f4) h0 h1;have hm:∀y,y∈aV P (fF P (bP P s b) b)↔y=b∨y∈aV P s:=fun y=>by rw[u3 y,all_congr f3]
 refine⟨⟨u1,?_,?_⟩,u2.trans f2,hm⟩
 ·have h2:=pP (fV u1) (List.nodup_cons.2 ⟨hb,fV h⟩) fun y=>by rw[hm y,List.mem_cons]
  rw[h2,List.length_cons];exact hl
 ·rw[u4,f3];exact Nat.le_trans (List.length_erase_le ..) hg
theorem Nw {P:dN}{s:dB}{b:Int}(hP:P.Ok)(h:AE P s)(h0:0≤b)(h1:b<64):
 AE P (ey P s b).1∧(ey P s b).1.now=s.now+1∧
 (((ey P s b).2.2=false∧(ey P s b).2.1=0∧∀y,y∈aV P (ey P s b).1↔y=b∨y∈aV P s)∨
  ((ey P s b).2.2=true∧(ey P s b).2.1∈aV P s∧b∉aV P s∧∀y,y∈aV P (ey P s b).1↔y=b∨(y∈aV P s∧y≠(ey P s b).2.1))):=by
 unfold ey
 by_cases hb:b∈aV P s
 ·rw[if_pos hb];obtain⟨u1,u2,u3⟩:=Fs hP h hb;exact⟨u1,u2,.inl ⟨rfl,rfl,fun y=>(u3 y).trans ⟨.inr,fun h=>h.elim (fun e=>e▸hb) id⟩⟩⟩
 ·rw[if_neg hb];have ht:AE P (bI s):=⟨uk h.ok,h.len,h.gh⟩;have hto:∀y,(bI s).often y+1≤(bI s).now:=fun y=>by have:=(h.ok.often y).2;show s.often y+1≤s.now+1;omega
  have htn:1≤(bI s).now:=by have:=h.ok.now;show 1≤s.now+1;omega
  split
  ·rename_i hc
   have hne:aV P (bI s)≠[]:=fun e=>by have:=hP.c1;have e:aV P s= []:=e;rw[e]at hc;simp at hc;omega
   obtain⟨e1,e2,e3,e4,e5⟩:=zt hP ht hne;have hv:=BO hne;have hlen:(aV P (cC P (bI s))).length<P.cap:=by
    have h2:=pP (fV e1) ((fV ht.ok).erase (eR P (bI s))) fun y=>by rw[e5 y,(fV ht.ok).mem_erase_iff];exact⟨fun h=>⟨h.2,h.1⟩,fun h=>⟨h.2,h.1⟩⟩
    rw[h2,List.length_erase_of_mem hv];have:(aV P (bI s)).length=P.cap:=hc;have:=hP.c1;omega
   obtain⟨p1,p2,p3⟩:=MY (b:=b) hP e1 (by rw[e2];exact htn) (fun y=>by rw[e2,e3];exact hto y) e4 hlen (fun hm=>hb ((e5 b).1 hm).1) h0 h1;exact⟨p1,p2.trans e2,.inr ⟨rfl,hv,hb,fun y=>by rw[p3 y,e5 y];exact Iff.rfl⟩⟩
  ·rename_i hc
   obtain⟨p1,p2,p3⟩:=MY (b:=b) hP ht.ok htn hto ht.gh (by have:=h.len;show(aV P s).length<P.cap;omega) hb h0 h1;exact⟨p1,p2,.inl ⟨rfl,rfl,p3⟩⟩
theorem Xa (P:dN):AE P ⟨fun _=>[],0,fun _=>0,fun _=>0⟩:=by
 have ha:aV P ⟨fun _=>[],0,fun _=>0,fun _=>0⟩= []:=by
  cases h:aV P ⟨fun _=>[],0,fun _=>0,fun _=>0⟩with
  |nil=>rfl
  |cons a l=>
   have:a∈aV P ⟨fun _=>[],0,fun _=>0,fun _=>0⟩:=by rw[h];exact List.mem_cons_self ..
   obtain⟨i,_,h2⟩:=dz.1 this
   cases h2
 exact⟨⟨⟨fun _=>List.nodup_nil,fun h=>(by cases h),fun h=>(by cases h),fun _ _=>rfl⟩,Int.le_refl _,fun _=>⟨Int.le_refl _,Int.le_refl _⟩⟩,by rw[ha];exact dT _,dT _⟩
end Go.Proofs.YtchofaecncibjaaGreat
