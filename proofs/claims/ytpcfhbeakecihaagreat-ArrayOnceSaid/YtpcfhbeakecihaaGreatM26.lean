/- Lemmas. -/
import Derived.Test.YtpcfhbeakecihaaGreatM4
import Derived.Lib.BitFns
set_option linter.all false
set_option maxHeartbeats 20000000
set_option maxRecDepth 100000
namespace Go.Proofs.YtpcfhbeakecihaaGreat
structure pY (m:Nat)(S:Nat→List Int):Prop where
 nodup:∀i,(S i).Nodup
 dj:∀{i j:Nat} {b:Int},b∈S i→b∈S j→i=j
 gr:∀{i:Nat} {b:Int},b∈S i→0≤b∧b<64
 out:∀i,m≤i→S i= []
def lD (S:Nat→List Int)(b:Int):Nat→List Int:=fun j=>(S j).erase b
def nK (S:Nat→List Int)(i:Nat)(b:Int):Nat→List Int:=aG (lD S b) i b
theorem cg {m:Nat}{S:Nat→List Int}(h:pY m S){b y:Int}{j:Nat}:y∈lD S b j↔y≠b∧y∈S j:=(h.nodup j).mem_erase_iff
theorem cO {m:Nat}{S:Nat→List Int}(h:pY m S){b y:Int}{i j:Nat}:y∈nK S i b j↔(y=b∧j=i)∨(y≠b∧y∈S j):=by
 unfold nK aG aW
 split
 ·rename_i e;subst e
  rw[List.mem_cons,cg h];simp
 ·rename_i e
  rw[cg h];exact⟨.inr,fun h=>h.resolve_left fun h=>e h.2⟩
theorem pY.era {m:Nat}{S:Nat→List Int}(h:pY m S)(b:Int):pY m (lD S b):=
 ⟨fun i=>(h.nodup i).erase b,fun h1 h2=>h.dj ((cg h).1 h1).2 ((cg h).1 h2).2,fun h1=>h.gr ((cg h).1 h1).2,fun i hi=>by unfold lD;rw[h.out i hi];rfl⟩
theorem pY.nK {m:Nat}{S:Nat→List Int}(h:pY m S){b:Int}{i:Nat}(hi:i<m)(h0:0≤b)(h1:b<64):pY m (nK S i b):=by
 refine⟨fun j=>?_,fun {j k y} hj hk=>?_,fun {j y} hj=>?_,fun j hj=>?_⟩
 ·unfold Go.Proofs.YtpcfhbeakecihaaGreat.nK aG aW
  split
  ·exact List.nodup_cons.2 ⟨List.Nodup.not_mem_erase (h.nodup i),(h.era b).nodup i⟩
  ·exact(h.era b).nodup j
 ·rcases(cO h).1 hj with⟨e1,e2⟩|⟨e1,e2⟩<;>rcases(cO h).1 hk with⟨e3,e4⟩|⟨e3,e4⟩
  ·omega
  ·exact absurd e1 e3
  ·exact absurd e3 e1
  ·exact h.dj e2 e4
 ·rcases(cO h).1 hj with⟨e1,e2⟩|⟨e1,e2⟩
  ·omega
  ·exact h.gr e2
 ·unfold Go.Proofs.YtpcfhbeakecihaaGreat.nK aG aW;rw[if_neg ai];exact(h.era b).out j hj
structure bM where
 cap:Nat
 q:Nat
 gv:Nat
 ghost:Nat
structure bM.Ok (P:bM):Prop where
 c1:1≤P.cap
 B2:P.cap≤16
 q1:1≤P.q
 q8:P.q≤8
 l1:1≤P.gv
 IU:P.gv≤100
 g16:P.ghost≤16
structure bu where
 S:Nat→List Int
 now:Int
 often:Int→Int
 exp:Int→Int
def zX (P:bM)(n:Int):Nat:=min (Lib.bitLen n.toNat - 1) (P.q - 1)
def hX (P:bM)(s:bu)(i:Nat)(b:Int):bu:={s with S:=nK s.S i b,exp:=aD s.exp b (s.now+P.gv)}
def dM (P:bM)(s:bu)(b:Int):bu:=hX P s (zX P (s.often b)) b
def iL (s:bu)(i:Nat):Bool:=decide (s.S i≠[])&&decide (s.exp (ez (s.S i))<s.now)
def dV (P:bM)(s:bu)(i:Nat):bu:=if iL s i=true then hX P s (i - 1) (ez (s.S i))else s
def aT (P:bM)(s:bu):Nat→bu
 |0=>s
 |k+1=>dV P (aT P s k) (k+1)
def lT (P:bM)(s:bu):bu:=aT P s (P.q - 1)
def aP (s:bu):bu:={s with now:=s.now+1}
def cC (s:bu)(b:Int):bu:={s with often:=aD s.often b (s.often b+1)}
def bU (P:bM)(s:bu)(b:Int):bu:=lT P (dM P (cC s b) b)
def ff (P:bM)(s:bu)(b:Int):bu:=bU P (aP s) b
def bA (S:Nat→List Int):Nat→List Int
 |0=>[]
 |k+1=>S k ++ bA S k
def ar (P:bM)(s:bu):List Int:=bA s.S P.q
def gE (P:bM)(s:bu):Nat:=((List.range P.q).find? fun i=>decide (s.S i≠[])).getD 0
def cB (P:bM)(s:bu):Int:=ez (s.S (gE P s))
def aR (P:bM)(s:bu):bu:={s with S:=nK s.S P.q (cB P s)}
def bt (P:bM)(s:bu):bu:=
 if P.ghost<((aR P s).S P.q).length then {aR P s with S:=lD (aR P s).S (ez ((aR P s).S P.q))} else aR P s
def xp (P:bM)(s:bu)(b:Int):Bool:=(List.range (P.q+1)).any fun i=>decide (b∈s.S i)
def aV (P:bM)(s:bu)(b:Int):bu:=if xp P s b=true then s else {s with often:=aD s.often b 0}
def bT (P:bM)(s:bu)(b:Int):bu×Int×Bool:=
 if b∈ar P s then(ff P s b,0,false)
 else if(ar P s).length=P.cap then(bU P (aV P (bt P (aP s)) b) b,cB P (aP s),true)
 else(bU P (aV P (aP s) b) b,0,false)
def lS (s:bu)(b:Int):bu:={s with S:=lD s.S b}
structure cc (P:bM)(s:bu):Prop where
 dj:pY (P.q+1) s.S
 now:0≤s.now
 often:∀b,0≤s.often b∧s.often b≤s.now
theorem js (S:Nat→List Int)(y:Int):∀k,y∈bA S k↔∃i,i<k∧y∈S i
 |0=>⟨fun h=>(by cases h),fun⟨i,h,_⟩=>absurd h (Nat.not_lt_zero _)⟩
 |k+1=>by
  rw[bA,List.mem_append,js S y k];refine⟨fun h=>h.elim (fun h=>⟨k,Nat.lt_succ_self _,h⟩) fun⟨i,h1,h2⟩=>⟨i,ai,h2⟩,fun⟨i,h1,h2⟩=>?_⟩
  by_cases e:i=k
  ·exact .inl (e▸h2)
  ·exact .inr ⟨i,ai,h2⟩
theorem bh {P:bM}{s:bu}{y:Int}:y∈ar P s↔∃i,i<P.q∧y∈s.S i:=js _ _ _
theorem iV {m:Nat}{S:Nat→List Int}(h:pY m S):∀k,(bA S k).Nodup
 |0=>List.nodup_nil
 |k+1=>by
  rw[bA,List.nodup_append];refine⟨h.nodup k,iV h k,fun a ha b hb e=>?_⟩;subst e;obtain⟨i,hi,h2⟩:=(js S a k).1 hb;have:=h.dj ha h2;omega
theorem eV {l l':List Int}(h:l.Nodup)(h':l'.Nodup)(hm:∀y,y∈l↔y∈l'):l.length=l'.length:=
 ((List.perm_ext_iff_of_nodup h h').2 hm).length_eq
theorem iT {P:bM}{s:bu}(h:cc P s){i:Nat}{b:Int}(hi:i<P.q+1)(h0:0≤b)(h1:b<64):cc P (hX P s i b):=⟨h.dj.nK hi h0 h1,h.now,h.often⟩
theorem kA {L:List Int}(h:L≠[]):ez L∈L:=by
 cases L with
 |nil=>exact absurd rfl h
 |cons a L=>
  clear h
  induction L generalizing a with
  |nil=>exact List.mem_cons_self ..
  |cons c L ih=>
   rw[ch,if_neg (by simp)];exact List.mem_cons_of_mem _ (ih c)
theorem tr {s:bu}{i:Nat}(h:iL s i=true):s.S i≠[]:=by
 unfold iL at h;simp only[Bool.and_eq_true,decide_eq_true_eq]at h;exact h.1
structure ji (P:bM)(s s':bu):Prop where
 ok:cc P s'
 mem:∀y,y∈ar P s'↔y∈ar P s
 gh:s'.S P.q=s.S P.q
 now:s'.now=s.now
 often:s'.often=s.often
theorem ji.refl {P:bM}{s:bu}(h:cc P s):ji P s s:=⟨h,fun _=>Iff.rfl,rfl,rfl,rfl⟩
theorem ji.trans {P:bM}{a b c:bu}(h:ji P a b)(k:ji P b c):ji P a c:=⟨k.ok,fun y=>(k.mem y).trans (h.mem y),k.gh.trans h.gh,k.now.trans h.now,k.often.trans h.often⟩
theorem tL {P:bM}{s:bu}(h:cc P s){i:Nat}(CS:1≤i)(hi:i<P.q):ji P s (dV P s i):=by
 unfold dV
 split
 ·rename_i hd
  have hm:=kA (tr hd);obtain⟨h0,h1⟩:=h.dj.gr hm;have bG:=iT (i:=i - 1) h ai h0 h1;refine⟨bG,fun y=>?_,?_,rfl,rfl⟩
  ·rw[bh,bh];refine⟨fun⟨j,hj,hy⟩=>?_,fun⟨j,hj,hy⟩=>?_⟩
   ·rcases(cO h.dj).1 hy with⟨e1,e2⟩|⟨e1,e2⟩
    ·exact⟨i,hi,e1▸hm⟩
    ·exact⟨j,hj,e2⟩
   ·by_cases e:y=ez (s.S i)
    ·exact⟨i - 1,ai,(cO h.dj).2 (.inl ⟨e,rfl⟩)⟩
    ·exact⟨j,hj,(cO h.dj).2 (.inr ⟨e,hy⟩)⟩
  ·show nK s.S (i - 1) (ez (s.S i)) P.q=s.S P.q
   unfold nK aG aW lD;rw[if_neg ai,List.erase_of_not_mem];intro h2;have:=h.dj.dj hm h2;omega
 ·exact .refl h
theorem il {P:bM}{s:bu}(h:cc P s):∀k,k<P.q→ji P s (aT P s k)
 |0,_=>.refl h
 |k+1,hk=>(il h k ai).trans (tL (il h k ai).ok ai hk)
theorem wz {P:bM}{s:bu}(hP:P.Ok)(h:cc P s):ji P s (lT P s):=il h _ (by have:=hP.q1;omega)
theorem vk {P:bM}(hP:P.Ok)(n:Int):zX P n<P.q:=by
 unfold zX;have:=hP.q1;omega
theorem kl {P:bM}{s:bu}(h:cc P s):cc P (aP s):=⟨h.dj,by have:=h.now;show 0≤s.now+1;omega,fun b=>by have:=h.often b;show 0≤s.often b∧s.often b≤s.now+1;omega⟩
theorem oC {P:bM}{s:bu}{b:Int}(hP:P.Ok)(h:cc P s)(ho:s.often b+1≤s.now)(h0:0≤b)(h1:b<64):
 cc P (bU P s b)∧(bU P s b).now=s.now∧(∀y,y∈ar P (bU P s b)↔y=b∨y∈ar P s)∧(bU P s b).S P.q=(s.S P.q).erase b:=by
 have hm:cc P (cC s b):=⟨h.dj,h.now,fun y=>by
  show 0≤aD s.often b (s.often b+1) y∧aD s.often b (s.often b+1) y≤s.now
  unfold aD;have h2:=h.often b;have h3:=h.often y
  split<;>omega⟩
 have hq:=vk hP ((cC s b).often b);have hp:cc P (dM P (cC s b) b):=iT hm ai h0 h1;have ha:=wz hP hp;refine⟨ha.ok,ha.now,fun y=>?_,ha.gh.trans ?_⟩
 ·rw[show ar P (bU P s b)=ar P (lT P (dM P (cC s b) b))from rfl,ha.mem y,bh,bh];refine⟨fun⟨j,hj,hy⟩=>?_,fun hy=>?_⟩
  ·rcases(cO h.dj).1 hy with⟨e1,e2⟩|⟨e1,e2⟩
   ·exact .inl e1
   ·exact .inr ⟨j,hj,e2⟩
  ·by_cases e:y=b
   ·exact⟨_,hq,(cO h.dj).2 (.inl ⟨e,rfl⟩)⟩
   ·obtain⟨j,hj,hy⟩:=hy.resolve_left e;exact⟨j,hj,(cO h.dj).2 (.inr ⟨e,hy⟩)⟩
 ·show nK s.S (zX P ((cC s b).often b)) b P.q=(s.S P.q).erase b
  unfold nK aG aW lD;rw[if_neg ai]
structure pR (P:bM)(s:bu):Prop where
 ok:cc P s
 len:(ar P s).length≤P.cap
 gh:(s.S P.q).length≤P.ghost
theorem bL {P:bM}{s:bu}(h:cc P s):(ar P s).Nodup:=iV h.dj _
theorem ej {P:bM}{s:bu}(h:cc P s){b:Int}(hb:b∈ar P s):0≤b∧b<64:=by
 obtain⟨i,_,h2⟩:=bh.1 hb;exact h.dj.gr h2
theorem tc {P:bM}{s:bu}(h:cc P s){b:Int}(hb:b∈ar P s):b∉s.S P.q:=fun h2=>by
 obtain⟨i,hi,h3⟩:=bh.1 hb;have:=h.dj.dj h2 h3;omega
theorem ni {P:bM}{s:bu}{b:Int}(hP:P.Ok)(h:pR P s)(hb:b∈ar P s):pR P (ff P s b)∧(ff P s b).now=s.now+1∧∀y,y∈ar P (ff P s b)↔y∈ar P s:=by
 obtain⟨h0,h1⟩:=ej h.ok hb;obtain⟨ha,hn,hm,hg⟩:=oC (b:=b) hP (kl h.ok) (by have:=(h.ok.often b).2;show s.often b+1≤s.now+1;omega) h0 h1;have CP:∀y,y∈ar P (ff P s b)↔y∈ar P s:=fun y=>by
  rw[show ar P (ff P s b)=ar P (bU P (aP s) b)from rfl,hm y];exact⟨fun h=>h.elim (fun e=>e▸hb) id,.inr⟩
 refine⟨⟨ha,?_,?_⟩,hn,CP⟩
 ·rw[eV (l:=ar P (ff P s b)) (bL ha) (bL h.ok) CP];exact h.len
 ·show((bU P (aP s) b).S P.q).length≤P.ghost
  rw[hg];exact Nat.le_trans (List.length_erase_le ..) h.gh
theorem rL {P:bM}{s:bu}{b:Int}(h:pR P s)(hb:b∈ar P s):pR P (lS s b)∧∀y,y∈ar P (lS s b)↔y∈ar P s∧y≠b:=by
 have bG:cc P (lS s b):=⟨h.ok.dj.era b,h.ok.now,h.ok.often⟩;have hm:∀y,y∈ar P (lS s b)↔y∈ar P s∧y≠b:=fun y=>by
  rw[bh,bh];exact⟨fun⟨i,hi,hy⟩=>⟨⟨i,hi,((cg h.ok.dj).1 hy).2⟩,((cg h.ok.dj).1 hy).1⟩,fun⟨⟨i,hi,hy⟩,hne⟩=>⟨i,hi,(cg h.ok.dj).2 ⟨hne,hy⟩⟩⟩
 refine⟨⟨bG,?_,Nat.le_trans (List.length_erase_le ..) h.gh⟩,hm⟩;have h1:=eV (bL bG) ((bL h.ok).erase b) fun y=>by rw[hm y,(bL h.ok).mem_erase_iff];exact⟨fun h=>⟨h.2,h.1⟩,fun h=>⟨h.2,h.1⟩⟩
 rw[h1];exact Nat.le_trans (List.length_erase_le ..) h.len
theorem nj {P:bM}{s:bu}(h:ar P s≠[]):gE P s<P.q∧s.S (gE P s)≠[]∧∀i,i<gE P s→s.S i= []:=by
 unfold gE
 cases hf:(List.range P.q).find? (fun i=>decide (s.S i≠[]))with
 |none=>
  exfalso
  rw[List.find?_eq_none]at hf
  cases ha:ar P s with
  |nil=>exact h ha
  |cons a l=>
   have:a∈ar P s:=by rw[ha];exact List.mem_cons_self ..
   obtain⟨i,hi,h2⟩:=bh.1 this;have:=hf i (List.mem_range.2 hi);simp only[decide_eq_true_eq,Decidable.not_not]at this;rw[this]at h2
   cases h2
 |some i=>
  obtain⟨h1,as,bs,h2,h3⟩:=List.find?_eq_some_iff_append.1 hf;have pX:i∈List.range P.q:=by rw[h2];simp
  refine⟨List.mem_range.1 pX,by simpa using h1,fun j hj=>?_⟩;have N4:j∈as:=by
   have hs:(List.range P.q).Pairwise (· < ·):=List.pairwise_lt_range;rw[h2,List.pairwise_append]at hs;have N3:j∈as ++ i :: bs:=by rw[←h2];exact List.mem_range.2 (by have:=List.mem_range.1 pX;have hj:j<i:=hj;omega)
   rcases List.mem_append.1 N3 with h4|h4
   ·exact h4
   ·exfalso
    have hj:j<i:=hj;rcases List.mem_cons.1 h4 with rfl|h4
    ·omega
    ·have:=(List.pairwise_cons.1 hs.2.1).1 j h4;omega
  have:=h3 j N4;simpa using this
theorem xH {P:bM}{s:bu}(h:ar P s≠[]):cB P s∈s.S (gE P s):=kA (nj h).2.1
theorem kD {P:bM}{s:bu}(h:ar P s≠[]):cB P s∈ar P s:=bh.2 ⟨_,(nj h).1,xH h⟩
theorem mr {P:bM}{s:bu}(hP:P.Ok)(h:pR P s)(hne:ar P s≠[]):
 cc P (bt P s)∧(bt P s).now=s.now∧(bt P s).often=s.often∧((bt P s).S P.q).length≤P.ghost∧∀y,y∈ar P (bt P s)↔y∈ar P s∧y≠cB P s:=by
 have hv:=kD hne;obtain⟨h0,h1⟩:=ej h.ok hv;have Nw:=tc h.ok hv;have hg:cc P (aR P s):=⟨h.ok.dj.nK (Nat.lt_succ_self _) h0 h1,h.ok.now,h.ok.often⟩;have Kx:(aR P s).S P.q=cB P s :: s.S P.q:=by
  show nK s.S P.q (cB P s) P.q=_
  unfold nK aG aW lD;rw[if_pos rfl,List.erase_of_not_mem Nw]
 have Ky:∀y,y∈ar P (aR P s)↔y∈ar P s∧y≠cB P s:=fun y=>by
  rw[bh,bh];refine⟨fun⟨j,hj,hy⟩=>?_,fun⟨⟨j,hj,hy⟩,hne⟩=>⟨j,hj,(cO h.ok.dj).2 (.inr ⟨hne,hy⟩)⟩⟩;rcases(cO h.ok.dj).1 hy with⟨e1,e2⟩|⟨e1,e2⟩
  ·omega
  ·exact⟨⟨j,hj,e2⟩,e1⟩
 unfold bt
 split
 ·rename_i aO
  have hl:ez ((aR P s).S P.q)∈(aR P s).S P.q:=kA (by rw[Kx];simp);refine⟨⟨hg.dj.era _,hg.now,hg.often⟩,rfl,rfl,?_,fun y=>?_⟩
  ·show(((aR P s).S P.q).erase _).length≤P.ghost
   rw[List.length_erase_of_mem hl,Kx,List.length_cons];have:=h.gh;omega
  ·rw[←Ky y,bh,bh];refine⟨fun⟨j,hj,hy⟩=>⟨j,hj,((cg hg.dj).1 hy).2⟩,fun⟨j,hj,hy⟩=>⟨j,hj,(cg hg.dj).2 ⟨fun e=>?_,hy⟩⟩⟩;have:=hg.dj.dj (e▸hl) hy;omega
 ·rename_i aO
  exact⟨hg,rfl,rfl,ai,Ky⟩
theorem jR {P:bM}{s:bu}(h:cc P s)(b:Int)(hn:1≤s.now)(ho:∀y,s.often y+1≤s.now):
 cc P (aV P s b)∧(aV P s b).now=s.now∧(aV P s b).S=s.S∧(aV P s b).often b+1≤s.now:=by
 unfold aV
 split
 ·exact⟨h,rfl,rfl,ho b⟩
 ·refine⟨⟨h.dj,h.now,fun y=>?_⟩,rfl,rfl,?_⟩
  ·show 0≤aD s.often b 0 y∧aD s.often b 0 y≤s.now
   have:=h.often y;unfold aD
   split<;>omega
  ·show aD s.often b 0 b+1≤s.now
   unfold aD;rw[if_pos rfl];omega
theorem all_congr {P:bM}{s s':bu}(h:s.S=s'.S):ar P s=ar P s':=by unfold ar;rw[h]
theorem rM {P:bM}{s:bu}{b:Int}(hP:P.Ok)(h:cc P s)(hn:1≤s.now)(ho:∀y,s.often y+1≤s.now)(hg:(s.S P.q).length≤P.ghost)(hl:(ar P s).length<P.cap)(hb:b∉ar P s)(h0:0≤b)(h1:b<64):
 pR P (bU P (aV P s b) b)∧(bU P (aV P s b) b).now=s.now∧∀y,y∈ar P (bU P (aV P s b) b)↔y=b∨y∈ar P s:=by
 obtain⟨f1,f2,f3,f4⟩:=jR h b hn ho;obtain⟨u1,u2,u3,u4⟩:=oC hP f1 (by rw[f2];exact f4) h0 h1;have hm:∀y,y∈ar P (bU P (aV P s b) b)↔y=b∨y∈ar P s:=fun y=>by rw[u3 y,all_congr f3]
 refine⟨⟨u1,?_,?_⟩,u2.trans f2,hm⟩
 ·have h2:=eV (bL u1) (List.nodup_cons.2 ⟨hb,bL h⟩) fun y=>by rw[hm y,List.mem_cons]
  rw[h2,List.length_cons];exact hl
 ·rw[u4,f3];exact Nat.le_trans (List.length_erase_le ..) hg
theorem sa {P:bM}{s:bu}{b:Int}(hP:P.Ok)(h:pR P s)(h0:0≤b)(h1:b<64):
 pR P (bT P s b).1∧(bT P s b).1.now=s.now+1∧
 (((bT P s b).2.2=false∧(bT P s b).2.1=0∧∀y,y∈ar P (bT P s b).1↔y=b∨y∈ar P s)∨
  ((bT P s b).2.2=true∧(bT P s b).2.1∈ar P s∧b∉ar P s∧∀y,y∈ar P (bT P s b).1↔y=b∨(y∈ar P s∧y≠(bT P s b).2.1))):=by
 unfold bT
 by_cases hb:b∈ar P s
 ·rw[if_pos hb];obtain⟨u1,u2,u3⟩:=ni hP h hb;exact⟨u1,u2,.inl ⟨rfl,rfl,fun y=>(u3 y).trans ⟨.inr,fun h=>h.elim (fun e=>e▸hb) id⟩⟩⟩
 ·rw[if_neg hb];have ht:pR P (aP s):=⟨kl h.ok,h.len,h.gh⟩;have J3:∀y,(aP s).often y+1≤(aP s).now:=fun y=>by have:=(h.ok.often y).2;show s.often y+1≤s.now+1;omega
  have J4:1≤(aP s).now:=by have:=h.ok.now;show 1≤s.now+1;omega
  split
  ·rename_i hc
   have hne:ar P (aP s)≠[]:=fun e=>by have:=hP.c1;have e:ar P s= []:=e;rw[e]at hc;simp at hc;omega
   obtain⟨e1,e2,e3,e4,e5⟩:=mr hP ht hne;have hv:=kD hne;have hlen:(ar P (bt P (aP s))).length<P.cap:=by
    have h2:=eV (bL e1) ((bL ht.ok).erase (cB P (aP s))) fun y=>by rw[e5 y,(bL ht.ok).mem_erase_iff];exact⟨fun h=>⟨h.2,h.1⟩,fun h=>⟨h.2,h.1⟩⟩
    rw[h2,List.length_erase_of_mem hv];have:(ar P (aP s)).length=P.cap:=hc;have:=hP.c1;omega
   obtain⟨p1,p2,p3⟩:=rM (b:=b) hP e1 (by rw[e2];exact J4) (fun y=>by rw[e2,e3];exact J3 y) e4 hlen (fun hm=>hb ((e5 b).1 hm).1) h0 h1;exact⟨p1,p2.trans e2,.inr ⟨rfl,hv,hb,fun y=>by rw[p3 y,e5 y];exact Iff.rfl⟩⟩
  ·rename_i hc
   obtain⟨p1,p2,p3⟩:=rM (b:=b) hP ht.ok J4 J3 ht.gh (by have:=h.len;show(ar P s).length<P.cap;omega) hb h0 h1;exact⟨p1,p2,.inl ⟨rfl,rfl,p3⟩⟩
theorem yd (P:bM):pR P ⟨fun _=>[],0,fun _=>0,fun _=>0⟩:=by
 have ha:ar P ⟨fun _=>[],0,fun _=>0,fun _=>0⟩= []:=by
  cases h:ar P ⟨fun _=>[],0,fun _=>0,fun _=>0⟩with
  |nil=>rfl
  |cons a l=>
   have:a∈ar P ⟨fun _=>[],0,fun _=>0,fun _=>0⟩:=by rw[h];exact List.mem_cons_self ..
   obtain⟨i,_,h2⟩:=bh.1 this
   cases h2
 exact⟨⟨⟨fun _=>List.nodup_nil,fun h=>(by cases h),fun h=>(by cases h),fun _ _=>rfl⟩,Int.le_refl _,fun _=>⟨Int.le_refl _,Int.le_refl _⟩⟩,by rw[ha];exact eK _,eK _⟩
end Go.Proofs.YtpcfhbeakecihaaGreat
