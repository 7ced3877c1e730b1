/- Lemmas. -/
import Derived.Test.YtpcfhbeakecihaaGreatM36
import Derived.Test.YtpcfhbeakecihaaGreatM37
import Derived.Test.YtpcfhbeakecihaaGreatM39
set_option linter.all false
set_option maxHeartbeats 20000000
set_option maxRecDepth 100000
namespace Go.Proofs.YtpcfhbeakecihaaGreat
open Go.ChangeShapes Go.RowKit Go.WideShapes
structure AM (σ:Type) where
 s:σ
 D:Int→Option (List Int)
 d:bC
 down:Bool
 reads:Nat
def AR (kind TQ slot aa3 op block code:Int)(g:Bool)(t:List Int):PM:=⟨⟨fun i=>[kind,TQ,slot,aa3,op,block,0,0,code].getD i 0,g⟩,t⟩
section
variable {σ:Type}(sp:pQ σ)(c:aQ)
def dz (M:AM σ)(b:Int)(t:List Int)(lev:Int):AM σ:=
 if dF c 2 b t.length lev≠0 then M
 else {M with s:=(sp.add M.s b).1,D:=aV (if(sp.add M.s b).2.2=true then aV M.D (sp.add M.s b).2.1 none else M.D) b (some t)}
def lP (M:AM σ)(b:Int)(t:List Int)(lev:Int):List PM:=
 if dF c 2 b t.length lev≠0 then[]else if(sp.add M.s b).2.2=true∧c.f 4=1 then[AR 14 0 0 0 0 (sp.add M.s b).2.1 0 false []]else[]
def dC (M:AM σ)(b:Int):AM σ:=if(M.D b).isSome=true then {M with s:=sp.rem M.s b,D:=aV M.D b none} else M
def bU (M:AM σ)(b:Int)(t:List Int)(lev:Int):AM σ:=if c.f 4≠2∨(lev=3∧cg c 2 b lev=true)then dz sp c M b t lev else dC sp M b
def cU (M:AM σ)(b:Int)(t:List Int)(lev:Int):List PM:=if c.f 4≠2∨(lev=3∧cg c 2 b lev=true)then lP sp c M b t lev else[]
def ec (M:AM σ)(b:Int):Nat×List Int:=bD (c.f 3).toNat (M.d.sec (1+b.toNat))
def pL (M:AM σ)(b:Int):AM σ:={M with s:=sp.use M.s b}
def lQ (M:AM σ):AM σ:={M with reads:=M.reads+1}
def dr (M:AM σ)(b lev:Int):AM σ:=
 match M.D b with
 |some t=>if c.f 4=2 then bU sp c (pL sp M b) b t lev else pL sp M b
 |none=>if 0≤b∧b<c.f 2 then bU sp c (lQ M) b (ec c M b).2 lev else M
def gQ (M:AM σ)(b lev:Int):List PM:=
 match M.D b with
 |some t=>(if c.f 4=2 then cU sp c (pL sp M b) b t lev else[]) ++ [AR 12 0 0 0 0 b 0 false t]
 |none=>if 0≤b∧b<c.f 2 then cU sp c (lQ M) b (ec c M b).2 lev ++ [AR 12 0 0 0 0 b 0 false (ec c M b).2]else[AR 12 0 0 0 0 b 9 false []]
def aW (sh:Nat→Int)(M:AM σ)(m:dI)(t:List Int):bC×Int×Int:=cY sh (c.f 3).toNat M.d (fun i=>m.f (i+1)) t
def lp (d:bC)(b:Int):Nat:=if 0≤b∧b<c.f 2 then(bD (c.f 3).toNat (d.sec (1+b.toNat))).1 else 0
def lR (m:dI)(code:Int)(g:Bool):PM:=AR 13 (m.f 1) (m.f 2) (m.f 3) (m.f 4) (m.f 5) code g []
def dS (sh:Nat→Int)(M:AM σ)(m:dI)(t:List Int):AM σ:=
 if(aW c sh M m t).2.2=8 then {M with d:=(aW c sh M m t).1,down:=true}
 else if(aW c sh M m t).2.2≠0 then {M with d:=(aW c sh M m t).1}
 else if lp c (aW c sh M m t).1 (m.f 5)≠lp c M.d (m.f 5)then bU sp c {M with d:=(aW c sh M m t).1} (m.f 5) t (m.f 6)
 else {M with d:=(aW c sh M m t).1}
def fO (sh:Nat→Int)(M:AM σ)(m:dI)(t:List Int):List PM:=
 if(aW c sh M m t).2.2=8∨(aW c sh M m t).2.2=12 then[]
 else if(aW c sh M m t).2.2≠0 then[lR m (aW c sh M m t).2.2 false]
 else if lp c (aW c sh M m t).1 (m.f 5)≠lp c M.d (m.f 5)then cU sp c {M with d:=(aW c sh M m t).1} (m.f 5) t (m.f 6) ++ [lR m (aW c sh M m t).2.1 true]
 else[lR m (aW c sh M m t).2.1 false]
def cN (sh:Nat→Int)(M:AM σ)(m:dI)(t:List Int):AM σ:=
 if M.down=true∨mg m t.length=false then M
 else if m.f 0=8 then dr sp c M (m.f 5) (m.f 6)
 else if m.f 0=9 then dS sp c sh M m t
 else if m.f 0=10 then(if c.f 4=2∧m.f 6=3 then dz sp c M (m.f 5) t (m.f 6)else M)
 else if m.f 0=11 then dC sp M (m.f 5)
 else M
def dK (sh:Nat→Int)(M:AM σ)(m:dI)(t:List Int):List PM:=
 if M.down=true∨mg m t.length=false then[]
 else if m.f 0=8 then gQ sp c M (m.f 5) (m.f 6)
 else if m.f 0=9 then fO sp c sh M m t
 else[]
end
def adW {σ:Type}(sp:pQ σ)(c:aQ)(M:AM σ)(b:Int)(t:List Int)(lev:Int):Bool:=decide (dF c 2 b t.length lev=0)&&(sp.add M.s b).2.2
structure RKB {K:bj}{c:aQ}(Z:ZN)(o:ir K c 2)(i:A9)(M:AM K.σ)(Dr:Nat→List Int)(w:World):Prop where
 rc:qP o i M.s Dr w
 ch:aej K M.s
 dd:∀b l,M.D b=some l→Dr b.toNat=l
 keys:∀b,(M.D b).isSome=true↔b∈K.sp.all M.s
 rg:∀b,b∈K.sp.all M.s→0≤b∧b<c.f 2
 en:∀k,Z.N k↔td o i k
 lo:∀k,td o i k→Z.B≤k
 right:dp c
variable {K:bj}{c:aQ}{Z:ZN}{w:World}{o:ir K c 2}{i:A9}{M:AM K.σ}{Dr:Nat→List Int}
theorem RKB.wr (h:RKB Z o i M Dr w):Wr Z (td o i) w:=fun k _ hk=>⟨h.lo k hk,.inl ((h.en k).2 hk)⟩
theorem RKB.keep {w':World}(h:RKB Z o i M Dr w)(ho:af au w w'):RKB Z o i M Dr w':=⟨h.rc.keep ho,h.ch,h.dd,h.keys,h.rg,h.en,h.lo,h.right⟩
theorem RKB.cache {w':World}(h:RKB Z o i M Dr w){s':K.σ}{Dr':Nat→List Int}{kp:Int→Option (List Int)}(hr:qP o i s' Dr' w')(hi:aej K s')(ho:af (td o i) w w')(hdp:∀b l,kp b=some l→Dr' b.toNat=l)(hk:∀b,(kp b).isSome=true↔b∈K.sp.all s')
 (hg:∀b,b∈K.sp.all s'→0≤b∧b<c.f 2):RKB Z o i {M with s:=s',D:=kp} Dr' w':=⟨hr,hi,hdp,hk,hg,h.en,h.lo,h.right⟩
theorem RKB.inv (h:RKB Z o i M Dr w):o.Inv M.s:=by
 obtain⟨i0,w0,hR⟩:=h.ch;exact o.inv hR
theorem RKB.nat (h:RKB Z o i M Dr w){b:Int}{d:List Int}(hM:M.D b=some d):∃n:Nat,b=n∧n<32∧(n:Int)∈K.sp.all M.s∧Dr n=d:=by
 have hm:=(h.keys b).1 (by rw[hM];rfl);have hr:=h.rg b hm;have h2:=h.right.p2;have hd:=h.dd b d hM;obtain⟨n,rfl⟩:∃n:Nat,b=n:=⟨b.toNat,aj⟩;exact⟨n,rfl,aj,hm,hd⟩
theorem RKB.afT (h:RKB Z o i M Dr w){w':World}{v:Value}{l:List Int}(hv:kA w' v l)(hB:∀j,aJ v j→o.B≤j):qR Z w' v l:=
 qR.row hv.1 (by have:=hv.2;omega) fun k hk e=>by
  have:=h.rc.RW ((h.en k).1 e);have:=hB k hk;omega
theorem ae4 (h:RKB Z o i M Dr w){b:Int}{d:List Int}(hM:M.D b=some d):
 Calls Tryz.prog 47 #[aO i.cb,ah b] w fun e w'=>∃(A:Option Addr) (n m:Nat),e= .returned (.tuple #[.agg #[ah b,.slice A n m],.bool true])∧
  qR Z w' (.slice A n m) d∧RKB Z o i (dC K.sp M b) Dr w'∧af (td o i) w w':=by
 obtain⟨n,rfl,hn,hm,hd⟩:=h.nat hM;refine(RP h.rc h.inv hm hn).mono ?_;rintro e w' ⟨v,rfl,hv,hB,hr,ho⟩;rw[hd]at hv;obtain⟨A,q,rfl⟩:=hv.shape;refine⟨A,_,q,rfl,h.afT hv hB,?_,ho⟩;have ahc:=(show∃i w,K.R i M.s w from h.ch);obtain⟨i0,w0,hR⟩:=ahc;have hL:=(K.oc i0).Gz hR hm;unfold dC;rw[if_pos (by rw[hM];rfl)];refine h.cache hr (h.ch.rem hm) ho (fun x l hx=>?_) (fun x=>?_) fun x hx=>h.rg x ((hL x).1 hx).1
 ·unfold aV at hx
  split at hx
  ·cases hx
  ·exact h.dd x l hx
 ·rw[hL x,←h.keys x];unfold aV
  by_cases e:x=(n:Int)
  ·rw[if_pos e];exact⟨fun h=>(by cases h),fun h=>absurd e h.2⟩
  ·rw[if_neg e];exact⟨fun h=>⟨h,e⟩,fun h=>h.1⟩
theorem ae8 (h:RKB Z o i M Dr w)(b:Int):
 Calls Tryz.prog 47 #[aO i.cb,ah b] w fun e w'=>∃(b':Int) (A:Option Addr) (n m:Nat),e= .returned (.tuple #[.agg #[ah b',.slice A n m],.bool (M.D b).isSome])∧
  RKB Z o i (dC K.sp M b) Dr w'∧af (td o i) w w':=by
 cases hM:M.D b with
 |none=>
  have hb:b∉K.sp.all M.s:=fun e=>by have:=(h.keys b).2 e;rw[hM]at this;cases this
  refine(RO h.rc h.inv hb).mono ?_;rintro e w' ⟨rfl,ho⟩;refine⟨0,none,0,0,rfl,?_,ho.mono fun k hk=>hk.elim⟩;unfold dC;rw[if_neg (by rw[hM];decide)];exact h.keep ho
 |some d=>
  refine(ae4 h hM).mono ?_;rintro e w' ⟨A,n,m,rfl,_,h2,h3⟩;exact⟨b,A,n,m,rfl,h2,h3⟩
theorem afe (h:RKB Z o i M Dr w){b:Int}{d:List Int}(hM:M.D b=some d)(cV:K.sp.jf M.s<da):
 Calls Tryz.prog 73 #[aO i.cb,ah b] w fun e w'=>∃(A:Option Addr) (n m:Nat),e= .returned (.tuple #[.slice A n m,.bool true])∧
  qR Z w' (.slice A n m) d∧RKB Z o i (pL K.sp M b) Dr w'∧af (td o i) w w':=by
 obtain⟨n,rfl,hn,hm,hd⟩:=h.nat hM;refine(Uk h.rc h.inv hm hn cV).mono ?_;rintro e w' ⟨v,rfl,hv,hB,hr,ho⟩;rw[hd]at hv;obtain⟨A,q,rfl⟩:=hv.shape;refine⟨A,_,q,rfl,h.afT hv hB,?_,ho⟩;obtain⟨i0,w0,hR⟩:=(show∃i w,K.R i M.s w from h.ch);have hL:=(K.oc i0).N7 hR hm;exact h.cache hr (h.ch.use hm cV) ho h.dd (fun x=>(h.keys x).trans (hL x).symm) fun x hx=>h.rg x ((hL x).1 hx)
theorem aeY (h:RKB Z o i M Dr w)(b lev:Int):Calls Tryz.prog 76 #[aO i.cb,ah b,ah lev] w fun e w'=>e= .returned (.bool (cg c 2 b lev))∧af au w w':=tF b lev h.rc h.inv
theorem afd (h:RKB Z o i M Dr w){b:Int}(hM:M.D b=none):
 Calls Tryz.prog 73 #[aO i.cb,ah b] w fun e w'=>e= .returned (.tuple #[aT,.bool false])∧af au w w':=
 Uj h.rc h.inv fun e=>by have:=(h.keys b).2 e;rw[hM]at this;cases this
theorem aga (h:RKB Z o i M Dr w):Calls Tryz.prog 25 #[aO i.cb] w (xS o.B (K.sp.all M.s) w):=Pk h.rc h.inv
theorem ae3 {b:Int}{dl:List Int}{u:Value}{level:Int}{s:K.σ}{r:A9}(hr:qP o r s Dr w)(hI:o.Inv s)(iq:cH w u dl)(hc:dF c 2 b dl.length level≠0):
 Calls Tryz.prog 46 #[aO r.cb,.agg #[ah b,u],ah level] w fun e w'=>e= .returned (.agg (eJ 0 aT false (dF c 2 b dl.length level)))∧af au w w':=by
 unfold dF at hc ⊢
 by_cases ht:pT c b=false
 ·rw[if_pos ht];unfold pT at ht
  by_cases h0:b<0
  ·exact RM hr iq h0
  ·refine RL hr iq aj ?_;rw[decide_eq_true (by omega:0≤b)]at ht;simpa using ht
 ·rw[if_neg ht]at hc ⊢;have ht:pT c b=true:=by simpa using ht
  unfold pT at ht;rw[Bool.and_eq_true]at ht;have h0:=of_decide_eq_true ht.1;have h1:=of_decide_eq_true ht.2
  by_cases hl:(dl.length:Int)≠c.f 3
  ·rw[if_pos hl];exact RN hr iq h0 h1 hl
  ·rw[if_neg hl]at hc ⊢;have hl:(dl.length:Int)=c.f 3:=aj
   by_cases hk:cg c 2 b level=false
   ·rw[if_pos hk];exact Ul hr iq hI h0 h1 hl hk
   ·rw[if_neg hk]at hc;exact absurd rfl hc
section
variable {hP:dp c}{hk:2<3}{o:ir (bg c 2 hP hk) c 2}{M:AM (bg c 2 hP hk).σ}
theorem afq (h:RKB Z o i M Dr w){b lev:Int}{v:Value}{d:List Int}(hd:qR Z w v d)(cV:(bg c 2 hP hk).sp.jf M.s<da):
 Calls Tryz.prog 46 #[aO i.cb,.agg #[ah b,v],ah lev] w fun e w'=>∃(vb:Int) (A:Option Addr) (n m:Nat) (cd:Int) (Dr':Nat→List Int),e= .returned (.agg (eJ vb (.slice A n m) (adW (bg c 2 hP hk).sp c M b d lev) cd))∧
  (adW (bg c 2 hP hk).sp c M b d lev=true→vb=((bg c 2 hP hk).sp.add M.s b).2.1∧qR Z w' (.slice A n m) ((M.D ((bg c 2 hP hk).sp.add M.s b).2.1).getD []))∧RKB Z o i (dz (bg c 2 hP hk).sp c M b d lev) Dr' w'∧af (td o i) w w':=by
 by_cases hc:dF c 2 b d.length lev=0
 ·obtain⟨ht,hlen,h0,h1⟩:=ki hc;have h3:=h.right.p3;have h2:=h.right.p2;have V4:(bg c 2 hP hk).sp.takes b:=xX ht;have hl0:0<d.length:=aj;have Ay:∀j,aJ v j→¬td o i j:=fun j hj e=>h.wr.off (hd.2 hl0 j hj) (zz hd.1 hl0 j hj) e
  obtain⟨n,rfl⟩:∃n:Nat,b=n:=⟨b.toNat,aj⟩;have hg:adW (bg c 2 hP hk).sp c M n d lev=((bg c 2 hP hk).sp.add M.s n).2.2:=by unfold adW;rw[decide_eq_true hc];rfl
  have hM:dz (bg c 2 hP hk).sp c M n d lev= {M with s:=((bg c 2 hP hk).sp.add M.s n).1,D:=aV (if((bg c 2 hP hk).sp.add M.s n).2.2=true then aV M.D ((bg c 2 hP hk).sp.add M.s n).2.1 none else M.D) n (some d)}:=by unfold dz;rw[if_neg (fun e=>e hc)]
  obtain⟨i0,w0,hR⟩:=(show∃i w,(bg c 2 hP hk).R i M.s w from h.ch);have ahd:=((bg c 2 hP hk).oc i0).KF hR h0 aj V4;have qw:=h.ch.add h0 aj V4 cV;have hdd:∀(ti:Int→Option (List Int)),(∀x l,ti x=some l→M.D x=some l)→∀x l,aV ti n (some d) x=some l→ba Dr n d x.toNat=l:=fun ti hD0 x l hx=>by
   unfold aV at hx;unfold ba
   by_cases e:x=(n:Int)
   ·rw[if_pos e]at hx;injection hx with hx;rw[if_pos aj];exact hx
   ·rw[if_neg e]at hx;have hMx:=hD0 x l hx;have:=h.rg x ((h.keys x).1 (by rw[hMx];rfl));rw[if_neg aj];exact h.dd x l hMx
  rcases ahd with⟨e1,e2,e3⟩|⟨e1,e2,e3,e4⟩
  ·refine(Qz (level:=lev) h.rc h.inv h1 hlen ht V4 cV hd.1 Ay e1).mono ?_;rintro e w' ⟨vd,he,hv,hB,hr,ho⟩;rw[e1,if_neg aE]at he hv;obtain⟨A2,c2,e5⟩:=hv.shape;rw[hg,hM,e1,if_neg aE];refine⟨0,A2,_,c2,0,ba Dr n d,he.trans (by rw[e5]),fun e=>(by cases e),h.cache hr qw ho (hdd M.D fun _ _ e=>e) (fun x=>?_) (fun x hx=>?_),ho⟩
   ·rw[e3 x,←h.keys x];unfold aV
    by_cases e:x=(n:Int)
    ·rw[if_pos e];exact⟨fun _=>.inl e,fun _=>rfl⟩
    ·rw[if_neg e];exact⟨.inr,fun h=>h.elim (fun h=>absurd h e) id⟩
   ·rcases(e3 x).1 hx with e|e
    ·rw[e];exact⟨h0,h1⟩
    ·exact h.rg x e
  ·have Z6:=h.rg _ e2;obtain⟨m,hm⟩:∃m:Nat,((bg c 2 hP hk).sp.add M.s n).2.1=m:=⟨_,(Int.toNat_of_nonneg Z6.1).symm⟩;obtain⟨l0,agn⟩:=Option.isSome_iff_exists.1 ((h.keys _).2 e2);have hDr:=h.dd _ _ agn;refine(QA (level:=lev) h.rc h.inv h1 hlen ht V4 cV hd.1 Ay e1 hm (by rw[hm]at Z6;omega)).mono ?_;rintro e w' ⟨vd,he,hv,hB,hr,ho⟩;rw[e1,if_pos rfl]at he hv;rw[hDr]at hv;obtain⟨A2,c2,e5⟩:=hv.shape;rw[hg,hM,e1,if_pos rfl];refine⟨((bg c 2 hP hk).sp.add M.s n).2.1,A2,_,c2,0,ba Dr n d,he.trans (by rw[e5]),fun _=>⟨rfl,by rw[agn,←e5];exact h.afT hv hB⟩,h.cache hr qw ho (hdd _ fun x l hx=>?_) (fun x=>?_) (fun x hx=>?_),ho⟩
   ·unfold aV at hx
    split at hx
    ·cases hx
    ·exact hx
   ·rw[e4 x,←h.keys x]
    show(if x=(n:Int)then some d else if x=((bg c 2 hP hk).sp.add M.s n).2.1 then none else M.D x).isSome=true↔_
    by_cases e:x=(n:Int)
    ·rw[if_pos e];exact⟨fun _=>.inl e,fun _=>rfl⟩
    ·rw[if_neg e]
     by_cases e5:x=((bg c 2 hP hk).sp.add M.s n).2.1
     ·rw[if_pos e5];exact⟨fun h=>(by cases h),fun h=>h.elim (fun h=>absurd h e) fun h=>absurd e5 h.2⟩
     ·rw[if_neg e5];exact⟨fun h=>.inr ⟨h,e5⟩,fun h=>h.elim (fun h=>absurd h e) fun h=>h.1⟩
   ·rcases(e4 x).1 hx with e|e
    ·rw[e];exact⟨h0,h1⟩
    ·exact h.rg x e.1
 ·have hg:adW (bg c 2 hP hk).sp c M b d lev=false:=by unfold adW;rw[decide_eq_false hc];rfl
  refine(ae3 h.rc h.inv hd.1 hc).mono ?_;rintro e w' ⟨rfl,ho⟩;rw[hg];refine⟨0,none,0,0,_,Dr,rfl,fun e=>(by cases e),?_,ho.mono fun k hk=>hk.elim⟩;unfold dz;rw[if_pos hc];exact h.keep ho
end
section
variable {sh:Nat→Int}{size:Nat}{d:bC}{wr:Nat→Int}{t:List Int}
theorem vH (hp:Fc sh){c s:Int}(h0:0≤c)(h1:c<sh 2)(h2:0≤s)(h3:s<sh 3):((bw sh c s:Nat):Int)=1+sh 0+sh 3*c+s∧bw sh c s<64∧∀b:Nat,(b:Int)<sh 0→bw sh c s≠1+b:=by
 have hm:=hp.mul h0 h1;have b0:=hp.b0;have b1:=hp.b1;unfold bw;generalize sh 3*c=x at *;refine⟨aj,aj,fun b hb=>by omega⟩
structure RD (sh:Nat→Int)(d:bC)(wr:Nat→Int)(t:List Int)(v:Nat)(d':bC):Prop where
 dn:d'.down=false
 j0:d'.sec 0= []
 bl:d'.sec (1+(wr 4).toNat)=fw v t
 sl:d'.sec (bw sh (wr 0) (wr 1))=bB [(wr 2).toNat,(wr 3).toNat,0]
 ot:∀j,j≠0→j≠1+(wr 4).toNat→j≠bw sh (wr 0) (wr 1)→d'.sec j=d.sec j
theorem dR{P:Prop}(h:P:=by rw[h];decide):P:=h
theorem D4 (hn:bw sh (wr 0) (wr 1)≠1+(wr 4).toNat)(h0:bw sh (wr 0) (wr 1)≠0)(v:Nat):(cZ sh d wr t v).2=8∨((cZ sh d wr t v).2=0∧d.down=false∧RD sh d wr t v (cZ sh d wr t v).1):=by
 unfold cZ;rcases d.lW (1+(wr 4).toNat) (fw v t)with h|⟨e1,q1,q2,q3⟩
 ·rw[if_pos dR];exact .inl h
 ·rw[if_neg (by rw[e1];decide)];generalize(d.write (1+(wr 4).toNat) (fw v t)).1=d1 at *;rcases d1.lW (bw sh (wr 0) (wr 1)) (bB [(wr 2).toNat,(wr 3).toNat,0])with h|⟨e2,r1,r2,r3⟩
  ·rw[if_pos dR];exact .inl h
  ·rw[if_neg (by rw[e2];decide)];generalize(d1.write (bw sh (wr 0) (wr 1)) (bB [(wr 2).toNat,(wr 3).toNat,0])).1=d2 at *;rcases d2.lW 0 []with h|⟨e3,s1,s2,s3⟩
   ·exact .inl h
   ·refine .inr ⟨e3,q1,s2,by rw[s3,if_pos rfl],?_,?_,fun j hj hj1 Jz=>?_⟩
    ·rw[s3,if_neg aj,r3,if_neg aj,q3,if_pos rfl]
    ·rw[s3,if_neg h0,r3,if_pos rfl]
    ·rw[s3,if_neg hj,r3,if_neg Jz,q3,if_neg hj1]
inductive J5 (sh:Nat→Int) (size:Nat) (d:bC) (wr:Nat→Int) (t:List Int):bC×Int×Int→Prop
 |down (d':bC) (c:Int):J5 sh size d wr t (d',c,8)
 |bad (e:Int) (h:e≠8) (h0:e≠0):J5 sh size d wr t (d,0,e)
 |was (k:Nat) (h:iT sh wr=true) (hl:cS (d.sec (bw sh (wr 0) (wr 1)))=((wr 2).toNat,(wr 3).toNat,k)):J5 sh size d wr t (d,(k:Nat),0)
 |full (d':bC) (h:iT sh wr=true) (hb:0≤wr 4∧wr 4<sh 0) (hn:d'.down=false) (hs:d'.sec (bw sh (wr 0) (wr 1))=bB [(wr 2).toNat,(wr 3).toNat,11]) (ho:∀j,j≠bw sh (wr 0) (wr 1)→d'.sec j=d.sec j)
  (hv:(bD size (d.sec (1+(wr 4).toNat))).1=1000) (ht:t.length=size):J5 sh size d wr t (d',11,0)
 |done (d':bC) (h:iT sh wr=true) (hb:0≤wr 4∧wr 4<sh 0) (ht:t.length=size) (v:Nat) (hv:v=(bD size (d.sec (1+(wr 4).toNat))).1) (Jt:v<1000) (ho:RD sh d wr t (v+1) d'):J5 sh size d wr t (d',0,0)
theorem Cy (hp:Fc sh):J5 sh size d wr t (cY sh size d wr t):=by
 unfold cY
 by_cases hb:0≤wr 4∧wr 4<sh 0
 ·rw[if_neg (fun h=>h hb)]
  by_cases ht:t.length=size
  ·rw[if_neg (fun h=>h ht)]
   by_cases hf:iT sh wr=false
   ·rw[if_pos hf];exact .bad 6 aE aE
   ·rw[if_neg hf];have hf:iT sh wr=true:=by simpa using hf
    obtain⟨f0,f1,f2,f3,f4,f5,f6,f7⟩:=ig hf;obtain⟨hsi,acm,hsn⟩:=vH hp f0 f1 f2 f3;have R2:=hsn (wr 4).toNat aj;have UK:bw sh (wr 0) (wr 1)≠0:=by
     have:=(hp.mul f0 f1).1;have:=hp.b0;omega
    split
    ·exact .bad 12 aE aE
    ·split
     ·rename_i h
      refine .was _ hf ?_
      ext
      ·show _=(wr 2).toNat;omega
      ·show _=(wr 3).toNat;omega
      ·rfl
     ·split
      ·rename_i hv
       rcases d.lW (bw sh (wr 0) (wr 1)) (bB [(wr 2).toNat,(wr 3).toNat,11])with h|⟨h,q1,q2,q3⟩
       ·rw[if_pos dR,h];exact .down _ _
       ·rw[if_neg dR];exact .full _ hf hb q2 (by rw[q3,if_pos rfl]) (fun j hj=>by rw[q3,if_neg hj]) hv ht
      ·rename_i hv
       generalize hJ:uq _ _ _ _ _ _ t=J;rcases d.lW 0 J with h|⟨h,q1,q2,q3⟩
       ·rw[if_pos dR,h];exact .down _ _
       ·rw[if_neg dR];generalize(d.write 0 J).1=d1 at *;rcases D4 (d:=d1) (t:=t) R2 UK ((bD size (d.sec (1+(wr 4).toNat))).1+1)with h2|⟨h2,_,ho⟩
        ·rw[h2];exact .down _ _
        ·rw[h2];refine .done _ hf hb ht _ rfl ?_ ⟨ho.dn,ho.j0,ho.bl,ho.sl,fun j h1 h2 h3=>by rw[ho.ot j h1 h2 h3,q3,if_neg h1]⟩;have:=yG size (d.sec (1+(wr 4).toNat));omega
  ·rw[if_pos ht];exact .bad 10 aE aE
 ·rw[if_pos hb];exact .bad 9 aE aE
theorem Qy (h0:d.down=false)(h1:d.cA= -1):(cY sh size d wr t).2.2≠8∧(cY sh size d wr t).1.cA= -1∧(cY sh size d wr t).1.down=false:=by
 unfold cY
 split
 ·exact⟨(show(9:Int)≠8 by decide),h1,h0⟩
 split
 ·exact⟨(show(10:Int)≠8 by decide),h1,h0⟩
 split
 ·exact⟨(show(6:Int)≠8 by decide),h1,h0⟩
 split
 ·exact⟨(show(12:Int)≠8 by decide),h1,h0⟩
 split
 ·exact⟨(show(0:Int)≠8 by decide),h1,h0⟩
 split
 ·obtain⟨a1,a2,a3⟩:=bC.kF h0 h1 (bw sh (wr 0) (wr 1)) (bB [(wr 2).toNat,(wr 3).toNat,11]);rw[if_neg (by rw[a1];decide)];exact⟨(show(0:Int)≠8 by decide),a2,a3⟩
 ·generalize hJ:uq _ _ _ _ _ _ t=J;obtain⟨a1,a2,a3⟩:=bC.kF h0 h1 0 J;rw[if_neg (by rw[a1];decide)];obtain⟨b1,b2,b3⟩:=qj (sh:=sh) (wr:=wr) (t:=t) a3 a2 ((bD size (d.sec (1+(wr 4).toNat))).1+1);refine⟨?_,b2,b3⟩
  show(cZ sh _ wr t _).2≠8
  rw[b1];decide
end
end Go.Proofs.YtpcfhbeakecihaaGreat
