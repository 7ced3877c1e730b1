/- Lemmas. -/
import Derived.Test.YtpcfhbeakecihaaGreatM30
import Derived.Test.YtpcfhbeakecihaaGreatM33
set_option linter.all false
set_option maxHeartbeats 20000000
set_option maxRecDepth 100000
namespace Go.Proofs.YtpcfhbeakecihaaGreat
open Go.ChangeShapes Go.RowKit Go.WideShapes
structure iU where
 mb:Nat
 qb:Nat
 qc:Nat
 ob:Nat
 eb:Nat
 B:Nat
def qN (f:Int→Int):Array Value:=Array.ofFn (n:=64) fun i=>ah (f ((i.1:Nat):Int))
theorem tq (f:Int→Int){b:Nat}(hb:b<64):(qN f)[b]? =some (ah (f b)):=by
 unfold qN;rw[Array.getElem?_ofFn,dif_pos hb]
theorem F2 (f:Int→Int){b:Nat}(hb:b<64)(v:Int):(qN f).setIfInBounds b (ah v)=qN (aV f b v):=by
 refine Array.ext (by simp[qN]) fun j h1 h2=>?_
 have hj:j<64:=by simpa [qN] using h2
 rw[Array.getElem_setIfInBounds (by simpa [qN] using hj)];simp only[qN,Array.getElem_ofFn];unfold aV
 by_cases e:b=j
 ·subst e;simp
 ·rw[if_neg e,if_neg aj]
def aav (P:cI)(j:iU)(gv:Value)(now:Int):Array Value:=
 #[ah P.cap,ah P.iC,ah P.ghost,bp j.qb P.q j.qc,gv,bp j.ob 64 64,bp j.eb 64 64,ah now]
def AQ (q:Nat)(qv:Nat→Value):List Value:=(List.range q).map qv
theorem sB (q:Nat)(qv:Nat→Value):(AQ q qv).length=q:=by simp[AQ]
theorem DO (q:Nat)(qv:Nat→Value){i:Nat}(hi:i<q):(AQ q qv)[i]? =some (qv i):=by simp[AQ,hi]
theorem zI (q:Nat)(qv:Nat→Value)(i:Nat)(v:Value):(AQ q qv).set i v=AQ q (ba qv i v):=by
 apply List.ext_getElem?;intro k;unfold AQ ba;rw[List.getElem?_set]
 by_cases e:i=k
 ·subst e
  by_cases h:i<q
  ·simp[h]
  ·simp[h]
 ·rw[if_neg e]
  by_cases h:k<q
  ·simp only[List.getElem?_map,List.getElem?_range h,Option.map_some];rw[if_neg (fun e2=>e e2.symm)]
  ·simp[h]
structure cW (j:iU)(P:cI)(gv:Value)(qv:Nat→Value)(s:cC)(w:World):Prop where
 ak:Box w j.mb 145 (aav P j gv s.now)
 row:Row 47 w (bp j.qb P.q j.qc) (AQ P.q qv)
 q:∀i,i<P.q→aA 3 w j.B (qv i) (s.S i)
 g:aA 3 w j.B gv (s.S P.q)
 of:Box w j.ob 3 (qN s.often)
 ex:Box w j.eb 3 (qN s.exp)
 lt:j.mb<j.B∧j.qb<j.B∧j.ob<j.B∧j.eb<j.B
 ne:j.ob≠j.eb
 bs:j.B≤w.heap.size
def jg (j:iU)(P:cI)(s:cC)(w:World):Prop:=∃gv qv,cW j P gv qv s w
def RF (j:iU):Nat→Prop:=fun k=>k=j.mb∨k=j.qb∨k=j.ob∨k=j.eb
section
variable {j:iU}{P:cI}{gv:Value}{qv:Nat→Value}{s:cC}{w w':World}
theorem cW.ar {S:Nat→Prop}(h:cW j P gv qv s w)(ho:af S w w')(hS:∀k,k<w.heap.size→¬S k):cW j P gv qv s w':=
 ⟨ho.ak h.ak (hS _ h.ak.lt),h.row.ar ho fun k hk=>hS k (h.row.lt hk),fun i hi=>(h.q i hi).ar ho fun g hg=>hS g ((h.q i hi).lt g hg).2,h.g.ar ho fun g hg=>hS g (h.g.lt g hg).2,ho.ak h.of (hS _ h.of.lt),ho.ak h.ex (hS _ h.ex.lt),h.lt,h.ne,Nat.le_trans h.bs ho.size⟩
theorem cW.keep (h:cW j P gv qv s w)(ho:af au w w'):cW j P gv qv s w':=h.ar ho fun _ _=>id
theorem cW.off {S:Nat→Prop}(h:cW j P gv qv s w)(ho:af S w w')(hS:∀k,RF j k→¬S k)(hB:∀k,j.B≤k→k<w.heap.size→¬S k):cW j P gv qv s w':=
 ⟨ho.ak h.ak (hS _ (.inl rfl)),h.row.ar ho fun k hk=>hS k (.inr (.inl (aD.1 hk).symm)),fun i hi=>(h.q i hi).ar ho fun g hg=>hB g ((h.q i hi).lt g hg).1 ((h.q i hi).lt g hg).2,h.g.ar ho fun g hg=>hB g (h.g.lt g hg).1 (h.g.lt g hg).2,ho.ak h.of (hS _ (.inr (.inr (.inl rfl)))),ho.ak h.ex (hS _ (.inr (.inr (.inr rfl)))),h.lt,h.ne,Nat.le_trans h.bs ho.size⟩
theorem cW.c3 (h:cW j P gv qv s w):aM w j.mb 3 (bp j.qb P.q j.qc):=h.ak.ag rfl
theorem cW.c4 (h:cW j P gv qv s w):aM w j.mb 4 gv:=h.ak.ag rfl
theorem cW.c5 (h:cW j P gv qv s w):aM w j.mb 5 (bp j.ob 64 64):=h.ak.ag rfl
theorem cW.c6 (h:cW j P gv qv s w):aM w j.mb 6 (bp j.eb 64 64):=h.ak.ag rfl
theorem cW.c7 (h:cW j P gv qv s w):aF w j.mb 7 s.now:=h.ak.ag rfl
theorem cW.cq (h:cW j P gv qv s w){i:Nat}(hi:i<P.q):aM w j.qb i (qv i)∧w.frozen? ⟨j.qb,i,none⟩=false:=by
 obtain⟨g,c,e,h1,h2⟩:=h.row.cell (DO P.q qv hi);injection e with e1;injection e1 with e1;injection e1 with e1;rw[e1];exact⟨h1,h2⟩
end
theorem Ev (S:Nat→List Int):∀k,((bR S (k+1)).length:Int)=(bR S k).length+(S k).length
 |k=>by rw[bR,List.length_append];omega
def Rv (j:iU)(P:cI)(s:cC)(b:Int)(w:World)(i:Value)(wr:World):Prop:=∃k:Nat,k≤P.q∧i=ah k∧(∀t,t<k→b∉s.S t)∧w=wr
def TY (P:cI)(s:cC)(w:World)(v i:Value)(wr:World):Prop:=∃k:Nat,k≤P.q∧i=ah k∧v=ah (bR s.S k).length∧w=wr
section
variable {j:iU}{P:cI}{s:cC}{w:World}
theorem mC:∀{L L':List Int},L.Nodup→(∀x∈L,x∈L')→L.length≤L'.length
 | [],L',_,_=>Nat.zero_le _
 |a :: L,L',hn,h=>by
  rw[List.nodup_cons]at hn;have ha:=h a (List.mem_cons_self ..);have:=mC (L':=L'.erase a) hn.2 fun x hx=>(List.mem_erase_of_ne (fun(e:x=a)=>hn.1 (e▸hx))).2 (h x (List.mem_cons_of_mem _ hx))
  rw[List.length_erase_of_mem ha]at this;have:=List.length_pos_of_mem ha;rw[List.length_cons];omega
theorem ud {S:Nat→List Int}{m i:Nat}(h:xH m S):(S i).length≤64:=by
 have h1:(S i).length≤((List.range 64).map Int.ofNat).length:=mC (h.nodup i) fun x hx=>by
  have:=h.lC hx;exact List.mem_map.2 ⟨x.toNat,List.mem_range.2 aj,by simp;omega⟩
 simpa using h1
theorem ye {i:Nat}{b:Int}(h:jg j P s w)(hd:xH (P.q+1) s.S)(hq:P.q≤8)(hi:i<P.q)(hb:b∈s.S i):
 Calls Tryz.prog 129 #[aO j.mb,ah b] w fun e w'=>e= .returned (ah i)∧w=w':=by
 obtain⟨gv,qv,hA⟩:=h;have HA:=ae hA;have HI:=ae hi;have HB:=ae hb;have HD:=ae hd;have x3:=hA.c3;clear hA hi hb hd
 go_enter Tryz.func129,Tryz.ntmps129
 go_upto_region 2 with fail
 go_loopw [5] (fun iv wr=>Rv j P s b w iv wr) (fun iv _=>P.q - (intOf iv).toNat)
 case atStart=>exact⟨0,fH _,rfl,fun t ht=>absurd ht aj,rfl⟩
 case round=>
  obtain⟨k,hk,rfl,pH,rfl⟩:=hrel;have HN:=ae pH;clear pH;have xC:k≤i:=by
   rcases Nat.lt_or_ge i k with h|h
   ·exact absurd HB (HN i h)
   ·exact h
  have aY:k<P.q:=by have:=HI.out;omega
  have jk:(k:Int)<P.q:=aj;obtain⟨xq,_⟩:=HA.cq aY;have bf:=HA.q k aY;obtain⟨A,c,eq,h1,h2⟩:=bf.shape;have HH:=ef A c _ (s.S k) b w (by rw[←eq];exact bf.at) (Nat.le_trans h1 h2);rw[eq]at xq;have cD:=ae aY;clear bf eq h1 h2 aY hk
  by_cases yT:b∈s.S k
  ·rw[decide_eq_true yT]at HH;have HH:=ae HH;have HE:=ae<|HD.dj yT HB;clear yT;go_wp2_with (go_at_call 18;refine HH.mono ?_;rintro e W1 ⟨rfl,rfl⟩);go_ret;exact⟨by rw[←HE.out];rfl,rfl⟩
  ·rw[decide_eq_false yT]at HH;have HH:=ae HH;have Fl:=aq (∀t,t<k+1→b∉s.S t) (fun t ht=>by
    by_cases e:t=k
    ·rw[e];exact yT
    ·exact HN t aj)
   clear yT;go_wp2_with (go_at_call 18;refine HH.mono ?_;rintro e W1 ⟨rfl,rfl⟩)
   go_roundw
   case rel=>exact⟨k+1,cD,by go_num,Fl,rfl⟩
   case measure=>simp[intOf];have:=cD.out;omega
theorem yd {b:Int}(h:jg j P s w)(hq:P.q≤8)(hb:∀i,i<P.q→b∉s.S i):
 Calls Tryz.prog 129 #[aO j.mb,ah b] w fun e w'=>e= .returned (ah (-1))∧w=w':=by
 obtain⟨gv,qv,hA⟩:=h;have HA:=ae hA;have HB:=ae hb;have x3:=hA.c3;clear hA hb
 go_enter Tryz.func129,Tryz.ntmps129
 go_upto_region 2 with fail
 go_loopw [5] (fun iv wr=>Rv j P s b w iv wr) (fun iv _=>P.q - (intOf iv).toNat)
 case atStart=>exact⟨0,fH _,rfl,fun t ht=>absurd ht aj,rfl⟩
 case round=>
  obtain⟨k,hk,rfl,pH,rfl⟩:=hrel;have HN:=ae pH;clear pH
  by_cases aY:k<P.q
  ·have jk:(k:Int)<P.q:=aj;obtain⟨xq,_⟩:=HA.cq aY;have bf:=HA.q k aY;obtain⟨A,c,eq,h1,h2⟩:=bf.shape;have HH:=ef A c _ (s.S k) b w (by rw[←eq];exact bf.at) (Nat.le_trans h1 h2);rw[eq]at xq;have cD:=ae aY;rw[decide_eq_false (HB.out k aY)]at HH;have HH:=ae HH;clear bf eq h1 h2 aY hk;go_wp2_with (go_at_call 18;refine HH.mono ?_;rintro e W1 ⟨rfl,rfl⟩)
   go_roundw
   case rel=>exact⟨k+1,cD,by go_num,fun t ht=>HB t (by have:=cD.out;omega),rfl⟩
   case measure=>simp[intOf];have:=cD.out;omega
  ·obtain rfl:k=P.q:=aj;clear aY hk;go_wp2;go_ret;exact⟨rfl,rfl⟩
theorem zP {S:Nat→List Int}(h:∀i,(S i).length≤64):∀k,(bR S k).length≤64*k
 |0=>by simp[bR]
 |k+1=>by rw[bR,List.length_append];have:=zP h k;have:=h k;omega
theorem Pd (h:jg j P s w)(hd:xH (P.q+1) s.S)(hq:P.q≤8):
 Calls Tryz.prog 131 #[aO j.mb] w fun e w'=>e= .returned (ah (aI P s).length)∧w=w':=by
 obtain⟨gv,qv,hA⟩:=h;have HA:=ae hA;have x3:=hA.c3;have XH:=ae<|fun i=>ud (i:=i) hd;clear hA hd
 go_enter Tryz.func131,Tryz.ntmps131
 go_upto_region 3 with fail
 go_loopw [3,4] (fun v iv wr=>TY P s w v iv wr) (fun _ iv _=>P.q - (intOf iv).toNat)
 case atStart=>exact⟨0,fH _,rfl,rfl,rfl⟩
 case round=>
  obtain⟨k,hk,rfl,rfl,rfl⟩:=hrel
  by_cases aY:k<P.q
  ·have jk:(k:Int)<P.q:=aj;obtain⟨xq,_⟩:=HA.cq aY;obtain⟨A,c,eq,h1,h2⟩:=(HA.q k aY).shape;rw[eq]at xq;have cD:=ae aY;have jY:=ae<|Ev s.S k;have hf:=zP XH k;have h6:=XH.out k;clear eq h1 h2 aY hk;generalize(s.S k).length=nk at *;generalize(bR s.S k).length=fk at *;go_wp2
   go_roundw
   case rel=>exact⟨k+1,cD,by go_num,by rw[jY.out],rfl⟩
   case measure=>simp[intOf];have:=cD.out;omega
  ·obtain rfl:k=P.q:=aj;clear aY hk;go_wp2;go_ret;exact⟨rfl,rfl⟩
end
section
variable {j:iU}{P:cI}{gv:Value}{qv:Nat→Value}{s s':cC}{w w':World}
theorem cW.congr (h:cW j P gv qv s w)(h1:∀i,i≤P.q→s.S i=s'.S i)(h2:s.now=s'.now)(h3:s.often=s'.often)(h4:s.exp=s'.exp):cW j P gv qv s' w:=
 ⟨h2▸h.ak,h.row,fun i hi=>h1 i aj▸h.q i hi,h1 _ (dX _)▸h.g,h3▸h.of,h4▸h.ex,h.lt,h.ne,h.bs⟩
theorem cW.vA (h:cW j P gv qv s w)(hq:0<P.q):∃cs,Box w j.qb 47 cs:=h.row.ak (aD.2 rfl)
theorem od{P:Prop}(h:P:=by
 unfold ba
 by_cases e:i=k
 ·rw[if_pos e,if_pos e];exact hv.ar ho fun g hg=>nB g (hv.lt g hg).1
 ·rw[if_neg e,if_neg e];exact(h.q i hi).ar ho fun g hg=>nB g ((h.q i hi).lt g hg).1):P:=h
theorem cW.tj (h:cW j P gv qv s w){k:Nat}(hk:k<P.q){v:Value}{l:List Int}(hv:aA 3 w j.B v l):cW j P gv (ba qv k v) {s with S:=ba s.S k l} (w.setCell ⟨j.qb,k,none⟩ v):=by
 obtain⟨cs,hb⟩:=h.vA aj;have ho:af (az j.qb) w (w.setCell ⟨j.qb,k,none⟩ v):=(af.ai (az j.qb) w).setCell (p:=⟨j.qb,k,none⟩) (.inl (show az j.qb j.qb from rfl)) _;have aY:=h.lt;have nB:∀g,j.B≤g→¬az j.qb g:=fun g hg e=>by have h1:g=j.qb:=e;omega
 have je:=h.row.store (i:=k) (by rw[sB];exact hk) v (aD.2 rfl);rw[zI]at je;refine⟨ho.ak h.ak (h.ak.off hb aE),je,fun i hi=>?_,?_,ho.ak h.of (h.of.off hb aE),ho.ak h.ex (h.ex.off hb aE),h.lt,h.ne,Nat.le_trans h.bs ho.size⟩
 ·show aA 3 _ j.B (ba qv k v i) (ba s.S k l i)
  exact od
 ·show aA 3 _ j.B gv (ba s.S k l P.q)
  unfold ba;rw[if_neg aj];exact h.g.ar ho fun g hg=>nB g (h.g.lt g hg).1
theorem cW.SH (h:cW j P gv qv s w){v:Value}{l:List Int}(hv:aA 3 w j.B v l)(hq:0<P.q):cW j P v qv {s with S:=ba s.S P.q l} (w.setCell ⟨j.mb,4,none⟩ v):=by
 obtain⟨cs,hb⟩:=h.vA hq;have ho:af (az j.mb) w (w.setCell ⟨j.mb,4,none⟩ v):=(af.ai (az j.mb) w).setCell (p:=⟨j.mb,4,none⟩) (.inl (show az j.mb j.mb from rfl)) _;have aY:=h.lt;have nB:∀g,j.B≤g→¬az j.mb g:=fun g hg e=>by have h1:g=j.mb:=e;omega
 refine⟨h.ak.store 4 v,h.row.ar ho fun g hg e=>?_,fun i hi=>?_,?_,ho.ak h.of (h.of.off h.ak aE),ho.ak h.ex (h.ex.off h.ak aE),h.lt,h.ne,Nat.le_trans h.bs ho.size⟩
 ·have h1:=aD.1 hg;exact(hb.off h.ak aE) (h1.trans e)
 ·show aA 3 _ j.B (qv i) (ba s.S P.q l i)
  unfold ba;rw[if_neg aj];exact(h.q i hi).ar ho fun g hg=>nB g ((h.q i hi).lt g hg).1
 ·show aA 3 _ j.B v (ba s.S P.q l P.q)
  unfold ba;rw[if_pos rfl];exact hv.ar ho fun g hg=>nB g (hv.lt g hg).1
theorem cW.XI (h:cW j P gv qv s w)(n:Int)(hq:0<P.q):cW j P gv qv {s with now:=n} (w.setCell ⟨j.mb,7,none⟩ (ah n)):=by
 obtain⟨cs,hb⟩:=h.vA hq;have ho:af (az j.mb) w (w.setCell ⟨j.mb,7,none⟩ (ah n)):=(af.ai (az j.mb) w).setCell (p:=⟨j.mb,7,none⟩) (.inl (show az j.mb j.mb from rfl)) _;have aY:=h.lt;have nB:∀g,j.B≤g→¬az j.mb g:=fun g hg e=>by have h1:g=j.mb:=e;omega
 refine⟨h.ak.store 7 (ah n),h.row.ar ho fun g hg e=>?_,fun i hi=>(h.q i hi).ar ho fun g hg=>nB g ((h.q i hi).lt g hg).1,h.g.ar ho fun g hg=>nB g (h.g.lt g hg).1,ho.ak h.of (h.of.off h.ak aE),ho.ak h.ex (h.ex.off h.ak aE),h.lt,h.ne,Nat.le_trans h.bs ho.size⟩;have h1:=aD.1 hg;exact(hb.off h.ak aE) (h1.trans e)
theorem cW.aat (h:cW j P gv qv s w){b:Nat}(hb:b<64)(n:Int)(hq:0<P.q):cW j P gv qv {s with exp:=aV s.exp b n} (w.setCell ⟨j.eb,b,none⟩ (ah n)):=by
 obtain⟨cs,hr⟩:=h.vA hq;have ho:af (az j.eb) w (w.setCell ⟨j.eb,b,none⟩ (ah n)):=(af.ai (az j.eb) w).setCell (p:=⟨j.eb,b,none⟩) (.inl (show az j.eb j.eb from rfl)) _;have aY:=h.lt;have nB:∀g,j.B≤g→¬az j.eb g:=fun g hg e=>by have h1:g=j.eb:=e;omega
 have je:=h.ex.store b (ah n);rw[F2 _ hb]at je;refine⟨ho.ak h.ak (h.ak.off h.ex aE),h.row.ar ho fun g hg e=>?_,fun i hi=>(h.q i hi).ar ho fun g hg=>nB g ((h.q i hi).lt g hg).1,h.g.ar ho fun g hg=>nB g (h.g.lt g hg).1,ho.ak h.of h.ne,je,h.lt,h.ne,Nat.le_trans h.bs ho.size⟩;have h1:=aD.1 hg;exact(hr.off h.ex aE) (h1.trans e)
theorem cW.SG (h:cW j P gv qv s w){b:Nat}(hb:b<64)(n:Int)(hq:0<P.q):cW j P gv qv {s with often:=aV s.often b n} (w.setCell ⟨j.ob,b,none⟩ (ah n)):=by
 obtain⟨cs,hr⟩:=h.vA hq;have ho:af (az j.ob) w (w.setCell ⟨j.ob,b,none⟩ (ah n)):=(af.ai (az j.ob) w).setCell (p:=⟨j.ob,b,none⟩) (.inl (show az j.ob j.ob from rfl)) _;have aY:=h.lt;have nB:∀g,j.B≤g→¬az j.ob g:=fun g hg e=>by have h1:g=j.ob:=e;omega
 have je:=h.of.store b (ah n);rw[F2 _ hb]at je;refine⟨ho.ak h.ak (h.ak.off h.of aE),h.row.ar ho fun g hg e=>?_,fun i hi=>(h.q i hi).ar ho fun g hg=>nB g ((h.q i hi).lt g hg).1,h.g.ar ho fun g hg=>nB g (h.g.lt g hg).1,je,ho.ak h.ex h.ne.symm,h.lt,h.ne,Nat.le_trans h.bs ho.size⟩;have h1:=aD.1 hg;exact(hr.off h.of aE) (h1.trans e)
end
theorem erase_filter {l:List Int}(h:l.Nodup)(b:Int):l.filter (· != b)=l.erase b:=(h.erase_eq_filter b).symm
def qU (S:Nat→List Int)(b:Int)(k:Nat):Nat→List Int:=fun i=>if i<k then(S i).erase b else S i
def Zt (j:iU)(P:cI)(gv:Value)(s:cC)(b:Int)(w:World)(iv:Value)(wr:World):Prop:=
 ∃(k:Nat) (qv:Nat→Value),k≤P.q∧iv=ah k∧cW j P gv qv {s with S:=qU s.S b k} wr∧af (RF j) w wr
section
variable {j:iU}{P:cI}{s:cC}{w:World}
theorem tD {qi n:Nat}(h:jg j P s w)(hd:xH (P.q+1) s.S)(hP:P.Ok)(hqi:qi<P.q)(hn:n<64)(Dx:0≤s.now∧s.now≤4000000000):
 Calls Tryz.prog 137 #[aO j.mb,ah qi,ah n] w fun e w'=>e= .returned (.tuple #[])∧jg j P (fM P s qi n) w'∧af (RF j) w w':=by
 obtain⟨gv,Z1,QU⟩:=h;obtain⟨b,hb⟩:∃b:Int,b=n:=⟨_,rfl⟩;rw[←hb];have NZ:=ae hb;have MX:=hP.q8;have hl1:=hP.l1;have ab4:=hP.XP;have HD:=ae hd;have Xk:=ae hqi;have GO:=ae hn;have wT:=ae QU;have uv:=ae Dx;have Dh:=ae (show 0<P.q by omega);have HL:=aq (∀k,(qU s.S b k k).length≤10000) (fun k=>by
  unfold qU;rw[if_neg aj];have:=ud (i:=k) hd;omega)
 clear QU hd hqi hP hb hn Dx
 go_enter Tryz.func137,Tryz.ntmps137
 go_upto_region 1 with fail
 go_loopw [6] (fun iv wr=>Zt j P gv s b w iv wr) (fun iv _=>P.q - (intOf iv).toNat)
 case atStart=>exact⟨0,Z1,fH _,rfl,wT.congr (fun i _=>by show s.S i=qU s.S b 0 i;unfold qU;rw[if_neg aj]) rfl rfl rfl,af.ai _ _⟩
 case round=>
  obtain⟨k,qv,hk,rfl,hA,ho⟩:=hrel;have HA:=ae hA;have HO:=ae ho;have x3:=hA.c3;clear hA ho
  by_cases aY:k<P.q
  ·have jk:(k:Int)<P.q:=aj;have cD:=ae aY;clear aY hk;go_upto_region 3 with fail;have k1:aM wr.drew j.mb 3 (bp j.qb P.q j.qc):=x3;have k2:aM wr.drew j.qb k (qv k):=(HA.cq cD).1;refine pG (fun w':World=>aM w' j.mb 3 (bp j.qb P.q j.qc)∧aM w' j.qb k (qv k)) 14 fun aC=>?_
   refine bE [0,1,2,3,4,5,6,7,8,9,10,11,12] ?_;refine cX 13 fun Kc hK=>?_
   go_simp;refine(cB b wr.drew ((HA.q k cD).ar ((af.ai au wr).drew) fun _ _=>id) (HL k)).mono ?_;rintro e W1 ⟨v1,rfl,aK,qM⟩;obtain⟨A1,n1,c1,rfl⟩:∃A n c,v1=Value.slice A n c:=by obtain⟨A,c,e,_⟩:=aK.shape;exact⟨A,_,c,e⟩
   have w7:=ae aK;have AK:=ae<|(af.ai au wr).drew.trans qM;have k1:=qM.cell aC.1 id;have k2:=qM.cell aC.2 id;clear aK qM;refine Ai hK fun aC=>?_
   clear hK;refine dE ?_;have dZ:=ae<|HA.keep AK;have Dn:=dZ.cq cD;obtain⟨uE,UX⟩:=Dn;clear aC k1 k2 x3;go_wp2
   go_roundw
   case rel=>
    have hd:=HD.out;have bf:aA 3 W1 j.B (.slice A1 n1 c1) ((s.S k).erase b):=by
     have h1:=w7.low HA.bs;have h2:(qU s.S b k k)=s.S k:=by unfold qU;rw[if_neg aj]
     have h3:aA 3 W1 j.B (.slice A1 n1 c1) ((qU s.S b k k).filter (· != b)):=h1;rw[h2,erase_filter (hd.nodup k)]at h3;exact h3
    refine⟨k+1,ba qv k (.slice A1 n1 c1),cD,by go_num,(dZ.tj cD bf).congr (fun i hi=>?_) rfl rfl rfl,(HO.cE AK).setCell (p:=⟨j.qb,k,none⟩) (.inl (.inr (.inl rfl))) _⟩
    show ba (qU s.S b k) k ((s.S k).erase b) i=qU s.S b (k+1) i
    unfold ba qU
    by_cases e:i=k
    ·rw[if_pos e,if_pos aj,e]
    ·rw[if_neg e]
     by_cases h2:i<k
     ·rw[if_pos h2,if_pos aj]
     ·rw[if_neg h2,if_neg aj]
   case measure=>simp[intOf];have:=cD.out;omega
  ·obtain rfl:k=P.q:=aj;clear aY hk;have x4:=HA.c4;obtain⟨gA,gc,eg,_⟩:=HA.g.shape;have HW:=ae<|cB b wr HA.g (HL P.q);clear eg;go_upto_region 5 with(go_at_call 127;refine HW.mono ?_;rintro e W3 ⟨v3,rfl,bV,yQ⟩;obtain⟨A3,n3,c3,rfl⟩:∃A n c,v3=Value.slice A n c:=(by obtain⟨A,c,e,_⟩:=bV.shape;exact⟨A,_,c,e⟩);have wZ:=ae bV;have mf:=ae yQ;have De:=(HA.keep yQ).c4;have UW:=(HA.keep yQ).ak.free 4;clear bV yQ);have bf:aA 3 W3 j.B (.slice A3 n3 c3) ((s.S P.q).erase b):=by
    have h1:=wZ.low HA.bs;have h2:(qU s.S b P.q P.q)=s.S P.q:=by unfold qU;rw[if_neg aj]
    have h3:aA 3 W3 j.B (.slice A3 n3 c3) ((qU s.S b P.q P.q).filter (· != b)):=h1;rw[h2,erase_filter (HD.nodup P.q)]at h3;exact h3
   have WJ:=((HA.keep mf).SH bf Dh).congr (s':={s with S:=pC s.S b}) (fun i hi=>by
    show ba (qU s.S b P.q) P.q ((s.S P.q).erase b) i=(s.S i).erase b
    unfold ba qU
    by_cases e:i=P.q
    ·rw[if_pos e,e]
    ·rw[if_neg e,if_pos aj]) rfl rfl rfl
   have iw:=ae WJ;have cr:=ae<|(HO.cE mf).setCell (p:=⟨j.mb,4,none⟩) (.inl (.inl rfl)) (.slice A3 n3 c3);clear WJ bf De UW x3 x4 HA HO mf wZ HW wT;change Code.wp _ _ _ _ (W3.setCell ⟨j.mb,4,none⟩ (.slice A3 n3 c3));generalize W3.setCell ⟨j.mb,4,none⟩ (.slice A3 n3 c3)=W4 at *;have aco:(qi:Int)<P.q:=by have:=Xk.out;omega
   have HL4:=aq ((pC s.S b qi).length≤10000) (by
    have h1:((s.S qi).erase b).length≤(s.S qi).length:=List.length_erase_le;have:=ud (i:=qi) HD
    show((s.S qi).erase b).length≤10000
    omega)
   have k1:aM W4.drew j.mb 3 (bp j.qb P.q j.qc):=iw.c3;have k2:aM W4.drew j.qb qi (qv qi):=(iw.cq Xk).1;refine pG (fun w':World=>aM w' j.mb 3 (bp j.qb P.q j.qc)∧aM w' j.qb qi (qv qi)) 14 fun aC=>?_
   refine bE [0,1,2,3,4,5,6,7,8,9,10,11,12] ?_;refine cX 13 fun Kc hK=>?_
   go_simp;refine(fQ b W4.drew ((iw.q qi Xk).ar ((af.ai au W4).drew) fun _ _=>id) HL4).mono ?_;rintro e W5 ⟨v5,rfl,fz,Gh⟩;obtain⟨A5,n5,c5,rfl⟩:∃A n c,v5=Value.slice A n c:=by obtain⟨A,c,e,_⟩:=fz.shape;exact⟨A,_,c,e⟩
   have rz:=ae fz;have HN5:=ae<|(af.ai au W4).drew.trans Gh;have k1:=Gh.cell aC.1 id;have k2:=Gh.cell aC.2 id;clear fz Gh;refine Ai hK fun aC=>?_
   clear hK;refine dE ?_;have Bf:=ae<|iw.keep HN5;obtain⟨hc5,WA⟩:=Bf.cq Xk;clear aC k1 k2;go_upto_region 6 with fail;have Rj:aA 3 W5 j.B (.slice A5 n5 c5) (b :: pC s.S b qi):=rz.low iw.bs;have AP:=ae<|Bf.tj Xk Rj;have iu:=ae<|(cr.cE HN5).setCell (p:=⟨j.qb,qi,none⟩) (.inl (.inr (.inl rfl))) (.slice A5 n5 c5);clear hc5 WA Rj Bf iw cr HN5 rz;change Code.wp _ _ _ _ (W5.setCell ⟨j.qb,qi,none⟩ (.slice A5 n5 c5));generalize W5.setCell ⟨j.qb,qi,none⟩ (.slice A5 n5 c5)=W6 at *;have x6:aM W6.drew j.mb 6 (bp j.eb 64 64):=AP.c6;have x7:aF W6.drew j.mb 7 s.now:=AP.c7;have x1:aF W6.drew j.mb 1 P.iC:=AP.ak.ag rfl;have Gf:=uv.out;have ew:IntKind.i64.wrap (s.now+P.iC)=s.now+P.iC:=by rw[IntKind.wrap_i64];omega
   refine gg (fun w':World=>w'=W6.drew) 14 ?_ ?_
   ·rfl
   intro aC;refine bE [0,1,2,3,4,5,6,7,8,9,10,11,12,13] ?_;refine dE ?_;have JZ:=NZ.out;have Oi:=GO.out;have xe:aF W6.drew j.eb n (s.exp n):=AP.ex.ag (tq _ GO);have xf:W6.drew.frozen? ⟨j.eb,n,none⟩=false:=AP.ex.free n;have R5:(n:Int)<64:=aj;subst JZ;clear aC x6 x7 x1;go_wp2
   (try simp only[Exit.inBlock,Exit.then])
   refine bodyPost_end (results_none rfl _ _ _) rfl ?_;have h9:=AP.aat Oi (s.now+P.iC) Dh;have o9:=iu.setCell (p:=⟨j.eb,n,none⟩) (.inl (.inr (.inr (.inr rfl)))) (ah (s.now+P.iC));exact⟨rfl,⟨_,_,h9.keep ((af.ai au _).drew)⟩,o9.drew⟩
end
theorem sS {l:List Int}{L:Nat}(h:l.length=L+1):l.getD L 0=gU l:=by
 unfold gU;rw[List.getLastD_eq_getLast?,List.getLast?_eq_getElem?,h,List.getD_eq_getElem?_getD];have h1:L<l.length:=aj;simp[h1]
def Zg (c:Nat)(qv nv:Value)(W wr:World):Prop:=∃k m:Nat,1≤m∧m≤c∧k+Lib.bitLen m=Lib.bitLen c∧qv=ah k∧nv=ah m∧W=wr
def Zh (j:iU)(P:cI)(s1:cC)(w:World)(iv:Value)(wr:World):Prop:=
 ∃k:Nat,1≤k∧k≤P.q∧iv=ah k∧jg j P (bF P s1 (k - 1)) wr∧af (RF j) w wr
section
variable {j:iU}{P:cI}{s:cC}{w:World}
theorem nu{P:Prop}(h:P:=by
 go_upto_region 13 with fail
 go_quiet (fail)
 go_wp2
 go_roundw
 case rel=>exact⟨k+1,aj,cD,by push_cast;rfl,by show jg j P (bF P s1 k) _;rw[HT.out,HD.out];exact⟨gv,qv,HA.keep ((af.ai au _).drewN _)⟩,HO.drewN _⟩
 case measure=>simp[intOf];have:=cD.out;omega):P:=h
theorem oQ{P:Prop}(h:P:=by
 clear R7 hqq;go_upto_region 10 with(go_at_call 137;refine HF.mono ?_;rintro e W2 ⟨rfl,kJ,bq⟩;have b8:=ae kJ;have YS:=ae<|AB.trans bq;clear kJ bq)
 go_loopw [6] (fun iv wr=>Zh j P s1 w iv wr) (fun iv _=>P.q - (intOf iv).toNat)
 case atStart=>exact⟨1,dX _,AJ,rfl,b8,YS⟩
 case round=>
  clear b8 YS;obtain⟨k,E8,hk,rfl,hm,ho⟩:=hrel;obtain⟨gv,qv,hA⟩:=hm;have HA:=ae hA;have HO:=ae ho;have HK1:=ae E8;have x3:=hA.c3;clear hA ho
  by_cases aY:k<P.q
  ·have jk:(k:Int)<P.q:=aj;have cD:=ae aY;have bQ:=ae<|l3 HK (k - 1) aj;have hT:bF P s1 k=fA P (bF P s1 (k - 1)) k:=by
    obtain⟨m,rfl⟩:∃m,k=m+1:=⟨k - 1,aj⟩;rfl
   have HT:=ae hT;have Gf:(bF P s1 (k - 1)).now=s1.now:=bQ.now;have Ng:=ae Gf;clear hT Gf;generalize bF P s1 (k - 1)=sk at *;have Dn:=(HA.cq aY).1;have bf:=HA.q k aY;obtain⟨A,c,eq,h1,h2⟩:=bf.shape;have s7:=bf.at;rw[eq]at Dn s7;have acy:IntKind.i64.wrap ((k:Int)+1)=(k:Int)+1:=by rw[IntKind.wrap_i64];omega
   by_cases hS:sk.S k= []
   ·have HD:=ae (show fA P sk k=sk by unfold fA kD;rw[if_neg (by simp[hS])]);have hz:(sk.S k).length=0:=by rw[hS];rfl
    rw[hz]at Dn;clear bf eq h1 h2 s7 hS hz aY hk;exact nu
   ·have bL:=pV hS;have Jv:=bQ.ok.dj.lC bL;have NL:=ud (i:=k) bQ.ok.dj;obtain⟨L,hL⟩:∃L,(sk.S k).length=L+1:=⟨(sk.S k).length - 1,by have:=List.length_pos_iff.2 hS;omega⟩;have qw:(sk.S k).getD L 0=gU (sk.S k):=sS hL;obtain⟨g,o,rfl,pE⟩:=s7.ag (i:=L) aj;rw[qw]at pE;rw[hL]at Dn;have AL:=ae (show kD sk k=decide (sk.exp (gU (sk.S k))<sk.now) by unfold kD;simp[hS]);have dZ:=aq (fA P sk k=if kD sk k=true then fM P sk (k - 1) (gU (sk.S k))else sk) (rfl);clear bf eq h1 h2 s7 hS hk bL qw;generalize gU (sk.S k)=b at *;obtain⟨m,rfl⟩:=Int.eq_ofNat_of_zero_le Jv.1;have SN:m<64:=aj;have abw:=ae SN;have xe:aF wr j.eb m (sk.exp m):=HA.ex.ag (tq _ SN);have x6:=HA.c6;have x7:=HA.c7;have NC:(m:Int)<64:=aj;have hL1:(L:Int)<(L:Int)+1:=aj;have hLp:(0:Int)<(L:Int)+1:=aj;have hLw:IntKind.i64.wrap ((L:Int)+1 - 1)=L:=by rw[IntKind.wrap_i64];omega
    have hLL:L<64:=aj;have hkw:IntKind.i64.wrap ((k:Int) - 1)=(k:Int) - 1:=by rw[IntKind.wrap_i64];omega
    clear Jv SN NL
    by_cases hd:sk.exp m<sk.now
    ·have HD:=ae (show fA P sk k=fM P sk (k - 1) m by rw[dZ.out,if_pos (by rw[AL.out];exact decide_eq_true hd)]);have HF:=ae<|fun q=>tD (qi:=k - 1) (n:=m) (w:=wr.drewN q) ⟨gv,qv,HA.keep ((af.ai au wr).drewN q)⟩ bQ.ok.dj HP (by have:=cD.out;omega) abw (by rw[Ng.out];exact uv);rw[show((k - 1:Nat):Int)=(k:Int) - 1 by omega]at HF;generalize hex:sk.exp m=ex at *;generalize Gf:sk.now=nw at *;clear hex Gf dZ AL;go_upto_region 13 with fail
     go_quiet (fail)
     have x3q:aM (wr.drewN nq) j.mb 3 (bp j.qb P.q j.qc):=x3;have acG:aM (wr.drewN nq) j.qb k (.slice (some ⟨g,o,none⟩) (L+1) c):=Dn;have X7:aF (wr.drewN nq) g (o+L) m:=pE;have Vx:=ae<|HF nq;have HOQ:=ae<|HO.drewN nq;clear x3 x6 x7 xe Dn pE HF HO HA;generalize wr.drewN nq=W1 at *;go_wp2_with (go_at_call 137;refine Vx.mono ?_;rintro e W2 ⟨rfl,kJ,bq⟩;have fX:=ae kJ;have bu:=ae bq;clear kJ bq)
     go_roundw
     case rel=>exact⟨k+1,aj,cD,by push_cast;rfl,by show jg j P (bF P s1 k) _;rw[HT.out,HD.out];exact fX,HOQ.trans bu⟩
     case measure=>simp[intOf];have:=cD.out;omega
    ·have HD:=ae (show fA P sk k=sk by rw[dZ.out,if_neg (by rw[AL.out];simpa using hd)]);generalize hex:sk.exp m=ex at *;generalize Gf:sk.now=nw at *;clear hex Gf dZ AL;have E9:nw≤ex:=aj;clear hd;exact nu
  ·obtain rfl:k=P.q:=aj;clear aY hk;go_wp2_with fail
   go_end0
   exact⟨rfl,by rw[abE.out];exact⟨gv,qv,HA⟩,HO⟩):P:=h
theorem pY {n:Nat}(h:jg j P s w)(bN:dJ P s)(hP:P.Ok)(hn:n<64)(QN:s.often n+1≤s.now)(Dx:s.now≤2000000000):
 Calls Tryz.prog 130 #[aO j.mb,ah n] w fun e w'=>e= .returned (.tuple #[])∧jg j P (dV P s n) w'∧af (RF j) w w':=by
 obtain⟨gv,Z1,QU⟩:=h;have R5:(n:Int)<64:=aj;have MX:=hP.q8;have AJ:=ae hP.q1;have GO:=ae hn;have HP:=ae hP;have HK:=aq (dJ P (ea P (cG s n) n)) (tI hP bN QN aj R5);have HDJ:=aq (dJ P (cG s n)) (⟨bN.dj,bN.now,fun b=>by
  have:=bN.often b
  show 0≤aV s.often n _ b∧aV s.often n _ b≤s.now
  unfold aV
  split
  ·rename_i e;subst e;omega
  ·exact this⟩)
 have uv:=aq (0≤(ea P (cG s n) n).now∧(ea P (cG s n) n).now≤4000000000) (⟨bN.now,by show s.now≤_;omega⟩);have abE:=aq (dV P s n=bF P (ea P (cG s n) n) (P.q - 1)) (rfl);have uZ:=ae (show ea P (cG s n) n=fM P (cG s n) (JT P (s.often n+1)) n by unfold ea;show fM P (cG s n) (JT P (aV s.often n (s.often n+1) n)) n=_;unfold aV;rw[if_pos rfl]);obtain⟨c,hc⟩:=Int.eq_ofNat_of_zero_le (show 0≤s.often n+1 by have:=bN.often n;omega);have uE:1≤c:=by have:=bN.often n;omega
 have qZ:c≤2000000000:=aj;have Kk:=ae uE;rw[hc]at uZ;have Xi:=aq (JT P (c:Int)=min (Lib.bitLen c - 1) (P.q - 1)) (rfl);have hcw:IntKind.i64.wrap (s.often n+1)=c:=by rw[IntKind.wrap_i64];omega
 have x5:=QU.c5;have xo:aF w j.ob n (s.often n):=QU.of.ag (tq _ hn);have xof:w.frozen? ⟨j.ob,n,none⟩=false:=QU.of.free n;have dZ:=aq (jg j P (cG s n) (w.setCell ⟨j.ob,n,none⟩ (ah c))) (⟨gv,Z1,by have:=QU.SG hn (s.often n+1) AJ.out;rw[hc]at this;show cW j P gv Z1 {s with often:=aV s.often n (s.often n+1)} _;rw[hc];exact this⟩);have AB:=aq (af (RF j) w (w.setCell ⟨j.ob,n,none⟩ (ah c))) ((af.ai _ w).setCell (p:=⟨j.ob,n,none⟩) (.inl (.inr (.inr (.inl rfl)))) _);have HMN:=aq (0≤(cG s n).now∧(cG s n).now≤4000000000) (⟨bN.now,by show s.now≤_;omega⟩);generalize ea P (cG s n) n=s1 at *;clear QU bN QN hP hn Dx uE
 go_enter Tryz.func130,Tryz.ntmps130
 go_upto_region 2 with fail;clear x5 xo xof;change Code.wp _ _ _ _ (w.setCell ⟨j.ob,n,none⟩ (ah c));generalize w.setCell ⟨j.ob,n,none⟩ (ah c)=W1 at *;obtain⟨gv,qv1,hA1⟩:=dZ.out;have y5:=hA1.c5;have yo:aF W1 j.ob n c:=by
  have h1:aF W1 j.ob n (aV s.often n (s.often n+1) n):=hA1.of.ag (tq _ GO);unfold aV at h1;rw[if_pos rfl,hc]at h1;exact h1
 have y3:=hA1.c3;clear hA1 hc;go_upto_region 3 with fail
 go_loopw [4,5] (fun qv nv wr=>Zg c qv nv W1 wr) (fun _ nv _=>(intOf nv).toNat)
 case atStart=>exact⟨0,c,Kk,dX _,Nat.zero_add _,rfl,rfl,rfl⟩
 case round=>
  obtain⟨k,m,NC,hmc,hkm,rfl,rfl,rfl⟩:=hrel;have Fa:=Lib.bitLen_half m aj aj
  by_cases aY:1<m
  ·have jk:(1:Int)<m:=aj;have aaP:k≤64:=by have:=bitLen_le c;omega
   have hkw:IntKind.i64.wrap ((k:Int)+1)=(k:Int)+1:=by rw[IntKind.wrap_i64];omega
   have Ay:wrap64 ((m:Int) / 2)=((m / 2:Nat):Int):=by unfold wrap64;omega
   have HM:=aq (1≤m / 2∧m / 2≤c∧k+1+Lib.bitLen (m / 2)=Lib.bitLen c∧m / 2<m) (⟨aj,aj,aj,aj⟩);have XA:=ae Ay;have HMS:=ae (show(intOf (Value.int .i64 ((m / 2:Nat):Int))).toNat<(intOf (Value.int .i64 (m:Int))).toNat by show m / 2<m;omega);clear Fa hkm NC hmc aY Ay;go_wp2
   go_roundw
   case rel=>exact⟨k+1,m / 2,HM.1,HM.2.1,HM.2.2.1,by push_cast;rfl,by rw[XA.out],rfl⟩
   case measure=>rw[XA.out];exact HMS
  ·obtain rfl:m=1:=aj;have h1:Lib.bitLen 1=1:=by rfl
   rw[h1]at hkm;have aaP:k≤64:=by have:=bitLen_le c;omega
   have hqw:IntKind.i64.wrap ((P.q:Int) - 1)=(P.q:Int) - 1:=by rw[IntKind.wrap_i64];omega
   have hqq:JT P (c:Int)=min k (P.q - 1):=by rw[Xi.out];congr 1;omega
   clear Fa NC hmc hkm h1 aY
   by_cases R7:k≤P.q - 1
   ·have aaN:(k:Int)≤(P.q:Int) - 1:=by have:=AJ.out;omega
    have HF:=ae<|tD (qi:=k) (n:=n) dZ HDJ.dj HP (by have:=AJ.out;omega) GO HMN;rw[show fM P (cG s n) k n=s1 by rw[uZ.out,hqq,Nat.min_eq_left R7]]at HF;exact oQ
   ·have aaN:(P.q:Int) - 1<k:=by have:=AJ.out;omega
    have HF:=ae<|tD (qi:=P.q - 1) (n:=n) dZ HDJ.dj HP (by have:=AJ.out;omega) GO HMN;rw[show fM P (cG s n) (P.q - 1) n=s1 by rw[uZ.out,hqq,Nat.min_eq_right aj],show((P.q - 1:Nat):Int)=(P.q:Int) - 1 by have:=AJ.out;omega]at HF;exact oQ
end
theorem GY {P:Program}(w:World){o:Oper}{a:Act}{K:Act→World→Prop}{Q:Exit→Act→World→Prop}(s x:Operand)(t e:TypeId)
 (ho:o.op= .call {callee:=.builtin .append,args:=#[s,x],argTypes:=#[t,t]})
 (ee:(P.info? e).map (fun i=>(i.zero,i.size,i.bytes))=some (some (ah 0),1,8)) (ht:P.underlying t=some (.slice e))
 (base:Nat) (v:Value) (l:List Int) (hs:a.eval s=v) (bf:aA e w base v l) (base':Nat) (u:Value) (l':List Int) (hx:a.eval x=u) (hu:aA e w base' u l') (hlen:l.length+l'.length≤1000000) (lN:base≤w.heap.size)
 (h:∀v' w',aA e w' base v' (l ++ l')→af (aJ v) w w'→K (a.put o.dst v') w'):o.wp P a w K Q:=by
 rcases hu.2 with⟨rfl,h0⟩|⟨g,cap,cur,rfl,hb,hg,hn,hm,hsz,QK⟩
 ·obtain rfl:l'= []:=List.eq_nil_of_length_eq_zero h0;have hr:=pw (P:=P) w t o.type e ee ht bf;unfold Oper.wp execOp;simp only[ho,resolve,invoke,builtin,Sem.run_bind,Sem.run_pure,Result.andThen_ok,List.map_toArray,List.map_cons,List.map_nil,hs,hx,hr];exact h v w aee (af.ai _ _)
 ·obtain⟨i0,hi,uS,Da,yO⟩:=info_parts ee;have pE:=fun j u hj=>World.ownsRow.cells hu (g:=g) rfl j u hj
  obtain⟨v',w',hr,h2,h3,_,h5⟩:=run_append_own_at (P:=P) w base t o.type e i0 _ 1 8 ht hi uS Da yO rfl aE v l.length (l.map (Value.int .i64)) bf ⟨g,0,none⟩ l'.length cap (l'.map (Value.int .i64)) (by simp) (fun j u hj=>pE j u hj) (fun u hu=>by obtain⟨z,_,rfl⟩:=List.mem_map.1 hu;rfl) eV aj lN;unfold Oper.wp execOp;simp only[ho,resolve,invoke,builtin,Sem.run_bind,Sem.run_pure,Result.andThen_ok,List.map_toArray,List.map_cons,List.map_nil,hs,hx,hr];refine h v' w' ?_ ((af.ai _ _).grown h3 fun k hk=>.inl hk);unfold aA;rw[List.map_append,List.length_append];exact h2
theorem FR {P:cI}{s:cC}{b:Int}(h:b∈aI P s):∃i,i<P.q∧b∈s.S i:=cw.1 h
theorem Mb {P:cI}{s:cC}{b:Int}(h:dJ P s){i:Nat}(hi:b∈s.S i)(k:Nat):ba s.S i ((s.S i).erase b) k=pC s.S b k:=by
 unfold ba pC
 by_cases e:k=i
 ·rw[if_pos e,e]
 ·rw[if_neg e,List.erase_of_not_mem fun h2=>e (h.dj.dj h2 hi)]
def T0 (P:cI)(s:cC)(w:World)(v i:Value)(wr:World):Prop:=
 ∃(k:Nat) (L:List Int),k≤P.q∧i=ah k∧L ++ bR s.S (P.q - k)=aI P s∧aA 3 wr w.heap.size v L∧af au w wr
section
variable {j:iU}{P:cI}{s:cC}{w:World}
theorem Ec {b:Int}(h:jg j P s w)(hq:P.q≤8)(hb:b∉aI P s):
 Calls Tryz.prog 108 #[aO j.mb,ah b] w fun e w'=>e= .returned (.bool false)∧w=w':=by
 have HO:=ae<|yd h hq fun i hi h2=>hb (cw.2 ⟨i,hi,h2⟩);clear h hb
 go_enter Tryz.func108,Tryz.ntmps108
 go_wp2_with (go_at_call 129;refine HO.mono ?_;rintro e W1 ⟨rfl,rfl⟩);go_ret;exact⟨rfl,rfl⟩
theorem wk {n:Nat}(h:jg j P s w)(bN:dJ P s)(hP:P.Ok)(h1:s.now≤1000000000)(hb:(n:Int)∈aI P s):
 Calls Tryz.prog 108 #[aO j.mb,ah n] w fun e w'=>e= .returned (.bool true)∧jg j P (kC P s n) w'∧af (RF j) w w':=by
 obtain⟨i,hi,M4⟩:=FR hb;have hn:=bN.dj.lC M4;have HO:=ae<|ye h bN.dj hP.q8 hi M4;obtain⟨gv,qv,hA⟩:=h;have x7:=hA.c7;have xf:=hA.ak.free 7;have Gf:=bN.now;have hw:IntKind.i64.wrap (s.now+1)=s.now+1:=by rw[IntKind.wrap_i64];omega
 have dZ:=aq (jg j P (bt s) (w.setCell ⟨j.mb,7,none⟩ (ah (s.now+1)))) (⟨gv,qv,hA.XI (s.now+1) hP.q1⟩);have AB:=aq (af (RF j) w (w.setCell ⟨j.mb,7,none⟩ (ah (s.now+1)))) ((af.ai _ w).setCell (p:=⟨j.mb,7,none⟩) (.inl (.inl rfl)) _);have HU:=ae<|pY (n:=n) dZ (qz bN) hP aj (by have:=(bN.often n).2;show s.often n+1≤s.now+1;omega) (by show s.now+1≤_;omega);have Wj:(i:Int)<8:=by have:=hP.q8;omega
 clear hA bN hP hb M4 hi hn
 go_enter Tryz.func108,Tryz.ntmps108
 go_upto_region 4 with(go_at_call 129;refine HO.mono ?_;rintro e W1 ⟨rfl,rfl⟩);clear x7 xf HO;change Code.wp _ _ _ _ (w.setCell ⟨j.mb,7,none⟩ (ah (s.now+1)));generalize w.setCell ⟨j.mb,7,none⟩ (ah (s.now+1))=W1 at *;go_wp2_with (go_at_call 130;refine HU.mono ?_;rintro e W2 ⟨rfl,kJ,bq⟩);go_ret;exact⟨rfl,kJ,AB.trans bq⟩
theorem Pb {n:Nat}(h:jg j P s w)(bN:dJ P s)(hP:P.Ok)(hb:(n:Int)∈aI P s):
 Calls Tryz.prog 110 #[aO j.mb,ah n] w fun e w'=>e= .returned (.bool true)∧jg j P (ub s n) w'∧af (RF j) w w':=by
 obtain⟨i,hi,M4⟩:=FR hb;have hn:=bN.dj.lC M4;have HO:=ae<|ye h bN.dj hP.q8 hi M4;obtain⟨gv,qv,hA⟩:=h;have HA:=ae hA;have HI:=ae hi;have HL:=ae (show(s.S i).length≤10000 by have:=ud (i:=i) bN.dj;omega);have rh:=ae<|Mb bN M4;have NW:=ae<|bN.dj.nodup i;have Wj:(i:Int)<8:=by have:=hP.q8;omega
 have hii:(i:Int)<P.q:=aj;have k1:aM w.drew j.mb 3 (bp j.qb P.q j.qc):=hA.c3;have k2:aM w.drew j.qb i (qv i):=(hA.cq hi).1;clear hA bN hP hb M4 hi hn
 go_enter Tryz.func110,Tryz.ntmps110
 go_upto_region 4 with(go_at_call 129;refine HO.mono ?_;rintro e W1 ⟨rfl,rfl⟩);refine pG (fun w':World=>aM w' j.mb 3 (bp j.qb P.q j.qc)∧aM w' j.qb i (qv i)) 14 fun aC=>?_
 refine bE [0,1,2,3,4,5,6,7,8,9,10,11,12] ?_;refine cX 13 fun Kc hK=>?_
 go_simp;refine(cB (n:Int) w.drew ((HA.q i HI).ar ((af.ai au w).drew) fun _ _=>id) HL).mono ?_;rintro e W1 ⟨v1,rfl,aK,qM⟩;obtain⟨A1,n1,c1,rfl⟩:∃A n c,v1=Value.slice A n c:=by obtain⟨A,c,e,_⟩:=aK.shape;exact⟨A,_,c,e⟩
 have w7:=ae aK;have AK:=ae<|(af.ai au w).drew.trans qM;have k1:=qM.cell aC.1 id;have k2:=qM.cell aC.2 id;clear aK qM;refine Ai hK fun aC=>?_
 clear hK;refine dE ?_;obtain⟨uE,UX⟩:=(HA.keep AK).cq HI;clear aC k1 k2;go_wp2;go_ret;have bf:aA 3 W1 j.B (.slice A1 n1 c1) ((s.S i).erase n):=by
  have h1:=w7.low HA.bs;rw[erase_filter NW.out]at h1;exact h1
 exact⟨rfl,⟨gv,_,((HA.keep AK).tj HI bf).congr (fun k _=>rh k) rfl rfl rfl⟩,(((af.ai (RF j) w).cE AK).setCell (p:=⟨j.qb,i,none⟩) (.inl (.inr (.inl rfl))) _)⟩
theorem Pe (h:jg j P s w)(bN:dJ P s)(hP:P.Ok):
 Calls Tryz.prog 49 #[aO j.mb] w fun e w'=>∃v,e= .returned v∧aA 3 w' w.heap.size v (aI P s)∧af au w w':=by
 obtain⟨gv,qv,hA⟩:=h;have HA:=ae hA;have MX:=hP.q8;have lD:=aq ((aI P s).length≤512) (by have:=zP (S:=s.S) (fun i=>ud (i:=i) bN.dj) P.q;show(bR s.S P.q).length≤512;omega);clear hA bN hP
 go_enter Tryz.func49,Tryz.ntmps49
 go_upto_region 3 with fail
 go_loopw [3,4] (fun v i wr=>T0 P s w v i wr) (fun _ i _=>P.q - (intOf i).toNat)
 case atStart=>exact⟨0,[],fH _,rfl,rfl,aA.nil _ _ _,af.ai _ _⟩
 case round=>
  obtain⟨k,L,hk,rfl,hL,bf,ho⟩:=hrel;have HL:=ae bf;have HO:=ae ho;have x3:=(HA.keep ho).c3
  by_cases aY:k<P.q
  ·have jk:(k:Int)<P.q:=aj;obtain⟨m,hm⟩:∃m,P.q=m+1+k:=⟨P.q - 1 - k,aj⟩;have HM:=ae (show m<P.q by omega);have cD:=ae aY;have hE:(L ++ s.S m) ++ bR s.S m=aI P s:=by
    rw[←hL,show P.q - k=m+1 by omega,bR,List.append_assoc]
   have HE:=ae (show(L ++ s.S m) ++ bR s.S (P.q - (k+1))=aI P s by rw[show P.q - (k+1)=m by omega];exact hE);have jY:=ae (show L.length+(s.S m).length≤1000000 by
    have h1:=lD.out;rw[←hE,List.length_append,List.length_append]at h1;omega)
   have Nz:IntKind.i64.wrap ((P.q:Int) - 1)=(P.q:Int) - 1:=by rw[IntKind.wrap_i64];omega
   have Z5:IntKind.i64.wrap (m:Int)=m:=by rw[IntKind.wrap_i64];omega
   have hw3:(P.q:Int) - 1 - k=m:=aj;have hmi:(m:Int)<P.q:=aj;clear hL hE bf ho aY hk hm;go_upto_region 5 with fail;have k1:aM wr.drew j.mb 3 (bp j.qb P.q j.qc):=x3;have k2:aM wr.drew j.qb m (qv m):=(((HA.keep HO).cq HM).1);refine pG (fun w':World=>aM w' j.mb 3 (bp j.qb P.q j.qc)∧aM w' j.qb m (qv m)) 16 fun aC=>?_
   refine bE [0,1,2,3,4,5,6,7,8,9,10,11,12,13,14] ?_;refine cX 15 fun Kc hK=>?_
   rw[if_pos (by rfl)];refine GY _ (.tmp 14) (.tmp 28) 47 3 rfl gp Tryz.underlying47 w.heap.size u3 L rfl (HL.ar ((af.ai au _).drew) fun _ _=>id) j.B (qv m) (s.S m) rfl ((HA.q m HM).ar (HO.drew) fun _ _=>id) jY HO.size ?_;intro v2 W2 h3 h4;have uW:=ae h3;have bu:=ae<|(HO.drew).aG h4 fun q hq=>.inr (HL.lt q hq).1;have k1:=h4.cell aC.1 (fun hq=>by have h9:w.heap.size≤j.mb:=(HL.lt _ hq).1;have:=HA.lt;have:=HA.bs;omega);have k2:=h4.cell aC.2 (fun hq=>by have h9:w.heap.size≤j.qb:=(HL.lt _ hq).1;have:=HA.lt;have:=HA.bs;omega);clear h3 h4;refine Ai hK fun aC=>?_
   clear hK;refine dE ?_;clear aC k1 k2 x3;go_wp2
   go_roundw
   case rel=>exact⟨k+1,L ++ s.S m,cD,by push_cast;rfl,HE,uW,bu⟩
   case measure=>simp[intOf];have:=cD.out;omega
  ·obtain rfl:k=P.q:=aj;rw[Nat.sub_self,show bR s.S 0= []from rfl,List.append_nil]at hL;clear aY hk bf ho;go_wp2;go_ret;exact⟨_,rfl,by rw[←hL];exact HL,HO⟩
end
def iJ (v:Int)(g:Bool)(e:Int):Array Value:=#[ah v,.bool g,ah e]
theorem qy (v:Int)(g:Bool)(e:Int):(iJ v g e).all (·.oneCell')=true:=by simp[iJ,Value.oneCell']
theorem aA.gb {t:TypeId}{w:World}{base:Nat}{v:Value}{xs:List Int}(h:aA t w base v xs){k:Nat}(hk:aJ v k):∃cs,Box w k t cs:=by
 rcases h.2 with⟨rfl,_⟩|⟨g,cap,cur,rfl,_,hg,_⟩
 ·exact absurd hk bo
 ·obtain rfl:=aD.1 hk;exact⟨cur,hg⟩
theorem aA.some_ {t:TypeId}{w:World}{base:Nat}{v:Value}{xs:List Int}(h:aA t w base v xs)(hne:xs≠[]):∃g c,v=bp g xs.length c∧xs.length≤c∧c≤maxLen:=by
 rcases h.2 with⟨_,h0⟩|⟨g,cap,cur,rfl,_,_,h1,h2,_⟩
 ·exact absurd (List.eq_nil_of_length_eq_zero h0) hne
 ·exact⟨g,cap,rfl,h1,h2⟩
theorem aA.take {t:TypeId}{w:World}{base m c:Nat}{A:Option Addr}{xs:List Int}(h:aA t w base (.slice A xs.length c) xs)(hm:m≤xs.length):aA t w base (.slice A m c) (xs.take m):=by
 rcases h.2 with⟨e,h0⟩|⟨g,cap,cur,e,hb,hg,hn,hx,hs,ht⟩
 ·injection e with e1 e2 e3;subst e1 e3;obtain rfl:m=0:=aj;exact aA.nil _ _ _
 ·injection e with e1 e2 e3;subst e1 e3;refine⟨by simp,.inr ⟨g,c,cur,by rw[List.length_take,Nat.min_eq_left hm],hb,hg,by rw[List.length_take];omega,hx,hs,?_⟩⟩;rw[Nat.mul_one]at ht ⊢;rw[List.length_take,Nat.min_eq_left hm,List.map_take,←ht,List.take_take,Nat.min_eq_left hm]
section
variable {j:iU}{P:cI}{gv:Value}{qv:Nat→Value}{s s':cC}{w w':World}
theorem cW.jZ (h:cW j P gv qv s w){g:Nat}{cs:Array Value}(hb:Box w g 186 cs)(ho:af (az g) w w'):cW j P gv qv s w':=by
 have nI:∀{v:Value} {l:List Int},aA 3 w j.B v l→∀k,aJ v k→¬az g k:=fun hv k hk e=>by
  obtain⟨c2,h2⟩:=hv.gb hk;exact(h2.off hb aE) e
 refine⟨ho.ak h.ak (h.ak.off hb aE),h.row.ar ho fun k hk e=>?_,fun i hi=>(h.q i hi).ar ho (nI (h.q i hi)),h.g.ar ho (nI h.g),ho.ak h.of (h.of.off hb aE),ho.ak h.ex (h.ex.off hb aE),h.lt,h.ne,Nat.le_trans h.bs ho.size⟩;obtain⟨c2,h2⟩:=h.row.ak hk;exact(h2.off hb aE) e
theorem jg.jZ (h:jg j P s w){g:Nat}{cs:Array Value}(hb:Box w g 186 cs)(ho:af (az g) w w'):jg j P s w':=by
 obtain⟨gv,qv,hA⟩:=h;exact⟨gv,qv,hA.jZ hb ho⟩
theorem jg.keep (h:jg j P s w)(ho:af au w w'):jg j P s w':=by
 obtain⟨gv,qv,hA⟩:=h;exact⟨gv,qv,hA.keep ho⟩
theorem jg.mK (h:jg j P s w){k:Nat}(hk:w.heap.size≤k):¬RF j k:=by
 obtain⟨gv,qv,hA⟩:=h;have:=hA.lt;have:=hA.bs;rintro(e|e|e|e)<;>omega
end
def vZ (j:iU)(P:cI)(s:cC)(b:Int)(w:World)(e:Ending)(w':World):Prop:=
 e= .returned (.agg (iJ (cP P s b).2.1 (cP P s b).2.2 0))∧jg j P (cP P s b).1 w'∧af (RF j) w w'
def Zn (s:cC)(q0:Nat)(W:World)(qv:Value)(wr:World):Prop:=∃k:Nat,k≤q0∧qv=ah k∧W=wr
theorem rT {P:cI}{s:cC}(h:dJ P s){i:Nat}{v:Int}(hi:i<P.q)(hv:v∈s.S i)(k:Nat):ba (ba s.S i ((s.S i).erase v)) P.q (v :: s.S P.q) k=uA s.S P.q v k:=by
 have hg:v∉s.S P.q:=fun h2=>by have:=h.dj.dj h2 hv;omega
 unfold uA bm;unfold ba pC
 by_cases e:k=P.q
 ·rw[if_pos e,if_pos e,List.erase_of_not_mem hg]
 ·rw[if_neg e,if_neg e]
  by_cases e2:k=i
  ·rw[if_pos e2,e2]
  ·rw[if_neg e2,List.erase_of_not_mem fun h2=>e2 (h.dj.dj h2 hv)]
theorem rV:∀{l:List Int},l.Nodup→l.erase (gU l)=l.take (l.length - 1)
 | [],_=>rfl
 |a :: l,h=>by
  rw[eO]
  by_cases e:l= []
  ·subst e;simp
  ·rw[if_neg e];have hl:=pV e;have hne:a≠gU l:=fun h2=>(List.nodup_cons.1 h).1 (h2▸hl)
   have hp:=List.length_pos_iff.2 e;rw[List.erase_cons_tail (by simpa using hne),rV (List.nodup_cons.1 h).2,List.length_cons];obtain⟨m,hm⟩:∃m,l.length=m+1:=⟨l.length - 1,aj⟩;rw[hm];rfl
theorem yr {P:cI}{s:cC}(h:uH P s){q0:Nat}(hq:q0<P.q){v:Int}(hv:dq P s=v)(hm:v∈s.S q0):(bh P s).S P.q=v :: s.S P.q:=by
 show uA s.S P.q (dq P s) P.q=_
 rw[hv,←rT h.ok hq hm P.q];unfold ba;rw[if_pos rfl]
theorem CS {P:cI}{s:cC}(h:uH P s){q0:Nat}(hq:q0<P.q){v:Int}(hv:dq P s=v)(hm:v∈s.S q0)(hg:¬P.ghost<(s.S P.q).length+1):bJ P s=bh P s:=by
 unfold bJ;rw[yr h hq hv hm,List.length_cons,if_neg hg]
theorem CT {P:cI}{s:cC}(h:uH P s){q0:Nat}(hq:q0<P.q){v:Int}(hv:dq P s=v)(hm:v∈s.S q0)(hg:P.ghost<(s.S P.q).length+1):
 bJ P s= {bh P s with S:=pC (bh P s).S (gU (v :: s.S P.q))}∧∀k,ba (bh P s).S P.q ((v :: s.S P.q).take P.ghost) k=pC (bh P s).S (gU (v :: s.S P.q)) k:=by
 have hr:=h.ok.dj.lC hm;have hdj:xH (P.q+1) (bh P s).S:=h.ok.dj.uA (Nat.lt_succ_self _) (by rw[hv];exact hr.1) (by rw[hv];exact hr.2);have Sa:=yr h hq hv hm;refine⟨?_,fun k=>?_⟩
 ·unfold bJ;rw[Sa,List.length_cons,if_pos hg]
 ·unfold ba
  by_cases e:k=P.q
  ·rw[if_pos e,e]
   show _=((bh P s).S P.q).erase _
   rw[Sa,rV (by rw[←Sa];exact hdj.nodup P.q),List.length_cons];have:=h.gh
   congr 1
   omega
  ·rw[if_neg e]
   show _=((bh P s).S k).erase _
   rw[List.erase_of_not_mem];intro h2;have h3:gU (v :: s.S P.q)∈(bh P s).S P.q:=by rw[Sa];exact pV (by simp)
   exact e (hdj.dj h2 h3)
section
variable {j:iU}{P:cI}{s:cC}{w:World}
theorem Ed {n:Nat}(h:jg j P s w)(bN:dJ P s)(hP:P.Ok)(h1:s.now≤1000000000)(hn:n<64)(hb:(n:Int)∈aI P s):
 Calls Tryz.prog 109 #[aO j.mb,ah n] w (vZ j P s n w):=by
 have HB:=ae<|Box.fresh w 186 (iJ 0 false 0);have HO:=ae<|((af.ai au w).alloc (.cells (iJ 0 false 0) 186));have HR:=aq (jg j P s (w.alloc (.cells (iJ 0 false 0) 186))) (h.keep HO.out);have SM:(n:Int)≤63:=aj;have ta:=aq (∀k,w.heap.size≤k→¬RF j k) (fun k hk=>h.mK hk);clear h
 go_enter Tryz.func109,Tryz.ntmps109
 go_upto_region 1 with fail;obtain⟨rb,km⟩:∃rb,rb=w.heap.size:=⟨_,rfl⟩;have dt:=aq (w.heap.size≤rb) (Nat.le_of_eq km.symm);rw[←km]at HB ⊢;clear km;change Code.wp _ _ _ _ (w.alloc (.cells (iJ 0 false 0) 186));generalize w.alloc (.cells (iJ 0 false 0) 186)=W1 at *;have b8:=ae HB.out;have bc:=ae HO.out;have cy:=ae HR.out;clear HB HO HR;generalize W1=W2 at *;have HU:=ae<|wk cy.out bN hP h1 hb;have rh:=ae (show cP P s n=(kC P s n,0,false) by unfold cP;rw[if_pos hb]);clear bN hP h1 hb;go_upto_region 4 with(go_at_call 108;refine HU.out.mono ?_;rintro e W3 ⟨rfl,wK,bV⟩;have hG:=ae<|bV.ak b8.out (ta.out rb dt.out);have ej:=ae wK;have bI:=ae<|(bc.out.mono fun _ hb=>hb.elim).trans bV;clear wK bV);go_wp2_with (first|(refine iP (iJ 0 false 0) hG.out (qy _ _ _) ?_))
 (try simp only[Exit.inBlock,Exit.then])
 refine bodyPost_ret (results_cell_row rfl _ _ rb _ (iJ 0 false 0) (0,0) _ rfl (hG.out.aw _) Tryz.underlying186 rfl aS) rfl ?_;exact⟨by rw[rh.out],by rw[rh.out];exact ej.out.jZ hG.out ((af.ai (az rb) _).aw (.inl rfl) _),bI.out.aw (.inr dt.out) _⟩
theorem nK{P:Prop}(h:P:=by
 exact⟨by rw[rh.out],by rw[rh.out];exact Fh.out.jZ xm.out ((af.ai (az rb) _).aw (.inl rfl) _),l5.out.aw (.inr dt.out) _⟩):P:=h
theorem og{P:Prop}(h:P:=by
 refine bodyPost_ret (results_cell_row rfl _ _ rb _ (iJ v true 0) (0,0) _ rfl (xm.out.aw _) Tryz.underlying186 rfl aS) rfl ?_;exact nK):P:=h
theorem mU{P:Prop}(h:P:=by
 have pF:=ae GQ.out.1;have JE:=ae (show 1≤(bJ P t0).now∧(bJ P t0).now≤1000000001 by rw[GQ.out.2.1];exact Bs.out);have NT:=aq (∀y,(bJ P t0).often y+1≤(bJ P t0).now) (fun y=>by rw[GQ.out.2.1,GQ.out.2.2.1];exact Br.out y);have HNA:=aq ((n:Int)∉aI P (bJ P t0)) (fun h=>JK.out ((GQ.out.2.2.2.2 _).1 h).1);have rh:=ae GR.out;clear N4 GR AE Bs Br JK GQ KN Xd NR;generalize bJ P t0=t at *;obtain⟨gvp,qvp,J0⟩:=JF.out;have Kn:=ae J0;have VS:=J0.c4;obtain⟨Ap,cp,ep,Jw,Ge⟩:=J0.g.shape;have fF:=ef Ap cp _ (t.S P.q) n W (by rw[←ep];exact J0.g.at) (Nat.le_trans Jw Ge);rw[ep]at VS;clear ep Jw Ge J0
 by_cases bL:(n:Int)∈t.S P.q
 ·rw[decide_eq_true bL]at fF;have fF:=ae fF;have Fp:=ae (show bz P t n=t by unfold bz;rw[if_pos ((lT pF.out.dj).2 ⟨P.q,bL⟩)]);have Sl:=ae<|pY JF.out pF.out HP.out HN.out (NT.out n) (by have:=JE.out;omega);rw[Fp.out]at rh;clear bL;go_wp2_with (first|(go_at_call 18;refine fF.out.mono ?_;rintro e W8 ⟨rfl,rfl⟩)|(go_at_call 130;refine Sl.out.mono ?_;rintro e W9 ⟨rfl,AW,qu⟩;have DJ:=ae<|qu.ak JR.out (ta.out eb eB.out);have xm:=ae<|qu.ak JQ.out (ta.out rb dt.out);have Fh:=ae AW;have l5:=ae<|Fj.out.trans qu;clear AW qu)|(refine iy (iJ v true 0) DJ.out Tryz.underlying186 ?_)|(refine iP (iJ v true 0) xm.out (qy _ _ _) ?_))
  (try simp only[Exit.inBlock,Exit.then])
  exact og
 ·rw[decide_eq_false bL]at fF;have fF:=ae fF;have Fp:=ae (show bz P t n= {t with often:=aV t.often n 0} by
   unfold bz;rw[if_neg];intro h2;obtain⟨i,hi⟩:=(lT pF.out.dj).1 h2
   by_cases e:i<P.q
   ·exact HNA.out (cw.2 ⟨i,e,hi⟩)
   ·by_cases e2:i=P.q
    ·exact bL (e2▸hi)
    ·rw[pF.out.dj.out i aj]at hi;cases hi)
  have xp5:=Kn.out.c5;have xpo:aF W j.ob n (t.often n):=Kn.out.of.ag (tq _ HN.out);have xpf:W.frozen? ⟨j.ob,n,none⟩=false:=Kn.out.of.free n;have HRf:=aq (jg j P (bz P t n) (W.setCell ⟨j.ob,n,none⟩ (ah 0))) (⟨gvp,qvp,by rw[Fp.out];exact Kn.out.SG HN.out 0 AJ.out⟩);have iz:af (RF j) W (W.setCell ⟨j.ob,n,none⟩ (ah 0)):=(af.ai (RF j) W).setCell (p:=⟨j.ob,n,none⟩) (.inl (.inr (.inr (.inl rfl)))) _;have rA:=ae<|Fj.out.trans iz;have Kl:=ae<|iz.ak JQ.out (ta.out rb dt.out);have yY:=ae<|iz.ak JR.out (ta.out eb eB.out);have Bc:=ae<|lY pF.out (n:Int) JE.out.1 NT.out;clear bL iz;go_upto_region 19 with(go_at_call 18;refine fF.out.mono ?_;rintro e W8 ⟨rfl,rfl⟩);change Code.wp _ _ _ _ (W.setCell ⟨j.ob,n,none⟩ (ah 0));clear VS xp5 xpo xpf Fj JQ JR fF Kn JF;generalize W.setCell ⟨j.ob,n,none⟩ (ah 0)=Wf at *;have Fj:=ae rA.out;have JQ:=ae Kl.out;have JR:=ae yY.out;have Sl:=ae<|pY HRf.out Bc.out.1 HP.out HN.out (by have h1:=Bc.out.2.2.2;have h2:=Bc.out.2.1;omega) (by have:=JE.out;have h2:=Bc.out.2.1;omega);clear rA Kl yY;go_wp2_with (first|(go_at_call 130;refine Sl.out.mono ?_;rintro e W9 ⟨rfl,AW,qu⟩;have DJ:=ae<|qu.ak JR.out (ta.out eb eB.out);have xm:=ae<|qu.ak JQ.out (ta.out rb dt.out);have Fh:=ae AW;have l5:=ae<|Fj.out.trans qu;clear AW qu)|(refine iy (iJ v true 0) DJ.out Tryz.underlying186 ?_)|(refine iP (iJ v true 0) xm.out (qy _ _ _) ?_))
  (try simp only[Exit.inBlock,Exit.then])
  exact og):P:=h
theorem pd{P:Prop}(h:P:=by
 refine bodyPost_ret (results_cell_row rfl _ _ rb _ (iJ 0 false 0) (0,0) _ rfl (xm.out.aw _) Tryz.underlying186 rfl aS) rfl ?_;exact nK):P:=h
theorem CI {n:Nat}(h:jg j P s w)(hI:uH P s)(hP:P.Ok)(h1:s.now≤1000000000)(hn:n<64)(hb:(n:Int)∉aI P s):
 Calls Tryz.prog 109 #[aO j.mb,ah n] w (vZ j P s n w):=by
 have HB:=ae<|Box.fresh w 186 (iJ 0 false 0);have HO:=ae<|((af.ai au w).alloc (.cells (iJ 0 false 0) 186));have HR:=aq (jg j P s (w.alloc (.cells (iJ 0 false 0) 186))) (h.keep HO.out);have SM:(n:Int)≤63:=aj;have ta:=aq (∀k,w.heap.size≤k→¬RF j k) (fun k hk=>h.mK hk);clear h
 go_enter Tryz.func109,Tryz.ntmps109
 go_upto_region 1 with fail;obtain⟨rb,km⟩:∃rb,rb=w.heap.size:=⟨_,rfl⟩;have dt:=aq (w.heap.size≤rb) (Nat.le_of_eq km.symm);rw[←km]at HB ⊢;clear km;change Code.wp _ _ _ _ (w.alloc (.cells (iJ 0 false 0) 186));generalize w.alloc (.cells (iJ 0 false 0) 186)=W1 at *;have b8:=ae HB.out;have bc:=ae HO.out;have cy:=ae HR.out;clear HB HO HR;generalize W1=W2 at *;have MX:=hP.q8;have AJ:=ae hP.q1;have HN:=ae hn;have Yc:=hP.M9;have HUN:=ae<|Ec cy.out hP.q8 hb;have N4:=ae (show cP P s n=if(aI P (bt s)).length=P.cap then(dV P (bz P (bJ P (bt s)) n) n,dq P (bt s),true)else(dV P (bz P (bt s) n) n,0,false) by unfold cP;rw[if_neg hb];rfl);have h0:=hI.ok.now;have VY:IntKind.i64.wrap (s.now+1)=s.now+1:=by rw[IntKind.wrap_i64];omega
 obtain⟨gv,qv,hA⟩:=cy.out;have x7:=hA.c7;have xf:=hA.ak.free 7;have ej:=aq (jg j P (bt s) (W2.setCell ⟨j.mb,7,none⟩ (ah (s.now+1)))) (⟨gv,qv,hA.XI (s.now+1) hP.q1⟩);have bV:af (RF j) W2 (W2.setCell ⟨j.mb,7,none⟩ (ah (s.now+1))):=(af.ai _ W2).setCell (p:=⟨j.mb,7,none⟩) (.inl (.inl rfl)) _;have bI:=ae<|(bc.out.mono fun _ hb=>hb.elim).trans bV;have hG:=ae<|bV.ak b8.out (ta.out rb dt.out);have AE:=aq (uH P (bt s)) (⟨qz hI.ok,hI.len,hI.gh⟩);have Br:=aq (∀y,(bt s).often y+1≤(bt s).now) (fun y=>by have:=(hI.ok.often y).2;show s.often y+1≤s.now+1;omega);have Bs:=aq (1≤(bt s).now∧(bt s).now≤1000000001) (by show 1≤s.now+1∧s.now+1≤1000000001;omega);have JK:=aq ((n:Int)∉aI P (bt s)) (hb);have HP:=ae hP;clear hA bV hI hP h1 hb h0 hn;go_upto_region 6 with(go_at_call 108;refine HUN.out.mono ?_;rintro e W3 ⟨rfl,rfl⟩);change Code.wp _ _ _ _ (W2.setCell ⟨j.mb,7,none⟩ (ah (s.now+1)));clear x7 xf VY cy b8 bc HUN;generalize W2.setCell ⟨j.mb,7,none⟩ (ah (s.now+1))=W3 at *;generalize bt s=t0 at *;go_upto_region 7 with fail;have ey:af au W3 (W3.alloc (.cells (iJ 0 false 0) 186)):=(af.ai au W3).alloc _;have ua:=ae<|Box.fresh W3 186 (iJ 0 false 0);have sc:=ae<|ey.ak hG.out id;have jh:=ae<|ej.out.keep ey;have cr:=ae<|bI.out.cE ey;have eB:=aq (w.heap.size≤W3.heap.size) (bI.out.size);have l6:=aq (rb≠W3.heap.size) (Nat.ne_of_lt hG.out.lt);change Code.wp _ _ _ _ (W3.alloc (.cells (iJ 0 false 0) 186));clear ey hG ej bI;generalize W3.alloc (.cells (iJ 0 false 0) 186)=W4 at *;generalize W3.heap.size=eb at *;obtain⟨gv4,qv4,WJ⟩:=jh.out;have x0:aF W4 j.mb 0 P.cap:=WJ.ak.ag rfl;clear WJ;have jY:=ae<|fun q=>Pd (jh.out.keep ((af.ai au W4).drewN q)) AE.out.ok.dj MX
 by_cases hc:(aI P t0).length=P.cap
 ·have GR:=ae<|N4.out.trans (if_pos hc);have hne:aI P t0≠[]:=fun e=>by have:=HP.out.c1;rw[e]at hc;simp at hc;omega
  obtain⟨R3,hS0,uS⟩:=uO hne;have GQ:=ae<|tP HP.out AE.out hne;have Xd:=ae<|FC hne;have NR:=aq (dq P t0=gU (t0.S (mh P t0))) (rfl);rw[hc]at jY;clear hne hc
  go_quiet ((go_at_call 131;exact gl (jY.out _)))
  have fY:=ae<|jh.out.keep ((af.ai au W4).drewN nq);have Km:=aq (Box (W4.drewN nq) rb 186 (iJ 0 false 0)) (((af.ai au W4).drewN nq).ak sc.out id);have rD:=aq (Box (W4.drewN nq) eb 186 (iJ 0 false 0)) (((af.ai au W4).drewN nq).ak ua.out id);have ek:=ae<|cr.out.drewN nq;clear x0 jY jh sc ua cr;generalize W4.drewN nq=W5 at *;generalize mh P t0=q0 at *;generalize hmv:dq P t0=v at *;have HMV:=ae hmv;clear hmv;have Dh:=ae R3;have HS0:=ae hS0;have HZ0:=ae uS;clear R3 hS0 uS;go_upto_region 9 with fail
  go_loopw [6] (fun qv wr=>Zn t0 q0 W5 qv wr) (fun qv _=>q0 - (intOf qv).toNat)
  case atStart=>exact⟨0,fH _,rfl,rfl⟩
  case round=>
   obtain⟨k,hk,rfl,rfl⟩:=hrel;obtain⟨gv5,qv5,WI⟩:=fY.out;have y3:=WI.c3;have R7:k<P.q:=by have:=Dh.out;omega
   have xC:(k:Int)<P.q:=aj;have Dn:=(WI.cq R7).1;have bf:=WI.q k R7;obtain⟨A,c,eq,h1,h2⟩:=bf.shape;have s7:=bf.at;rw[eq]at Dn s7
   by_cases hke:k=q0
   ·subst hke;obtain⟨L,hL⟩:∃L,(t0.S k).length=L+1:=⟨(t0.S k).length - 1,by have:=List.length_pos_iff.2 HS0.out;omega⟩;have NL:=ud (i:=k) AE.out.ok.dj;obtain⟨g,o,rfl,pE⟩:=s7.ag (i:=L) aj;rw[sS hL,←NR.out]at pE;rw[hL]at Dn;have Xt:=ae (show(t0.S k).length≤10000 by omega);have hLw:IntKind.i64.wrap (L:Int)=L:=by rw[IntKind.wrap_i64];omega
    have hLp:((L:Int)+1==0)=false:=by simp;omega
    have hL1:(L:Int)<(L:Int)+1:=aj;have hLL:L<64:=aj;clear bf eq h1 h2 s7 hL NL hk R7 WI;generalize R3:k=q0 at *;clear R3;go_upto_region 11 with fail;have k1:aM W5.drew j.mb 3 (bp j.qb P.q j.qc):=y3;have k2:aM W5.drew j.qb q0 (.slice (some ⟨g,o,none⟩) (L+1) c):=Dn;have k3:aF W5.drew g (o+L) v:=pE;refine pG (fun w':World=>aM w' j.mb 3 (bp j.qb P.q j.qc)∧aM w' j.qb q0 (.slice (some ⟨g,o,none⟩) (L+1) c)∧aF w' g (o+L) v) 19 fun aC=>?_
    refine bE [0,1,2,3,4,5,6,7,8,9,10,11,12,13,14,15,16,17,18] ?_;refine dE ?_;have QT:Box W5.drew eb 186 (iJ 0 false 0):=((af.ai au W5).drew).ak rD.out id;have z0:aF W5.drew eb 0 0:=QT.ag rfl;have z1:aM W5.drew eb 1 (.bool false):=QT.ag rfl;have z2:W5.drew.frozen? ⟨eb,0,none⟩=false:=QT.free _;have z3:W5.drew.frozen? ⟨eb,1,none⟩=false:=QT.free _;clear aC k1 k2 k3 y3 Dn pE;go_upto_region 12 with fail;have z4:aM (W5.drew.setCell ⟨eb,0,none⟩ (ah v)) eb 1 (.bool false):=(QT.store 0 (ah v)).ag rfl;have z5:(W5.drew.setCell ⟨eb,0,none⟩ (ah v)).frozen? ⟨eb,1,none⟩=false:=(QT.store 0 (ah v)).free _;change Code.wp _ _ _ _ (W5.drew.setCell ⟨eb,0,none⟩ (ah v));generalize hW6:W5.drew.setCell ⟨eb,0,none⟩ (ah v)=W6a at *;go_upto_region 13 with fail;change Code.wp _ _ _ _ (W6a.setCell ⟨eb,1,none⟩ (.bool true));rw[←hW6];clear z4 z5 hW6 W6a;have fI:af (az eb) W5 ((W5.drew.setCell ⟨eb,0,none⟩ (ah v)).setCell ⟨eb,1,none⟩ (.bool true)):=(((af.ai (az eb) W5).drew).setCell (p:=⟨eb,0,none⟩) (.inl (show az eb eb from rfl)) _).setCell (p:=⟨eb,1,none⟩) (.inl (show az eb eb from rfl)) _;have uw:=aq (Box ((W5.drew.setCell ⟨eb,0,none⟩ (ah v)).setCell ⟨eb,1,none⟩ (.bool true)) eb 186 (iJ v true 0)) ((QT.store 0 (ah v)).store 1 (.bool true));have xb:=ae<|fI.ak Km.out l6.out;have kK:=ae<|fY.out.jZ rD.out fI;have iu:=ae<|(((ek.out).drew).setCell (p:=⟨eb,0,none⟩) (.inr eB.out) (ah v)).setCell (p:=⟨eb,1,none⟩) (.inr eB.out) (.bool true);change Code.wp _ _ _ _ ((W5.drew.setCell ⟨eb,0,none⟩ (ah v)).setCell ⟨eb,1,none⟩ (.bool true));clear QT z0 z1 z2 z3 fI Km fY rD ek;generalize(W5.drew.setCell ⟨eb,0,none⟩ (ah v)).setCell ⟨eb,1,none⟩ (.bool true)=W6 at *;obtain⟨gv6,qv6,hA6⟩:=kK.out;have AP:=ae hA6;have k1:aM W6.drew j.mb 3 (bp j.qb P.q j.qc):=hA6.c3;have k2:aM W6.drew j.qb q0 (qv6 q0):=(hA6.cq Dh.out).1;have k3:aF W6.drew eb 0 v:=uw.out.ag rfl;clear hA6;refine pG (fun w':World=>aM w' j.mb 3 (bp j.qb P.q j.qc)∧aM w' j.qb q0 (qv6 q0)∧aF w' eb 0 v) 15 fun aC=>?_
    refine bE [0,1,2,3,4,5,6,7,8,9,10,11,12,13] ?_;refine cX 14 fun Kc hK=>?_
    go_simp;refine(cB v W6.drew ((AP.out.q q0 Dh.out).ar ((af.ai au W6).drew) fun _ _=>id) Xt.out).mono ?_;rintro e W7 ⟨v7,rfl,l4,We⟩;obtain⟨A7,n7,c7,rfl⟩:∃A n c,v7=Value.slice A n c:=by obtain⟨A,c,e,_⟩:=l4.shape;exact⟨A,_,c,e⟩
    have NS:=ae l4;have HN7:=ae<|(af.ai au W6).drew.trans We;have k1:=We.cell aC.1 id;have k2:=We.cell aC.2.1 id;have k3:=We.cell aC.2.2 id;clear l4 We;refine Ai hK fun aC=>?_
    clear hK;refine dE ?_;obtain⟨hc7,hf7⟩:=(AP.out.keep HN7.out).cq Dh.out;clear aC k1 k2 k3;go_upto_region 14 with fail;have Ri:aA 3 W7 j.B (.slice A7 n7 c7) ((t0.S q0).erase v):=by
     have h1:=NS.out.low AP.out.bs;rw[erase_filter (AE.out.ok.dj.nodup q0)]at h1;exact h1
    have iz:af (RF j) W6 (W7.setCell ⟨j.qb,q0,none⟩ (.slice A7 n7 c7)):=(((af.ai (RF j) W6).cE HN7.out).setCell (p:=⟨j.qb,q0,none⟩) (.inl (.inr (.inl rfl))) _);have N5:=ae<|(AP.out.keep HN7.out).tj Dh.out Ri;have yY:=ae<|iz.ak uw.out (ta.out eb eB.out);have Kl:=ae<|iz.ak xb.out (ta.out rb dt.out);have rA:=ae<|iu.out.trans iz;have Ot:ba t0.S q0 ((t0.S q0).erase v) P.q=t0.S P.q:=by unfold ba;rw[if_neg gK]
    have HLG:=ae (show(ba t0.S q0 ((t0.S q0).erase v) P.q).length≤10000 by rw[Ot];have:=ud (i:=P.q) AE.out.ok.dj;omega);have Yz:=ae Ot;obtain⟨NG,hNG⟩:∃NG,NG=(t0.S P.q).length+1:=⟨_,rfl⟩;have Vp:=ae (show(v :: ba t0.S q0 ((t0.S q0).erase v) P.q).length=NG by rw[Ot,List.length_cons,hNG]);have Vo:=ae hNG;clear hNG;change Code.wp _ _ _ _ (W7.setCell ⟨j.qb,q0,none⟩ (.slice A7 n7 c7));clear hc7 hf7 Ri iz HN7 NS AP uw xb iu kK Ot;generalize W7.setCell ⟨j.qb,q0,none⟩ (.slice A7 n7 c7)=W8 at *;have k1:aM W8.drew j.mb 4 gv6:=N5.out.c4;have k2:aF W8.drew eb 0 v:=yY.out.ag rfl;refine pG (fun w':World=>aM w' j.mb 4 gv6∧aF w' eb 0 v) 8 fun aC=>?_
    refine bE [0,1,2,3,4,5,6] ?_;refine cX 7 fun Kc hK=>?_
    go_simp;refine(fQ v W8.drew (N5.out.g.ar ((af.ai au W8).drew) fun _ _=>id) HLG.out).mono ?_;rintro e W9 ⟨v9,rfl,qu,UP⟩;obtain⟨g9,c9,e9,SY,Ya⟩:=qu.some_ (by simp);rw[Vp.out]at e9 SY;subst e9;have J8:=ae qu;have HN9:=ae<|(af.ai au W8).drew.trans UP;have k1:=UP.cell aC.1 id;have k2:=UP.cell aC.2 id;clear qu UP;refine Ai hK fun aC=>?_
    clear hK;refine dE ?_;have hA9:=N5.out.keep HN9.out;have hc9:=hA9.c4;have hf9:=hA9.ak.free 4;clear aC k1 k2;go_upto_region 15 with fail;have Rh:aA 3 W9 j.B (bp g9 NG c9) (v :: t0.S P.q):=by
     have h1:=J8.out.low N5.out.bs;have h2:aA 3 W9 j.B (bp g9 NG c9) (v :: ba t0.S q0 ((t0.S q0).erase v) P.q):=h1;rw[Yz.out]at h2;exact h2
    have S3:=(hA9.SH Rh AJ.out).congr (s':=bh P t0) (fun k hk=>by
     show ba (ba t0.S q0 ((t0.S q0).erase v)) P.q (v :: t0.S P.q) k=uA t0.S P.q (dq P t0) k
     rw[HMV.out];exact rT AE.out.ok Dh.out Xd.out k) rfl rfl rfl
    have si:af (RF j) W8 (W9.setCell ⟨j.mb,4,none⟩ (bp g9 NG c9)):=(((af.ai (RF j) W8).cE HN9.out).setCell (p:=⟨j.mb,4,none⟩) (.inl (.inl rfl)) _);have GU:=ae S3;have OQ:=ae<|si.ak yY.out (ta.out eb eB.out);have OT:=ae<|si.ak Kl.out (ta.out rb dt.out);have Bx:=ae<|rA.out.trans si;have KW:=aq (aA 3 (W9.setCell ⟨j.mb,4,none⟩ (bp g9 NG c9)) j.B (bp g9 NG c9) (v :: t0.S P.q)) (by
     have h1:=S3.g;rw[show(bh P t0).S P.q=v :: t0.S P.q by
      show uA t0.S P.q (dq P t0) P.q=_
      rw[HMV.out,←rT AE.out.ok Dh.out Xd.out P.q];unfold ba;rw[if_pos rfl]]at h1
     exact h1)
    change Code.wp _ _ _ _ (W9.setCell ⟨j.mb,4,none⟩ (bp g9 NG c9));clear hc9 hf9 Rh si HN9 J8 N5 yY Kl rA HLG Yz hA9 S3;generalize W9.setCell ⟨j.mb,4,none⟩ (bp g9 NG c9)=sf at *;have xg4:aM sf j.mb 4 (bp g9 NG c9):=GU.out.c4;have xg2:aF sf j.mb 2 P.ghost:=GU.out.ak.ag rfl;have acD:=HP.out.g16
    by_cases R8:P.ghost<NG
    ·have SU:(P.ghost:Int)<NG:=aj;have KN:=ae<|CT AE.out (q0:=q0) Dh.out (v:=v) HMV.out Xd.out (by rw[←Vo.out];exact R8);have HGL:=ae (show P.ghost≤NG by omega);have hgc:(P.ghost:Int)≤c9:=aj;clear R8 SY Ya
     go_quiet (fail)
     have GS:=ae<|GU.out.keep ((af.ai au sf).drewN nq);have YD:=aq (Box (sf.drewN nq) eb 186 (iJ v true 0)) (((af.ai au sf).drewN nq).ak OQ.out id);have YU:=aq (Box (sf.drewN nq) rb 186 (iJ 0 false 0)) (((af.ai au sf).drewN nq).ak OT.out id);have Yx:=ae<|Bx.out.drewN nq;have RB:=ae<|KW.out.ar ((af.ai au sf).drewN nq) fun _ _=>id;clear xg4 xg2 GU OQ OT Bx KW;generalize sf.drewN nq=kq at *;go_upto_region 16 with fail;have k1:aM kq.drew j.mb 4 (bp g9 NG c9):=GS.out.c4;have k2:aF kq.drew j.mb 2 P.ghost:=GS.out.ak.ag rfl;refine pG (fun w':World=>aM w' j.mb 4 (bp g9 NG c9)∧aF w' j.mb 2 P.ghost) 10 fun aC=>?_
     refine bE [0,1,2,3,4,5,6,7,8,9] ?_;refine dE ?_;have z1:aM kq.drew j.mb 4 (bp g9 NG c9):=GS.out.c4;have z2:kq.drew.frozen? ⟨j.mb,4,none⟩=false:=GS.out.ak.free 4;clear aC k1 k2;go_upto_region 17 with fail;have Lj:aA 3 kq.drew j.B (bp g9 P.ghost c9) ((v :: t0.S P.q).take P.ghost):=by
      have h1:=RB.out.ar ((af.ai au kq).drew) fun _ _=>id
      have h2:aA 3 kq.drew j.B (bp g9 (v :: t0.S P.q).length c9) (v :: t0.S P.q):=by
       rw[List.length_cons,←Vo.out];exact h1
      exact h2.take (by rw[List.length_cons,←Vo.out];exact HGL.out)
     have JF:=aq (jg j P (bJ P t0) (kq.drew.setCell ⟨j.mb,4,none⟩ (bp g9 P.ghost c9))) (⟨_,_,by
      rw[KN.out.1];exact((GS.out.keep ((af.ai au kq).drew)).SH Lj AJ.out).congr (fun k hk=>KN.out.2 k) rfl rfl rfl⟩)
     have Oe:af (RF j) kq (kq.drew.setCell ⟨j.mb,4,none⟩ (bp g9 P.ghost c9)):=((af.ai (RF j) kq).drew).setCell (p:=⟨j.mb,4,none⟩) (.inl (.inl rfl)) _;have JR:=ae<|Oe.ak YD.out (ta.out eb eB.out);have JQ:=ae<|Oe.ak YU.out (ta.out rb dt.out);have Fj:=ae<|Yx.out.trans Oe;change Code.wp _ _ _ _ (kq.drew.setCell ⟨j.mb,4,none⟩ (bp g9 P.ghost c9));clear z1 z2 Lj Oe GS YD YU Yx RB;generalize kq.drew.setCell ⟨j.mb,4,none⟩ (bp g9 P.ghost c9)=W at *;exact mU
    ·have KN:=ae<|CS AE.out (q0:=q0) Dh.out (v:=v) HMV.out Xd.out (by rw[←Vo.out];exact R8);have SU:(NG:Int)≤P.ghost:=aj;clear R8 SY Ya
     go_quiet (fail)
     have JF:=aq (jg j P (bJ P t0) (sf.drewN nq)) (⟨_,_,by rw[KN.out];exact GU.out.keep ((af.ai au sf).drewN nq)⟩);have JR:=aq (Box (sf.drewN nq) eb 186 (iJ v true 0)) (((af.ai au sf).drewN nq).ak OQ.out id);have JQ:=aq (Box (sf.drewN nq) rb 186 (iJ 0 false 0)) (((af.ai au sf).drewN nq).ak OT.out id);have Fj:=ae<|Bx.out.drewN nq;clear xg4 xg2 GU OQ OT Bx KW;generalize sf.drewN nq=W at *;go_upto_region 17 with fail;exact mU
   ·have hz:=HZ0.out k aj;have hzl:(t0.S k).length=0:=by rw[hz];rfl
    rw[hzl]at Dn;have hkw:IntKind.i64.wrap ((k:Int)+1)=(k:Int)+1:=by rw[IntKind.wrap_i64];omega
    have HKL:=ae (show k+1≤q0 by omega);clear bf eq h1 h2 s7 hz hzl hk hke R7 WI;go_wp2
    go_roundw
    case rel=>exact⟨k+1,HKL.out,by push_cast;rfl,rfl⟩
    case measure=>simp[intOf];have:=HKL.out;omega
 ·have rh:=ae<|N4.out.trans (if_neg hc);have hci:¬((aI P t0).length:Int)=(P.cap:Int):=aj;have jV:(((aI P t0).length:Int)==(P.cap:Int))=false:=by simpa using hci
  clear hc;generalize(aI P t0).length=ln at *
  go_quiet ((go_at_call 131;exact gl (jY.out _)))
  have JF:=ae<|jh.out.keep ((af.ai au W4).drewN nq);have JQ:=aq (Box (W4.drewN nq) rb 186 (iJ 0 false 0)) (((af.ai au W4).drewN nq).ak sc.out id);have JR:=aq (Box (W4.drewN nq) eb 186 (iJ 0 false 0)) (((af.ai au W4).drewN nq).ak ua.out id);have Fj:=ae<|cr.out.drewN nq;clear x0 jY jh sc ua cr;generalize W4.drewN nq=W at *;have pF:=ae AE.out.ok;have JE:=ae Bs.out;have NT:=ae Br.out;have HNA:=ae JK.out;clear N4 AE Bs Br JK;generalize t0=t at *;go_upto_region 17 with fail;obtain⟨gvp,qvp,J0⟩:=JF.out;have Kn:=ae J0;have VS:=J0.c4;obtain⟨Ap,cp,ep,Jw,Ge⟩:=J0.g.shape;have fF:=ef Ap cp _ (t.S P.q) n W (by rw[←ep];exact J0.g.at) (Nat.le_trans Jw Ge);rw[ep]at VS;clear ep Jw Ge J0
  by_cases bL:(n:Int)∈t.S P.q
  ·rw[decide_eq_true bL]at fF;have fF:=ae fF;have Fp:=ae (show bz P t n=t by unfold bz;rw[if_pos ((lT pF.out.dj).2 ⟨P.q,bL⟩)]);have Sl:=ae<|pY JF.out pF.out HP.out HN.out (NT.out n) (by have:=JE.out;omega);rw[Fp.out]at rh;clear bL;go_wp2_with (first|(go_at_call 18;refine fF.out.mono ?_;rintro e W8 ⟨rfl,rfl⟩)|(go_at_call 130;refine Sl.out.mono ?_;rintro e W9 ⟨rfl,AW,qu⟩;have DJ:=ae<|qu.ak JR.out (ta.out eb eB.out);have xm:=ae<|qu.ak JQ.out (ta.out rb dt.out);have Fh:=ae AW;have l5:=ae<|Fj.out.trans qu;clear AW qu)|(refine iy (iJ 0 false 0) DJ.out Tryz.underlying186 ?_)|(refine iP (iJ 0 false 0) xm.out (qy _ _ _) ?_))
   (try simp only[Exit.inBlock,Exit.then])
   exact pd
  ·rw[decide_eq_false bL]at fF;have fF:=ae fF;have Fp:=ae (show bz P t n= {t with often:=aV t.often n 0} by
    unfold bz;rw[if_neg];intro h2;obtain⟨i,hi⟩:=(lT pF.out.dj).1 h2
    by_cases e:i<P.q
    ·exact HNA.out (cw.2 ⟨i,e,hi⟩)
    ·by_cases e2:i=P.q
     ·exact bL (e2▸hi)
     ·rw[pF.out.dj.out i aj]at hi;cases hi)
   have xp5:=Kn.out.c5;have xpo:aF W j.ob n (t.often n):=Kn.out.of.ag (tq _ HN.out);have xpf:W.frozen? ⟨j.ob,n,none⟩=false:=Kn.out.of.free n;have HRf:=aq (jg j P (bz P t n) (W.setCell ⟨j.ob,n,none⟩ (ah 0))) (⟨gvp,qvp,by rw[Fp.out];exact Kn.out.SG HN.out 0 AJ.out⟩);have iz:af (RF j) W (W.setCell ⟨j.ob,n,none⟩ (ah 0)):=(af.ai (RF j) W).setCell (p:=⟨j.ob,n,none⟩) (.inl (.inr (.inr (.inl rfl)))) _;have rA:=ae<|Fj.out.trans iz;have Kl:=ae<|iz.ak JQ.out (ta.out rb dt.out);have yY:=ae<|iz.ak JR.out (ta.out eb eB.out);have Bc:=ae<|lY pF.out (n:Int) JE.out.1 NT.out;clear bL iz;go_upto_region 19 with(go_at_call 18;refine fF.out.mono ?_;rintro e W8 ⟨rfl,rfl⟩);change Code.wp _ _ _ _ (W.setCell ⟨j.ob,n,none⟩ (ah 0));clear VS xp5 xpo xpf Fj JQ JR fF Kn JF;generalize W.setCell ⟨j.ob,n,none⟩ (ah 0)=Wf at *;have Fj:=ae rA.out;have JQ:=ae Kl.out;have JR:=ae yY.out;have Sl:=ae<|pY HRf.out Bc.out.1 HP.out HN.out (by have h1:=Bc.out.2.2.2;have h2:=Bc.out.2.1;omega) (by have:=JE.out;have h2:=Bc.out.2.1;omega);clear rA Kl yY;go_wp2_with (first|(go_at_call 130;refine Sl.out.mono ?_;rintro e W9 ⟨rfl,AW,qu⟩;have DJ:=ae<|qu.ak JR.out (ta.out eb eB.out);have xm:=ae<|qu.ak JQ.out (ta.out rb dt.out);have Fh:=ae AW;have l5:=ae<|Fj.out.trans qu;clear AW qu)|(refine iy (iJ 0 false 0) DJ.out Tryz.underlying186 ?_)|(refine iP (iJ 0 false 0) xm.out (qy _ _ _) ?_))
   (try simp only[Exit.inBlock,Exit.then])
   exact pd
end
def cR (l:Value)(v:Int)(g was:Bool)(e:Int):Array Value:=#[l,ah v,.bool g,.bool was,ah e]
theorem ij (A:Option Addr)(n c:Nat)(v:Int)(g was:Bool)(e:Int):(cR (.slice A n c) v g was e).all (·.oneCell')=true:=by simp[cR,Value.oneCell']
def rK (base:Nat)(L':List Int)(v:Int)(g was:Bool)(w:World)(e:Ending)(w':World):Prop:=
 ∃A n c,e= .returned (.agg (cR (.slice A n c) v g was 0))∧aA 3 w' base (.slice A n c) L'∧af au w w'
section
variable {base:Nat}{lv:Value}{L:List Int}{w:World}{cap:Nat}{b:Int}
theorem LP (h:aA 3 w base lv L)(hz:base≤w.heap.size)(hl:L.length≤64):
 Calls Tryz.prog 107 #[lv,ah cap,.agg #[ah 2,ah b]] w (rK base (L.filter (· != b)) 0 false (decide (b∈L)) w):=by
 obtain⟨A,c,rfl,uE,qZ⟩:=h.shape;have HL:=ae h;have HZ:=ae hz;have dZ:=ae<|Box.fresh w 139 #[ah 2,ah b];have aK:af au w (w.alloc (.cells #[ah 2,ah b] 139)):=(af.ai au w).alloc _;have bc:=ae aK;clear h hz aK
 go_enter Tryz.func107,Tryz.ntmps107
 go_upto_region 1 with fail;change Code.wp _ _ _ _ ((w.alloc (.cells #[ah 2,ah b] 139)).alloc (.cells (cR aT 0 false false 0) 136));have hsz:(w.alloc (.cells #[ah 2,ah b] 139)).heap.size=w.heap.size+1:=World.size_alloc ..;generalize w.alloc (.cells #[ah 2,ah b] 139)=W0 at *;obtain⟨ab,fS⟩:∃ab,ab=w.heap.size:=⟨_,rfl⟩;have lj:=aq (w.heap.size≤ab) (Nat.le_of_eq fS.symm);rw[←fS]at dZ hsz ⊢;clear fS;have cy:=ae<|Box.fresh W0 136 (cR aT 0 false false 0);have aK:af au W0 (W0.alloc (.cells (cR aT 0 false false 0) 136)):=(af.ai au W0).alloc _;have iR:=ae<|aK.ak dZ id;have bu:=ae<|bc.trans aK;have dt:=aq (w.heap.size≤W0.heap.size) (bc.size);clear aK dZ bc;generalize W0.alloc (.cells (cR aT 0 false false 0) 136)=W1 at *;rw[hsz]at cy dt;clear hsz;generalize ab+1=rb at *;have lD:=ae<|HL.ar bu fun _ _=>id;have fF:=ae<|ef A c _ L b W1 lD.at (Nat.le_trans uE qZ);have y0:aF W1 ab 0 2:=iR.ag rfl;have y1:aF W1 ab 1 b:=iR.ag rfl;generalize j8:decide (b∈L)=was at *;have qW:=ae j8;clear j8;go_upto_region 2 with(go_at_call 18;refine fF.mono ?_;rintro e W ⟨rfl,rfl⟩);change Code.wp _ _ _ _ (W1.alloc (.cells (cR (.slice A L.length c) 0 false was 0) 136));have uJ:=ae<|Box.fresh W1 136 (cR (.slice A L.length c) 0 false was 0);have aK:af au W1 (W1.alloc (.cells (cR (.slice A L.length c) 0 false was 0) 136)):=(af.ai au W1).alloc _;have fX:=ae<|aK.ak cy id;have gj:=ae<|aK.ak iR id;have bI:=ae<|bu.trans aK;have eB:=aq (w.heap.size≤W1.heap.size∧rb<W1.heap.size) (⟨bu.size,cy.lt⟩);clear aK fF cy iR bu lD y0 y1;generalize W1.alloc (.cells (cR (.slice A L.length c) 0 false was 0) 136)=W2 at *;generalize W1.heap.size=eb at *;have AB:=ae<|cB b W2 (HL.ar bI fun _ _=>id) aj;have y0:aF W2 ab 0 2:=gj.ag rfl;have y1:aF W2 ab 1 b:=gj.ag rfl;have Vq:=ae hl;clear hl;go_upto_region 3 with(go_at_call 127;refine AB.mono ?_;rintro e W3 ⟨v3,rfl,bV,yQ⟩;obtain⟨A3,c3,e3,Oo,On⟩:=bV.shape;generalize Oj:(L.filter (· != b)).length=n3 at *;subst e3;have wZ:=ae<|bV.low (base':=base) (Nat.le_trans HZ bI.size);have mf:=ae yQ;clear bV yQ);have ks:=ae<|mf.ak uJ id;have ej:=ae<|mf.ak fX id;have iw:=ae<|mf.ak gj id;have cr:=ae<|bI.trans mf;clear uJ fX gj bI mf y0 y1 AB;have y0:aF W3 ab 0 2:=iw.ag rfl;have y1:aF W3 ab 1 b:=iw.ag rfl;have z0:aM W3 eb 0 (.slice A L.length c):=ks.ag rfl;have zf:W3.frozen? ⟨eb,0,none⟩=false:=ks.free 0;go_upto_region 5 with fail;have fz:af (az eb) W3 (W3.setCell ⟨eb,0,none⟩ (.slice A3 n3 c3)):=(af.ai (az eb) W3).setCell (p:=⟨eb,0,none⟩) (.inl (show az eb eb from rfl)) _;have rD:=aq (Box _ eb 136 (cR (.slice A3 n3 c3) 0 false was 0)) (ks.store 0 (.slice A3 n3 c3));have fY:=ae<|fz.ak ej (fun e=>by have h9:rb=eb:=e;have:=eB.out;omega);have ek:=ae<|cr.setCell (p:=⟨eb,0,none⟩) (.inr eB.1) (.slice A3 n3 c3);have rz:=ae (wZ.ar fz fun g hg e=>by
  obtain⟨cs,h9⟩:=wZ.gb hg;exact(h9.off ks aE) e)
 change Code.wp _ _ _ _ (W3.setCell ⟨eb,0,none⟩ (.slice A3 n3 c3));clear z0 zf fz ks ej cr wZ y0 y1 iw;generalize W3.setCell ⟨eb,0,none⟩ (.slice A3 n3 c3)=W5 at *;go_wp2_with (first|(refine iy (cR (.slice A3 n3 c3) 0 false was 0) rD Tryz.underlying136 ?_)|(refine iP (cR (.slice A3 n3 c3) 0 false was 0) fY (ij _ _ _ _ _ _ _) ?_))
 (try simp only[Exit.inBlock,Exit.then])
 refine bodyPost_ret (results_cell_row rfl _ _ rb _ (cR (.slice A3 n3 c3) 0 false was 0) (0,0) _ rfl (fY.aw _) Tryz.underlying136 rfl aS) rfl ?_;have gM:af (az rb) W5 (W5.setRow rb (cR (.slice A3 n3 c3) 0 false was 0)):=(af.ai (az rb) W5).aw (.inl rfl) _;exact⟨A3,n3,c3,by rw[qW.out],rz.ar gM fun g hg e=>(by
  obtain⟨cs,h9⟩:=rz.gb hg;exact(h9.off fY aE) e),ek.aw (.inr dt) _⟩
theorem pr{P:Prop}(h:P:=by have:=Vq.out;have:(L.filter (· != b)).length≤L.length:=List.length_filter_le ..;omega):P:=h
theorem jS{P:Prop}(h:P:=by have:=HZ.out;have:=cr.size;omega):P:=h
theorem LR (h:aA 3 w base lv L)(hz:base≤w.heap.size)(hl:L.length≤64)(hb:b∈L):
 Calls Tryz.prog 107 #[lv,ah cap,.agg #[ah 0,ah b]] w (rK base (b :: L.filter (· != b)) 0 false true w):=by
 have Gu:=ae hb;clear hb;obtain⟨A,c,rfl,uE,qZ⟩:=h.shape;have HL:=ae h;have HZ:=ae hz;have dZ:=ae<|Box.fresh w 139 #[ah 0,ah b];have aK:af au w (w.alloc (.cells #[ah 0,ah b] 139)):=(af.ai au w).alloc _;have bc:=ae aK;clear h hz aK
 go_enter Tryz.func107,Tryz.ntmps107
 go_upto_region 1 with fail;change Code.wp _ _ _ _ ((w.alloc (.cells #[ah 0,ah b] 139)).alloc (.cells (cR aT 0 false false 0) 136));have hsz:(w.alloc (.cells #[ah 0,ah b] 139)).heap.size=w.heap.size+1:=World.size_alloc ..;generalize w.alloc (.cells #[ah 0,ah b] 139)=W0 at *;obtain⟨ab,fS⟩:∃ab,ab=w.heap.size:=⟨_,rfl⟩;have lj:=aq (w.heap.size≤ab) (Nat.le_of_eq fS.symm);rw[←fS]at dZ hsz ⊢;clear fS;have cy:=ae<|Box.fresh W0 136 (cR aT 0 false false 0);have aK:af au W0 (W0.alloc (.cells (cR aT 0 false false 0) 136)):=(af.ai au W0).alloc _;have iR:=ae<|aK.ak dZ id;have bu:=ae<|bc.trans aK;have dt:=aq (w.heap.size≤W0.heap.size) (bc.size);clear aK dZ bc;generalize W0.alloc (.cells (cR aT 0 false false 0) 136)=W1 at *;rw[hsz]at cy dt;clear hsz;generalize ab+1=rb at *;have lD:=ae<|HL.ar bu fun _ _=>id;have fF:=ae<|ef A c _ L b W1 lD.at (Nat.le_trans uE qZ);have y0:aF W1 ab 0 0:=iR.ag rfl;have y1:aF W1 ab 1 b:=iR.ag rfl;generalize j8:decide (b∈L)=was at *;have qW:=ae j8;clear j8;go_upto_region 2 with(go_at_call 18;refine fF.mono ?_;rintro e W ⟨rfl,rfl⟩);change Code.wp _ _ _ _ (W1.alloc (.cells (cR (.slice A L.length c) 0 false was 0) 136));have uJ:=ae<|Box.fresh W1 136 (cR (.slice A L.length c) 0 false was 0);have aK:af au W1 (W1.alloc (.cells (cR (.slice A L.length c) 0 false was 0) 136)):=(af.ai au W1).alloc _;have fX:=ae<|aK.ak cy id;have gj:=ae<|aK.ak iR id;have bI:=ae<|bu.trans aK;have eB:=aq (w.heap.size≤W1.heap.size∧rb<W1.heap.size) (⟨bu.size,cy.lt⟩);clear aK fF cy iR bu lD y0 y1;generalize W1.alloc (.cells (cR (.slice A L.length c) 0 false was 0) 136)=W2 at *;generalize W1.heap.size=eb at *;have AB:=ae<|cB b W2 (HL.ar bI fun _ _=>id) aj;have y0:aF W2 ab 0 0:=gj.ag rfl;have y1:aF W2 ab 1 b:=gj.ag rfl;have Vq:=ae hl;clear hl;go_upto_region 3 with(go_at_call 127;refine AB.mono ?_;rintro e W3 ⟨v3,rfl,bV,yQ⟩;obtain⟨A3,c3,e3,Oo,On⟩:=bV.shape;generalize Oj:(L.filter (· != b)).length=n3 at *;subst e3;have wZ:=ae<|bV.low (base':=base) (Nat.le_trans HZ bI.size);have mf:=ae yQ;clear bV yQ);have ks:=ae<|mf.ak uJ id;have ej:=ae<|mf.ak fX id;have iw:=ae<|mf.ak gj id;have cr:=ae<|bI.trans mf;clear uJ fX gj bI mf y0 y1 AB;have y0:aF W3 ab 0 0:=iw.ag rfl;have y1:aF W3 ab 1 b:=iw.ag rfl;obtain rfl:was=true:=by rw[←qW.out];exact decide_eq_true Gu
 have z0:aM W3 eb 0 (.slice A L.length c):=ks.ag rfl;have z3:aM W3 eb 3 (.bool true):=ks.ag rfl;have Q6:=ae<|fQ b W3 wZ pr;go_upto_region 8 with(go_at_call 128;refine Q6.mono ?_;rintro e W4 ⟨v4,rfl,ey,E7⟩;obtain⟨g4,c4,e4,SZ,Yb⟩:=ey.some_ (by simp);generalize aaK:(b :: L.filter (· != b)).length=n4 at *;subst e4;have AD:=ae<|ey.low (base':=base) jS;have ua:=ae<|E7.ak ks id;have jh:=ae<|E7.ak ej id;have Bw:=ae<|cr.trans E7;have w0:=ua.ag (i:=0) rfl;have w1:=ua.free 0;clear ey E7);have fz:af (az eb) W4 (W4.setCell ⟨eb,0,none⟩ (bp g4 n4 c4)):=(af.ai (az eb) W4).setCell (p:=⟨eb,0,none⟩) (.inl (show az eb eb from rfl)) _;have rD:=aq (Box _ eb 136 (cR (bp g4 n4 c4) 0 false true 0)) (ua.store 0 (bp g4 n4 c4));have fY:=ae<|fz.ak jh (fun e=>by have h9:rb=eb:=e;have:=eB.out;omega);have ek:=ae<|Bw.setCell (p:=⟨eb,0,none⟩) (.inr eB.1) (bp g4 n4 c4);have rz:=ae (AD.ar fz fun g hg e=>by
  obtain⟨cs,h9⟩:=AD.gb hg;exact(h9.off ua aE) e)
 change Code.wp _ _ _ _ (W4.setCell ⟨eb,0,none⟩ (bp g4 n4 c4));clear z0 z3 fz ks ej cr wZ y0 y1 iw ua jh AD Bw w0 w1 Q6;generalize W4.setCell ⟨eb,0,none⟩ (bp g4 n4 c4)=W5 at *;go_wp2_with (first|(refine iy (cR (bp g4 n4 c4) 0 false true 0) rD Tryz.underlying136 ?_)|(refine iP (cR (bp g4 n4 c4) 0 false true 0) fY (ij _ _ _ _ _ _ _) ?_))
 (try simp only[Exit.inBlock,Exit.then])
 refine bodyPost_ret (results_cell_row rfl _ _ rb _ (cR (bp g4 n4 c4) 0 false true 0) (0,0) _ rfl (fY.aw _) Tryz.underlying136 rfl aS) rfl ?_;have gM:af (az rb) W5 (W5.setRow rb (cR (bp g4 n4 c4) 0 false true 0)):=(af.ai (az rb) W5).aw (.inl rfl) _;exact⟨_,_,_,by first|rfl|rw[qW.out],rz.ar gM fun g hg e=>(by
  obtain⟨cs,h9⟩:=rz.gb hg;exact(h9.off fY aE) e),ek.aw (.inr dt) _⟩
theorem LQ (h:aA 3 w base lv L)(hz:base≤w.heap.size)(hl:L.length≤64)(hb:b∈L):
 Calls Tryz.prog 107 #[lv,ah cap,.agg #[ah 1,ah b]] w (rK base (b :: L.filter (· != b)) 0 false true w):=by
 have Gu:=ae hb;clear hb;obtain⟨A,c,rfl,uE,qZ⟩:=h.shape;have HL:=ae h;have HZ:=ae hz;have dZ:=ae<|Box.fresh w 139 #[ah 1,ah b];have aK:af au w (w.alloc (.cells #[ah 1,ah b] 139)):=(af.ai au w).alloc _;have bc:=ae aK;clear h hz aK
 go_enter Tryz.func107,Tryz.ntmps107
 go_upto_region 1 with fail;change Code.wp _ _ _ _ ((w.alloc (.cells #[ah 1,ah b] 139)).alloc (.cells (cR aT 0 false false 0) 136));have hsz:(w.alloc (.cells #[ah 1,ah b] 139)).heap.size=w.heap.size+1:=World.size_alloc ..;generalize w.alloc (.cells #[ah 1,ah b] 139)=W0 at *;obtain⟨ab,fS⟩:∃ab,ab=w.heap.size:=⟨_,rfl⟩;have lj:=aq (w.heap.size≤ab) (Nat.le_of_eq fS.symm);rw[←fS]at dZ hsz ⊢;clear fS;have cy:=ae<|Box.fresh W0 136 (cR aT 0 false false 0);have aK:af au W0 (W0.alloc (.cells (cR aT 0 false false 0) 136)):=(af.ai au W0).alloc _;have iR:=ae<|aK.ak dZ id;have bu:=ae<|bc.trans aK;have dt:=aq (w.heap.size≤W0.heap.size) (bc.size);clear aK dZ bc;generalize W0.alloc (.cells (cR aT 0 false false 0) 136)=W1 at *;rw[hsz]at cy dt;clear hsz;generalize ab+1=rb at *;have lD:=ae<|HL.ar bu fun _ _=>id;have fF:=ae<|ef A c _ L b W1 lD.at (Nat.le_trans uE qZ);have y0:aF W1 ab 0 1:=iR.ag rfl;have y1:aF W1 ab 1 b:=iR.ag rfl;generalize j8:decide (b∈L)=was at *;have qW:=ae j8;clear j8;go_upto_region 2 with(go_at_call 18;refine fF.mono ?_;rintro e W ⟨rfl,rfl⟩);change Code.wp _ _ _ _ (W1.alloc (.cells (cR (.slice A L.length c) 0 false was 0) 136));have uJ:=ae<|Box.fresh W1 136 (cR (.slice A L.length c) 0 false was 0);have aK:af au W1 (W1.alloc (.cells (cR (.slice A L.length c) 0 false was 0) 136)):=(af.ai au W1).alloc _;have fX:=ae<|aK.ak cy id;have gj:=ae<|aK.ak iR id;have bI:=ae<|bu.trans aK;have eB:=aq (w.heap.size≤W1.heap.size∧rb<W1.heap.size) (⟨bu.size,cy.lt⟩);clear aK fF cy iR bu lD y0 y1;generalize W1.alloc (.cells (cR (.slice A L.length c) 0 false was 0) 136)=W2 at *;generalize W1.heap.size=eb at *;have AB:=ae<|cB b W2 (HL.ar bI fun _ _=>id) aj;have y0:aF W2 ab 0 1:=gj.ag rfl;have y1:aF W2 ab 1 b:=gj.ag rfl;have Vq:=ae hl;clear hl;go_upto_region 3 with(go_at_call 127;refine AB.mono ?_;rintro e W3 ⟨v3,rfl,bV,yQ⟩;obtain⟨A3,c3,e3,Oo,On⟩:=bV.shape;generalize Oj:(L.filter (· != b)).length=n3 at *;subst e3;have wZ:=ae<|bV.low (base':=base) (Nat.le_trans HZ bI.size);have mf:=ae yQ;clear bV yQ);have ks:=ae<|mf.ak uJ id;have ej:=ae<|mf.ak fX id;have iw:=ae<|mf.ak gj id;have cr:=ae<|bI.trans mf;clear uJ fX gj bI mf y0 y1 AB;have y0:aF W3 ab 0 1:=iw.ag rfl;have y1:aF W3 ab 1 b:=iw.ag rfl;obtain rfl:was=true:=by rw[←qW.out];exact decide_eq_true Gu
 have z0:aM W3 eb 0 (.slice A L.length c):=ks.ag rfl;have z3:aM W3 eb 3 (.bool true):=ks.ag rfl;have Q6:=ae<|fQ b W3 wZ pr;go_upto_region 8 with(go_at_call 128;refine Q6.mono ?_;rintro e W4 ⟨v4,rfl,ey,E7⟩;obtain⟨g4,c4,e4,SZ,Yb⟩:=ey.some_ (by simp);generalize aaK:(b :: L.filter (· != b)).length=n4 at *;subst e4;have AD:=ae<|ey.low (base':=base) jS;have ua:=ae<|E7.ak ks id;have jh:=ae<|E7.ak ej id;have Bw:=ae<|cr.trans E7;have w0:=ua.ag (i:=0) rfl;have w1:=ua.free 0;clear ey E7);have fz:af (az eb) W4 (W4.setCell ⟨eb,0,none⟩ (bp g4 n4 c4)):=(af.ai (az eb) W4).setCell (p:=⟨eb,0,none⟩) (.inl (show az eb eb from rfl)) _;have rD:=aq (Box _ eb 136 (cR (bp g4 n4 c4) 0 false true 0)) (ua.store 0 (bp g4 n4 c4));have fY:=ae<|fz.ak jh (fun e=>by have h9:rb=eb:=e;have:=eB.out;omega);have ek:=ae<|Bw.setCell (p:=⟨eb,0,none⟩) (.inr eB.1) (bp g4 n4 c4);have rz:=ae (AD.ar fz fun g hg e=>by
  obtain⟨cs,h9⟩:=AD.gb hg;exact(h9.off ua aE) e)
 change Code.wp _ _ _ _ (W4.setCell ⟨eb,0,none⟩ (bp g4 n4 c4));clear z0 z3 fz ks ej cr wZ y0 y1 iw ua jh AD Bw w0 w1 Q6;generalize W4.setCell ⟨eb,0,none⟩ (bp g4 n4 c4)=W5 at *;go_wp2_with (first|(refine iy (cR (bp g4 n4 c4) 0 false true 0) rD Tryz.underlying136 ?_)|(refine iP (cR (bp g4 n4 c4) 0 false true 0) fY (ij _ _ _ _ _ _ _) ?_))
 (try simp only[Exit.inBlock,Exit.then])
 refine bodyPost_ret (results_cell_row rfl _ _ rb _ (cR (bp g4 n4 c4) 0 false true 0) (0,0) _ rfl (fY.aw _) Tryz.underlying136 rfl aS) rfl ?_;have gM:af (az rb) W5 (W5.setRow rb (cR (bp g4 n4 c4) 0 false true 0)):=(af.ai (az rb) W5).aw (.inl rfl) _;exact⟨_,_,_,by first|rfl|rw[qW.out],rz.ar gM fun g hg e=>(by
  obtain⟨cs,h9⟩:=rz.gb hg;exact(h9.off fY aE) e),ek.aw (.inr dt) _⟩
theorem LS {n:Nat}(h:aA 3 w base lv L)(hz:base≤w.heap.size)(hl:L.length≤16)(US:L.length≤cap)(Yc:cap≤16)(hn:n<64)(Gg:L.Nodup)(h1:1≤cap)(hb:(n:Int)∉L):
 Calls Tryz.prog 107 #[lv,ah cap,.agg #[ah 1,ah n]] w (rK base (bZ cap L n).1 (bZ cap L n).2.1 (bZ cap L n).2.2 false w):=by
 have Gu:=ae hb;have SM:(n:Int)≤63:=aj;have NW:=ae Gg;have HLC:=aq (L.length≤cap∧1≤cap) (⟨US,h1⟩);have Dz:L.length≤64:=aj;have ab6:(L.length:Int)≤16:=aj;have za:(cap:Int)≤16:=aj;obtain⟨b,JZ⟩:∃b:Int,b=n:=⟨_,rfl⟩;have yU:0≤b:=aj;have acJ:b≤63:=aj;rw[←JZ]at Gu ⊢;clear hb Gg US h1 SM JZ hn hl;have hl:=Dz;clear Dz;obtain⟨A,c,rfl,uE,qZ⟩:=h.shape;have HL:=ae h;have HZ:=ae hz;have dZ:=ae<|Box.fresh w 139 #[ah 1,ah b];have aK:af au w (w.alloc (.cells #[ah 1,ah b] 139)):=(af.ai au w).alloc _;have bc:=ae aK;clear h hz aK
 go_enter Tryz.func107,Tryz.ntmps107
 go_upto_region 1 with fail;change Code.wp _ _ _ _ ((w.alloc (.cells #[ah 1,ah b] 139)).alloc (.cells (cR aT 0 false false 0) 136));have hsz:(w.alloc (.cells #[ah 1,ah b] 139)).heap.size=w.heap.size+1:=World.size_alloc ..;generalize w.alloc (.cells #[ah 1,ah b] 139)=W0 at *;obtain⟨ab,fS⟩:∃ab,ab=w.heap.size:=⟨_,rfl⟩;have lj:=aq (w.heap.size≤ab) (Nat.le_of_eq fS.symm);rw[←fS]at dZ hsz ⊢;clear fS;have cy:=ae<|Box.fresh W0 136 (cR aT 0 false false 0);have aK:af au W0 (W0.alloc (.cells (cR aT 0 false false 0) 136)):=(af.ai au W0).alloc _;have iR:=ae<|aK.ak dZ id;have bu:=ae<|bc.trans aK;have dt:=aq (w.heap.size≤W0.heap.size) (bc.size);clear aK dZ bc;generalize W0.alloc (.cells (cR aT 0 false false 0) 136)=W1 at *;rw[hsz]at cy dt;clear hsz;generalize ab+1=rb at *;have lD:=ae<|HL.ar bu fun _ _=>id;have fF:=ae<|ef A c _ L b W1 lD.at (Nat.le_trans uE qZ);have y0:aF W1 ab 0 1:=iR.ag rfl;have y1:aF W1 ab 1 b:=iR.ag rfl;generalize j8:decide (b∈L)=was at *;have qW:=ae j8;clear j8;go_upto_region 2 with(go_at_call 18;refine fF.mono ?_;rintro e W ⟨rfl,rfl⟩);change Code.wp _ _ _ _ (W1.alloc (.cells (cR (.slice A L.length c) 0 false was 0) 136));have uJ:=ae<|Box.fresh W1 136 (cR (.slice A L.length c) 0 false was 0);have aK:af au W1 (W1.alloc (.cells (cR (.slice A L.length c) 0 false was 0) 136)):=(af.ai au W1).alloc _;have fX:=ae<|aK.ak cy id;have gj:=ae<|aK.ak iR id;have bI:=ae<|bu.trans aK;have eB:=aq (w.heap.size≤W1.heap.size∧rb<W1.heap.size) (⟨bu.size,cy.lt⟩);clear aK fF cy iR bu lD y0 y1;generalize W1.alloc (.cells (cR (.slice A L.length c) 0 false was 0) 136)=W2 at *;generalize W1.heap.size=eb at *;have AB:=ae<|cB b W2 (HL.ar bI fun _ _=>id) aj;have y0:aF W2 ab 0 1:=gj.ag rfl;have y1:aF W2 ab 1 b:=gj.ag rfl;have Vq:=ae hl;clear hl;go_upto_region 3 with(go_at_call 127;refine AB.mono ?_;rintro e W3 ⟨v3,rfl,bV,yQ⟩;obtain⟨A3,c3,e3,Oo,On⟩:=bV.shape;generalize Oj:(L.filter (· != b)).length=n3 at *;subst e3;have wZ:=ae<|bV.low (base':=base) (Nat.le_trans HZ bI.size);have mf:=ae yQ;clear bV yQ);have ks:=ae<|mf.ak uJ id;have ej:=ae<|mf.ak fX id;have iw:=ae<|mf.ak gj id;have cr:=ae<|bI.trans mf;clear uJ fX gj bI mf y0 y1 AB;have y0:aF W3 ab 0 1:=iw.ag rfl;have y1:aF W3 ab 1 b:=iw.ag rfl;obtain rfl:was=false:=by rw[←qW.out];exact decide_eq_false Gu
 have z3:aM W3 eb 3 (.bool false):=ks.ag rfl;have Q6:=ae<|fQ b W3 (HL.ar cr fun _ _=>id) (by have:=Vq.out;omega);have Vp:=aq ((b :: L).length=L.length+1) (List.length_cons);go_upto_region 15 with(go_at_call 128;refine Q6.mono ?_;rintro e W4 ⟨v4,rfl,ey,E7⟩;obtain⟨g4,c4,e4,SZ,Yb⟩:=ey.some_ (by simp);rw[Vp.out]at e4 SZ;subst e4;have AD:=ae<|ey.low (base':=base) jS;have ua:=ae<|E7.ak ks id;have jh:=ae<|E7.ak ej id;have Bw:=ae<|cr.trans E7;have w0:=ua.ag (i:=0) rfl;have w1:=ua.free 0;clear ey E7);clear cr;have cr:=ae Bw;have fz:af (az eb) W4 (W4.setCell ⟨eb,0,none⟩ (bp g4 (L.length+1) c4)):=(af.ai (az eb) W4).setCell (p:=⟨eb,0,none⟩) (.inl (show az eb eb from rfl)) _;have rD:=aq (Box _ eb 136 (cR (bp g4 (L.length+1) c4) 0 false false 0)) (ua.store 0 (bp g4 (L.length+1) c4));have fY:=ae<|fz.ak jh (fun e=>by have h9:rb=eb:=e;have:=eB.out;omega);have ek:=ae<|cr.setCell (p:=⟨eb,0,none⟩) (.inr eB.1) (bp g4 (L.length+1) c4);have rz:=ae (AD.ar fz fun g hg e=>by
  obtain⟨cs,h9⟩:=AD.gb hg;exact(h9.off ua aE) e)
 change Code.wp _ _ _ _ (W4.setCell ⟨eb,0,none⟩ (bp g4 (L.length+1) c4));clear fz ua jh cr AD w0 w1 Bw z3 Q6 ks ej y0 y1 iw wZ;generalize W4.setCell ⟨eb,0,none⟩ (bp g4 (L.length+1) c4)=W5 at *;have z0:aM W5 eb 0 (bp g4 (L.length+1) c4):=rD.ag rfl
 by_cases R8:cap<L.length+1
 ·have US:L.length=cap:=by have:=HLC.out;omega
  have hne:L≠[]:=fun e=>by rw[e]at US;have:=HLC.out;simp at US;omega
  have rh:=ae (show bZ cap L b=(b :: L.erase (gU L),gU L,true) by unfold bZ;rw[if_neg Gu.out,if_neg aj]);have pF:=ae (show(b :: L).take L.length=b :: L.erase (gU L) by
   rw[rV NW.out];obtain⟨m,hm⟩:∃m,L.length=m+1:=⟨L.length - 1,by have:=List.length_pos_iff.2 hne;omega⟩;rw[hm];rfl)
  have AL:=ae (show(b :: L).getD L.length 0=gU L by
   rw[sS Vp.out,eO,if_neg hne])
  have s7:=rz.at;obtain⟨g5,o5,e5,pE⟩:=s7.ag (i:=L.length) (by rw[Vp.out];omega);injection e5 with e5;injection e5 with e5 e6;subst e5 e6;rw[AL.out,Nat.zero_add]at pE;have SU:(cap:Int)<(L.length:Int)+1:=aj;have hw0:IntKind.i64.wrap (L.length:Int)=L.length:=by rw[IntKind.wrap_i64];omega
  have acu:(L.length:Int)<(L.length:Int)+1:=aj;have wW:(L.length:Int)≤c4:=aj;have acH:(L.length:Int)+1≤c4:=aj;clear R8 US hne s7;generalize uB:gU L=vv at *;have JD:=ae uB;clear uB;have a1:aF W5 eb 1 0:=rD.ag rfl;have f1:W5.frozen? ⟨eb,1,none⟩=false:=rD.free 1;go_upto_region 18 with fail;have fI:af (az eb) W5 (W5.setCell ⟨eb,1,none⟩ (ah vv)):=(af.ai (az eb) W5).setCell (p:=⟨eb,1,none⟩) (.inl (show az eb eb from rfl)) _;have uw:=aq (Box _ eb 136 (cR (bp g4 (L.length+1) c4) vv false false 0)) (rD.store 1 (ah vv));have kK:=ae<|fI.ak fY (fun e=>by have h9:rb=eb:=e;have:=eB.out;omega);have iu:=ae<|ek.setCell (p:=⟨eb,1,none⟩) (.inr eB.1) (ah vv);have Vg:=ae (rz.ar fI fun g hg e=>by
   obtain⟨cs,h9⟩:=rz.gb hg;exact(h9.off rD aE) e)
  change Code.wp _ _ _ _ (W5.setCell ⟨eb,1,none⟩ (ah vv));clear fI rD fY ek rz a1 f1 z0 pE;generalize W5.setCell ⟨eb,1,none⟩ (ah vv)=W6 at *;have a2:aM W6 eb 2 (.bool false):=uw.ag rfl;have f2:W6.frozen? ⟨eb,2,none⟩=false:=uw.free 2;go_upto_region 19 with fail;have l4:af (az eb) W6 (W6.setCell ⟨eb,2,none⟩ (.bool true)):=(af.ai (az eb) W6).setCell (p:=⟨eb,2,none⟩) (.inl (show az eb eb from rfl)) _;have vk:=aq (Box _ eb 136 (cR (bp g4 (L.length+1) c4) vv true false 0)) (uw.store 2 (.bool true));have w8:=ae<|l4.ak kK (fun e=>by have h9:rb=eb:=e;have:=eB.out;omega);have pz:=ae<|iu.setCell (p:=⟨eb,2,none⟩) (.inr eB.1) (.bool true);have NS:=ae (Vg.ar l4 fun g hg e=>by
   obtain⟨cs,h9⟩:=Vg.gb hg;exact(h9.off uw aE) e)
  change Code.wp _ _ _ _ (W6.setCell ⟨eb,2,none⟩ (.bool true));clear l4 uw kK iu Vg a2 f2;generalize W6.setCell ⟨eb,2,none⟩ (.bool true)=W7 at *;have a0:aM W7 eb 0 (bp g4 (L.length+1) c4):=vk.ag rfl;have f0:W7.frozen? ⟨eb,0,none⟩=false:=vk.free 0;go_upto_region 20 with fail;have iz:af (az eb) W7 (W7.setCell ⟨eb,0,none⟩ (bp g4 L.length c4)):=(af.ai (az eb) W7).setCell (p:=⟨eb,0,none⟩) (.inl (show az eb eb from rfl)) _;have yY:=aq (Box _ eb 136 (cR (bp g4 L.length c4) vv true false 0)) (vk.store 0 (bp g4 L.length c4));have JI:=ae<|iz.ak w8 (fun e=>by have h9:rb=eb:=e;have:=eB.out;omega);have rA:=ae<|pz.setCell (p:=⟨eb,0,none⟩) (.inr eB.1) (bp g4 L.length c4);have HV8:=ae (NS.ar iz fun g hg e=>by
   obtain⟨cs,h9⟩:=NS.gb hg;exact(h9.off vk aE) e)
  change Code.wp _ _ _ _ (W7.setCell ⟨eb,0,none⟩ (bp g4 L.length c4));clear iz vk w8 pz a0 f0;generalize W7.setCell ⟨eb,0,none⟩ (bp g4 L.length c4)=W8 at *;have J8:=ae (show aA 3 W8 base (bp g4 L.length c4) (b :: L.erase vv) by
   have h2:=HV8.take (m:=L.length) (by rw[Vp.out];omega);rw[pF.out]at h2;exact h2)
  have Fh:=ae JI;have l5:=ae rA;go_wp2_with (first|(refine iy (cR (bp g4 L.length c4) vv true false 0) yY Tryz.underlying136 ?_)|(refine iP (cR (bp g4 L.length c4) vv true false 0) JI (ij _ _ _ _ _ _ _) ?_))
  (try simp only[Exit.inBlock,Exit.then])
  refine bodyPost_ret (results_cell_row rfl _ _ rb _ (cR (bp g4 L.length c4) vv true false 0) (0,0) _ rfl (JI.aw _) Tryz.underlying136 rfl aS) rfl ?_;rw[rh.out];have gM:af (az rb) W8 (W8.setRow rb (cR (bp g4 L.length c4) vv true false 0)):=(af.ai (az rb) W8).aw (.inl rfl) _;exact⟨_,_,_,by first|rfl|rw[qW.out],J8.ar gM fun g hg e=>(by
   obtain⟨cs,h9⟩:=J8.gb hg;exact(h9.off Fh aE) e),l5.aw (.inr dt) _⟩
 ·have aY:L.length<cap:=aj;have rh:=ae (show bZ cap L b=(b :: L,0,false) by unfold bZ;rw[if_neg Gu.out,if_pos aY]);have SU:(L.length:Int)+1≤cap:=aj;clear R8 aY;go_wp2_with (first|(refine iy (cR (bp g4 (L.length+1) c4) 0 false false 0) rD Tryz.underlying136 ?_)|(refine iP (cR (bp g4 (L.length+1) c4) 0 false false 0) fY (ij _ _ _ _ _ _ _) ?_))
  (try simp only[Exit.inBlock,Exit.then])
  refine bodyPost_ret (results_cell_row rfl _ _ rb _ (cR (bp g4 (L.length+1) c4) 0 false false 0) (0,0) _ rfl (fY.aw _) Tryz.underlying136 rfl aS) rfl ?_;rw[rh.out];have gM:af (az rb) W5 (W5.setRow rb (cR (bp g4 (L.length+1) c4) 0 false false 0)):=(af.ai (az rb) W5).aw (.inl rfl) _;exact⟨_,_,_,by first|rfl|rw[qW.out],rz.ar gM fun g hg e=>(by
   obtain⟨cs,h9⟩:=rz.gb hg;exact(h9.off fY aE) e),ek.aw (.inr dt) _⟩
end
theorem K7:(Tryz.prog.info? 47).map (fun i=>(i.zero,i.size,i.bytes))=some (some aT,1,24):=by kernel_rfl
def RU (P:cI)(v ov ev:Value):Array Value:=#[ah P.cap,ah P.iC,ah P.ghost,v,aT,ov,ev,ah 0]
theorem wj (w:World):(Instr.makeSlice 47 (ah 64) (ah 64)).run Tryz.prog w= .ok (bp w.heap.size 64 64) (w.alloc (.cells (qN (fun _=>0)) 3)):=by
 obtain⟨i,hi,Nx⟩:=Option.map_eq_some_iff.1 gp;simp only[Prod.mk.injEq]at Nx;obtain⟨hz,hs,hb⟩:=Nx;have:=run_make (P:=Tryz.prog) w 47 3 i _ Tryz.underlying47 hi hz .i64 .i64 64 64 aj (Int.le_refl _) (by rw[hb];omega) aj;rw[hs]at this;exact this.trans aS
def Zp (P:cI)(w:World)(mb:Nat)(i:Value)(wr:World):Prop:=
 ∃(k:Nat) (v:Value),k≤P.q∧i=ah k∧Box wr mb 145 (RU P v aT aT)∧Row 47 wr v (List.replicate k aT)∧(∀g,aJ v g→w.heap.size≤g)∧af au w wr
section
def wE (P:cI)(w:World)(e:Ending)(w':World):Prop:=∃j:iU,e= .returned (aO j.mb)∧jg j P ⟨fun _=>[],0,fun _=>0,fun _=>0⟩ w'∧(∀k,RF j k→w.heap.size≤k)∧af au w w'
theorem js{P:Prop}(h:P:=by
 have h1:=fX.ar gM fun g hg e=>by
  obtain⟨cs,h9⟩:=fX.ak hg;exact(h9.off dG aE) e
 rw[List.replicate_succ'];exact h1):P:=h
theorem Pc (P:cI)(UN:1≤P.q)(MX:P.q≤8)(w:World):
 Calls Tryz.prog 70 #[ah P.cap,ah P.q,ah P.iC,ah P.ghost] w (wE P w):=by
 have HB:=ae<|Box.fresh w 145 (RU P aT aT aT);have HO:=ae<|(af.ai au w).alloc (.cells (RU P aT aT aT) 145)
 go_enter Tryz.func70,Tryz.ntmps70
 go_upto_region 3 with fail;obtain⟨mb,tY⟩:∃mb,mb=w.heap.size:=⟨_,rfl⟩;have vg:=aq (w.heap.size≤mb) (Nat.le_of_eq tY.symm);rw[←tY]at HB ⊢;clear tY;change Code.wp _ _ _ _ (w.alloc (.cells (RU P aT aT aT) 145));generalize w.alloc (.cells (RU P aT aT aT) 145)=W1 at *
 go_loopw [10] (fun iv wr=>Zp P w mb iv wr) (fun iv _=>P.q - (intOf iv).toNat)
 case atStart=>exact⟨0,_,fH _,rfl,HB,Row.lJ _ _,fun g hg=>(bo hg).elim,HO⟩
 case round=>
  clear HB HO;obtain⟨k,v,hk,rfl,hb,hr,hf,ho⟩:=hrel;have HB:=ae hb;have HO:=ae ho;have HR:=ae hr;have HF:=ae hf;have x3:aM wr mb 3 v:=hb.ag rfl;have f3:wr.frozen? ⟨mb,3,none⟩=false:=hb.free 3;clear hb hr hf ho
  by_cases aY:k<P.q
  ·have jk:(k:Int)<P.q:=aj;have cD:=ae aY;have UT:k<8:=aj;clear aY hk;go_wp2_with (at_builtin;refine bA _ rfl (.tmp 25) (.tmp 26) 141 47 rfl K7 rfl Tryz.underlying141 v (List.replicate k aT) rfl (HR.ar ((af.ai au wr).alloc _) fun _ _=>id) (some ⟨wr.heap.size,0,none⟩) 1 1 [aT] rfl rfl (kg wr _ _) aU (by simp[maxLen];omega) cM ?_;intro v2 w2 kJ bq Jx _;obtain⟨A2,c2,e2,_,_⟩:=kJ.shape;rw[show(List.replicate k (Value.slice none 0 0) ++ [Value.slice none 0 0]).length=k+1 by simp]at e2;subst e2;have dG:=ae<|bq.ak (((af.ai au wr).alloc (.cells #[aT] 47)).ak HB id) (fun hk=>by obtain⟨cs,h9⟩:=HR.ak hk;exact(h9.off HB aE) rfl);have fX:=ae kJ;have bu:=ae<|(HO.alloc (.cells #[aT] 47)).aG bq fun g hg=>.inr (HF g hg);have lE:=aq (∀g,aJ (.slice A2 (k+1) c2) g→w.heap.size≤g) (fun g hg=>(Jx g hg).elim (HF g) fun h=>by have:=HO.size;rw[World.size_alloc]at h;omega);have z3:=dG.ag (i:=3) rfl;have zf:=dG.free 3;clear kJ bq Jx)
   go_roundw
   case rel=>
    have gM:af (az mb) w2 (w2.setCell ⟨mb,3,none⟩ (.slice A2 (k+1) c2)):=(af.ai (az mb) w2).setCell (p:=⟨mb,3,none⟩) (.inl (show az mb mb from rfl)) _;refine⟨k+1,.slice A2 (k+1) c2,cD,by push_cast;rfl,dG.store 3 (.slice A2 (k+1) c2),?_,lE,bu.setCell (p:=⟨mb,3,none⟩) (.inr vg) _⟩;exact js
   case measure=>simp[intOf];have:=cD.out;omega
  ·obtain rfl:k=P.q:=aj;obtain⟨qb,qc,rfl,_,_⟩:=HR.cell (i:=0) (u:=aT) (by rw[List.getElem?_replicate,if_pos aj]);rw[List.length_replicate]at x3 HB HR HF;clear aY hk;have tc:=wj wr;have Sb:Box (wr.alloc (.cells (qN (fun _=>0)) 3)) mb 145 _:=((af.ai au wr).alloc _).ak HB id;have x5:aM (wr.alloc (.cells (qN (fun _=>0)) 3)) mb 5 aT:=Sb.ag rfl;have f5:(wr.alloc (.cells (qN (fun _=>0)) 3)).frozen? ⟨mb,5,none⟩=false:=Sb.free 5;go_upto_region 7 with fail;have bq:af au w ((wr.alloc (.cells (qN (fun _=>0)) 3)).setCell ⟨mb,5,none⟩ (bp wr.heap.size 64 64)):=(HO.alloc _).setCell (p:=⟨mb,5,none⟩) (.inr vg) _;have QO:af au wr (wr.alloc (.cells (qN (fun _=>0)) 3)):=(af.ai au wr).alloc _;have gM:af (az mb) (wr.alloc (.cells (qN (fun _=>0)) 3)) ((wr.alloc (.cells (qN (fun _=>0)) 3)).setCell ⟨mb,5,none⟩ (bp wr.heap.size 64 64)):=(af.ai (az mb) _).setCell (p:=⟨mb,5,none⟩) (.inl (show az mb mb from rfl)) _;have dG:=aq (Box _ mb 145 (RU P (bp qb P.q qc) (bp wr.heap.size 64 64) aT)) ((QO.ak HB id).store 5 (bp wr.heap.size 64 64));have lE:=ae<|gM.ak (Box.fresh wr 3 (qN (fun _=>0))) (fun e=>by have h9:wr.heap.size=mb:=e;have:=HB.lt;omega);have fX:=ae ((HR.ar QO fun _ _=>id).ar gM fun g hg e=>by
    obtain⟨cs,h9⟩:=HR.ak hg;exact(h9.off HB aE) e)
   have bu:=ae bq;have JC:=aq (w.heap.size≤wr.heap.size) (HO.size);have Fl:=aq (qb<wr.heap.size) (HR.lt (aD.2 rfl));have xE:=aq (w.heap.size≤qb) (HF qb (aD.2 rfl));change Code.wp _ _ _ _ ((wr.alloc (.cells (qN (fun _=>0)) 3)).setCell ⟨mb,5,none⟩ (bp wr.heap.size 64 64));clear bq QO gM HB HR HO x3 f3 HF tc Sb x5 f5;generalize(wr.alloc (.cells (qN (fun _=>0)) 3)).setCell ⟨mb,5,none⟩ (bp wr.heap.size 64 64)=W2 at *;generalize wr.heap.size=ob at *;have tc:=wj W2;have Sb:Box (W2.alloc (.cells (qN (fun _=>0)) 3)) mb 145 _:=((af.ai au W2).alloc _).ak dG id;have x6:aM (W2.alloc (.cells (qN (fun _=>0)) 3)) mb 6 aT:=Sb.ag rfl;have f6:(W2.alloc (.cells (qN (fun _=>0)) 3)).frozen? ⟨mb,6,none⟩=false:=Sb.free 6;go_upto_region 8 with fail;have bV:af au w ((W2.alloc (.cells (qN (fun _=>0)) 3)).setCell ⟨mb,6,none⟩ (bp W2.heap.size 64 64)):=(bu.alloc _).setCell (p:=⟨mb,6,none⟩) (.inr vg) _;have QO:af au W2 (W2.alloc (.cells (qN (fun _=>0)) 3)):=(af.ai au W2).alloc _;have gM:af (az mb) (W2.alloc (.cells (qN (fun _=>0)) 3)) ((W2.alloc (.cells (qN (fun _=>0)) 3)).setCell ⟨mb,6,none⟩ (bp W2.heap.size 64 64)):=(af.ai (az mb) _).setCell (p:=⟨mb,6,none⟩) (.inl (show az mb mb from rfl)) _;have hG:=aq (Box _ mb 145 (RU P (bp qb P.q qc) (bp ob 64 64) (bp W2.heap.size 64 64))) ((QO.ak dG id).store 6 (bp W2.heap.size 64 64));have Vf:=ae<|gM.ak (Box.fresh W2 3 (qN (fun _=>0))) (fun e=>by have h9:W2.heap.size=mb:=e;have:=dG.lt;omega);have vj:=ae<|gM.ak (QO.ak lE id) (lE.off dG aE);have ej:=ae ((fX.ar QO fun _ _=>id).ar gM fun g hg e=>by
    obtain⟨cs,h9⟩:=fX.ak hg;exact(h9.off dG aE) e)
   have bI:=ae bV;have mf:=aq (ob<W2.heap.size∧mb<W2.heap.size∧qb<W2.heap.size∧w.heap.size≤W2.heap.size) (⟨lE.lt,dG.lt,fX.lt (aD.2 rfl),bu.size⟩);have Dq:=aq (W2.heap.size+1≤((W2.alloc (.cells (qN (fun _=>0)) 3)).setCell ⟨mb,6,none⟩ (bp W2.heap.size 64 64)).heap.size) (by have:=gM.size;rw[World.size_alloc]at this;exact this);change Code.wp _ _ _ _ ((W2.alloc (.cells (qN (fun _=>0)) 3)).setCell ⟨mb,6,none⟩ (bp W2.heap.size 64 64));clear bV QO gM dG fX bu lE f6 x6 tc Sb;generalize(W2.alloc (.cells (qN (fun _=>0)) 3)).setCell ⟨mb,6,none⟩ (bp W2.heap.size 64 64)=W3 at *;generalize W2.heap.size=eb at *;go_wp2;go_ret;have h1:=mf.out;have h2:=Dq.out;have h3:=vg.out;have h4:=xE.out;have h5:=JC.out;refine⟨⟨mb,qb,qc,ob,eb,W3.heap.size⟩,rfl,⟨aT,fun _=>aT,hG,?_,fun _ _=>aA.nil _ _ _,aA.nil _ _ _,vj,Vf,by dsimp only;omega,by dsimp only;omega,dX _⟩,?_,bI⟩
   ·have h6:=ej.out;rw[show List.replicate P.q (Value.slice none 0 0)=AQ P.q (fun _=>aT) by simp[AQ,List.map_const']]at h6;exact h6
   ·rintro k (e|e|e|e)<;>dsimp only at e<;>omega
end
end Go.Proofs.YtpcfhbeakecihaaGreat
