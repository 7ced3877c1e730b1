/- Lemmas. -/
import Derived.Test.YtchofaecncibjaaGreatM31
import Derived.Test.YtchofaecncibjaaGreatM36
set_option linter.all false
set_option maxHeartbeats 20000000
set_option maxRecDepth 100000
namespace Go.Proofs.YtchofaecncibjaaGreat
open Go.ChangeShapes Go.RowKit Go.WideShapes
structure lr where
 mb:Nat
 qb:Nat
 qc:Nat
 ob:Nat
 eb:Nat
 B:Nat
def uY (f:Int→Int):Array Value:=Array.ofFn (n:=64) fun i=>ah (f ((i.1:Nat):Int))
theorem yS (f:Int→Int){b:Nat}(hb:b<64):(uY f)[b]? =some (ah (f b)):=by
 unfold uY;rw[Array.getElem?_ofFn,dif_pos hb]
theorem Nn (f:Int→Int){b:Nat}(hb:b<64)(v:Int):(uY f).setIfInBounds b (ah v)=uY (aT f b v):=by
 refine Array.ext (by simp[uY]) fun j h1 h2=>?_
 have hj:j<64:=by simpa [uY] using h2
 rw[Array.getElem_setIfInBounds (by simpa [uY] using hj)];simp only[uY,Array.getElem_ofFn];unfold aT
 by_cases e:b=j
 ·subst e;simp
 ·rw[if_neg e,if_neg ao]
def aeT (P:dN)(j:lr)(gv:Value)(now:Int):Array Value:=
 #[ah P.cap,ah P.kL,ah P.ghost,aU j.qb P.q j.qc,gv,aU j.ob 64 64,aU j.eb 64 64,ah now]
def Gi (q:Nat)(qv:Nat→Value):List Value:=(List.range q).map qv
theorem xn (q:Nat)(qv:Nat→Value):(Gi q qv).length=q:=by simp[Gi]
theorem KT (q:Nat)(qv:Nat→Value){i:Nat}(hi:i<q):(Gi q qv)[i]? =some (qv i):=by simp[Gi,hi]
theorem Fw (q:Nat)(qv:Nat→Value)(i:Nat)(v:Value):(Gi q qv).set i v=Gi q (aI qv i v):=by
 apply List.ext_getElem?;intro k;unfold Gi aI;rw[List.getElem?_set]
 by_cases e:i=k
 ·subst e
  by_cases h:i<q
  ·simp[h]
  ·simp[h]
 ·rw[if_neg e]
  by_cases h:k<q
  ·simp only[List.getElem?_map,List.getElem?_range h,Option.map_some];rw[if_neg (fun e2=>e e2.symm)]
  ·simp[h]
structure ei (j:lr)(P:dN)(gv:Value)(qv:Nat→Value)(s:dB)(w:World):Prop where
 aq:Box w j.mb 173 (aeT P j gv s.now)
 row:Row 61 w (aU j.qb P.q j.qc) (Gi P.q qv)
 q:∀i,i<P.q→aF 3 w j.B (qv i) (s.S i)
 g:aF 3 w j.B gv (s.S P.q)
 of:Box w j.ob 3 (uY s.often)
 ex:Box w j.eb 3 (uY s.exp)
 lt:j.mb<j.B∧j.qb<j.B∧j.ob<j.B∧j.eb<j.B
 ne:j.ob≠j.eb
 bs:j.B≤w.heap.size
def mE (j:lr)(P:dN)(s:dB)(w:World):Prop:=∃gv qv,ei j P gv qv s w
def RF (j:lr):Nat→Prop:=fun k=>k=j.mb∨k=j.qb∨k=j.ob∨k=j.eb
section
variable {j:lr}{P:dN}{gv:Value}{qv:Nat→Value}{s:dB}{w w':World}
theorem ei.aA {S:Nat→Prop}(h:ei j P gv qv s w)(ho:ag S w w')(hS:∀k,k<w.heap.size→¬S k):ei j P gv qv s w':=
 ⟨ho.aq h.aq (hS _ h.aq.lt),h.row.aA ho fun k hk=>hS k (h.row.lt hk),fun i hi=>(h.q i hi).aA ho fun g hg=>hS g ((h.q i hi).lt g hg).2,h.g.aA ho fun g hg=>hS g (h.g.lt g hg).2,ho.aq h.of (hS _ h.of.lt),ho.aq h.ex (hS _ h.ex.lt),h.lt,h.ne,Nat.le_trans h.bs ho.size⟩
theorem ei.keep (h:ei j P gv qv s w)(ho:ag az w w'):ei j P gv qv s w':=h.aA ho fun _ _=>id
theorem ei.off {S:Nat→Prop}(h:ei j P gv qv s w)(ho:ag S w w')(hS:∀k,RF j k→¬S k)(hB:∀k,j.B≤k→k<w.heap.size→¬S k):ei j P gv qv s w':=
 ⟨ho.aq h.aq (hS _ (.inl rfl)),h.row.aA ho fun k hk=>hS k (.inr (.inl (aG.1 hk).symm)),fun i hi=>(h.q i hi).aA ho fun g hg=>hB g ((h.q i hi).lt g hg).1 ((h.q i hi).lt g hg).2,h.g.aA ho fun g hg=>hB g (h.g.lt g hg).1 (h.g.lt g hg).2,ho.aq h.of (hS _ (.inr (.inr (.inl rfl)))),ho.aq h.ex (hS _ (.inr (.inr (.inr rfl)))),h.lt,h.ne,Nat.le_trans h.bs ho.size⟩
theorem ei.c3 (h:ei j P gv qv s w):aE w j.mb 3 (aU j.qb P.q j.qc):=h.aq.af rfl
theorem ei.c4 (h:ei j P gv qv s w):aE w j.mb 4 gv:=h.aq.af rfl
theorem ei.c5 (h:ei j P gv qv s w):aE w j.mb 5 (aU j.ob 64 64):=h.aq.af rfl
theorem ei.c6 (h:ei j P gv qv s w):aE w j.mb 6 (aU j.eb 64 64):=h.aq.af rfl
theorem ei.c7 (h:ei j P gv qv s w):aw w j.mb 7 s.now:=h.aq.af rfl
theorem ei.cq (h:ei j P gv qv s w){i:Nat}(hi:i<P.q):aE w j.qb i (qv i)∧w.frozen? ⟨j.qb,i,none⟩=false:=by
 obtain⟨g,c,e,h1,h2⟩:=h.row.cell (KT P.q qv hi);injection e with e1;injection e1 with e1;injection e1 with e1;rw[e1];exact⟨h1,h2⟩
end
theorem LB (S:Nat→List Int):∀k,((cL S (k+1)).length:Int)=(cL S k).length+(S k).length
 |k=>by rw[cL,List.length_append];omega
def Zf (j:lr)(P:dN)(s:dB)(b:Int)(w:World)(i:Value)(wr:World):Prop:=∃k:Nat,k≤P.q∧i=ah k∧(∀t,t<k→b∉s.S t)∧w=wr
def abZ (P:dN)(s:dB)(w:World)(v i:Value)(wr:World):Prop:=∃k:Nat,k≤P.q∧i=ah k∧v=ah (cL s.S k).length∧w=wr
section
variable {j:lr}{P:dN}{s:dB}{w:World}
theorem pN:∀{L L':List Int},L.Nodup→(∀x∈L,x∈L')→L.length≤L'.length
 | [],L',_,_=>Nat.zero_le _
 |a :: L,L',hn,h=>by
  rw[List.nodup_cons]at hn;have ha:=h a (List.mem_cons_self ..);have:=pN (L':=L'.erase a) hn.2 fun x hx=>(List.mem_erase_of_ne (fun(e:x=a)=>hn.1 (e▸hx))).2 (h x (List.mem_cons_of_mem _ hx))
  rw[List.length_erase_of_mem ha]at this;have:=List.length_pos_of_mem ha;rw[List.length_cons];omega
theorem zR {S:Nat→List Int}{m i:Nat}(h:DP m S):(S i).length≤64:=by
 have h1:(S i).length≤((List.range 64).map Int.ofNat).length:=pN (h.nodup i) fun x hx=>by
  have:=h.kA hx;exact List.mem_map.2 ⟨x.toNat,List.mem_range.2 ao,by simp;omega⟩
 simpa using h1
theorem D1 {i:Nat}{b:Int}(h:mE j P s w)(hd:DP (P.q+1) s.S)(hq:P.q≤8)(hi:i<P.q)(hb:b∈s.S i):
 Calls Tryz.prog 136 #[aO j.mb,ah b] w fun e w'=>e= .returned (ah i)∧w=w':=by
 obtain⟨gv,qv,hA⟩:=h;have HA:=ae hA;have HI:=ae hi;have HB:=ae hb;have HD:=ae hd;have x3:=hA.c3;clear hA hi hb hd
 go_enter Tryz.func136,Tryz.ntmps136
 go_upto_region 2 with fail
 go_loopw [5] (fun iv wr=>Zf j P s b w iv wr) (fun iv _=>P.q - (intOf iv).toNat)
 case atStart=>exact⟨0,dT _,rfl,fun t ht=>absurd ht ao,rfl⟩
 case round=>
  obtain⟨k,hk,rfl,iQ,rfl⟩:=hrel;have HN:=ae iQ;clear iQ;have pr:k≤i:=by
   rcases Nat.lt_or_ge i k with h|h
   ·exact absurd HB (HN i h)
   ·exact h
  have aY:k<P.q:=by have:=HI.out;omega
  have iV:(k:Int)<P.q:=ao;obtain⟨xq,_⟩:=HA.cq aY;have bF:=HA.q k aY;obtain⟨A,c,eq,h1,h2⟩:=bF.shape;have HH:=fS A c _ (s.S k) b w (by rw[←eq];exact bF.at) (Nat.le_trans h1 h2);rw[eq]at xq;have bL:=ae aY;clear bF eq h1 h2 aY hk
  by_cases wF:b∈s.S k
  ·rw[decide_eq_true wF]at HH;have HH:=ae HH;have HE:=ae<|HD.dj wF HB;clear wF;go_wp2_with (go_at_call 20;refine HH.mono ?_;rintro e W1 ⟨rfl,rfl⟩);go_ret;exact⟨by rw[←HE.out];rfl,rfl⟩
  ·rw[decide_eq_false wF]at HH;have HH:=ae HH;have Gy:=aB (∀t,t<k+1→b∉s.S t) (fun t ht=>by
    by_cases e:t=k
    ·rw[e];exact wF
    ·exact HN t ao)
   clear wF;go_wp2_with (go_at_call 20;refine HH.mono ?_;rintro e W1 ⟨rfl,rfl⟩)
   go_roundw
   case rel=>exact⟨k+1,bL,by go_num,Gy,rfl⟩
   case measure=>simp[intOf];have:=bL.out;omega
theorem OH {b:Int}(h:mE j P s w)(hq:P.q≤8)(hb:∀i,i<P.q→b∉s.S i):
 Calls Tryz.prog 136 #[aO j.mb,ah b] w fun e w'=>e= .returned (ah (-1))∧w=w':=by
 obtain⟨gv,qv,hA⟩:=h;have HA:=ae hA;have HB:=ae hb;have x3:=hA.c3;clear hA hb
 go_enter Tryz.func136,Tryz.ntmps136
 go_upto_region 2 with fail
 go_loopw [5] (fun iv wr=>Zf j P s b w iv wr) (fun iv _=>P.q - (intOf iv).toNat)
 case atStart=>exact⟨0,dT _,rfl,fun t ht=>absurd ht ao,rfl⟩
 case round=>
  obtain⟨k,hk,rfl,iQ,rfl⟩:=hrel;have HN:=ae iQ;clear iQ
  by_cases aY:k<P.q
  ·have iV:(k:Int)<P.q:=ao;obtain⟨xq,_⟩:=HA.cq aY;have bF:=HA.q k aY;obtain⟨A,c,eq,h1,h2⟩:=bF.shape;have HH:=fS A c _ (s.S k) b w (by rw[←eq];exact bF.at) (Nat.le_trans h1 h2);rw[eq]at xq;have bL:=ae aY;rw[decide_eq_false (HB.out k aY)]at HH;have HH:=ae HH;clear bF eq h1 h2 aY hk;go_wp2_with (go_at_call 20;refine HH.mono ?_;rintro e W1 ⟨rfl,rfl⟩)
   go_roundw
   case rel=>exact⟨k+1,bL,by go_num,fun t ht=>HB t (by have:=bL.out;omega),rfl⟩
   case measure=>simp[intOf];have:=bL.out;omega
  ·obtain rfl:k=P.q:=ao;clear aY hk;go_wp2;go_ret;exact⟨rfl,rfl⟩
theorem FG {S:Nat→List Int}(h:∀i,(S i).length≤64):∀k,(cL S k).length≤64*k
 |0=>by simp[cL]
 |k+1=>by rw[cL,List.length_append];have:=FG h k;have:=h k;omega
theorem WI (h:mE j P s w)(hd:DP (P.q+1) s.S)(hq:P.q≤8):
 Calls Tryz.prog 138 #[aO j.mb] w fun e w'=>e= .returned (ah (aV P s).length)∧w=w':=by
 obtain⟨gv,qv,hA⟩:=h;have HA:=ae hA;have x3:=hA.c3;have H64:=ae<|fun i=>zR (i:=i) hd;clear hA hd
 go_enter Tryz.func138,Tryz.ntmps138
 go_upto_region 3 with fail
 go_loopw [3,4] (fun v iv wr=>abZ P s w v iv wr) (fun _ iv _=>P.q - (intOf iv).toNat)
 case atStart=>exact⟨0,dT _,rfl,rfl,rfl⟩
 case round=>
  obtain⟨k,hk,rfl,rfl,rfl⟩:=hrel
  by_cases aY:k<P.q
  ·have iV:(k:Int)<P.q:=ao;obtain⟨xq,_⟩:=HA.cq aY;obtain⟨A,c,eq,h1,h2⟩:=(HA.q k aY).shape;rw[eq]at xq;have bL:=ae aY;have nA:=ae<|LB s.S k;have hf:=FG H64 k;have h6:=H64.out k;clear eq h1 h2 aY hk;generalize(s.S k).length=nk at *;generalize(cL s.S k).length=fk at *;go_wp2
   go_roundw
   case rel=>exact⟨k+1,bL,by go_num,by rw[nA.out],rfl⟩
   case measure=>simp[intOf];have:=bL.out;omega
  ·obtain rfl:k=P.q:=ao;clear aY hk;go_wp2;go_ret;exact⟨rfl,rfl⟩
end
section
variable {j:lr}{P:dN}{gv:Value}{qv:Nat→Value}{s s':dB}{w w':World}
theorem ei.congr (h:ei j P gv qv s w)(h1:∀i,i≤P.q→s.S i=s'.S i)(h2:s.now=s'.now)(h3:s.often=s'.often)(h4:s.exp=s'.exp):ei j P gv qv s' w:=
 ⟨h2▸h.aq,h.row,fun i hi=>h1 i ao▸h.q i hi,h1 _ (dm _)▸h.g,h3▸h.of,h4▸h.ex,h.lt,h.ne,h.bs⟩
theorem ei.BL (h:ei j P gv qv s w)(hq:0<P.q):∃cs,Box w j.qb 61 cs:=h.row.aq (aG.2 rfl)
theorem rD{P:Prop}(h:P:=by
 unfold aI
 by_cases e:i=k
 ·rw[if_pos e,if_pos e];exact hv.aA ho fun g hg=>nB g (hv.lt g hg).1
 ·rw[if_neg e,if_neg e];exact(h.q i hi).aA ho fun g hg=>nB g ((h.q i hi).lt g hg).1):P:=h
theorem ei.yF (h:ei j P gv qv s w){k:Nat}(hk:k<P.q){v:Value}{l:List Int}(hv:aF 3 w j.B v l):ei j P gv (aI qv k v) {s with S:=aI s.S k l} (w.setCell ⟨j.qb,k,none⟩ v):=by
 obtain⟨cs,hb⟩:=h.BL ao;have ho:ag (ar j.qb) w (w.setCell ⟨j.qb,k,none⟩ v):=(ag.aj (ar j.qb) w).setCell (p:=⟨j.qb,k,none⟩) (.inl (show ar j.qb j.qb from rfl)) _;have aY:=h.lt;have nB:∀g,j.B≤g→¬ar j.qb g:=fun g hg e=>by have h1:g=j.qb:=e;omega
 have kG:=h.row.store (i:=k) (by rw[xn];exact hk) v (aG.2 rfl);rw[Fw]at kG;refine⟨ho.aq h.aq (h.aq.off hb aD),kG,fun i hi=>?_,?_,ho.aq h.of (h.of.off hb aD),ho.aq h.ex (h.ex.off hb aD),h.lt,h.ne,Nat.le_trans h.bs ho.size⟩
 ·show aF 3 _ j.B (aI qv k v i) (aI s.S k l i)
  exact rD
 ·show aF 3 _ j.B gv (aI s.S k l P.q)
  unfold aI;rw[if_neg ao];exact h.g.aA ho fun g hg=>nB g (h.g.lt g hg).1
theorem ei.aac (h:ei j P gv qv s w){v:Value}{l:List Int}(hv:aF 3 w j.B v l)(hq:0<P.q):ei j P v qv {s with S:=aI s.S P.q l} (w.setCell ⟨j.mb,4,none⟩ v):=by
 obtain⟨cs,hb⟩:=h.BL hq;have ho:ag (ar j.mb) w (w.setCell ⟨j.mb,4,none⟩ v):=(ag.aj (ar j.mb) w).setCell (p:=⟨j.mb,4,none⟩) (.inl (show ar j.mb j.mb from rfl)) _;have aY:=h.lt;have nB:∀g,j.B≤g→¬ar j.mb g:=fun g hg e=>by have h1:g=j.mb:=e;omega
 refine⟨h.aq.store 4 v,h.row.aA ho fun g hg e=>?_,fun i hi=>?_,?_,ho.aq h.of (h.of.off h.aq aD),ho.aq h.ex (h.ex.off h.aq aD),h.lt,h.ne,Nat.le_trans h.bs ho.size⟩
 ·have h1:=aG.1 hg;exact(hb.off h.aq aD) (h1.trans e)
 ·show aF 3 _ j.B (qv i) (aI s.S P.q l i)
  unfold aI;rw[if_neg ao];exact(h.q i hi).aA ho fun g hg=>nB g ((h.q i hi).lt g hg).1
 ·show aF 3 _ j.B v (aI s.S P.q l P.q)
  unfold aI;rw[if_pos rfl];exact hv.aA ho fun g hg=>nB g (hv.lt g hg).1
theorem ei.ack (h:ei j P gv qv s w)(n:Int)(hq:0<P.q):ei j P gv qv {s with now:=n} (w.setCell ⟨j.mb,7,none⟩ (ah n)):=by
 obtain⟨cs,hb⟩:=h.BL hq;have ho:ag (ar j.mb) w (w.setCell ⟨j.mb,7,none⟩ (ah n)):=(ag.aj (ar j.mb) w).setCell (p:=⟨j.mb,7,none⟩) (.inl (show ar j.mb j.mb from rfl)) _;have aY:=h.lt;have nB:∀g,j.B≤g→¬ar j.mb g:=fun g hg e=>by have h1:g=j.mb:=e;omega
 refine⟨h.aq.store 7 (ah n),h.row.aA ho fun g hg e=>?_,fun i hi=>(h.q i hi).aA ho fun g hg=>nB g ((h.q i hi).lt g hg).1,h.g.aA ho fun g hg=>nB g (h.g.lt g hg).1,ho.aq h.of (h.of.off h.aq aD),ho.aq h.ex (h.ex.off h.aq aD),h.lt,h.ne,Nat.le_trans h.bs ho.size⟩;have h1:=aG.1 hg;exact(hb.off h.aq aD) (h1.trans e)
theorem ei.aeQ (h:ei j P gv qv s w){b:Nat}(hb:b<64)(n:Int)(hq:0<P.q):ei j P gv qv {s with exp:=aT s.exp b n} (w.setCell ⟨j.eb,b,none⟩ (ah n)):=by
 obtain⟨cs,hr⟩:=h.BL hq;have ho:ag (ar j.eb) w (w.setCell ⟨j.eb,b,none⟩ (ah n)):=(ag.aj (ar j.eb) w).setCell (p:=⟨j.eb,b,none⟩) (.inl (show ar j.eb j.eb from rfl)) _;have aY:=h.lt;have nB:∀g,j.B≤g→¬ar j.eb g:=fun g hg e=>by have h1:g=j.eb:=e;omega
 have kG:=h.ex.store b (ah n);rw[Nn _ hb]at kG;refine⟨ho.aq h.aq (h.aq.off h.ex aD),h.row.aA ho fun g hg e=>?_,fun i hi=>(h.q i hi).aA ho fun g hg=>nB g ((h.q i hi).lt g hg).1,h.g.aA ho fun g hg=>nB g (h.g.lt g hg).1,ho.aq h.of h.ne,kG,h.lt,h.ne,Nat.le_trans h.bs ho.size⟩;have h1:=aG.1 hg;exact(hr.off h.ex aD) (h1.trans e)
theorem ei.aab (h:ei j P gv qv s w){b:Nat}(hb:b<64)(n:Int)(hq:0<P.q):ei j P gv qv {s with often:=aT s.often b n} (w.setCell ⟨j.ob,b,none⟩ (ah n)):=by
 obtain⟨cs,hr⟩:=h.BL hq;have ho:ag (ar j.ob) w (w.setCell ⟨j.ob,b,none⟩ (ah n)):=(ag.aj (ar j.ob) w).setCell (p:=⟨j.ob,b,none⟩) (.inl (show ar j.ob j.ob from rfl)) _;have aY:=h.lt;have nB:∀g,j.B≤g→¬ar j.ob g:=fun g hg e=>by have h1:g=j.ob:=e;omega
 have kG:=h.of.store b (ah n);rw[Nn _ hb]at kG;refine⟨ho.aq h.aq (h.aq.off h.of aD),h.row.aA ho fun g hg e=>?_,fun i hi=>(h.q i hi).aA ho fun g hg=>nB g ((h.q i hi).lt g hg).1,h.g.aA ho fun g hg=>nB g (h.g.lt g hg).1,kG,ho.aq h.ex h.ne.symm,h.lt,h.ne,Nat.le_trans h.bs ho.size⟩;have h1:=aG.1 hg;exact(hr.off h.of aD) (h1.trans e)
end
theorem erase_filter {l:List Int}(h:l.Nodup)(b:Int):l.filter (· != b)=l.erase b:=(h.erase_eq_filter b).symm
def uP (S:Nat→List Int)(b:Int)(k:Nat):Nat→List Int:=fun i=>if i<k then(S i).erase b else S i
def aex (j:lr)(P:dN)(gv:Value)(s:dB)(b:Int)(w:World)(iv:Value)(wr:World):Prop:=
 ∃(k:Nat) (qv:Nat→Value),k≤P.q∧iv=ah k∧ei j P gv qv {s with S:=uP s.S b k} wr∧ag (RF j) w wr
section
variable {j:lr}{P:dN}{s:dB}{w:World}
theorem za {qi n:Nat}(h:mE j P s w)(hd:DP (P.q+1) s.S)(hP:P.Ok)(hqi:qi<P.q)(hn:n<64)(Ku:0≤s.now∧s.now≤4000000000):
 Calls Tryz.prog 150 #[aO j.mb,ah qi,ah n] w fun e w'=>e= .returned (.tuple #[])∧mE j P (iC P s qi n) w'∧ag (RF j) w w':=by
 obtain⟨gv,qv0,F9⟩:=h;obtain⟨b,hb⟩:∃b:Int,b=n:=⟨_,rfl⟩;rw[←hb];have Vx:=ae hb;have Uz:=hP.q8;have ZJ:=hP.l1;have ags:=hP.acu;have HD:=ae hd;have HQI:=ae hqi;have Di:=ae hn;have nG:=ae F9;have py:=ae Ku;have JR:=ae (show 0<P.q by omega);have HL:=aB (∀k,(uP s.S b k k).length≤10000) (fun k=>by
  unfold uP;rw[if_neg ao];have:=zR (i:=k) hd;omega)
 clear F9 hd hqi hP hb hn Ku
 go_enter Tryz.func150,Tryz.ntmps150
 go_upto_region 1 with fail
 go_loopw [6] (fun iv wr=>aex j P gv s b w iv wr) (fun iv _=>P.q - (intOf iv).toNat)
 case atStart=>exact⟨0,qv0,dT _,rfl,nG.congr (fun i _=>by show s.S i=uP s.S b 0 i;unfold uP;rw[if_neg ao]) rfl rfl rfl,ag.aj _ _⟩
 case round=>
  obtain⟨k,qv,hk,rfl,hA,ho⟩:=hrel;have HA:=ae hA;have HO:=ae ho;have x3:=hA.c3;clear hA ho
  by_cases aY:k<P.q
  ·have iV:(k:Int)<P.q:=ao;have bL:=ae aY;clear aY hk;go_upto_region 3 with fail;have k1:aE wr.drew j.mb 3 (aU j.qb P.q j.qc):=x3;have k2:aE wr.drew j.qb k (qv k):=(HA.cq bL).1;refine dU (fun w':World=>aE w' j.mb 3 (aU j.qb P.q j.qc)∧aE w' j.qb k (qv k)) 14 fun aH=>?_
   refine bX [0,1,2,3,4,5,6,7,8,9,10,11,12] ?_;refine cM 13 fun Kc hK=>?_
   go_simp;refine(dO b wr.drew ((HA.q k bL).aA ((ag.aj az wr).drew) fun _ _=>id) (HL k)).mono ?_;rintro e W1 ⟨v1,rfl,aR,sS⟩;obtain⟨A1,n1,c1,rfl⟩:∃A n c,v1=Value.slice A n c:=by obtain⟨A,c,e,_⟩:=aR.shape;exact⟨A,_,c,e⟩
   have tm:=ae aR;have Gc:=ae<|(ag.aj az wr).drew.trans sS;have k1:=sS.cell aH.1 id;have k2:=sS.cell aH.2 id;clear aR sS;refine eh hK fun aH=>?_
   clear hK;refine cG ?_;have eV:=ae<|HA.keep Gc;have NK:=eV.cq bL;obtain⟨vB,hf1⟩:=NK;clear aH k1 k2 x3;go_wp2
   go_roundw
   case rel=>
    have hd:=HD.out;have bF:aF 3 W1 j.B (.slice A1 n1 c1) ((s.S k).erase b):=by
     have h1:=tm.low HA.bs;have h2:(uP s.S b k k)=s.S k:=by unfold uP;rw[if_neg ao]
     have h3:aF 3 W1 j.B (.slice A1 n1 c1) ((uP s.S b k k).filter (· != b)):=h1;rw[h2,erase_filter (hd.nodup k)]at h3;exact h3
    refine⟨k+1,aI qv k (.slice A1 n1 c1),bL,by go_num,(eV.yF bL bF).congr (fun i hi=>?_) rfl rfl rfl,(HO.da Gc).setCell (p:=⟨j.qb,k,none⟩) (.inl (.inr (.inl rfl))) _⟩
    show aI (uP s.S b k) k ((s.S k).erase b) i=uP s.S b (k+1) i
    unfold aI uP
    by_cases e:i=k
    ·rw[if_pos e,if_pos ao,e]
    ·rw[if_neg e]
     by_cases h2:i<k
     ·rw[if_pos h2,if_pos ao]
     ·rw[if_neg h2,if_neg ao]
   case measure=>simp[intOf];have:=bL.out;omega
  ·obtain rfl:k=P.q:=ao;clear aY hk;have x4:=HA.c4;obtain⟨gA,gc,eg,_⟩:=HA.g.shape;have HW:=ae<|dO b wr HA.g (HL P.q);clear eg;go_upto_region 5 with(go_at_call 134;refine HW.mono ?_;rintro e W3 ⟨v3,rfl,cB,Gm⟩;obtain⟨A3,n3,c3,rfl⟩:∃A n c,v3=Value.slice A n c:=(by obtain⟨A,c,e,_⟩:=cB.shape;exact⟨A,_,c,e⟩);have DH:=ae cB;have oh:=ae Gm;have Bb:=(HA.keep Gm).c4;have hf4:=(HA.keep Gm).aq.free 4;clear cB Gm);have bF:aF 3 W3 j.B (.slice A3 n3 c3) ((s.S P.q).erase b):=by
    have h1:=DH.low HA.bs;have h2:(uP s.S b P.q P.q)=s.S P.q:=by unfold uP;rw[if_neg ao]
    have h3:aF 3 W3 j.B (.slice A3 n3 c3) ((uP s.S b P.q P.q).filter (· != b)):=h1;rw[h2,erase_filter (HD.nodup P.q)]at h3;exact h3
   have hA4:=((HA.keep oh).aac bF JR).congr (s':={s with S:=s7 s.S b}) (fun i hi=>by
    show aI (uP s.S b P.q) P.q ((s.S P.q).erase b) i=(s.S i).erase b
    unfold aI uP
    by_cases e:i=P.q
    ·rw[if_pos e,e]
    ·rw[if_neg e,if_pos ao]) rfl rfl rfl
   have gZ:=ae hA4;have bK:=ae<|(HO.da oh).setCell (p:=⟨j.mb,4,none⟩) (.inl (.inl rfl)) (.slice A3 n3 c3);clear hA4 bF Bb hf4 x3 x4 HA HO oh DH HW nG;change Code.wp _ _ _ _ (W3.setCell ⟨j.mb,4,none⟩ (.slice A3 n3 c3));generalize W3.setCell ⟨j.mb,4,none⟩ (.slice A3 n3 c3)=W4 at *;have agB:(qi:Int)<P.q:=by have:=HQI.out;omega
   have HL4:=aB ((s7 s.S b qi).length≤10000) (by
    have h1:((s.S qi).erase b).length≤(s.S qi).length:=List.length_erase_le;have:=zR (i:=qi) HD
    show((s.S qi).erase b).length≤10000
    omega)
   have k1:aE W4.drew j.mb 3 (aU j.qb P.q j.qc):=gZ.c3;have k2:aE W4.drew j.qb qi (qv qi):=(gZ.cq HQI).1;refine dU (fun w':World=>aE w' j.mb 3 (aU j.qb P.q j.qc)∧aE w' j.qb qi (qv qi)) 14 fun aH=>?_
   refine bX [0,1,2,3,4,5,6,7,8,9,10,11,12] ?_;refine cM 13 fun Kc hK=>?_
   go_simp;refine(iF b W4.drew ((gZ.q qi HQI).aA ((ag.aj az W4).drew) fun _ _=>id) HL4).mono ?_;rintro e W5 ⟨v5,rfl,cA,ZF⟩;obtain⟨A5,n5,c5,rfl⟩:∃A n c,v5=Value.slice A n c:=by obtain⟨A,c,e,_⟩:=cA.shape;exact⟨A,_,c,e⟩
   have vD:=ae cA;have UM:=ae<|(ag.aj az W4).drew.trans ZF;have k1:=ZF.cell aH.1 id;have k2:=ZF.cell aH.2 id;clear cA ZF;refine eh hK fun aH=>?_
   clear hK;refine cG ?_;have yB:=ae<|gZ.keep UM;obtain⟨Gn,Yi⟩:=yB.cq HQI;clear aH k1 k2;go_upto_region 6 with fail;have Y0:aF 3 W5 j.B (.slice A5 n5 c5) (b :: s7 s.S b qi):=vD.low gZ.bs;have gY:=ae<|yB.yF HQI Y0;have cZ:=ae<|(bK.da UM).setCell (p:=⟨j.qb,qi,none⟩) (.inl (.inr (.inl rfl))) (.slice A5 n5 c5);clear Gn Yi Y0 yB gZ bK UM vD;change Code.wp _ _ _ _ (W5.setCell ⟨j.qb,qi,none⟩ (.slice A5 n5 c5));generalize W5.setCell ⟨j.qb,qi,none⟩ (.slice A5 n5 c5)=W6 at *;have x6:aE W6.drew j.mb 6 (aU j.eb 64 64):=gY.c6;have x7:aw W6.drew j.mb 7 s.now:=gY.c7;have x1:aw W6.drew j.mb 1 P.kL:=gY.aq.af rfl;have F1:=py.out;have ew:IntKind.i64.wrap (s.now+P.kL)=s.now+P.kL:=by rw[IntKind.wrap_i64];omega
   refine oa (fun w':World=>w'=W6.drew) 14 ?_ ?_
   ·rfl
   intro aH;refine bX [0,1,2,3,4,5,6,7,8,9,10,11,12,13] ?_;refine cG ?_;have QT:=Vx.out;have yH:=Di.out;have xe:aw W6.drew j.eb n (s.exp n):=gY.ex.af (yS _ Di);have xf:W6.drew.frozen? ⟨j.eb,n,none⟩=false:=gY.ex.free n;have UA:(n:Int)<64:=ao;subst QT;clear aH x6 x7 x1;go_wp2
   (try simp only[Exit.inBlock,Exit.then])
   refine bodyPost_end (results_none rfl _ _ _) rfl ?_;have h9:=gY.aeQ yH (s.now+P.kL) JR;have o9:=cZ.setCell (p:=⟨j.eb,n,none⟩) (.inl (.inr (.inr (.inr rfl)))) (ah (s.now+P.kL));exact⟨rfl,⟨_,_,h9.keep ((ag.aj az _).drew)⟩,o9.drew⟩
end
theorem xN {l:List Int}{L:Nat}(h:l.length=L+1):l.getD L 0=eB l:=by
 unfold eB;rw[List.getLastD_eq_getLast?,List.getLast?_eq_getElem?,h,List.getD_eq_getElem?_getD];have h1:L<l.length:=ao;simp[h1]
def ad7 (c:Nat)(qv nv:Value)(W wr:World):Prop:=∃k m:Nat,1≤m∧m≤c∧k+Lib.bitLen m=Lib.bitLen c∧qv=ah k∧nv=ah m∧W=wr
def ad8 (j:lr)(P:dN)(s1:dB)(w:World)(iv:Value)(wr:World):Prop:=
 ∃k:Nat,1≤k∧k≤P.q∧iv=ah k∧mE j P (ch P s1 (k - 1)) wr∧ag (RF j) w wr
section
variable {j:lr}{P:dN}{s:dB}{w:World}
theorem qF{P:Prop}(h:P:=by
 go_upto_region 13 with fail
 go_quiet (fail)
 go_wp2
 go_roundw
 case rel=>exact⟨k+1,ao,bL,by push_cast;rfl,by show mE j P (ch P s1 k) _;rw[HT.out,HD.out];exact⟨gv,qv,HA.keep ((ag.aj az _).drewN _)⟩,HO.drewN _⟩
 case measure=>simp[intOf];have:=bL.out;omega):P:=h
theorem sh{P:Prop}(h:P:=by
 clear QM hqq;go_upto_region 10 with(go_at_call 150;refine HF.mono ?_;rintro e W2 ⟨rfl,wB,bp⟩;have bU:=ae wB;have adI:=ae<|Kg.trans bp;clear wB bp)
 go_loopw [6] (fun iv wr=>ad8 j P s1 w iv wr) (fun iv _=>P.q - (intOf iv).toNat)
 case atStart=>exact⟨1,dm _,Gb,rfl,bU,adI⟩
 case round=>
  clear bU adI;obtain⟨k,C0,hk,rfl,hm,ho⟩:=hrel;obtain⟨gv,qv,hA⟩:=hm;have HA:=ae hA;have HO:=ae ho;have HK1:=ae C0;have x3:=hA.c3;clear hA ho
  by_cases aY:k<P.q
  ·have iV:(k:Int)<P.q:=ao;have bL:=ae aY;have oE:=ae<|pn HK (k - 1) ao;have hT:ch P s1 k=ik P (ch P s1 (k - 1)) k:=by
    obtain⟨m,rfl⟩:∃m,k=m+1:=⟨k - 1,ao⟩;rfl
   have HT:=ae hT;have F1:(ch P s1 (k - 1)).now=s1.now:=oE.now;have Gw:=ae F1;clear hT F1;generalize ch P s1 (k - 1)=sk at *;have NK:=(HA.cq aY).1;have bF:=HA.q k aY;obtain⟨A,c,eq,h1,h2⟩:=bF.shape;have uN:=bF.at;rw[eq]at NK uN;have agN:IntKind.i64.wrap ((k:Int)+1)=(k:Int)+1:=by rw[IntKind.wrap_i64];omega
   by_cases hS:sk.S k= []
   ·have HD:=ae (show ik P sk k=sk by unfold ik nj;rw[if_neg (by simp[hS])]);have hz:(sk.S k).length=0:=by rw[hS];rfl
    rw[hz]at NK;clear bF eq h1 h2 uN hS hz aY hk;exact qF
   ·have bw:=tN hS;have uV:=oE.ok.dj.kA bw;have AD:=zR (i:=k) oE.ok.dj;obtain⟨L,hL⟩:∃L,(sk.S k).length=L+1:=⟨(sk.S k).length - 1,by have:=List.length_pos_iff.2 hS;omega⟩;have wC:(sk.S k).getD L 0=eB (sk.S k):=xN hL;obtain⟨g,o,rfl,jU⟩:=uN.af (i:=L) ao;rw[wC]at jU;rw[hL]at NK;have Ki:=ae (show nj sk k=decide (sk.exp (eB (sk.S k))<sk.now) by unfold nj;simp[hS]);have eV:=aB (ik P sk k=if nj sk k=true then iC P sk (k - 1) (eB (sk.S k))else sk) (rfl);clear bF eq h1 h2 uN hS hk bw wC;generalize eB (sk.S k)=b at *;obtain⟨m,rfl⟩:=Int.eq_ofNat_of_zero_le uV.1;have aar:m<64:=ao;have afY:=ae aar;have xe:aw wr j.eb m (sk.exp m):=HA.ex.af (yS _ aar);have x6:=HA.c6;have x7:=HA.c7;have AA:(m:Int)<64:=ao;have hL1:(L:Int)<(L:Int)+1:=ao;have hLp:(0:Int)<(L:Int)+1:=ao;have hLw:IntKind.i64.wrap ((L:Int)+1 - 1)=L:=by rw[IntKind.wrap_i64];omega
    have hLL:L<64:=ao;have hkw:IntKind.i64.wrap ((k:Int) - 1)=(k:Int) - 1:=by rw[IntKind.wrap_i64];omega
    clear uV aar AD
    by_cases hd:sk.exp m<sk.now
    ·have HD:=ae (show ik P sk k=iC P sk (k - 1) m by rw[eV.out,if_pos (by rw[Ki.out];exact decide_eq_true hd)]);have HF:=ae<|fun q=>za (qi:=k - 1) (n:=m) (w:=wr.drewN q) ⟨gv,qv,HA.keep ((ag.aj az wr).drewN q)⟩ oE.ok.dj HP (by have:=bL.out;omega) afY (by rw[Gw.out];exact py);rw[show((k - 1:Nat):Int)=(k:Int) - 1 by omega]at HF;generalize hex:sk.exp m=ex at *;generalize F1:sk.now=nw at *;clear hex F1 eV Ki;go_upto_region 13 with fail
     go_quiet (fail)
     have x3q:aE (wr.drewN nq) j.mb 3 (aU j.qb P.q j.qc):=x3;have agS:aE (wr.drewN nq) j.qb k (.slice (some ⟨g,o,none⟩) (L+1) c):=NK;have acT:aw (wr.drewN nq) g (o+L) m:=jU;have HFQ:=ae<|HF nq;have HOQ:=ae<|HO.drewN nq;clear x3 x6 x7 xe NK jU HF HO HA;generalize wr.drewN nq=W1 at *;go_wp2_with (go_at_call 150;refine HFQ.mono ?_;rintro e W2 ⟨rfl,wB,bp⟩;have iw:=ae wB;have bf:=ae bp;clear wB bp)
     go_roundw
     case rel=>exact⟨k+1,ao,bL,by push_cast;rfl,by show mE j P (ch P s1 k) _;rw[HT.out,HD.out];exact iw,HOQ.trans bf⟩
     case measure=>simp[intOf];have:=bL.out;omega
    ·have HD:=ae (show ik P sk k=sk by rw[eV.out,if_neg (by rw[Ki.out];simpa using hd)]);generalize hex:sk.exp m=ex at *;generalize F1:sk.now=nw at *;clear hex F1 eV Ki;have hdn:nw≤ex:=ao;clear hd;exact qF
  ·obtain rfl:k=P.q:=ao;clear aY hk;go_wp2_with fail
   go_end0
   exact⟨rfl,by rw[KM.out];exact⟨gv,qv,HA⟩,HO⟩):P:=h
theorem tS {n:Nat}(h:mE j P s w)(cD:fi P s)(hP:P.Ok)(hn:n<64)(Mm:s.often n+1≤s.now)(Ku:s.now≤2000000000):
 Calls Tryz.prog 137 #[aO j.mb,ah n] w fun e w'=>e= .returned (.tuple #[])∧mE j P (fF P s n) w'∧ag (RF j) w w':=by
 obtain⟨gv,qv0,F9⟩:=h;have UA:(n:Int)<64:=ao;have Uz:=hP.q8;have Gb:=ae hP.q1;have Di:=ae hn;have HP:=ae hP;have HK:=aB (fi P (fN P (dI s n) n)) (zg hP cD Mm ao UA);have HDJ:=aB (fi P (dI s n)) (⟨cD.dj,cD.now,fun b=>by
  have:=cD.often b
  show 0≤aT s.often n _ b∧aT s.often n _ b≤s.now
  unfold aT
  split
  ·rename_i e;subst e;omega
  ·exact this⟩)
 have py:=aB (0≤(fN P (dI s n) n).now∧(fN P (dI s n) n).now≤4000000000) (⟨cD.now,by show s.now≤_;omega⟩);have KM:=aB (fF P s n=ch P (fN P (dI s n) n) (P.q - 1)) (rfl);have ui:=ae (show fN P (dI s n) n=iC P (dI s n) (QG P (s.often n+1)) n by unfold fN;show iC P (dI s n) (QG P (aT s.often n (s.often n+1) n)) n=_;unfold aT;rw[if_pos rfl]);obtain⟨c,hc⟩:=Int.eq_ofNat_of_zero_le (show 0≤s.often n+1 by have:=cD.often n;omega);have vB:1≤c:=by have:=cD.often n;omega
 have kX:c≤2000000000:=ao;have HC1:=ae vB;rw[hc]at ui;have HQQ:=aB (QG P (c:Int)=min (Lib.bitLen c - 1) (P.q - 1)) (rfl);have hcw:IntKind.i64.wrap (s.often n+1)=c:=by rw[IntKind.wrap_i64];omega
 have x5:=F9.c5;have xo:aw w j.ob n (s.often n):=F9.of.af (yS _ hn);have xof:w.frozen? ⟨j.ob,n,none⟩=false:=F9.of.free n;have eV:=aB (mE j P (dI s n) (w.setCell ⟨j.ob,n,none⟩ (ah c))) (⟨gv,qv0,by have:=F9.aab hn (s.often n+1) Gb.out;rw[hc]at this;show ei j P gv qv0 {s with often:=aT s.often n (s.often n+1)} _;rw[hc];exact this⟩);have Kg:=aB (ag (RF j) w (w.setCell ⟨j.ob,n,none⟩ (ah c))) ((ag.aj _ w).setCell (p:=⟨j.ob,n,none⟩) (.inl (.inr (.inr (.inl rfl)))) _);have HMN:=aB (0≤(dI s n).now∧(dI s n).now≤4000000000) (⟨cD.now,by show s.now≤_;omega⟩);generalize fN P (dI s n) n=s1 at *;clear F9 cD Mm hP hn Ku vB
 go_enter Tryz.func137,Tryz.ntmps137
 go_upto_region 2 with fail;clear x5 xo xof;change Code.wp _ _ _ _ (w.setCell ⟨j.ob,n,none⟩ (ah c));generalize w.setCell ⟨j.ob,n,none⟩ (ah c)=W1 at *;obtain⟨gv,qv1,hA1⟩:=eV.out;have y5:=hA1.c5;have yo:aw W1 j.ob n c:=by
  have h1:aw W1 j.ob n (aT s.often n (s.often n+1) n):=hA1.of.af (yS _ Di);unfold aT at h1;rw[if_pos rfl,hc]at h1;exact h1
 have y3:=hA1.c3;clear hA1 hc;go_upto_region 3 with fail
 go_loopw [4,5] (fun qv nv wr=>ad7 c qv nv W1 wr) (fun _ nv _=>(intOf nv).toNat)
 case atStart=>exact⟨0,c,HC1,dm _,Nat.zero_add _,rfl,rfl,rfl⟩
 case round=>
  obtain⟨k,m,AA,hmc,hkm,rfl,rfl,rfl⟩:=hrel;have Bc:=Lib.bitLen_half m ao ao
  by_cases aY:1<m
  ·have iV:(1:Int)<m:=ao;have afd:k≤64:=by have:=bitLen_le c;omega
   have hkw:IntKind.i64.wrap ((k:Int)+1)=(k:Int)+1:=by rw[IntKind.wrap_i64];omega
   have eD:wrap64 ((m:Int) / 2)=((m / 2:Nat):Int):=by unfold wrap64;omega
   have HM:=aB (1≤m / 2∧m / 2≤c∧k+1+Lib.bitLen (m / 2)=Lib.bitLen c∧m / 2<m) (⟨ao,ao,ao,ao⟩);have JU:=ae eD;have CU:=ae (show(intOf (Value.int .i64 ((m / 2:Nat):Int))).toNat<(intOf (Value.int .i64 (m:Int))).toNat by show m / 2<m;omega);clear Bc hkm AA hmc aY eD;go_wp2
   go_roundw
   case rel=>exact⟨k+1,m / 2,HM.1,HM.2.1,HM.2.2.1,by push_cast;rfl,by rw[JU.out],rfl⟩
   case measure=>rw[JU.out];exact CU
  ·obtain rfl:m=1:=ao;have h1:Lib.bitLen 1=1:=by rfl
   rw[h1]at hkm;have afd:k≤64:=by have:=bitLen_le c;omega
   have hqw:IntKind.i64.wrap ((P.q:Int) - 1)=(P.q:Int) - 1:=by rw[IntKind.wrap_i64];omega
   have hqq:QG P (c:Int)=min k (P.q - 1):=by rw[HQQ.out];congr 1;omega
   clear Bc AA hmc hkm h1 aY
   by_cases QM:k≤P.q - 1
   ·have afc:(k:Int)≤(P.q:Int) - 1:=by have:=Gb.out;omega
    have HF:=ae<|za (qi:=k) (n:=n) eV HDJ.dj HP (by have:=Gb.out;omega) Di HMN;rw[show iC P (dI s n) k n=s1 by rw[ui.out,hqq,Nat.min_eq_left QM]]at HF;exact sh
   ·have afc:(P.q:Int) - 1<k:=by have:=Gb.out;omega
    have HF:=ae<|za (qi:=P.q - 1) (n:=n) eV HDJ.dj HP (by have:=Gb.out;omega) Di HMN;rw[show iC P (dI s n) (P.q - 1) n=s1 by rw[ui.out,hqq,Nat.min_eq_right ao],show((P.q - 1:Nat):Int)=(P.q:Int) - 1 by have:=Gb.out;omega]at HF;exact sh
end
theorem DU {P:Program}(w:World){o:Oper}{a:Act}{K:Act→World→Prop}{Q:Exit→Act→World→Prop}(s x:Operand)(t e:TypeId)
 (ho:o.op= .call {callee:=.builtin .append,args:=#[s,x],argTypes:=#[t,t]})
 (eP:(P.info? e).map (fun i=>(i.zero,i.size,i.bytes))=some (some (ah 0),1,8)) (ht:P.underlying t=some (.slice e))
 (base:Nat) (v:Value) (l:List Int) (hs:a.eval s=v) (bF:aF e w base v l) (base':Nat) (u:Value) (l':List Int) (hx:a.eval x=u) (hu:aF e w base' u l') (hlen:l.length+l'.length≤1000000) (ly:base≤w.heap.size)
 (h:∀v' w',aF e w' base v' (l ++ l')→ag (aK v) w w'→K (a.put o.dst v') w'):o.wp P a w K Q:=by
 rcases hu.2 with⟨rfl,h0⟩|⟨g,cap,cur,rfl,hb,hg,hn,hm,hsz,ND⟩
 ·obtain rfl:l'= []:=List.eq_nil_of_length_eq_zero h0;have hr:=sQ (P:=P) w t o.type e eP ht bF;unfold Oper.wp execOp;simp only[ho,resolve,invoke,builtin,Sem.run_bind,Sem.run_pure,Result.andThen_ok,List.map_toArray,List.map_cons,List.map_nil,hs,hx,hr];exact h v w jC (ag.aj _ _)
 ·obtain⟨i0,hi,yl,CK,Ay⟩:=info_parts eP;have jU:=fun j u hj=>World.ownsRow.cells hu (g:=g) rfl j u hj
  obtain⟨v',w',hr,h2,h3,_,h5⟩:=run_append_own_at (P:=P) w base t o.type e i0 _ 1 8 ht hi yl CK Ay rfl aD v l.length (l.map (Value.int .i64)) bF ⟨g,0,none⟩ l'.length cap (l'.map (Value.int .i64)) (by simp) (fun j u hj=>jU j u hj) (fun u hu=>by obtain⟨z,_,rfl⟩:=List.mem_map.1 hu;rfl) gJ ao ly;unfold Oper.wp execOp;simp only[ho,resolve,invoke,builtin,Sem.run_bind,Sem.run_pure,Result.andThen_ok,List.map_toArray,List.map_cons,List.map_nil,hs,hx,hr];refine h v' w' ?_ ((ag.aj _ _).grown h3 fun k hk=>.inl hk);unfold aF;rw[List.map_append,List.length_append];exact h2
theorem M7 {P:dN}{s:dB}{b:Int}(h:b∈aV P s):∃i,i<P.q∧b∈s.S i:=dz.1 h
theorem TK {P:dN}{s:dB}{b:Int}(h:fi P s){i:Nat}(hi:b∈s.S i)(k:Nat):aI s.S i ((s.S i).erase b) k=s7 s.S b k:=by
 unfold aI s7
 by_cases e:k=i
 ·rw[if_pos e,e]
 ·rw[if_neg e,List.erase_of_not_mem fun h2=>e (h.dj.dj h2 hi)]
def ab1 (P:dN)(s:dB)(w:World)(v i:Value)(wr:World):Prop:=
 ∃(k:Nat) (L:List Int),k≤P.q∧i=ah k∧L ++ cL s.S (P.q - k)=aV P s∧aF 3 wr w.heap.size v L∧ag az w wr
section
variable {j:lr}{P:dN}{s:dB}{w:World}
theorem Lb {b:Int}(h:mE j P s w)(hq:P.q≤8)(hb:b∉aV P s):
 Calls Tryz.prog 113 #[aO j.mb,ah b] w fun e w'=>e= .returned (.bool false)∧w=w':=by
 have HO:=ae<|OH h hq fun i hi h2=>hb (dz.2 ⟨i,hi,h2⟩);clear h hb
 go_enter Tryz.func113,Tryz.ntmps113
 go_wp2_with (go_at_call 136;refine HO.mono ?_;rintro e W1 ⟨rfl,rfl⟩);go_ret;exact⟨rfl,rfl⟩
theorem Ch {n:Nat}(h:mE j P s w)(cD:fi P s)(hP:P.Ok)(h1:s.now≤1000000000)(hb:(n:Int)∈aV P s):
 Calls Tryz.prog 113 #[aO j.mb,ah n] w fun e w'=>e= .returned (.bool true)∧mE j P (ni P s n) w'∧ag (RF j) w w':=by
 obtain⟨i,hi,UE⟩:=M7 hb;have hn:=cD.dj.kA UE;have HO:=ae<|D1 h cD.dj hP.q8 hi UE;obtain⟨gv,qv,hA⟩:=h;have x7:=hA.c7;have xf:=hA.aq.free 7;have F1:=cD.now;have hw:IntKind.i64.wrap (s.now+1)=s.now+1:=by rw[IntKind.wrap_i64];omega
 have eV:=aB (mE j P (bI s) (w.setCell ⟨j.mb,7,none⟩ (ah (s.now+1)))) (⟨gv,qv,hA.ack (s.now+1) hP.q1⟩);have Kg:=aB (ag (RF j) w (w.setCell ⟨j.mb,7,none⟩ (ah (s.now+1)))) ((ag.aj _ w).setCell (p:=⟨j.mb,7,none⟩) (.inl (.inl rfl)) _);have HU:=ae<|tS (n:=n) eV (uk cD) hP ao (by have:=(cD.often n).2;show s.often n+1≤s.now+1;omega) (by show s.now+1≤_;omega);have hi8:(i:Int)<8:=by have:=hP.q8;omega
 clear hA cD hP hb UE hi hn
 go_enter Tryz.func113,Tryz.ntmps113
 go_upto_region 4 with(go_at_call 136;refine HO.mono ?_;rintro e W1 ⟨rfl,rfl⟩);clear x7 xf HO;change Code.wp _ _ _ _ (w.setCell ⟨j.mb,7,none⟩ (ah (s.now+1)));generalize w.setCell ⟨j.mb,7,none⟩ (ah (s.now+1))=W1 at *;go_wp2_with (go_at_call 137;refine HU.mono ?_;rintro e W2 ⟨rfl,wB,bp⟩);go_ret;exact⟨rfl,wB,Kg.trans bp⟩
theorem WG {n:Nat}(h:mE j P s w)(cD:fi P s)(hP:P.Ok)(hb:(n:Int)∈aV P s):
 Calls Tryz.prog 115 #[aO j.mb,ah n] w fun e w'=>e= .returned (.bool true)∧mE j P (zO s n) w'∧ag (RF j) w w':=by
 obtain⟨i,hi,UE⟩:=M7 hb;have hn:=cD.dj.kA UE;have HO:=ae<|D1 h cD.dj hP.q8 hi UE;obtain⟨gv,qv,hA⟩:=h;have HA:=ae hA;have HI:=ae hi;have HL:=ae (show(s.S i).length≤10000 by have:=zR (i:=i) cD.dj;omega);have vf:=ae<|TK cD UE;have Vq:=ae<|cD.dj.nodup i;have hi8:(i:Int)<8:=by have:=hP.q8;omega
 have UC:(i:Int)<P.q:=ao;have k1:aE w.drew j.mb 3 (aU j.qb P.q j.qc):=hA.c3;have k2:aE w.drew j.qb i (qv i):=(hA.cq hi).1;clear hA cD hP hb UE hi hn
 go_enter Tryz.func115,Tryz.ntmps115
 go_upto_region 4 with(go_at_call 136;refine HO.mono ?_;rintro e W1 ⟨rfl,rfl⟩);refine dU (fun w':World=>aE w' j.mb 3 (aU j.qb P.q j.qc)∧aE w' j.qb i (qv i)) 14 fun aH=>?_
 refine bX [0,1,2,3,4,5,6,7,8,9,10,11,12] ?_;refine cM 13 fun Kc hK=>?_
 go_simp;refine(dO (n:Int) w.drew ((HA.q i HI).aA ((ag.aj az w).drew) fun _ _=>id) HL).mono ?_;rintro e W1 ⟨v1,rfl,aR,sS⟩;obtain⟨A1,n1,c1,rfl⟩:∃A n c,v1=Value.slice A n c:=by obtain⟨A,c,e,_⟩:=aR.shape;exact⟨A,_,c,e⟩
 have tm:=ae aR;have Gc:=ae<|(ag.aj az w).drew.trans sS;have k1:=sS.cell aH.1 id;have k2:=sS.cell aH.2 id;clear aR sS;refine eh hK fun aH=>?_
 clear hK;refine cG ?_;obtain⟨vB,hf1⟩:=(HA.keep Gc).cq HI;clear aH k1 k2;go_wp2;go_ret;have bF:aF 3 W1 j.B (.slice A1 n1 c1) ((s.S i).erase n):=by
  have h1:=tm.low HA.bs;rw[erase_filter Vq.out]at h1;exact h1
 exact⟨rfl,⟨gv,_,((HA.keep Gc).yF HI bF).congr (fun k _=>vf k) rfl rfl rfl⟩,(((ag.aj (RF j) w).da Gc).setCell (p:=⟨j.qb,i,none⟩) (.inl (.inr (.inl rfl))) _)⟩
theorem WJ (h:mE j P s w)(cD:fi P s)(hP:P.Ok):
 Calls Tryz.prog 63 #[aO j.mb] w fun e w'=>∃v,e= .returned v∧aF 3 w' w.heap.size v (aV P s)∧ag az w w':=by
 obtain⟨gv,qv,hA⟩:=h;have HA:=ae hA;have Uz:=hP.q8;have mF:=aB ((aV P s).length≤512) (by have:=FG (S:=s.S) (fun i=>zR (i:=i) cD.dj) P.q;show(cL s.S P.q).length≤512;omega);clear hA cD hP
 go_enter Tryz.func63,Tryz.ntmps63
 go_upto_region 3 with fail
 go_loopw [3,4] (fun v i wr=>ab1 P s w v i wr) (fun _ i _=>P.q - (intOf i).toNat)
 case atStart=>exact⟨0,[],dT _,rfl,rfl,aF.nil _ _ _,ag.aj _ _⟩
 case round=>
  obtain⟨k,L,hk,rfl,hL,bF,ho⟩:=hrel;have HL:=ae bF;have HO:=ae ho;have x3:=(HA.keep ho).c3
  by_cases aY:k<P.q
  ·have iV:(k:Int)<P.q:=ao;obtain⟨m,hm⟩:∃m,P.q=m+1+k:=⟨P.q - 1 - k,ao⟩;have HM:=ae (show m<P.q by omega);have bL:=ae aY;have hE:(L ++ s.S m) ++ cL s.S m=aV P s:=by
    rw[←hL,show P.q - k=m+1 by omega,cL,List.append_assoc]
   have HE:=ae (show(L ++ s.S m) ++ cL s.S (P.q - (k+1))=aV P s by rw[show P.q - (k+1)=m by omega];exact hE);have nA:=ae (show L.length+(s.S m).length≤1000000 by
    have h1:=mF.out;rw[←hE,List.length_append,List.length_append]at h1;omega)
   have Qd:IntKind.i64.wrap ((P.q:Int) - 1)=(P.q:Int) - 1:=by rw[IntKind.wrap_i64];omega
   have hw2:IntKind.i64.wrap (m:Int)=m:=by rw[IntKind.wrap_i64];omega
   have hw3:(P.q:Int) - 1 - k=m:=ao;have hmi:(m:Int)<P.q:=ao;clear hL hE bF ho aY hk hm;go_upto_region 5 with fail;have k1:aE wr.drew j.mb 3 (aU j.qb P.q j.qc):=x3;have k2:aE wr.drew j.qb m (qv m):=(((HA.keep HO).cq HM).1);refine dU (fun w':World=>aE w' j.mb 3 (aU j.qb P.q j.qc)∧aE w' j.qb m (qv m)) 16 fun aH=>?_
   refine bX [0,1,2,3,4,5,6,7,8,9,10,11,12,13,14] ?_;refine cM 15 fun Kc hK=>?_
   rw[if_pos (by rfl)];refine DU _ (.tmp 14) (.tmp 28) 61 3 rfl iD Tryz.underlying61 w.heap.size u3 L rfl (HL.aA ((ag.aj az _).drew) fun _ _=>id) j.B (qv m) (s.S m) rfl ((HA.q m HM).aA (HO.drew) fun _ _=>id) nA HO.size ?_;intro v2 W2 h3 h4;have CS:=ae h3;have bf:=ae<|(HO.drew).aC h4 fun q hq=>.inr (HL.lt q hq).1;have k1:=h4.cell aH.1 (fun hq=>by have h9:w.heap.size≤j.mb:=(HL.lt _ hq).1;have:=HA.lt;have:=HA.bs;omega);have k2:=h4.cell aH.2 (fun hq=>by have h9:w.heap.size≤j.qb:=(HL.lt _ hq).1;have:=HA.lt;have:=HA.bs;omega);clear h3 h4;refine eh hK fun aH=>?_
   clear hK;refine cG ?_;clear aH k1 k2 x3;go_wp2
   go_roundw
   case rel=>exact⟨k+1,L ++ s.S m,bL,by push_cast;rfl,HE,CS,bf⟩
   case measure=>simp[intOf];have:=bL.out;omega
  ·obtain rfl:k=P.q:=ao;rw[Nat.sub_self,show cL s.S 0= []from rfl,List.append_nil]at hL;clear aY hk bF ho;go_wp2;go_ret;exact⟨_,rfl,by rw[←hL];exact HL,HO⟩
end
def kV (v:Int)(g:Bool)(e:Int):Array Value:=#[ah v,.bool g,ah e]
theorem uj (v:Int)(g:Bool)(e:Int):(kV v g e).all (·.oneCell')=true:=by simp[kV,Value.oneCell']
theorem aF.fQ {t:TypeId}{w:World}{base:Nat}{v:Value}{xs:List Int}(h:aF t w base v xs){k:Nat}(hk:aK v k):∃cs,Box w k t cs:=by
 rcases h.2 with⟨rfl,_⟩|⟨g,cap,cur,rfl,_,hg,_⟩
 ·exact absurd hk a7
 ·obtain rfl:=aG.1 hk;exact⟨cur,hg⟩
theorem aF.some_ {t:TypeId}{w:World}{base:Nat}{v:Value}{xs:List Int}(h:aF t w base v xs)(hne:xs≠[]):∃g c,v=aU g xs.length c∧xs.length≤c∧c≤maxLen:=by
 rcases h.2 with⟨_,h0⟩|⟨g,cap,cur,rfl,_,_,h1,h2,_⟩
 ·exact absurd (List.eq_nil_of_length_eq_zero h0) hne
 ·exact⟨g,cap,rfl,h1,h2⟩
theorem aF.take {t:TypeId}{w:World}{base m c:Nat}{A:Option Addr}{xs:List Int}(h:aF t w base (.slice A xs.length c) xs)(hm:m≤xs.length):aF t w base (.slice A m c) (xs.take m):=by
 rcases h.2 with⟨e,h0⟩|⟨g,cap,cur,e,hb,hg,hn,hx,hs,ht⟩
 ·injection e with e1 e2 e3;subst e1 e3;obtain rfl:m=0:=ao;exact aF.nil _ _ _
 ·injection e with e1 e2 e3;subst e1 e3;refine⟨by simp,.inr ⟨g,c,cur,by rw[List.length_take,Nat.min_eq_left hm],hb,hg,by rw[List.length_take];omega,hx,hs,?_⟩⟩;rw[Nat.mul_one]at ht ⊢;rw[List.length_take,Nat.min_eq_left hm,List.map_take,←ht,List.take_take,Nat.min_eq_left hm]
section
variable {j:lr}{P:dN}{gv:Value}{qv:Nat→Value}{s s':dB}{w w':World}
theorem ei.mK (h:ei j P gv qv s w){g:Nat}{cs:Array Value}(hb:Box w g 202 cs)(ho:ag (ar g) w w'):ei j P gv qv s w':=by
 have nI:∀{v:Value} {l:List Int},aF 3 w j.B v l→∀k,aK v k→¬ar g k:=fun hv k hk e=>by
  obtain⟨c2,h2⟩:=hv.fQ hk;exact(h2.off hb aD) e
 refine⟨ho.aq h.aq (h.aq.off hb aD),h.row.aA ho fun k hk e=>?_,fun i hi=>(h.q i hi).aA ho (nI (h.q i hi)),h.g.aA ho (nI h.g),ho.aq h.of (h.of.off hb aD),ho.aq h.ex (h.ex.off hb aD),h.lt,h.ne,Nat.le_trans h.bs ho.size⟩;obtain⟨c2,h2⟩:=h.row.aq hk;exact(h2.off hb aD) e
theorem mE.mK (h:mE j P s w){g:Nat}{cs:Array Value}(hb:Box w g 202 cs)(ho:ag (ar g) w w'):mE j P s w':=by
 obtain⟨gv,qv,hA⟩:=h;exact⟨gv,qv,hA.mK hb ho⟩
theorem mE.keep (h:mE j P s w)(ho:ag az w w'):mE j P s w':=by
 obtain⟨gv,qv,hA⟩:=h;exact⟨gv,qv,hA.keep ho⟩
theorem mE.p7 (h:mE j P s w){k:Nat}(hk:w.heap.size≤k):¬RF j k:=by
 obtain⟨gv,qv,hA⟩:=h;have:=hA.lt;have:=hA.bs;rintro(e|e|e|e)<;>omega
end
def B9 (j:lr)(P:dN)(s:dB)(b:Int)(w:World)(e:Ending)(w':World):Prop:=
 e= .returned (.agg (kV (ey P s b).2.1 (ey P s b).2.2 0))∧mE j P (ey P s b).1 w'∧ag (RF j) w w'
def aeg (s:dB)(q0:Nat)(W:World)(qv:Value)(wr:World):Prop:=∃k:Nat,k≤q0∧qv=ah k∧W=wr
theorem wj {P:dN}{s:dB}(h:fi P s){i:Nat}{v:Int}(hi:i<P.q)(hv:v∈s.S i)(k:Nat):aI (aI s.S i ((s.S i).erase v)) P.q (v :: s.S P.q) k=Ax s.S P.q v k:=by
 have hg:v∉s.S P.q:=fun h2=>by have:=h.dj.dj h2 hv;omega
 unfold Ax bD;unfold aI s7
 by_cases e:k=P.q
 ·rw[if_pos e,if_pos e,List.erase_of_not_mem hg]
 ·rw[if_neg e,if_neg e]
  by_cases e2:k=i
  ·rw[if_pos e2,e2]
  ·rw[if_neg e2,List.erase_of_not_mem fun h2=>e2 (h.dj.dj h2 hv)]
theorem wo:∀{l:List Int},l.Nodup→l.erase (eB l)=l.take (l.length - 1)
 | [],_=>rfl
 |a :: l,h=>by
  rw[ff]
  by_cases e:l= []
  ·subst e;simp
  ·rw[if_neg e];have hl:=tN e;have hne:a≠eB l:=fun h2=>(List.nodup_cons.1 h).1 (h2▸hl)
   have hp:=List.length_pos_iff.2 e;rw[List.erase_cons_tail (by simpa using hne),wo (List.nodup_cons.1 h).2,List.length_cons];obtain⟨m,hm⟩:∃m,l.length=m+1:=⟨l.length - 1,ao⟩;rw[hm];rfl
theorem Em {P:dN}{s:dB}(h:AE P s){q0:Nat}(hq:q0<P.q){v:Int}(hv:eR P s=v)(hm:v∈s.S q0):(bC P s).S P.q=v :: s.S P.q:=by
 show Ax s.S P.q (eR P s) P.q=_
 rw[hv,←wj h.ok hq hm P.q];unfold aI;rw[if_pos rfl]
theorem Jt {P:dN}{s:dB}(h:AE P s){q0:Nat}(hq:q0<P.q){v:Int}(hv:eR P s=v)(hm:v∈s.S q0)(hg:¬P.ghost<(s.S P.q).length+1):cC P s=bC P s:=by
 unfold cC;rw[Em h hq hv hm,List.length_cons,if_neg hg]
theorem Ju {P:dN}{s:dB}(h:AE P s){q0:Nat}(hq:q0<P.q){v:Int}(hv:eR P s=v)(hm:v∈s.S q0)(hg:P.ghost<(s.S P.q).length+1):
 cC P s= {bC P s with S:=s7 (bC P s).S (eB (v :: s.S P.q))}∧∀k,aI (bC P s).S P.q ((v :: s.S P.q).take P.ghost) k=s7 (bC P s).S (eB (v :: s.S P.q)) k:=by
 have hr:=h.ok.dj.kA hm;have hdj:DP (P.q+1) (bC P s).S:=h.ok.dj.Ax (Nat.lt_succ_self _) (by rw[hv];exact hr.1) (by rw[hv];exact hr.2);have ZO:=Em h hq hv hm;refine⟨?_,fun k=>?_⟩
 ·unfold cC;rw[ZO,List.length_cons,if_pos hg]
 ·unfold aI
  by_cases e:k=P.q
  ·rw[if_pos e,e]
   show _=((bC P s).S P.q).erase _
   rw[ZO,wo (by rw[←ZO];exact hdj.nodup P.q),List.length_cons];have:=h.gh
   congr 1
   omega
  ·rw[if_neg e]
   show _=((bC P s).S k).erase _
   rw[List.erase_of_not_mem];intro h2;have h3:eB (v :: s.S P.q)∈(bC P s).S P.q:=by rw[ZO];exact tN (by simp)
   exact e (hdj.dj h2 h3)
section
variable {j:lr}{P:dN}{s:dB}{w:World}
theorem Lc {n:Nat}(h:mE j P s w)(cD:fi P s)(hP:P.Ok)(h1:s.now≤1000000000)(hn:n<64)(hb:(n:Int)∈aV P s):
 Calls Tryz.prog 114 #[aO j.mb,ah n] w (B9 j P s n w):=by
 have HB:=ae<|Box.fresh w 202 (kV 0 false 0);have HO:=ae<|((ag.aj az w).alloc (.cells (kV 0 false 0) 202));have HR:=aB (mE j P s (w.alloc (.cells (kV 0 false 0) 202))) (h.keep HO.out);have aao:(n:Int)≤63:=ao;have yt:=aB (∀k,w.heap.size≤k→¬RF j k) (fun k hk=>h.p7 hk);clear h
 go_enter Tryz.func114,Tryz.ntmps114
 go_upto_region 1 with fail;obtain⟨rb,jO⟩:∃rb,rb=w.heap.size:=⟨_,rfl⟩;have eQ:=aB (w.heap.size≤rb) (Nat.le_of_eq jO.symm);rw[←jO]at HB ⊢;clear jO;change Code.wp _ _ _ _ (w.alloc (.cells (kV 0 false 0) 202));generalize w.alloc (.cells (kV 0 false 0) 202)=W1 at *;have bU:=ae HB.out;have aX:=ae HO.out;have b5:=ae HR.out;clear HB HO HR;generalize W1=W2 at *;have HU:=ae<|Ch b5.out cD hP h1 hb;have vf:=ae (show ey P s n=(ni P s n,0,false) by unfold ey;rw[if_pos hb]);clear cD hP h1 hb;go_upto_region 4 with(go_at_call 113;refine HU.out.mono ?_;rintro e W3 ⟨rfl,hr3,cB⟩;have dM:=ae<|cB.aq bU.out (yt.out rb eQ.out);have iR:=ae hr3;have bn:=ae<|(aX.out.mono fun _ hb=>hb.elim).trans cB;clear hr3 cB);go_wp2_with (first|(refine fJ (kV 0 false 0) dM.out (uj _ _ _) ?_))
 (try simp only[Exit.inBlock,Exit.then])
 refine bodyPost_ret (results_cell_row rfl _ _ rb _ (kV 0 false 0) (0,0) _ rfl (dM.out.au _) Tryz.underlying202 rfl bZ) rfl ?_;exact⟨by rw[vf.out],by rw[vf.out];exact iR.out.mK dM.out ((ag.aj (ar rb) _).au (.inl rfl) _),bn.out.au (.inr eQ.out) _⟩
theorem qT{P:Prop}(h:P:=by
 exact⟨by rw[vf.out],by rw[vf.out];exact yp.out.mK Dk.out ((ag.aj (ar rb) _).au (.inl rfl) _),kf.out.au (.inr eQ.out) _⟩):P:=h
theorem qO{P:Prop}(h:P:=by
 refine bodyPost_ret (results_cell_row rfl _ _ rb _ (kV v true 0) (0,0) _ rfl (Dk.out.au _) Tryz.underlying202 rfl bZ) rfl ?_;exact qT):P:=h
theorem qR{P:Prop}(h:P:=by
 have vE:=ae Og.out.1;have lF:=ae (show 1≤(cC P t0).now∧(cC P t0).now≤1000000001 by rw[Og.out.2.1];exact GR.out);have Vp:=aB (∀y,(cC P t0).often y+1≤(cC P t0).now) (fun y=>by rw[Og.out.2.1,Og.out.2.2.1];exact GQ.out y);have HNA:=aB ((n:Int)∉aV P (cC P t0)) (fun h=>Bg.out ((Og.out.2.2.2.2 _).1 h).1);have vf:=ae Oh.out;clear VB Oh C7 GR GQ Bg Og R4 HVI HVE;generalize cC P t0=t at *;obtain⟨gvp,qvp,QX⟩:=Qv.out;have Rg:=ae QX;have xp4:=QX.c4;obtain⟨Ap,cp,ep,EL,JL⟩:=QX.g.shape;have gw:=fS Ap cp _ (t.S P.q) n W (by rw[←ep];exact QX.g.at) (Nat.le_trans EL JL);rw[ep]at xp4;clear ep EL JL QX
 by_cases bw:(n:Int)∈t.S P.q
 ·rw[decide_eq_true bw]at gw;have gw:=ae gw;have JT:=ae (show bP P t n=t by unfold bP;rw[if_pos ((oZ vE.out.dj).2 ⟨P.q,bw⟩)]);have EU:=ae<|tS Qv.out vE.out HP.out HN.out (Vp.out n) (by have:=lF.out;omega);rw[JT.out]at vf;clear bw;go_wp2_with (first|(go_at_call 20;refine gw.out.mono ?_;rintro e W8 ⟨rfl,rfl⟩)|(go_at_call 137;refine EU.out.mono ?_;rintro e W9 ⟨rfl,Dz,nN⟩;have KN:=ae<|nN.aq QD.out (yt.out eb gz.out);have Dk:=ae<|nN.aq QC.out (yt.out rb eQ.out);have yp:=ae Dz;have kf:=ae<|Mx.out.trans nN;clear Dz nN)|(refine fH (kV v true 0) KN.out Tryz.underlying202 ?_)|(refine fJ (kV v true 0) Dk.out (uj _ _ _) ?_))
  (try simp only[Exit.inBlock,Exit.then])
  exact qO
 ·rw[decide_eq_false bw]at gw;have gw:=ae gw;have JT:=ae (show bP P t n= {t with often:=aT t.often n 0} by
   unfold bP;rw[if_neg];intro h2;obtain⟨i,hi⟩:=(oZ vE.out.dj).1 h2
   by_cases e:i<P.q
   ·exact HNA.out (dz.2 ⟨i,e,hi⟩)
   ·by_cases e2:i=P.q
    ·exact bw (e2▸hi)
    ·rw[vE.out.dj.out i ao]at hi;cases hi)
  have xp5:=Rg.out.c5;have xpo:aw W j.ob n (t.often n):=Rg.out.of.af (yS _ HN.out);have xpf:W.frozen? ⟨j.ob,n,none⟩=false:=Rg.out.of.free n;have HRf:=aB (mE j P (bP P t n) (W.setCell ⟨j.ob,n,none⟩ (ah 0))) (⟨gvp,qvp,by rw[JT.out];exact Rg.out.aab HN.out 0 Gb.out⟩);have eT:ag (RF j) W (W.setCell ⟨j.ob,n,none⟩ (ah 0)):=(ag.aj (RF j) W).setCell (p:=⟨j.ob,n,none⟩) (.inl (.inr (.inr (.inl rfl)))) _;have ix:=ae<|Mx.out.trans eT;have Bm:=ae<|eT.aq QC.out (yt.out rb eQ.out);have E0:=ae<|eT.aq QD.out (yt.out eb gz.out);have EZ:=ae<|pj vE.out (n:Int) lF.out.1 Vp.out;clear bw eT;go_upto_region 19 with(go_at_call 20;refine gw.out.mono ?_;rintro e W8 ⟨rfl,rfl⟩);change Code.wp _ _ _ _ (W.setCell ⟨j.ob,n,none⟩ (ah 0));clear xp4 xp5 xpo xpf Mx QC QD gw Rg Qv;generalize W.setCell ⟨j.ob,n,none⟩ (ah 0)=Wf at *;have Mx:=ae ix.out;have QC:=ae Bm.out;have QD:=ae E0.out;have EU:=ae<|tS HRf.out EZ.out.1 HP.out HN.out (by have h1:=EZ.out.2.2.2;have h2:=EZ.out.2.1;omega) (by have:=lF.out;have h2:=EZ.out.2.1;omega);clear ix Bm E0;go_wp2_with (first|(go_at_call 137;refine EU.out.mono ?_;rintro e W9 ⟨rfl,Dz,nN⟩;have KN:=ae<|nN.aq QD.out (yt.out eb gz.out);have Dk:=ae<|nN.aq QC.out (yt.out rb eQ.out);have yp:=ae Dz;have kf:=ae<|Mx.out.trans nN;clear Dz nN)|(refine fH (kV v true 0) KN.out Tryz.underlying202 ?_)|(refine fJ (kV v true 0) Dk.out (uj _ _ _) ?_))
  (try simp only[Exit.inBlock,Exit.then])
  exact qO):P:=h
theorem rG{P:Prop}(h:P:=by
 refine bodyPost_ret (results_cell_row rfl _ _ rb _ (kV 0 false 0) (0,0) _ rfl (Dk.out.au _) Tryz.underlying202 rfl bZ) rfl ?_;exact qT):P:=h
theorem I8 {n:Nat}(h:mE j P s w)(hI:AE P s)(hP:P.Ok)(h1:s.now≤1000000000)(hn:n<64)(hb:(n:Int)∉aV P s):
 Calls Tryz.prog 114 #[aO j.mb,ah n] w (B9 j P s n w):=by
 have HB:=ae<|Box.fresh w 202 (kV 0 false 0);have HO:=ae<|((ag.aj az w).alloc (.cells (kV 0 false 0) 202));have HR:=aB (mE j P s (w.alloc (.cells (kV 0 false 0) 202))) (h.keep HO.out);have aao:(n:Int)≤63:=ao;have yt:=aB (∀k,w.heap.size≤k→¬RF j k) (fun k hk=>h.p7 hk);clear h
 go_enter Tryz.func114,Tryz.ntmps114
 go_upto_region 1 with fail;obtain⟨rb,jO⟩:∃rb,rb=w.heap.size:=⟨_,rfl⟩;have eQ:=aB (w.heap.size≤rb) (Nat.le_of_eq jO.symm);rw[←jO]at HB ⊢;clear jO;change Code.wp _ _ _ _ (w.alloc (.cells (kV 0 false 0) 202));generalize w.alloc (.cells (kV 0 false 0) 202)=W1 at *;have bU:=ae HB.out;have aX:=ae HO.out;have b5:=ae HR.out;clear HB HO HR;generalize W1=W2 at *;have Uz:=hP.q8;have Gb:=ae hP.q1;have HN:=ae hn;have acZ:=hP.Mr;have HUN:=ae<|Lb b5.out hP.q8 hb;have VB:=ae (show ey P s n=if(aV P (bI s)).length=P.cap then(fF P (bP P (cC P (bI s)) n) n,eR P (bI s),true)else(fF P (bP P (bI s) n) n,0,false) by unfold ey;rw[if_neg hb];rfl);have h0:=hI.ok.now;have hwn:IntKind.i64.wrap (s.now+1)=s.now+1:=by rw[IntKind.wrap_i64];omega
 obtain⟨gv,qv,hA⟩:=b5.out;have x7:=hA.c7;have xf:=hA.aq.free 7;have iR:=aB (mE j P (bI s) (W2.setCell ⟨j.mb,7,none⟩ (ah (s.now+1)))) (⟨gv,qv,hA.ack (s.now+1) hP.q1⟩);have cB:ag (RF j) W2 (W2.setCell ⟨j.mb,7,none⟩ (ah (s.now+1))):=(ag.aj _ W2).setCell (p:=⟨j.mb,7,none⟩) (.inl (.inl rfl)) _;have bn:=ae<|(aX.out.mono fun _ hb=>hb.elim).trans cB;have dM:=ae<|cB.aq bU.out (yt.out rb eQ.out);have C7:=aB (AE P (bI s)) (⟨uk hI.ok,hI.len,hI.gh⟩);have GQ:=aB (∀y,(bI s).often y+1≤(bI s).now) (fun y=>by have:=(hI.ok.often y).2;show s.often y+1≤s.now+1;omega);have GR:=aB (1≤(bI s).now∧(bI s).now≤1000000001) (by show 1≤s.now+1∧s.now+1≤1000000001;omega);have Bg:=aB ((n:Int)∉aV P (bI s)) (hb);have HP:=ae hP;clear hA cB hI hP h1 hb h0 hn;go_upto_region 6 with(go_at_call 113;refine HUN.out.mono ?_;rintro e W3 ⟨rfl,rfl⟩);change Code.wp _ _ _ _ (W2.setCell ⟨j.mb,7,none⟩ (ah (s.now+1)));clear x7 xf hwn b5 bU aX HUN;generalize W2.setCell ⟨j.mb,7,none⟩ (ah (s.now+1))=W3 at *;generalize bI s=t0 at *;go_upto_region 7 with fail;have cI:ag az W3 (W3.alloc (.cells (kV 0 false 0) 202)):=(ag.aj az W3).alloc _;have zK:=ae<|Box.fresh W3 202 (kV 0 false 0);have iM:=ae<|cI.aq dM.out id;have jc:=ae<|iR.out.keep cI;have bK:=ae<|bn.out.da cI;have gz:=aB (w.heap.size≤W3.heap.size) (bn.out.size);have yu:=aB (rb≠W3.heap.size) (Nat.ne_of_lt dM.out.lt);change Code.wp _ _ _ _ (W3.alloc (.cells (kV 0 false 0) 202));clear cI dM iR bn;generalize W3.alloc (.cells (kV 0 false 0) 202)=W4 at *;generalize W3.heap.size=eb at *;obtain⟨gv4,qv4,hA4⟩:=jc.out;have x0:aw W4 j.mb 0 P.cap:=hA4.aq.af rfl;clear hA4;have nA:=ae<|fun q=>WI (jc.out.keep ((ag.aj az W4).drewN q)) C7.out.ok.dj Uz
 by_cases hc:(aV P t0).length=P.cap
 ·have Oh:=ae<|VB.out.trans (if_pos hc);have hne:aV P t0≠[]:=fun e=>by have:=HP.out.c1;rw[e]at hc;simp at hc;omega
  obtain⟨wI,hS0,yl⟩:=AK hne;have Og:=ae<|zt HP.out C7.out hne;have HVI:=ae<|MN hne;have HVE:=aB (eR P t0=eB (t0.S (pB P t0))) (rfl);rw[hc]at nA;clear hne hc
  go_quiet ((go_at_call 138;exact ki (nA.out _)))
  have iz:=ae<|jc.out.keep ((ag.aj az W4).drewN nq);have iG:=aB (Box (W4.drewN nq) rb 202 (kV 0 false 0)) (((ag.aj az W4).drewN nq).aq iM.out id);have vI:=aB (Box (W4.drewN nq) eb 202 (kV 0 false 0)) (((ag.aj az W4).drewN nq).aq zK.out id);have bM:=ae<|bK.out.drewN nq;clear x0 nA jc iM zK bK;generalize W4.drewN nq=W5 at *;generalize pB P t0=q0 at *;generalize U6:eR P t0=v at *;have YD:=ae U6;clear U6;have JR:=ae wI;have HS0:=ae hS0;have Yw:=ae yl;clear wI hS0 yl;go_upto_region 9 with fail
  go_loopw [6] (fun qv wr=>aeg t0 q0 W5 qv wr) (fun qv _=>q0 - (intOf qv).toNat)
  case atStart=>exact⟨0,dT _,rfl,rfl⟩
  case round=>
   obtain⟨k,hk,rfl,rfl⟩:=hrel;obtain⟨gv5,qv5,hA5⟩:=iz.out;have y3:=hA5.c3;have QM:k<P.q:=by have:=JR.out;omega
   have pr:(k:Int)<P.q:=ao;have NK:=(hA5.cq QM).1;have bF:=hA5.q k QM;obtain⟨A,c,eq,h1,h2⟩:=bF.shape;have uN:=bF.at;rw[eq]at NK uN
   by_cases hke:k=q0
   ·subst hke;obtain⟨L,hL⟩:∃L,(t0.S k).length=L+1:=⟨(t0.S k).length - 1,by have:=List.length_pos_iff.2 HS0.out;omega⟩;have AD:=zR (i:=k) C7.out.ok.dj;obtain⟨g,o,rfl,jU⟩:=uN.af (i:=L) ao;rw[xN hL,←HVE.out]at jU;rw[hL]at NK;have YE:=ae (show(t0.S k).length≤10000 by omega);have hLw:IntKind.i64.wrap (L:Int)=L:=by rw[IntKind.wrap_i64];omega
    have hLp:((L:Int)+1==0)=false:=by simp;omega
    have hL1:(L:Int)<(L:Int)+1:=ao;have hLL:L<64:=ao;clear bF eq h1 h2 uN hL AD hk QM hA5;generalize wI:k=q0 at *;clear wI;go_upto_region 11 with fail;have k1:aE W5.drew j.mb 3 (aU j.qb P.q j.qc):=y3;have k2:aE W5.drew j.qb q0 (.slice (some ⟨g,o,none⟩) (L+1) c):=NK;have k3:aw W5.drew g (o+L) v:=jU;refine dU (fun w':World=>aE w' j.mb 3 (aU j.qb P.q j.qc)∧aE w' j.qb q0 (.slice (some ⟨g,o,none⟩) (L+1) c)∧aw w' g (o+L) v) 19 fun aH=>?_
    refine bX [0,1,2,3,4,5,6,7,8,9,10,11,12,13,14,15,16,17,18] ?_;refine cG ?_;have Yq:Box W5.drew eb 202 (kV 0 false 0):=((ag.aj az W5).drew).aq vI.out id;have z0:aw W5.drew eb 0 0:=Yq.af rfl;have z1:aE W5.drew eb 1 (.bool false):=Yq.af rfl;have z2:W5.drew.frozen? ⟨eb,0,none⟩=false:=Yq.free _;have z3:W5.drew.frozen? ⟨eb,1,none⟩=false:=Yq.free _;clear aH k1 k2 k3 y3 NK jU;go_upto_region 12 with fail;have z4:aE (W5.drew.setCell ⟨eb,0,none⟩ (ah v)) eb 1 (.bool false):=(Yq.store 0 (ah v)).af rfl;have z5:(W5.drew.setCell ⟨eb,0,none⟩ (ah v)).frozen? ⟨eb,1,none⟩=false:=(Yq.store 0 (ah v)).free _;change Code.wp _ _ _ _ (W5.drew.setCell ⟨eb,0,none⟩ (ah v));generalize NM:W5.drew.setCell ⟨eb,0,none⟩ (ah v)=W6a at *;go_upto_region 13 with fail;change Code.wp _ _ _ _ (W6a.setCell ⟨eb,1,none⟩ (.bool true));rw[←NM];clear z4 z5 NM W6a;have bT:ag (ar eb) W5 ((W5.drew.setCell ⟨eb,0,none⟩ (ah v)).setCell ⟨eb,1,none⟩ (.bool true)):=(((ag.aj (ar eb) W5).drew).setCell (p:=⟨eb,0,none⟩) (.inl (show ar eb eb from rfl)) _).setCell (p:=⟨eb,1,none⟩) (.inl (show ar eb eb from rfl)) _;have Ai:=aB (Box ((W5.drew.setCell ⟨eb,0,none⟩ (ah v)).setCell ⟨eb,1,none⟩ (.bool true)) eb 202 (kV v true 0)) ((Yq.store 0 (ah v)).store 1 (.bool true));have kI:=ae<|bT.aq iG.out yu.out;have tz:=ae<|iz.out.mK vI.out bT;have cZ:=ae<|(((bM.out).drew).setCell (p:=⟨eb,0,none⟩) (.inr gz.out) (ah v)).setCell (p:=⟨eb,1,none⟩) (.inr gz.out) (.bool true);change Code.wp _ _ _ _ ((W5.drew.setCell ⟨eb,0,none⟩ (ah v)).setCell ⟨eb,1,none⟩ (.bool true));clear Yq z0 z1 z2 z3 bT iG iz vI bM;generalize(W5.drew.setCell ⟨eb,0,none⟩ (ah v)).setCell ⟨eb,1,none⟩ (.bool true)=W6 at *;obtain⟨gv6,qv6,hA6⟩:=tz.out;have gY:=ae hA6;have k1:aE W6.drew j.mb 3 (aU j.qb P.q j.qc):=hA6.c3;have k2:aE W6.drew j.qb q0 (qv6 q0):=(hA6.cq JR.out).1;have k3:aw W6.drew eb 0 v:=Ai.out.af rfl;clear hA6;refine dU (fun w':World=>aE w' j.mb 3 (aU j.qb P.q j.qc)∧aE w' j.qb q0 (qv6 q0)∧aw w' eb 0 v) 15 fun aH=>?_
    refine bX [0,1,2,3,4,5,6,7,8,9,10,11,12,13] ?_;refine cM 14 fun Kc hK=>?_
    go_simp;refine(dO v W6.drew ((gY.out.q q0 JR.out).aA ((ag.aj az W6).drew) fun _ _=>id) YE.out).mono ?_;rintro e W7 ⟨v7,rfl,dL,hn7⟩;obtain⟨A7,n7,c7,rfl⟩:∃A n c,v7=Value.slice A n c:=by obtain⟨A,c,e,_⟩:=dL.shape;exact⟨A,_,c,e⟩
    have JP:=ae dL;have HN7:=ae<|(ag.aj az W6).drew.trans hn7;have k1:=hn7.cell aH.1 id;have k2:=hn7.cell aH.2.1 id;have k3:=hn7.cell aH.2.2 id;clear dL hn7;refine eh hK fun aH=>?_
    clear hK;refine cG ?_;obtain⟨ER,hf7⟩:=(gY.out.keep HN7.out).cq JR.out;clear aH k1 k2 k3;go_upto_region 14 with fail;have YZ:aF 3 W7 j.B (.slice A7 n7 c7) ((t0.S q0).erase v):=by
     have h1:=JP.out.low gY.out.bs;rw[erase_filter (C7.out.ok.dj.nodup q0)]at h1;exact h1
    have eT:ag (RF j) W6 (W7.setCell ⟨j.qb,q0,none⟩ (.slice A7 n7 c7)):=(((ag.aj (RF j) W6).da HN7.out).setCell (p:=⟨j.qb,q0,none⟩) (.inl (.inr (.inl rfl))) _);have VC:=ae<|(gY.out.keep HN7.out).yF JR.out YZ;have E0:=ae<|eT.aq Ai.out (yt.out eb gz.out);have Bm:=ae<|eT.aq kI.out (yt.out rb eQ.out);have ix:=ae<|cZ.out.trans eT;have VP:aI t0.S q0 ((t0.S q0).erase v) P.q=t0.S P.q:=by unfold aI;rw[if_neg jA]
    have GC:=ae (show(aI t0.S q0 ((t0.S q0).erase v) P.q).length≤10000 by rw[VP];have:=zR (i:=P.q) C7.out.ok.dj;omega);have adt:=ae VP;obtain⟨NG,hNG⟩:∃NG,NG=(t0.S P.q).length+1:=⟨_,rfl⟩;have HNG:=ae (show(v :: aI t0.S q0 ((t0.S q0).erase v) P.q).length=NG by rw[VP,List.length_cons,hNG]);have HNL:=ae hNG;clear hNG;change Code.wp _ _ _ _ (W7.setCell ⟨j.qb,q0,none⟩ (.slice A7 n7 c7));clear ER hf7 YZ eT HN7 JP gY Ai kI cZ tz VP;generalize W7.setCell ⟨j.qb,q0,none⟩ (.slice A7 n7 c7)=W8 at *;have k1:aE W8.drew j.mb 4 gv6:=VC.out.c4;have k2:aw W8.drew eb 0 v:=E0.out.af rfl;refine dU (fun w':World=>aE w' j.mb 4 gv6∧aw w' eb 0 v) 8 fun aH=>?_
    refine bX [0,1,2,3,4,5,6] ?_;refine cM 7 fun Kc hK=>?_
    go_simp;refine(iF v W8.drew (VC.out.g.aA ((ag.aj az W8).drew) fun _ _=>id) GC.out).mono ?_;rintro e W9 ⟨v9,rfl,nN,hn9⟩;obtain⟨g9,c9,e9,aaD,acX⟩:=nN.some_ (by simp);rw[HNG.out]at e9 aaD;subst e9;have Q6:=ae nN;have Vr:=ae<|(ag.aj az W8).drew.trans hn9;have k1:=hn9.cell aH.1 id;have k2:=hn9.cell aH.2 id;clear nN hn9;refine eh hK fun aH=>?_
    clear hK;refine cG ?_;have hA9:=VC.out.keep Vr.out;have hc9:=hA9.c4;have hf9:=hA9.aq.free 4;clear aH k1 k2;go_upto_region 15 with fail;have YY:aF 3 W9 j.B (aU g9 NG c9) (v :: t0.S P.q):=by
     have h1:=Q6.out.low VC.out.bs;have h2:aF 3 W9 j.B (aU g9 NG c9) (v :: aI t0.S q0 ((t0.S q0).erase v) P.q):=h1;rw[adt.out]at h2;exact h2
    have aaN:=(hA9.aac YY Gb.out).congr (s':=bC P t0) (fun k hk=>by
     show aI (aI t0.S q0 ((t0.S q0).erase v)) P.q (v :: t0.S P.q) k=Ax t0.S P.q (eR P t0) k
     rw[YD.out];exact wj C7.out.ok JR.out HVI.out k) rfl rfl rfl
    have iN:ag (RF j) W8 (W9.setCell ⟨j.mb,4,none⟩ (aU g9 NG c9)):=(((ag.aj (RF j) W8).da Vr.out).setCell (p:=⟨j.mb,4,none⟩) (.inl (.inl rfl)) _);have BC:=ae aaN;have Wd:=ae<|iN.aq E0.out (yt.out eb gz.out);have Dl:=ae<|iN.aq Bm.out (yt.out rb eQ.out);have kh:=ae<|ix.out.trans iN;have Sv:=aB (aF 3 (W9.setCell ⟨j.mb,4,none⟩ (aU g9 NG c9)) j.B (aU g9 NG c9) (v :: t0.S P.q)) (by
     have h1:=aaN.g;rw[show(bC P t0).S P.q=v :: t0.S P.q by
      show Ax t0.S P.q (eR P t0) P.q=_
      rw[YD.out,←wj C7.out.ok JR.out HVI.out P.q];unfold aI;rw[if_pos rfl]]at h1
     exact h1)
    change Code.wp _ _ _ _ (W9.setCell ⟨j.mb,4,none⟩ (aU g9 NG c9));clear hc9 hf9 YY iN Vr Q6 VC E0 Bm ix GC adt hA9 aaN;generalize W9.setCell ⟨j.mb,4,none⟩ (aU g9 NG c9)=ga at *;have xg4:aE ga j.mb 4 (aU g9 NG c9):=BC.out.c4;have xg2:aw ga j.mb 2 P.ghost:=BC.out.aq.af rfl;have agQ:=HP.out.g16
    by_cases ZL:P.ghost<NG
    ·have aax:(P.ghost:Int)<NG:=ao;have R4:=ae<|Ju C7.out (q0:=q0) JR.out (v:=v) YD.out HVI.out (by rw[←HNL.out];exact ZL);have HGL:=ae (show P.ghost≤NG by omega);have hgc:(P.ghost:Int)≤c9:=ao;clear ZL aaD acX
     go_quiet (fail)
     have Oj:=ae<|BC.out.keep ((ag.aj az ga).drewN nq);have adz:=aB (Box (ga.drewN nq) eb 202 (kV v true 0)) (((ag.aj az ga).drewN nq).aq Wd.out id);have G7:=aB (Box (ga.drewN nq) rb 202 (kV 0 false 0)) (((ag.aj az ga).drewN nq).aq Dl.out id);have KJ:=ae<|kh.out.drewN nq;have Zk:=ae<|Sv.out.aA ((ag.aj az ga).drewN nq) fun _ _=>id;clear xg4 xg2 BC Wd Dl kh Sv;generalize ga.drewN nq=Bd at *;go_upto_region 16 with fail;have k1:aE Bd.drew j.mb 4 (aU g9 NG c9):=Oj.out.c4;have k2:aw Bd.drew j.mb 2 P.ghost:=Oj.out.aq.af rfl;refine dU (fun w':World=>aE w' j.mb 4 (aU g9 NG c9)∧aw w' j.mb 2 P.ghost) 10 fun aH=>?_
     refine bX [0,1,2,3,4,5,6,7,8,9] ?_;refine cG ?_;have z1:aE Bd.drew j.mb 4 (aU g9 NG c9):=Oj.out.c4;have z2:Bd.drew.frozen? ⟨j.mb,4,none⟩=false:=Oj.out.aq.free 4;clear aH k1 k2;go_upto_region 17 with fail;have SY:aF 3 Bd.drew j.B (aU g9 P.ghost c9) ((v :: t0.S P.q).take P.ghost):=by
      have h1:=Zk.out.aA ((ag.aj az Bd).drew) fun _ _=>id
      have h2:aF 3 Bd.drew j.B (aU g9 (v :: t0.S P.q).length c9) (v :: t0.S P.q):=by
       rw[List.length_cons,←HNL.out];exact h1
      exact h2.take (by rw[List.length_cons,←HNL.out];exact HGL.out)
     have Qv:=aB (mE j P (cC P t0) (Bd.drew.setCell ⟨j.mb,4,none⟩ (aU g9 P.ghost c9))) (⟨_,_,by
      rw[R4.out.1];exact((Oj.out.keep ((ag.aj az Bd).drew)).aac SY Gb.out).congr (fun k hk=>R4.out.2 k) rfl rfl rfl⟩)
     have VH:ag (RF j) Bd (Bd.drew.setCell ⟨j.mb,4,none⟩ (aU g9 P.ghost c9)):=((ag.aj (RF j) Bd).drew).setCell (p:=⟨j.mb,4,none⟩) (.inl (.inl rfl)) _;have QD:=ae<|VH.aq adz.out (yt.out eb gz.out);have QC:=ae<|VH.aq G7.out (yt.out rb eQ.out);have Mx:=ae<|KJ.out.trans VH;change Code.wp _ _ _ _ (Bd.drew.setCell ⟨j.mb,4,none⟩ (aU g9 P.ghost c9));clear z1 z2 SY VH Oj adz G7 KJ Zk;generalize Bd.drew.setCell ⟨j.mb,4,none⟩ (aU g9 P.ghost c9)=W at *;exact qR
    ·have R4:=ae<|Jt C7.out (q0:=q0) JR.out (v:=v) YD.out HVI.out (by rw[←HNL.out];exact ZL);have aax:(NG:Int)≤P.ghost:=ao;clear ZL aaD acX
     go_quiet (fail)
     have Qv:=aB (mE j P (cC P t0) (ga.drewN nq)) (⟨_,_,by rw[R4.out];exact BC.out.keep ((ag.aj az ga).drewN nq)⟩);have QD:=aB (Box (ga.drewN nq) eb 202 (kV v true 0)) (((ag.aj az ga).drewN nq).aq Wd.out id);have QC:=aB (Box (ga.drewN nq) rb 202 (kV 0 false 0)) (((ag.aj az ga).drewN nq).aq Dl.out id);have Mx:=ae<|kh.out.drewN nq;clear xg4 xg2 BC Wd Dl kh Sv;generalize ga.drewN nq=W at *;go_upto_region 17 with fail;exact qR
   ·have hz:=Yw.out k ao;have hzl:(t0.S k).length=0:=by rw[hz];rfl
    rw[hzl]at NK;have hkw:IntKind.i64.wrap ((k:Int)+1)=(k:Int)+1:=by rw[IntKind.wrap_i64];omega
    have HKL:=ae (show k+1≤q0 by omega);clear bF eq h1 h2 uN hz hzl hk hke QM hA5;go_wp2
    go_roundw
    case rel=>exact⟨k+1,HKL.out,by push_cast;rfl,rfl⟩
    case measure=>simp[intOf];have:=HKL.out;omega
 ·have vf:=ae<|VB.out.trans (if_neg hc);have hci:¬((aV P t0).length:Int)=(P.cap:Int):=ao;have fL:(((aV P t0).length:Int)==(P.cap:Int))=false:=by simpa using hci
  clear hc;generalize(aV P t0).length=ln at *
  go_quiet ((go_at_call 138;exact ki (nA.out _)))
  have Qv:=ae<|jc.out.keep ((ag.aj az W4).drewN nq);have QC:=aB (Box (W4.drewN nq) rb 202 (kV 0 false 0)) (((ag.aj az W4).drewN nq).aq iM.out id);have QD:=aB (Box (W4.drewN nq) eb 202 (kV 0 false 0)) (((ag.aj az W4).drewN nq).aq zK.out id);have Mx:=ae<|bK.out.drewN nq;clear x0 nA jc iM zK bK;generalize W4.drewN nq=W at *;have vE:=ae C7.out.ok;have lF:=ae GR.out;have Vp:=ae GQ.out;have HNA:=ae Bg.out;clear VB C7 GR GQ Bg;generalize t0=t at *;go_upto_region 17 with fail;obtain⟨gvp,qvp,QX⟩:=Qv.out;have Rg:=ae QX;have xp4:=QX.c4;obtain⟨Ap,cp,ep,EL,JL⟩:=QX.g.shape;have gw:=fS Ap cp _ (t.S P.q) n W (by rw[←ep];exact QX.g.at) (Nat.le_trans EL JL);rw[ep]at xp4;clear ep EL JL QX
  by_cases bw:(n:Int)∈t.S P.q
  ·rw[decide_eq_true bw]at gw;have gw:=ae gw;have JT:=ae (show bP P t n=t by unfold bP;rw[if_pos ((oZ vE.out.dj).2 ⟨P.q,bw⟩)]);have EU:=ae<|tS Qv.out vE.out HP.out HN.out (Vp.out n) (by have:=lF.out;omega);rw[JT.out]at vf;clear bw;go_wp2_with (first|(go_at_call 20;refine gw.out.mono ?_;rintro e W8 ⟨rfl,rfl⟩)|(go_at_call 137;refine EU.out.mono ?_;rintro e W9 ⟨rfl,Dz,nN⟩;have KN:=ae<|nN.aq QD.out (yt.out eb gz.out);have Dk:=ae<|nN.aq QC.out (yt.out rb eQ.out);have yp:=ae Dz;have kf:=ae<|Mx.out.trans nN;clear Dz nN)|(refine fH (kV 0 false 0) KN.out Tryz.underlying202 ?_)|(refine fJ (kV 0 false 0) Dk.out (uj _ _ _) ?_))
   (try simp only[Exit.inBlock,Exit.then])
   exact rG
  ·rw[decide_eq_false bw]at gw;have gw:=ae gw;have JT:=ae (show bP P t n= {t with often:=aT t.often n 0} by
    unfold bP;rw[if_neg];intro h2;obtain⟨i,hi⟩:=(oZ vE.out.dj).1 h2
    by_cases e:i<P.q
    ·exact HNA.out (dz.2 ⟨i,e,hi⟩)
    ·by_cases e2:i=P.q
     ·exact bw (e2▸hi)
     ·rw[vE.out.dj.out i ao]at hi;cases hi)
   have xp5:=Rg.out.c5;have xpo:aw W j.ob n (t.often n):=Rg.out.of.af (yS _ HN.out);have xpf:W.frozen? ⟨j.ob,n,none⟩=false:=Rg.out.of.free n;have HRf:=aB (mE j P (bP P t n) (W.setCell ⟨j.ob,n,none⟩ (ah 0))) (⟨gvp,qvp,by rw[JT.out];exact Rg.out.aab HN.out 0 Gb.out⟩);have eT:ag (RF j) W (W.setCell ⟨j.ob,n,none⟩ (ah 0)):=(ag.aj (RF j) W).setCell (p:=⟨j.ob,n,none⟩) (.inl (.inr (.inr (.inl rfl)))) _;have ix:=ae<|Mx.out.trans eT;have Bm:=ae<|eT.aq QC.out (yt.out rb eQ.out);have E0:=ae<|eT.aq QD.out (yt.out eb gz.out);have EZ:=ae<|pj vE.out (n:Int) lF.out.1 Vp.out;clear bw eT;go_upto_region 19 with(go_at_call 20;refine gw.out.mono ?_;rintro e W8 ⟨rfl,rfl⟩);change Code.wp _ _ _ _ (W.setCell ⟨j.ob,n,none⟩ (ah 0));clear xp4 xp5 xpo xpf Mx QC QD gw Rg Qv;generalize W.setCell ⟨j.ob,n,none⟩ (ah 0)=Wf at *;have Mx:=ae ix.out;have QC:=ae Bm.out;have QD:=ae E0.out;have EU:=ae<|tS HRf.out EZ.out.1 HP.out HN.out (by have h1:=EZ.out.2.2.2;have h2:=EZ.out.2.1;omega) (by have:=lF.out;have h2:=EZ.out.2.1;omega);clear ix Bm E0;go_wp2_with (first|(go_at_call 137;refine EU.out.mono ?_;rintro e W9 ⟨rfl,Dz,nN⟩;have KN:=ae<|nN.aq QD.out (yt.out eb gz.out);have Dk:=ae<|nN.aq QC.out (yt.out rb eQ.out);have yp:=ae Dz;have kf:=ae<|Mx.out.trans nN;clear Dz nN)|(refine fH (kV 0 false 0) KN.out Tryz.underlying202 ?_)|(refine fJ (kV 0 false 0) Dk.out (uj _ _ _) ?_))
   (try simp only[Exit.inBlock,Exit.then])
   exact rG
end
def Mc (k0 k1 k2:Int)(w:World)(e:Ending)(w':World):Prop:=
 ∃sb cv,e= .returned (aO sb)∧w.heap.size≤sb∧Box w' sb 140 (mJ aJ cv)∧aF 3 w' w.heap.size cv [0,k0,k1,k2]∧ag az w w'
section
theorem O2 (w:World)(k0 k1 k2:Int):aF 3 (w.alloc (.cells #[ah 0,ah k0,ah k1,ah k2] 3)) w.heap.size (aU w.heap.size 4 4) [0,k0,k1,k2]:=
 ⟨rfl,.inr ⟨w.heap.size,4,_,rfl,dm _,Box.fresh w 3 _,dm _,by unfold maxLen;decide,rfl,rfl⟩⟩
theorem WQ (k0 k1 k2:Int)(w:World):
 Calls Tryz.prog 36 #[.agg #[ah k0,ah k1,ah k2]] w (Mc k0 k1 k2 w):=by
 go_enter Tryz.func36,Tryz.ntmps36
 go_upto_region 1 with fail;have aX:=ae<|(ag.aj az w).alloc (.cells #[ah k0,ah k1,ah k2] 22);have bU:=ae<|Box.fresh w 22 #[ah k0,ah k1,ah k2];generalize w.alloc (.cells #[ah k0,ah k1,ah k2] 22)=W1 at *;obtain⟨cb,fL⟩:∃cb,cb=w.heap.size:=⟨_,rfl⟩;rw[←fL]at bU ⊢;have Db:=ae fL;clear fL;go_upto_region 2 with fail;have bf:=ae<|(ag.aj az W1).alloc (.cells (mJ aJ aJ) 140);have cO:=ae<|Box.fresh W1 140 (mJ aJ aJ);change Code.wp _ _ _ _ (W1.alloc (.cells (mJ aJ aJ) 140));have dM:=ae<|bf.aq bU id;generalize W1.alloc (.cells (mJ aJ aJ) 140)=W2 at *;obtain⟨sb,NF⟩:∃sb,sb=W1.heap.size:=⟨_,rfl⟩;rw[←NF]at cO ⊢;have HSB:=ae (show w.heap.size≤sb by rw[NF];exact aX.size);clear NF;have c0:aw W2.drew cb 0 k0:=dM.af rfl;have c1:aw W2.drew cb 1 k1:=dM.af rfl;have c2:aw W2.drew cb 2 k2:=dM.af rfl;have c3:aE W2.drew sb 1 aJ:=cO.af rfl;have ha:ag az W2 (W2.alloc (.cells #[ah 0,ah k0,ah k1,ah k2] 3)).drew:=((ag.aj az W2).alloc _).drew;have HA:=ae ha;have e0:=ha.cell (dM.af (i:=0) rfl) id;have e1:=ha.cell (dM.af (i:=1) rfl) id;have e2:=ha.cell (dM.af (i:=2) rfl) id;have e3:=ha.cell (cO.af (i:=1) rfl) id;have HBA:=ae<|ha.aq cO id;have Qx:=aB (aF 3 (W2.alloc (.cells #[ah 0,ah k0,ah k1,ah k2] 3)).drew W2.heap.size (aU W2.heap.size 4 4) [0,k0,k1,k2]) (O2 W2 k0 k1 k2);have YC:=ae<|(aX.trans bf).trans ha;clear ha;go_upto_region 2 with fail;refine dU (fun w':World=>aw w' cb 0 k0∧aw w' cb 1 k1∧aw w' cb 2 k2∧aE w' sb 1 aJ) 15 fun aH=>?_
 refine bX [0,1,2,3,4,5,6,7,8,9,10] ?_;refine cM 11 fun Kc hK=>?_
 go_simp;refine eh hK fun aH=>?_
 clear hK;refine cM 12 fun Kc hK=>?_
 refine DU _ (.tmp 10) (.tmp 17) 61 3 rfl iD Tryz.underlying61 w.heap.size aJ [] rfl (aF.nil _ _ _) W2.heap.size (aU W2.heap.size 4 4) [0,k0,k1,k2] rfl Qx (by simp) YC.size ?_;intro v4 W4 h4 cI;have h4:aF 3 W4 w.heap.size v4 [0,k0,k1,k2]:=h4;obtain⟨A4,m4,rfl,_,_⟩:=h4.shape;have cI:ag az _ W4:=cI.mono fun k hk=>(a7 hk).elim
 have yi:=ae h4;have bK:=ae cI;have iM:=ae<|cI.aq HBA id;have d0:=cI.cell e0 id;have d1:=cI.cell e1 id;have d2:=cI.cell e2 id;have d3:=cI.cell e3 id;clear h4 cI;refine eh hK fun aH=>?_
 clear hK;refine bX [13,14] ?_;refine cG ?_;have f1:W4.frozen? ⟨sb,1,none⟩=false:=iM.free 1;clear c0 c1 c2 c3 e0 e1 e2 e3 d0 d1 d2 d3;go_wp2;go_ret;have iK:ag (ar sb) W4 (W4.setCell ⟨sb,1,none⟩ (.slice A4 4 m4)):=(ag.aj (ar sb) W4).setCell (p:=⟨sb,1,none⟩) (.inl (show ar sb sb from rfl)) _;refine⟨sb,.slice A4 4 m4,rfl,HSB,iM.store 1 (.slice A4 4 m4),?_,(YC.trans bK).setCell (p:=⟨sb,1,none⟩) (.inr HSB) _⟩;exact yi.aA iK fun q hq e=>by
  obtain⟨cs,h9⟩:=yi.fQ hq;exact(h9.off iM aD) e
end
def eU (l:Value)(v:Int)(g was:Bool)(e:Int):Array Value:=#[l,ah v,.bool g,.bool was,ah e]
theorem k8 (A:Option Addr)(n c:Nat)(v:Int)(g was:Bool)(e:Int):(eU (.slice A n c) v g was e).all (·.oneCell')=true:=by simp[eU,Value.oneCell']
def yT (base:Nat)(L':List Int)(v:Int)(g was:Bool)(w:World)(e:Ending)(w':World):Prop:=
 ∃A n c,e= .returned (.agg (eU (.slice A n c) v g was 0))∧aF 3 w' base (.slice A n c) L'∧ag az w w'
section
variable {base:Nat}{lv:Value}{L:List Int}{w:World}{cap:Nat}{b:Int}
theorem Tn (h:aF 3 w base lv L)(hz:base≤w.heap.size)(hl:L.length≤64):
 Calls Tryz.prog 112 #[lv,ah cap,.agg #[ah 2,ah b]] w (yT base (L.filter (· != b)) 0 false (decide (b∈L)) w):=by
 obtain⟨A,c,rfl,vB,kX⟩:=h.shape;have HL:=ae h;have HZ:=ae hz;have eV:=ae<|Box.fresh w 151 #[ah 2,ah b];have aR:ag az w (w.alloc (.cells #[ah 2,ah b] 151)):=(ag.aj az w).alloc _;have aX:=ae aR;clear h hz aR
 go_enter Tryz.func112,Tryz.ntmps112
 go_upto_region 1 with fail;change Code.wp _ _ _ _ ((w.alloc (.cells #[ah 2,ah b] 151)).alloc (.cells (eU aJ 0 false false 0) 148));have hsz:(w.alloc (.cells #[ah 2,ah b] 151)).heap.size=w.heap.size+1:=World.size_alloc ..;generalize w.alloc (.cells #[ah 2,ah b] 151)=W0 at *;obtain⟨ab,ic⟩:∃ab,ab=w.heap.size:=⟨_,rfl⟩;have oI:=aB (w.heap.size≤ab) (Nat.le_of_eq ic.symm);rw[←ic]at eV hsz ⊢;clear ic;have b5:=ae<|Box.fresh W0 148 (eU aJ 0 false false 0);have aR:ag az W0 (W0.alloc (.cells (eU aJ 0 false false 0) 148)):=(ag.aj az W0).alloc _;have k7:=ae<|aR.aq eV id;have bf:=ae<|aX.trans aR;have eQ:=aB (w.heap.size≤W0.heap.size) (aX.size);clear aR eV aX;generalize W0.alloc (.cells (eU aJ 0 false false 0) 148)=W1 at *;rw[hsz]at b5 eQ;clear hsz;generalize ab+1=rb at *;have mF:=ae<|HL.aA bf fun _ _=>id;have gw:=ae<|fS A c _ L b W1 mF.at (Nat.le_trans vB kX);have y0:aw W1 ab 0 2:=k7.af rfl;have y1:aw W1 ab 1 b:=k7.af rfl;generalize ou:decide (b∈L)=was at *;have yJ:=ae ou;clear ou;go_upto_region 2 with(go_at_call 20;refine gw.mono ?_;rintro e W ⟨rfl,rfl⟩);change Code.wp _ _ _ _ (W1.alloc (.cells (eU (.slice A L.length c) 0 false was 0) 148));have lH:=ae<|Box.fresh W1 148 (eU (.slice A L.length c) 0 false was 0);have aR:ag az W1 (W1.alloc (.cells (eU (.slice A L.length c) 0 false was 0) 148)):=(ag.aj az W1).alloc _;have iw:=ae<|aR.aq b5 id;have ky:=ae<|aR.aq k7 id;have bn:=ae<|bf.trans aR;have gz:=aB (w.heap.size≤W1.heap.size∧rb<W1.heap.size) (⟨bf.size,b5.lt⟩);clear aR gw b5 k7 bf mF y0 y1;generalize W1.alloc (.cells (eU (.slice A L.length c) 0 false was 0) 148)=W2 at *;generalize W1.heap.size=eb at *;have Kg:=ae<|dO b W2 (HL.aA bn fun _ _=>id) ao;have y0:aw W2 ab 0 2:=ky.af rfl;have y1:aw W2 ab 1 b:=ky.af rfl;have NW:=ae hl;clear hl;go_upto_region 3 with(go_at_call 134;refine Kg.mono ?_;rintro e W3 ⟨v3,rfl,cB,Gm⟩;obtain⟨A3,c3,e3,aaG,aaF⟩:=cB.shape;generalize aap:(L.filter (· != b)).length=n3 at *;subst e3;have DH:=ae<|cB.low (base':=base) (Nat.le_trans HZ bn.size);have oh:=ae Gm;clear cB Gm);have nF:=ae<|oh.aq lH id;have iR:=ae<|oh.aq iw id;have gZ:=ae<|oh.aq ky id;have bK:=ae<|bn.trans oh;clear lH iw ky bn oh y0 y1 Kg;have y0:aw W3 ab 0 2:=gZ.af rfl;have y1:aw W3 ab 1 b:=gZ.af rfl;have z0:aE W3 eb 0 (.slice A L.length c):=nF.af rfl;have zf:W3.frozen? ⟨eb,0,none⟩=false:=nF.free 0;go_upto_region 5 with fail;have cA:ag (ar eb) W3 (W3.setCell ⟨eb,0,none⟩ (.slice A3 n3 c3)):=(ag.aj (ar eb) W3).setCell (p:=⟨eb,0,none⟩) (.inl (show ar eb eb from rfl)) _;have vI:=aB (Box _ eb 148 (eU (.slice A3 n3 c3) 0 false was 0)) (nF.store 0 (.slice A3 n3 c3));have iz:=ae<|cA.aq iR (fun e=>by have h9:rb=eb:=e;have:=gz.out;omega);have bM:=ae<|bK.setCell (p:=⟨eb,0,none⟩) (.inr gz.1) (.slice A3 n3 c3);have vD:=ae (DH.aA cA fun g hg e=>by
  obtain⟨cs,h9⟩:=DH.fQ hg;exact(h9.off nF aD) e)
 change Code.wp _ _ _ _ (W3.setCell ⟨eb,0,none⟩ (.slice A3 n3 c3));clear z0 zf cA nF iR bK DH y0 y1 gZ;generalize W3.setCell ⟨eb,0,none⟩ (.slice A3 n3 c3)=W5 at *;go_wp2_with (first|(refine fH (eU (.slice A3 n3 c3) 0 false was 0) vI Tryz.underlying148 ?_)|(refine fJ (eU (.slice A3 n3 c3) 0 false was 0) iz (k8 _ _ _ _ _ _ _) ?_))
 (try simp only[Exit.inBlock,Exit.then])
 refine bodyPost_ret (results_cell_row rfl _ _ rb _ (eU (.slice A3 n3 c3) 0 false was 0) (0,0) _ rfl (iz.au _) Tryz.underlying148 rfl bZ) rfl ?_;have iK:ag (ar rb) W5 (W5.setRow rb (eU (.slice A3 n3 c3) 0 false was 0)):=(ag.aj (ar rb) W5).au (.inl rfl) _;exact⟨A3,n3,c3,by rw[yJ.out],vD.aA iK fun g hg e=>(by
  obtain⟨cs,h9⟩:=vD.fQ hg;exact(h9.off iz aD) e),bM.au (.inr eQ) _⟩
theorem sP{P:Prop}(h:P:=by have:=NW.out;have:(L.filter (· != b)).length≤L.length:=List.length_filter_le ..;omega):P:=h
theorem my{P:Prop}(h:P:=by have:=HZ.out;have:=bK.size;omega):P:=h
theorem Tq (h:aF 3 w base lv L)(hz:base≤w.heap.size)(hl:L.length≤64)(hb:b∈L):
 Calls Tryz.prog 112 #[lv,ah cap,.agg #[ah 0,ah b]] w (yT base (b :: L.filter (· != b)) 0 false true w):=by
 have Rf:=ae hb;clear hb;obtain⟨A,c,rfl,vB,kX⟩:=h.shape;have HL:=ae h;have HZ:=ae hz;have eV:=ae<|Box.fresh w 151 #[ah 0,ah b];have aR:ag az w (w.alloc (.cells #[ah 0,ah b] 151)):=(ag.aj az w).alloc _;have aX:=ae aR;clear h hz aR
 go_enter Tryz.func112,Tryz.ntmps112
 go_upto_region 1 with fail;change Code.wp _ _ _ _ ((w.alloc (.cells #[ah 0,ah b] 151)).alloc (.cells (eU aJ 0 false false 0) 148));have hsz:(w.alloc (.cells #[ah 0,ah b] 151)).heap.size=w.heap.size+1:=World.size_alloc ..;generalize w.alloc (.cells #[ah 0,ah b] 151)=W0 at *;obtain⟨ab,ic⟩:∃ab,ab=w.heap.size:=⟨_,rfl⟩;have oI:=aB (w.heap.size≤ab) (Nat.le_of_eq ic.symm);rw[←ic]at eV hsz ⊢;clear ic;have b5:=ae<|Box.fresh W0 148 (eU aJ 0 false false 0);have aR:ag az W0 (W0.alloc (.cells (eU aJ 0 false false 0) 148)):=(ag.aj az W0).alloc _;have k7:=ae<|aR.aq eV id;have bf:=ae<|aX.trans aR;have eQ:=aB (w.heap.size≤W0.heap.size) (aX.size);clear aR eV aX;generalize W0.alloc (.cells (eU aJ 0 false false 0) 148)=W1 at *;rw[hsz]at b5 eQ;clear hsz;generalize ab+1=rb at *;have mF:=ae<|HL.aA bf fun _ _=>id;have gw:=ae<|fS A c _ L b W1 mF.at (Nat.le_trans vB kX);have y0:aw W1 ab 0 0:=k7.af rfl;have y1:aw W1 ab 1 b:=k7.af rfl;generalize ou:decide (b∈L)=was at *;have yJ:=ae ou;clear ou;go_upto_region 2 with(go_at_call 20;refine gw.mono ?_;rintro e W ⟨rfl,rfl⟩);change Code.wp _ _ _ _ (W1.alloc (.cells (eU (.slice A L.length c) 0 false was 0) 148));have lH:=ae<|Box.fresh W1 148 (eU (.slice A L.length c) 0 false was 0);have aR:ag az W1 (W1.alloc (.cells (eU (.slice A L.length c) 0 false was 0) 148)):=(ag.aj az W1).alloc _;have iw:=ae<|aR.aq b5 id;have ky:=ae<|aR.aq k7 id;have bn:=ae<|bf.trans aR;have gz:=aB (w.heap.size≤W1.heap.size∧rb<W1.heap.size) (⟨bf.size,b5.lt⟩);clear aR gw b5 k7 bf mF y0 y1;generalize W1.alloc (.cells (eU (.slice A L.length c) 0 false was 0) 148)=W2 at *;generalize W1.heap.size=eb at *;have Kg:=ae<|dO b W2 (HL.aA bn fun _ _=>id) ao;have y0:aw W2 ab 0 0:=ky.af rfl;have y1:aw W2 ab 1 b:=ky.af rfl;have NW:=ae hl;clear hl;go_upto_region 3 with(go_at_call 134;refine Kg.mono ?_;rintro e W3 ⟨v3,rfl,cB,Gm⟩;obtain⟨A3,c3,e3,aaG,aaF⟩:=cB.shape;generalize aap:(L.filter (· != b)).length=n3 at *;subst e3;have DH:=ae<|cB.low (base':=base) (Nat.le_trans HZ bn.size);have oh:=ae Gm;clear cB Gm);have nF:=ae<|oh.aq lH id;have iR:=ae<|oh.aq iw id;have gZ:=ae<|oh.aq ky id;have bK:=ae<|bn.trans oh;clear lH iw ky bn oh y0 y1 Kg;have y0:aw W3 ab 0 0:=gZ.af rfl;have y1:aw W3 ab 1 b:=gZ.af rfl;obtain rfl:was=true:=by rw[←yJ.out];exact decide_eq_true Rf
 have z0:aE W3 eb 0 (.slice A L.length c):=nF.af rfl;have z3:aE W3 eb 3 (.bool true):=nF.af rfl;have UQ:=ae<|iF b W3 DH sP;go_upto_region 8 with(go_at_call 135;refine UQ.mono ?_;rintro e W4 ⟨v4,rfl,cI,mX⟩;obtain⟨g4,c4,e4,aaE,acY⟩:=cI.some_ (by simp);generalize ae5:(b :: L.filter (· != b)).length=n4 at *;subst e4;have yi:=ae<|cI.low (base':=base) my;have zK:=ae<|mX.aq nF id;have jc:=ae<|mX.aq iR id;have GX:=ae<|bK.trans mX;have w0:=zK.af (i:=0) rfl;have w1:=zK.free 0;clear cI mX);have cA:ag (ar eb) W4 (W4.setCell ⟨eb,0,none⟩ (aU g4 n4 c4)):=(ag.aj (ar eb) W4).setCell (p:=⟨eb,0,none⟩) (.inl (show ar eb eb from rfl)) _;have vI:=aB (Box _ eb 148 (eU (aU g4 n4 c4) 0 false true 0)) (zK.store 0 (aU g4 n4 c4));have iz:=ae<|cA.aq jc (fun e=>by have h9:rb=eb:=e;have:=gz.out;omega);have bM:=ae<|GX.setCell (p:=⟨eb,0,none⟩) (.inr gz.1) (aU g4 n4 c4);have vD:=ae (yi.aA cA fun g hg e=>by
  obtain⟨cs,h9⟩:=yi.fQ hg;exact(h9.off zK aD) e)
 change Code.wp _ _ _ _ (W4.setCell ⟨eb,0,none⟩ (aU g4 n4 c4));clear z0 z3 cA nF iR bK DH y0 y1 gZ zK jc yi GX w0 w1 UQ;generalize W4.setCell ⟨eb,0,none⟩ (aU g4 n4 c4)=W5 at *;go_wp2_with (first|(refine fH (eU (aU g4 n4 c4) 0 false true 0) vI Tryz.underlying148 ?_)|(refine fJ (eU (aU g4 n4 c4) 0 false true 0) iz (k8 _ _ _ _ _ _ _) ?_))
 (try simp only[Exit.inBlock,Exit.then])
 refine bodyPost_ret (results_cell_row rfl _ _ rb _ (eU (aU g4 n4 c4) 0 false true 0) (0,0) _ rfl (iz.au _) Tryz.underlying148 rfl bZ) rfl ?_;have iK:ag (ar rb) W5 (W5.setRow rb (eU (aU g4 n4 c4) 0 false true 0)):=(ag.aj (ar rb) W5).au (.inl rfl) _;exact⟨_,_,_,by first|rfl|rw[yJ.out],vD.aA iK fun g hg e=>(by
  obtain⟨cs,h9⟩:=vD.fQ hg;exact(h9.off iz aD) e),bM.au (.inr eQ) _⟩
theorem Tp (h:aF 3 w base lv L)(hz:base≤w.heap.size)(hl:L.length≤64)(hb:b∈L):
 Calls Tryz.prog 112 #[lv,ah cap,.agg #[ah 1,ah b]] w (yT base (b :: L.filter (· != b)) 0 false true w):=by
 have Rf:=ae hb;clear hb;obtain⟨A,c,rfl,vB,kX⟩:=h.shape;have HL:=ae h;have HZ:=ae hz;have eV:=ae<|Box.fresh w 151 #[ah 1,ah b];have aR:ag az w (w.alloc (.cells #[ah 1,ah b] 151)):=(ag.aj az w).alloc _;have aX:=ae aR;clear h hz aR
 go_enter Tryz.func112,Tryz.ntmps112
 go_upto_region 1 with fail;change Code.wp _ _ _ _ ((w.alloc (.cells #[ah 1,ah b] 151)).alloc (.cells (eU aJ 0 false false 0) 148));have hsz:(w.alloc (.cells #[ah 1,ah b] 151)).heap.size=w.heap.size+1:=World.size_alloc ..;generalize w.alloc (.cells #[ah 1,ah b] 151)=W0 at *;obtain⟨ab,ic⟩:∃ab,ab=w.heap.size:=⟨_,rfl⟩;have oI:=aB (w.heap.size≤ab) (Nat.le_of_eq ic.symm);rw[←ic]at eV hsz ⊢;clear ic;have b5:=ae<|Box.fresh W0 148 (eU aJ 0 false false 0);have aR:ag az W0 (W0.alloc (.cells (eU aJ 0 false false 0) 148)):=(ag.aj az W0).alloc _;have k7:=ae<|aR.aq eV id;have bf:=ae<|aX.trans aR;have eQ:=aB (w.heap.size≤W0.heap.size) (aX.size);clear aR eV aX;generalize W0.alloc (.cells (eU aJ 0 false false 0) 148)=W1 at *;rw[hsz]at b5 eQ;clear hsz;generalize ab+1=rb at *;have mF:=ae<|HL.aA bf fun _ _=>id;have gw:=ae<|fS A c _ L b W1 mF.at (Nat.le_trans vB kX);have y0:aw W1 ab 0 1:=k7.af rfl;have y1:aw W1 ab 1 b:=k7.af rfl;generalize ou:decide (b∈L)=was at *;have yJ:=ae ou;clear ou;go_upto_region 2 with(go_at_call 20;refine gw.mono ?_;rintro e W ⟨rfl,rfl⟩);change Code.wp _ _ _ _ (W1.alloc (.cells (eU (.slice A L.length c) 0 false was 0) 148));have lH:=ae<|Box.fresh W1 148 (eU (.slice A L.length c) 0 false was 0);have aR:ag az W1 (W1.alloc (.cells (eU (.slice A L.length c) 0 false was 0) 148)):=(ag.aj az W1).alloc _;have iw:=ae<|aR.aq b5 id;have ky:=ae<|aR.aq k7 id;have bn:=ae<|bf.trans aR;have gz:=aB (w.heap.size≤W1.heap.size∧rb<W1.heap.size) (⟨bf.size,b5.lt⟩);clear aR gw b5 k7 bf mF y0 y1;generalize W1.alloc (.cells (eU (.slice A L.length c) 0 false was 0) 148)=W2 at *;generalize W1.heap.size=eb at *;have Kg:=ae<|dO b W2 (HL.aA bn fun _ _=>id) ao;have y0:aw W2 ab 0 1:=ky.af rfl;have y1:aw W2 ab 1 b:=ky.af rfl;have NW:=ae hl;clear hl;go_upto_region 3 with(go_at_call 134;refine Kg.mono ?_;rintro e W3 ⟨v3,rfl,cB,Gm⟩;obtain⟨A3,c3,e3,aaG,aaF⟩:=cB.shape;generalize aap:(L.filter (· != b)).length=n3 at *;subst e3;have DH:=ae<|cB.low (base':=base) (Nat.le_trans HZ bn.size);have oh:=ae Gm;clear cB Gm);have nF:=ae<|oh.aq lH id;have iR:=ae<|oh.aq iw id;have gZ:=ae<|oh.aq ky id;have bK:=ae<|bn.trans oh;clear lH iw ky bn oh y0 y1 Kg;have y0:aw W3 ab 0 1:=gZ.af rfl;have y1:aw W3 ab 1 b:=gZ.af rfl;obtain rfl:was=true:=by rw[←yJ.out];exact decide_eq_true Rf
 have z0:aE W3 eb 0 (.slice A L.length c):=nF.af rfl;have z3:aE W3 eb 3 (.bool true):=nF.af rfl;have UQ:=ae<|iF b W3 DH sP;go_upto_region 8 with(go_at_call 135;refine UQ.mono ?_;rintro e W4 ⟨v4,rfl,cI,mX⟩;obtain⟨g4,c4,e4,aaE,acY⟩:=cI.some_ (by simp);generalize ae5:(b :: L.filter (· != b)).length=n4 at *;subst e4;have yi:=ae<|cI.low (base':=base) my;have zK:=ae<|mX.aq nF id;have jc:=ae<|mX.aq iR id;have GX:=ae<|bK.trans mX;have w0:=zK.af (i:=0) rfl;have w1:=zK.free 0;clear cI mX);have cA:ag (ar eb) W4 (W4.setCell ⟨eb,0,none⟩ (aU g4 n4 c4)):=(ag.aj (ar eb) W4).setCell (p:=⟨eb,0,none⟩) (.inl (show ar eb eb from rfl)) _;have vI:=aB (Box _ eb 148 (eU (aU g4 n4 c4) 0 false true 0)) (zK.store 0 (aU g4 n4 c4));have iz:=ae<|cA.aq jc (fun e=>by have h9:rb=eb:=e;have:=gz.out;omega);have bM:=ae<|GX.setCell (p:=⟨eb,0,none⟩) (.inr gz.1) (aU g4 n4 c4);have vD:=ae (yi.aA cA fun g hg e=>by
  obtain⟨cs,h9⟩:=yi.fQ hg;exact(h9.off zK aD) e)
 change Code.wp _ _ _ _ (W4.setCell ⟨eb,0,none⟩ (aU g4 n4 c4));clear z0 z3 cA nF iR bK DH y0 y1 gZ zK jc yi GX w0 w1 UQ;generalize W4.setCell ⟨eb,0,none⟩ (aU g4 n4 c4)=W5 at *;go_wp2_with (first|(refine fH (eU (aU g4 n4 c4) 0 false true 0) vI Tryz.underlying148 ?_)|(refine fJ (eU (aU g4 n4 c4) 0 false true 0) iz (k8 _ _ _ _ _ _ _) ?_))
 (try simp only[Exit.inBlock,Exit.then])
 refine bodyPost_ret (results_cell_row rfl _ _ rb _ (eU (aU g4 n4 c4) 0 false true 0) (0,0) _ rfl (iz.au _) Tryz.underlying148 rfl bZ) rfl ?_;have iK:ag (ar rb) W5 (W5.setRow rb (eU (aU g4 n4 c4) 0 false true 0)):=(ag.aj (ar rb) W5).au (.inl rfl) _;exact⟨_,_,_,by first|rfl|rw[yJ.out],vD.aA iK fun g hg e=>(by
  obtain⟨cs,h9⟩:=vD.fQ hg;exact(h9.off iz aD) e),bM.au (.inr eQ) _⟩
theorem Tr {n:Nat}(h:aF 3 w base lv L)(hz:base≤w.heap.size)(hl:L.length≤16)(hlc:L.length≤cap)(acZ:cap≤16)(hn:n<64)(zB:L.Nodup)(h1:1≤cap)(hb:(n:Int)∉L):
 Calls Tryz.prog 112 #[lv,ah cap,.agg #[ah 1,ah n]] w (yT base (dw cap L n).1 (dw cap L n).2.1 (dw cap L n).2.2 false w):=by
 have Rf:=ae hb;have aao:(n:Int)≤63:=ao;have Vq:=ae zB;have HLC:=aB (L.length≤cap∧1≤cap) (⟨hlc,h1⟩);have Kw:L.length≤64:=ao;have agu:(L.length:Int)≤16:=ao;have ox:(cap:Int)≤16:=ao;obtain⟨b,QT⟩:∃b:Int,b=n:=⟨_,rfl⟩;have Gq:0≤b:=ao;have agV:b≤63:=ao;rw[←QT]at Rf ⊢;clear hb zB hlc h1 aao QT hn hl;have hl:=Kw;clear Kw;obtain⟨A,c,rfl,vB,kX⟩:=h.shape;have HL:=ae h;have HZ:=ae hz;have eV:=ae<|Box.fresh w 151 #[ah 1,ah b];have aR:ag az w (w.alloc (.cells #[ah 1,ah b] 151)):=(ag.aj az w).alloc _;have aX:=ae aR;clear h hz aR
 go_enter Tryz.func112,Tryz.ntmps112
 go_upto_region 1 with fail;change Code.wp _ _ _ _ ((w.alloc (.cells #[ah 1,ah b] 151)).alloc (.cells (eU aJ 0 false false 0) 148));have hsz:(w.alloc (.cells #[ah 1,ah b] 151)).heap.size=w.heap.size+1:=World.size_alloc ..;generalize w.alloc (.cells #[ah 1,ah b] 151)=W0 at *;obtain⟨ab,ic⟩:∃ab,ab=w.heap.size:=⟨_,rfl⟩;have oI:=aB (w.heap.size≤ab) (Nat.le_of_eq ic.symm);rw[←ic]at eV hsz ⊢;clear ic;have b5:=ae<|Box.fresh W0 148 (eU aJ 0 false false 0);have aR:ag az W0 (W0.alloc (.cells (eU aJ 0 false false 0) 148)):=(ag.aj az W0).alloc _;have k7:=ae<|aR.aq eV id;have bf:=ae<|aX.trans aR;have eQ:=aB (w.heap.size≤W0.heap.size) (aX.size);clear aR eV aX;generalize W0.alloc (.cells (eU aJ 0 false false 0) 148)=W1 at *;rw[hsz]at b5 eQ;clear hsz;generalize ab+1=rb at *;have mF:=ae<|HL.aA bf fun _ _=>id;have gw:=ae<|fS A c _ L b W1 mF.at (Nat.le_trans vB kX);have y0:aw W1 ab 0 1:=k7.af rfl;have y1:aw W1 ab 1 b:=k7.af rfl;generalize ou:decide (b∈L)=was at *;have yJ:=ae ou;clear ou;go_upto_region 2 with(go_at_call 20;refine gw.mono ?_;rintro e W ⟨rfl,rfl⟩);change Code.wp _ _ _ _ (W1.alloc (.cells (eU (.slice A L.length c) 0 false was 0) 148));have lH:=ae<|Box.fresh W1 148 (eU (.slice A L.length c) 0 false was 0);have aR:ag az W1 (W1.alloc (.cells (eU (.slice A L.length c) 0 false was 0) 148)):=(ag.aj az W1).alloc _;have iw:=ae<|aR.aq b5 id;have ky:=ae<|aR.aq k7 id;have bn:=ae<|bf.trans aR;have gz:=aB (w.heap.size≤W1.heap.size∧rb<W1.heap.size) (⟨bf.size,b5.lt⟩);clear aR gw b5 k7 bf mF y0 y1;generalize W1.alloc (.cells (eU (.slice A L.length c) 0 false was 0) 148)=W2 at *;generalize W1.heap.size=eb at *;have Kg:=ae<|dO b W2 (HL.aA bn fun _ _=>id) ao;have y0:aw W2 ab 0 1:=ky.af rfl;have y1:aw W2 ab 1 b:=ky.af rfl;have NW:=ae hl;clear hl;go_upto_region 3 with(go_at_call 134;refine Kg.mono ?_;rintro e W3 ⟨v3,rfl,cB,Gm⟩;obtain⟨A3,c3,e3,aaG,aaF⟩:=cB.shape;generalize aap:(L.filter (· != b)).length=n3 at *;subst e3;have DH:=ae<|cB.low (base':=base) (Nat.le_trans HZ bn.size);have oh:=ae Gm;clear cB Gm);have nF:=ae<|oh.aq lH id;have iR:=ae<|oh.aq iw id;have gZ:=ae<|oh.aq ky id;have bK:=ae<|bn.trans oh;clear lH iw ky bn oh y0 y1 Kg;have y0:aw W3 ab 0 1:=gZ.af rfl;have y1:aw W3 ab 1 b:=gZ.af rfl;obtain rfl:was=false:=by rw[←yJ.out];exact decide_eq_false Rf
 have z3:aE W3 eb 3 (.bool false):=nF.af rfl;have UQ:=ae<|iF b W3 (HL.aA bK fun _ _=>id) (by have:=NW.out;omega);have HNG:=aB ((b :: L).length=L.length+1) (List.length_cons);go_upto_region 15 with(go_at_call 135;refine UQ.mono ?_;rintro e W4 ⟨v4,rfl,cI,mX⟩;obtain⟨g4,c4,e4,aaE,acY⟩:=cI.some_ (by simp);rw[HNG.out]at e4 aaE;subst e4;have yi:=ae<|cI.low (base':=base) my;have zK:=ae<|mX.aq nF id;have jc:=ae<|mX.aq iR id;have GX:=ae<|bK.trans mX;have w0:=zK.af (i:=0) rfl;have w1:=zK.free 0;clear cI mX);clear bK;have bK:=ae GX;have cA:ag (ar eb) W4 (W4.setCell ⟨eb,0,none⟩ (aU g4 (L.length+1) c4)):=(ag.aj (ar eb) W4).setCell (p:=⟨eb,0,none⟩) (.inl (show ar eb eb from rfl)) _;have vI:=aB (Box _ eb 148 (eU (aU g4 (L.length+1) c4) 0 false false 0)) (zK.store 0 (aU g4 (L.length+1) c4));have iz:=ae<|cA.aq jc (fun e=>by have h9:rb=eb:=e;have:=gz.out;omega);have bM:=ae<|bK.setCell (p:=⟨eb,0,none⟩) (.inr gz.1) (aU g4 (L.length+1) c4);have vD:=ae (yi.aA cA fun g hg e=>by
  obtain⟨cs,h9⟩:=yi.fQ hg;exact(h9.off zK aD) e)
 change Code.wp _ _ _ _ (W4.setCell ⟨eb,0,none⟩ (aU g4 (L.length+1) c4));clear cA zK jc bK yi w0 w1 GX z3 UQ nF iR y0 y1 gZ DH;generalize W4.setCell ⟨eb,0,none⟩ (aU g4 (L.length+1) c4)=W5 at *;have z0:aE W5 eb 0 (aU g4 (L.length+1) c4):=vI.af rfl
 by_cases ZL:cap<L.length+1
 ·have hlc:L.length=cap:=by have:=HLC.out;omega
  have hne:L≠[]:=fun e=>by rw[e]at hlc;have:=HLC.out;simp at hlc;omega
  have vf:=ae (show dw cap L b=(b :: L.erase (eB L),eB L,true) by unfold dw;rw[if_neg Rf.out,if_neg ao]);have vE:=ae (show(b :: L).take L.length=b :: L.erase (eB L) by
   rw[wo Vq.out];obtain⟨m,hm⟩:∃m,L.length=m+1:=⟨L.length - 1,by have:=List.length_pos_iff.2 hne;omega⟩;rw[hm];rfl)
  have Ki:=ae (show(b :: L).getD L.length 0=eB L by
   rw[xN HNG.out,ff,if_neg hne])
  have uN:=vD.at;obtain⟨g5,o5,e5,jU⟩:=uN.af (i:=L.length) (by rw[HNG.out];omega);injection e5 with e5;injection e5 with e5 e6;subst e5 e6;rw[Ki.out,Nat.zero_add]at jU;have aax:(cap:Int)<(L.length:Int)+1:=ao;have hw0:IntKind.i64.wrap (L.length:Int)=L.length:=by rw[IntKind.wrap_i64];omega
  have agF:(L.length:Int)<(L.length:Int)+1:=ao;have hcc:(L.length:Int)≤c4:=ao;have agT:(L.length:Int)+1≤c4:=ao;clear ZL hlc hne uN;generalize Qe:eB L=vv at *;have HVV:=ae Qe;clear Qe;have a1:aw W5 eb 1 0:=vI.af rfl;have f1:W5.frozen? ⟨eb,1,none⟩=false:=vI.free 1;go_upto_region 18 with fail;have bT:ag (ar eb) W5 (W5.setCell ⟨eb,1,none⟩ (ah vv)):=(ag.aj (ar eb) W5).setCell (p:=⟨eb,1,none⟩) (.inl (show ar eb eb from rfl)) _;have Ai:=aB (Box _ eb 148 (eU (aU g4 (L.length+1) c4) vv false false 0)) (vI.store 1 (ah vv));have tz:=ae<|bT.aq iz (fun e=>by have h9:rb=eb:=e;have:=gz.out;omega);have cZ:=ae<|bM.setCell (p:=⟨eb,1,none⟩) (.inr gz.1) (ah vv);have JQ:=ae (vD.aA bT fun g hg e=>by
   obtain⟨cs,h9⟩:=vD.fQ hg;exact(h9.off vI aD) e)
  change Code.wp _ _ _ _ (W5.setCell ⟨eb,1,none⟩ (ah vv));clear bT vI iz bM vD a1 f1 z0 jU;generalize W5.setCell ⟨eb,1,none⟩ (ah vv)=W6 at *;have a2:aE W6 eb 2 (.bool false):=Ai.af rfl;have f2:W6.frozen? ⟨eb,2,none⟩=false:=Ai.free 2;go_upto_region 19 with fail;have dL:ag (ar eb) W6 (W6.setCell ⟨eb,2,none⟩ (.bool true)):=(ag.aj (ar eb) W6).setCell (p:=⟨eb,2,none⟩) (.inl (show ar eb eb from rfl)) _;have Bk:=aB (Box _ eb 148 (eU (aU g4 (L.length+1) c4) vv true false 0)) (Ai.store 2 (.bool true));have zE:=ae<|dL.aq tz (fun e=>by have h9:rb=eb:=e;have:=gz.out;omega);have fC:=ae<|cZ.setCell (p:=⟨eb,2,none⟩) (.inr gz.1) (.bool true);have JP:=ae (JQ.aA dL fun g hg e=>by
   obtain⟨cs,h9⟩:=JQ.fQ hg;exact(h9.off Ai aD) e)
  change Code.wp _ _ _ _ (W6.setCell ⟨eb,2,none⟩ (.bool true));clear dL Ai tz cZ JQ a2 f2;generalize W6.setCell ⟨eb,2,none⟩ (.bool true)=W7 at *;have a0:aE W7 eb 0 (aU g4 (L.length+1) c4):=Bk.af rfl;have f0:W7.frozen? ⟨eb,0,none⟩=false:=Bk.free 0;go_upto_region 20 with fail;have eT:ag (ar eb) W7 (W7.setCell ⟨eb,0,none⟩ (aU g4 L.length c4)):=(ag.aj (ar eb) W7).setCell (p:=⟨eb,0,none⟩) (.inl (show ar eb eb from rfl)) _;have E0:=aB (Box _ eb 148 (eU (aU g4 L.length c4) vv true false 0)) (Bk.store 0 (aU g4 L.length c4));have Bf:=ae<|eT.aq zE (fun e=>by have h9:rb=eb:=e;have:=gz.out;omega);have ix:=ae<|fC.setCell (p:=⟨eb,0,none⟩) (.inr gz.1) (aU g4 L.length c4);have HV8:=ae (JP.aA eT fun g hg e=>by
   obtain⟨cs,h9⟩:=JP.fQ hg;exact(h9.off Bk aD) e)
  change Code.wp _ _ _ _ (W7.setCell ⟨eb,0,none⟩ (aU g4 L.length c4));clear eT Bk zE fC a0 f0;generalize W7.setCell ⟨eb,0,none⟩ (aU g4 L.length c4)=W8 at *;have Q6:=ae (show aF 3 W8 base (aU g4 L.length c4) (b :: L.erase vv) by
   have h2:=HV8.take (m:=L.length) (by rw[HNG.out];omega);rw[vE.out]at h2;exact h2)
  have yp:=ae Bf;have kf:=ae ix;go_wp2_with (first|(refine fH (eU (aU g4 L.length c4) vv true false 0) E0 Tryz.underlying148 ?_)|(refine fJ (eU (aU g4 L.length c4) vv true false 0) Bf (k8 _ _ _ _ _ _ _) ?_))
  (try simp only[Exit.inBlock,Exit.then])
  refine bodyPost_ret (results_cell_row rfl _ _ rb _ (eU (aU g4 L.length c4) vv true false 0) (0,0) _ rfl (Bf.au _) Tryz.underlying148 rfl bZ) rfl ?_;rw[vf.out];have iK:ag (ar rb) W8 (W8.setRow rb (eU (aU g4 L.length c4) vv true false 0)):=(ag.aj (ar rb) W8).au (.inl rfl) _;exact⟨_,_,_,by first|rfl|rw[yJ.out],Q6.aA iK fun g hg e=>(by
   obtain⟨cs,h9⟩:=Q6.fQ hg;exact(h9.off yp aD) e),kf.au (.inr eQ) _⟩
 ·have aY:L.length<cap:=ao;have vf:=ae (show dw cap L b=(b :: L,0,false) by unfold dw;rw[if_neg Rf.out,if_pos aY]);have aax:(L.length:Int)+1≤cap:=ao;clear ZL aY;go_wp2_with (first|(refine fH (eU (aU g4 (L.length+1) c4) 0 false false 0) vI Tryz.underlying148 ?_)|(refine fJ (eU (aU g4 (L.length+1) c4) 0 false false 0) iz (k8 _ _ _ _ _ _ _) ?_))
  (try simp only[Exit.inBlock,Exit.then])
  refine bodyPost_ret (results_cell_row rfl _ _ rb _ (eU (aU g4 (L.length+1) c4) 0 false false 0) (0,0) _ rfl (iz.au _) Tryz.underlying148 rfl bZ) rfl ?_;rw[vf.out];have iK:ag (ar rb) W5 (W5.setRow rb (eU (aU g4 (L.length+1) c4) 0 false false 0)):=(ag.aj (ar rb) W5).au (.inl rfl) _;exact⟨_,_,_,by first|rfl|rw[yJ.out],vD.aA iK fun g hg e=>(by
   obtain⟨cs,h9⟩:=vD.fQ hg;exact(h9.off iz aD) e),bM.au (.inr eQ) _⟩
end
theorem SI:(Tryz.prog.info? 61).map (fun i=>(i.zero,i.size,i.bytes))=some (some aJ,1,24):=by kernel_rfl
def Zp (P:dN)(v ov ev:Value):Array Value:=#[ah P.cap,ah P.kL,ah P.ghost,v,aJ,ov,ev,ah 0]
theorem Ce (w:World):(Instr.makeSlice 61 (ah 64) (ah 64)).run Tryz.prog w= .ok (aU w.heap.size 64 64) (w.alloc (.cells (uY (fun _=>0)) 3)):=by
 obtain⟨i,hi,J0⟩:=Option.map_eq_some_iff.1 iD;simp only[Prod.mk.injEq]at J0;obtain⟨hz,hs,hb⟩:=J0;have:=run_make (P:=Tryz.prog) w 61 3 i _ Tryz.underlying61 hi hz .i64 .i64 64 64 ao (Int.le_refl _) eO ao;rw[hs]at this;exact this.trans bZ
def aek (P:dN)(w:World)(mb:Nat)(i:Value)(wr:World):Prop:=
 ∃(k:Nat) (v:Value),k≤P.q∧i=ah k∧Box wr mb 173 (Zp P v aJ aJ)∧Row 61 wr v (List.replicate k aJ)∧(∀g,aK v g→w.heap.size≤g)∧ag az w wr
section
def CC (P:dN)(w:World)(e:Ending)(w':World):Prop:=∃j:lr,e= .returned (aO j.mb)∧mE j P ⟨fun _=>[],0,fun _=>0,fun _=>0⟩ w'∧(∀k,RF j k→w.heap.size≤k)∧ag az w w'
theorem lX{P:Prop}(h:P:=by
 have h1:=iw.aA iK fun g hg e=>by
  obtain⟨cs,h9⟩:=iw.aq hg;exact(h9.off cO aD) e
 rw[List.replicate_succ'];exact h1):P:=h
theorem WH (P:dN)(hq1:1≤P.q)(Uz:P.q≤8)(w:World):
 Calls Tryz.prog 70 #[ah P.cap,ah P.q,ah P.kL,ah P.ghost] w (CC P w):=by
 have HB:=ae<|Box.fresh w 173 (Zp P aJ aJ aJ);have HO:=ae<|(ag.aj az w).alloc (.cells (Zp P aJ aJ aJ) 173)
 go_enter Tryz.func70,Tryz.ntmps70
 go_upto_region 3 with fail;obtain⟨mb,fW⟩:∃mb,mb=w.heap.size:=⟨_,rfl⟩;have vF:=aB (w.heap.size≤mb) (Nat.le_of_eq fW.symm);rw[←fW]at HB ⊢;clear fW;change Code.wp _ _ _ _ (w.alloc (.cells (Zp P aJ aJ aJ) 173));generalize w.alloc (.cells (Zp P aJ aJ aJ) 173)=W1 at *
 go_loopw [10] (fun iv wr=>aek P w mb iv wr) (fun iv _=>P.q - (intOf iv).toNat)
 case atStart=>exact⟨0,_,dT _,rfl,HB,Row.vK _ _,fun g hg=>(a7 hg).elim,HO⟩
 case round=>
  clear HB HO;obtain⟨k,v,hk,rfl,hb,hr,hf,ho⟩:=hrel;have HB:=ae hb;have HO:=ae ho;have HR:=ae hr;have HF:=ae hf;have x3:aE wr mb 3 v:=hb.af rfl;have f3:wr.frozen? ⟨mb,3,none⟩=false:=hb.free 3;clear hb hr hf ho
  by_cases aY:k<P.q
  ·have iV:(k:Int)<P.q:=ao;have bL:=ae aY;have hkk:k<8:=ao;clear aY hk;go_wp2_with (at_builtin;refine cy _ rfl (.tmp 25) (.tmp 26) 169 61 rfl SI rfl Tryz.underlying169 v (List.replicate k aJ) rfl (HR.aA ((ag.aj az wr).alloc _) fun _ _=>id) (some ⟨wr.heap.size,0,none⟩) 1 1 [aJ] rfl rfl (Fy wr _ _) (by simp[Value.oneCell']) (by simp[maxLen];omega) (by simp;omega) ?_;intro v2 w2 wB bp QL _;obtain⟨A2,c2,e2,_,_⟩:=wB.shape;rw[show(List.replicate k (Value.slice none 0 0) ++ [Value.slice none 0 0]).length=k+1 by simp]at e2;subst e2;have cO:=ae<|bp.aq (((ag.aj az wr).alloc (.cells #[aJ] 61)).aq HB id) (fun hk=>by obtain⟨cs,h9⟩:=HR.aq hk;exact(h9.off HB aD) rfl);have iw:=ae wB;have bf:=ae<|(HO.alloc (.cells #[aJ] 61)).aC bp fun g hg=>.inr (HF g hg);have lG:=aB (∀g,aK (.slice A2 (k+1) c2) g→w.heap.size≤g) (fun g hg=>(QL g hg).elim (HF g) fun h=>by have:=HO.size;rw[World.size_alloc]at h;omega);have z3:=cO.af (i:=3) rfl;have zf:=cO.free 3;clear wB bp QL)
   go_roundw
   case rel=>
    have iK:ag (ar mb) w2 (w2.setCell ⟨mb,3,none⟩ (.slice A2 (k+1) c2)):=(ag.aj (ar mb) w2).setCell (p:=⟨mb,3,none⟩) (.inl (show ar mb mb from rfl)) _;refine⟨k+1,.slice A2 (k+1) c2,bL,by push_cast;rfl,cO.store 3 (.slice A2 (k+1) c2),?_,lG,bf.setCell (p:=⟨mb,3,none⟩) (.inr vF) _⟩;exact lX
   case measure=>simp[intOf];have:=bL.out;omega
  ·obtain rfl:k=P.q:=ao;obtain⟨qb,qc,rfl,_,_⟩:=HR.cell (i:=0) (u:=aJ) (by rw[List.getElem?_replicate,if_pos ao]);rw[List.length_replicate]at x3 HB HR HF;clear aY hk;have uW:=Ce wr;have ZQ:Box (wr.alloc (.cells (uY (fun _=>0)) 3)) mb 173 _:=((ag.aj az wr).alloc _).aq HB id;have x5:aE (wr.alloc (.cells (uY (fun _=>0)) 3)) mb 5 aJ:=ZQ.af rfl;have f5:(wr.alloc (.cells (uY (fun _=>0)) 3)).frozen? ⟨mb,5,none⟩=false:=ZQ.free 5;go_upto_region 7 with fail;have bp:ag az w ((wr.alloc (.cells (uY (fun _=>0)) 3)).setCell ⟨mb,5,none⟩ (aU wr.heap.size 64 64)):=(HO.alloc _).setCell (p:=⟨mb,5,none⟩) (.inr vF) _;have Qh:ag az wr (wr.alloc (.cells (uY (fun _=>0)) 3)):=(ag.aj az wr).alloc _;have iK:ag (ar mb) (wr.alloc (.cells (uY (fun _=>0)) 3)) ((wr.alloc (.cells (uY (fun _=>0)) 3)).setCell ⟨mb,5,none⟩ (aU wr.heap.size 64 64)):=(ag.aj (ar mb) _).setCell (p:=⟨mb,5,none⟩) (.inl (show ar mb mb from rfl)) _;have cO:=aB (Box _ mb 173 (Zp P (aU qb P.q qc) (aU wr.heap.size 64 64) aJ)) ((Qh.aq HB id).store 5 (aU wr.heap.size 64 64));have lG:=ae<|iK.aq (Box.fresh wr 3 (uY (fun _=>0))) (fun e=>by have h9:wr.heap.size=mb:=e;have:=HB.lt;omega);have iw:=ae ((HR.aA Qh fun _ _=>id).aA iK fun g hg e=>by
    obtain⟨cs,h9⟩:=HR.aq hg;exact(h9.off HB aD) e)
   have bf:=ae bp;have Yv:=aB (w.heap.size≤wr.heap.size) (HO.size);have Gy:=aB (qb<wr.heap.size) (HR.lt (aG.2 rfl));have HQB:=aB (w.heap.size≤qb) (HF qb (aG.2 rfl));change Code.wp _ _ _ _ ((wr.alloc (.cells (uY (fun _=>0)) 3)).setCell ⟨mb,5,none⟩ (aU wr.heap.size 64 64));clear bp Qh iK HB HR HO x3 f3 HF uW ZQ x5 f5;generalize(wr.alloc (.cells (uY (fun _=>0)) 3)).setCell ⟨mb,5,none⟩ (aU wr.heap.size 64 64)=W2 at *;generalize wr.heap.size=ob at *;have uW:=Ce W2;have ZQ:Box (W2.alloc (.cells (uY (fun _=>0)) 3)) mb 173 _:=((ag.aj az W2).alloc _).aq cO id;have x6:aE (W2.alloc (.cells (uY (fun _=>0)) 3)) mb 6 aJ:=ZQ.af rfl;have f6:(W2.alloc (.cells (uY (fun _=>0)) 3)).frozen? ⟨mb,6,none⟩=false:=ZQ.free 6;go_upto_region 8 with fail;have cB:ag az w ((W2.alloc (.cells (uY (fun _=>0)) 3)).setCell ⟨mb,6,none⟩ (aU W2.heap.size 64 64)):=(bf.alloc _).setCell (p:=⟨mb,6,none⟩) (.inr vF) _;have Qh:ag az W2 (W2.alloc (.cells (uY (fun _=>0)) 3)):=(ag.aj az W2).alloc _;have iK:ag (ar mb) (W2.alloc (.cells (uY (fun _=>0)) 3)) ((W2.alloc (.cells (uY (fun _=>0)) 3)).setCell ⟨mb,6,none⟩ (aU W2.heap.size 64 64)):=(ag.aj (ar mb) _).setCell (p:=⟨mb,6,none⟩) (.inl (show ar mb mb from rfl)) _;have dM:=aB (Box _ mb 173 (Zp P (aU qb P.q qc) (aU ob 64 64) (aU W2.heap.size 64 64))) ((Qh.aq cO id).store 6 (aU W2.heap.size 64 64));have HX3:=ae<|iK.aq (Box.fresh W2 3 (uY (fun _=>0))) (fun e=>by have h9:W2.heap.size=mb:=e;have:=cO.lt;omega);have jE:=ae<|iK.aq (Qh.aq lG id) (lG.off cO aD);have iR:=ae ((iw.aA Qh fun _ _=>id).aA iK fun g hg e=>by
    obtain⟨cs,h9⟩:=iw.aq hg;exact(h9.off cO aD) e)
   have bn:=ae cB;have oh:=aB (ob<W2.heap.size∧mb<W2.heap.size∧qb<W2.heap.size∧w.heap.size≤W2.heap.size) (⟨lG.lt,cO.lt,iw.lt (aG.2 rfl),bf.size⟩);have AF:=aB (W2.heap.size+1≤((W2.alloc (.cells (uY (fun _=>0)) 3)).setCell ⟨mb,6,none⟩ (aU W2.heap.size 64 64)).heap.size) (by have:=iK.size;rw[World.size_alloc]at this;exact this);change Code.wp _ _ _ _ ((W2.alloc (.cells (uY (fun _=>0)) 3)).setCell ⟨mb,6,none⟩ (aU W2.heap.size 64 64));clear cB Qh iK cO iw bf lG f6 x6 uW ZQ;generalize(W2.alloc (.cells (uY (fun _=>0)) 3)).setCell ⟨mb,6,none⟩ (aU W2.heap.size 64 64)=W3 at *;generalize W2.heap.size=eb at *;go_wp2;go_ret;have h1:=oh.out;have h2:=AF.out;have h3:=vF.out;have h4:=HQB.out;have h5:=Yv.out;refine⟨⟨mb,qb,qc,ob,eb,W3.heap.size⟩,rfl,⟨aJ,fun _=>aJ,dM,?_,fun _ _=>aF.nil _ _ _,aF.nil _ _ _,jE,HX3,by dsimp only;omega,by dsimp only;omega,dm _⟩,?_,bn⟩
   ·have h6:=iR.out;rw[show List.replicate P.q (Value.slice none 0 0)=Gi P.q (fun _=>aJ) by simp[Gi,List.map_const']]at h6;exact h6
   ·rintro k (e|e|e|e)<;>dsimp only at e<;>omega
end
theorem dD.wV {w:World}{base:Nat}{v:Value}{I:List (Int×Int)}(h:dD w base v I){k:Nat}(hk:aK v k):∃cs,Box w k 146 cs:=by
 rcases h.2 with⟨rfl,_⟩|⟨g,cap,cur,rfl,hb,hg,_⟩
 ·exact(a7 hk).elim
 ·have e:=aG.1 hk;subst e;exact⟨cur,hg⟩
theorem gD.wV {w:World}{base:Nat}{v:Value}{m:List (Int×Nat)}(h:gD w base v m){k:Nat}(hk:aK v k):∃cs,Box w k 100 cs:=by
 rcases h.2 with⟨rfl,_⟩|⟨g,cap,cur,rfl,hb,hg,_⟩
 ·exact(a7 hk).elim
 ·have e:=aG.1 hk;subst e;exact⟨cur,hg⟩
theorem B6:∀(I:List (Int×Int)) (k:Nat) (l':Int),k<I.length→(I.set k ((I.getD k (0,0)).1,l')).flatMap CJ=(I.flatMap CJ).set (k*2+1) (ah l')
 | [],k,l',h=>absurd h (Nat.not_lt_zero _)
 |a :: I,0,l',_=>rfl
 |a :: I,k+1,l',h=>by
  have ih:=B6 I k l' (by simpa using h);rw[show(k+1)*2+1=(k*2+1)+2 by omega]
  show CJ a ++ (I.set k ((I.getD k (0,0)).1,l')).flatMap CJ=_
  rw[ih];rfl
theorem dD.aeR {w:World}{base g c:Nat}{I:List (Int×Int)}(h:dD w base (aU g I.length c) I){k:Nat}(hk:k<I.length)(l':Int):
 dD (w.setCell ⟨g,k*2+1,none⟩ (ah l')) base (aU g I.length c) (I.set k ((I.getD k (0,0)).1,l')):=by
 obtain⟨h1,h2⟩:=h;rcases h2 with⟨e,_⟩|⟨g',cap,cur,e,hb,hg,hn,hm,hsz,ND⟩
 ·cases e
 ·injection e with e1 e2 e3;injection e1 with e1;injection e1 with e1;subst e1 e3;refine⟨?_,.inr ⟨g,c,cur.setIfInBounds (k*2+1) (ah l'),by rw[List.length_set],hb,Box.store (show Box w g _ cur from hg) _ _,by rw[List.length_set];exact hn,hm,by rw[Array.size_setIfInBounds];exact hsz,?_⟩⟩
  ·rw[B6 I k l' hk,List.length_set,List.length_set];exact h1
  ·rw[B6 I k l' hk,←ND,List.length_set,Array.toList_setIfInBounds,List.take_set]
theorem Xw {S:US}(hI:jQ S)(b l:Int):gT (oN S b l)=(b,l) :: gT ⟨S.L.erase b,S.v⟩:=by
 show(b :: S.L.erase b).map (fun y=>(y,aT S.v b l y))=(b,l) :: (S.L.erase b).map (fun y=>(y,S.v y))
 rw[List.map_cons]
 congr 1
 ·unfold aT;rw[if_pos rfl]
 ·refine List.map_congr_left fun y hy=>?_
  have:y≠b:=(hI.nodup.mem_erase_iff.1 hy).1;unfold aT;rw[if_neg this]
def CG (n:Int)(v:Value):Array Value:=#[ah n,v]
theorem Wi (n:Int)(A:Option Addr)(k c:Nat):(CG n (.slice A k c)).all (·.oneCell')=true:=by simp[CG,Value.oneCell']
def RuR (sb ub rb cb cc:Nat)(cp:Nat→Int)(l0:Int)(R:US×List (Int×Nat))(w:World)(iv:Value)(wr:World):Prop:=
 ∃(f l:Nat) (S:US) (m:List (Int×Nat)) (A:Option Addr) (c:Nat) (u:Value),1≤l∧l≤4∧5≤f+l∧m.length<l∧iv=ah l∧jQ S∧Box wr sb 140 (mJ (.slice A S.L.length c) (aU cb 4 cc))∧dD wr w.heap.size (.slice A S.L.length c) (gT S)∧
  Box wr ub 97 (CG l0 u)∧Box wr rb 97 (CG 0 aJ)∧gD wr w.heap.size u m∧eX cp f S l m=R∧ag (ar sb) w wr
section
variable {w:World}{sb base cb cc:Nat}{v cv:Value}{cp:Nat→Int}{S:US}{cs:Array Value}
theorem OU {b:Int}(hb:Box w sb 140 (mJ v cv))(hi:dD w base v (gT S))(hI:jQ S)(AD:S.L.length≤100):
 Calls Tryz.prog 78 #[aO sb,ah b] w fun e w'=>(∃a:Int,e= .returned (ah a)∧AY (gT S) a (gT S).length=gT ⟨S.L.erase b,S.v⟩)∧w=w':=by
 have hl:(gT S).length≤100:=by rw[bS];exact AD
 by_cases hm:b∈S.L
 ·obtain⟨q,hq,U3,hqn⟩:=xQ hm;refine(pV (b:=b) (q:=q) hb hi hl (by rw[bS];exact hq) (by rw[fR S hq];exact U3) fun j hj=>by rw[fR S ao];exact hqn j hj).mono ?_;rintro e w' ⟨h1,h2⟩;exact⟨⟨q,h1,by rw[bS,abK hI.nodup hq,U3]⟩,h2⟩
 ·refine(pU (b:=b) hb hi hl fun j hj=>by rw[bS]at hj;rw[fR S hj];intro e;exact hm (by rw[←e];show S.L.getD j 0∈S.L;rw[List.getD_eq_getElem?_getD,List.getElem?_eq_getElem hj];exact List.getElem_mem hj)).mono ?_;rintro e w' ⟨h1,h2⟩;exact⟨⟨-1,h1,by rw[bS,Xu S aD,List.erase_of_not_mem hm]⟩,h2⟩
theorem sm{P:Prop}(h:P:=by
 have HPN:=ae<|OT (I:=gT S1) (A:=A1) (c:=c1) (by rw[bS];exact HBd) (by rw[bS];exact YF) Sw (by rw[bS];exact HNI);have HPR:=ae (show ia (gT S1).length (gT S1)=gT (vS S1) by rw[bS];exact Ei _ HUI);go_upto_region 13 with(go_at_call 81;refine HPN.mono ?_;rintro e W5 ⟨rfl,n5,Ym,hi5,cA⟩;rw[HPR.out]at hi5);have iG:=ae Ym;have HI5:=ae hi5;have UJ:=ae<|cA.aq (NU.aq HUx id) fun e=>(HUx.off HBx aD) e;have iz:=ae<|cA.aq (NU.aq Yz id) fun e=>(Yz.off HBx aD) e;have Ra:=aB (gD W5 w.heap.size (.slice Au m.length cu) m) (bk (bk HMx NU fun _ _=>id) cA fun k hk e=>(Gx k hk).1 e);have bM:=ae<|(Mw.drew).trans cA;clear Ym hi5 cA HPN;go_wp2_with (first|(refine fH (CG l0 (.slice Au m.length cu)) UJ Tryz.underlying97 ?_)|(refine fJ (CG l0 (.slice Au m.length cu)) iz (Wi _ _ _ _) ?_))
 (try simp only[Exit.inBlock,Exit.then])
 refine bodyPost_ret (results_cell_row rfl _ _ rb _ (CG l0 (.slice Au m.length cu)) (0,0) _ rfl (iz.au _) Tryz.underlying97 rfl bZ) rfl ?_;have iK:ag (ar rb) W5 (W5.setRow rb (CG l0 (.slice Au m.length cu))):=(ag.aj (ar rb) W5).au (.inl rfl) _;have hRm:R=(S1,m):=by rw[←HSx.out,KM.out]
 have hU:gV cp S b=(vS S1,ek cp S b,m):=by
  show(vS (eX cp 4 (oN S b (ek cp S b)) (ek cp S b) []).1,ek cp S b,(eX cp 4 (oN S b (ek cp S b)) (ek cp S b) []).2)=_
  rw[←YE.out,←HR.out,hRm]
 rw[hU];refine⟨A1,n5,c1,.slice Au m.length cu,by rw[←YE.out];rfl,iK.aq iG (fun e=>(iG.off iz aD) e),HI5.aA iK (fun k hk e=>?_),bk Ra iK (fun k hk e=>(Gx k hk).2.2.1 e),bM.au (.inr eQ) _⟩;obtain⟨c9,h9⟩:=dD.wV HI5 hk;exact(h9.off iz aD) e):P:=h
theorem WO {b:Int}(hb:Box w sb 140 (mJ v (aU cb 4 cc)))(hi:dD w base v (gT S))(hc:BK w cb cp)(fL:Box w cb 3 cs)(hI:jQ S)(AD:S.L.length≤64)(Gq:0≤b∧b<64)(ox:∀l,1≤l→l≤3→0≤cp l):
 Calls Tryz.prog 42 #[aO sb,ah b] w fun e w'=>∃A n c u,e= .returned (.agg #[ah (gV cp S b).2.1,u])∧Box w' sb 140 (mJ (.slice A n c) (aU cb 4 cc))∧dD w' w.heap.size (.slice A n c) (gT (gV cp S b).1)∧gD w' w.heap.size u (gV cp S b).2.2∧ag (ar sb) w w':=by
 have HB:=ae hb;have HI:=ae hi;have HC:=ae hc;have Db:=ae fL;have HU:=ae hI;have nA:=ae (show S.L.length≤100 by omega);have G0:=ae AD;have Vy:=ae Gq;have adC:=ae ox;clear hb hi hc fL hI AD Gq ox
 go_enter Tryz.func42,Tryz.ntmps42
 go_upto_region 1 with fail;have aX:=ae<|(ag.aj az w).alloc (.cells (CG 0 aJ) 97);have b5:=ae<|Box.fresh w 97 (CG 0 aJ);change Code.wp _ _ _ _ (w.alloc (.cells (CG 0 aJ) 97));generalize w.alloc (.cells (CG 0 aJ) 97)=W1 at *;obtain⟨rb,jO⟩:∃rb,rb=w.heap.size:=⟨_,rfl⟩;rw[←jO]at b5 ⊢;have eQ:=aB (w.heap.size≤rb) (Nat.le_of_eq jO.symm);clear jO;have bU:=ae<|aX.aq HB id;have lL:=ae<|HI.aA aX fun _ _ e=>e;have HC1:=ae<|HC.aA aX fun e=>e;have HN:=ae<|TB (b:=b) bU lL HC1 nA;obtain⟨l0,hl0⟩:∃l,l=ek cp S b:=⟨_,rfl⟩;rw[←hl0]at HN;have YE:=ae hl0;have Qz:=ae (show 1≤l0∧l0≤4 by rw[hl0];exact ux cp S b);clear hl0;go_upto_region 2 with(go_at_call 76;refine HN.mono ?_;rintro e W2 ⟨rfl,bp⟩;have bf:=ae bp;clear bp);have bn:=ae<|(aX.trans bf).alloc (.cells (CG l0 aJ) 97);have Qr:=ae<|Box.fresh W2 97 (CG l0 aJ);have iR:=ae<|((bf.alloc (.cells (CG l0 aJ) 97))).aq b5 id;change Code.wp _ _ _ _ (W2.alloc (.cells (CG l0 aJ) 97));generalize W2.alloc (.cells (CG l0 aJ) 97)=W3 at *;obtain⟨ub,Ux⟩:∃ub,ub=W2.heap.size:=⟨_,rfl⟩;rw[←Ux]at Qr ⊢;have Qq:=aB (W1.heap.size≤ub∧w.heap.size≤ub) (⟨by rw[Ux];exact bf.size,by rw[Ux];exact(aX.trans bf).size⟩);clear Ux;have HNU:=aB (¬rb=ub) (fun e=>by have h9:=b5.lt;rw[e]at h9;exact absurd h9 (Nat.not_lt.2 Qq.1));have dM:=ae<|bn.aq HB id;have AG:=ae<|HI.aA bn fun _ _ e=>e;have ME:=ae<|HC.aA bn fun e=>e;have HP:=ae<|OU (b:=b) dM AG HU nA;have HW:=ae fun(a:Int)=>Jg (a:=a) dM AG (by rw[bS];exact nA)
 clear HN bU lL HC1 b5 aX bf;go_upto_region 3 with(first|(go_at_call 78;refine HP.mono ?_;rintro e W4 ⟨⟨a,rfl,ha⟩,rfl⟩;have HA:=ae ha;have HWA:=ae<|HW a;clear ha)|(go_at_call 77;refine HWA.mono ?_;rintro e W4 ⟨o4,rfl,QK,cI⟩;rw[HA.out]at QK;obtain⟨A4,c4,rfl,_,_⟩:=QK.shape;have jc:=ae QK;have bK:=ae cI;clear QK cI));have k0:aE W4 sb 0 v:=(bK.aq dM id).af rfl;have f0:W4.frozen? ⟨sb,0,none⟩=false:=(bK.aq dM id).free 0;have cA:ag (ar sb) W4 (W4.setCell ⟨sb,0,none⟩ aJ):=(ag.aj (ar sb) W4).setCell (p:=⟨sb,0,none⟩) (.inl (show ar sb sb from rfl)) _;have iG:=aB (Box (W4.setCell ⟨sb,0,none⟩ aJ) sb 140 (mJ aJ (aU cb 4 cc))) ((bK.aq dM id).store 0 aJ);have hu4:=bK.aq Qr id;have QK:=bK.aq iR id;have Bg:=aB (¬ar sb ub∧¬ar sb rb) (⟨fun e=>(hu4.off (bK.aq dM id) aD) e,fun e=>(QK.off (bK.aq dM id) aD) e⟩);have UJ:=ae<|cA.aq hu4 Bg.1;have iz:=ae<|cA.aq QK Bg.2;have bM:=ae<|(bn.trans bK).mono (S':=ar sb) (fun k hk=>hk.elim) |>.trans cA;have adf:=ae (jc.aA cA fun k hk e=>by
  obtain⟨c9,h9⟩:=dD.wV jc hk;exact(h9.off (bK.aq dM id) aD) e)
 clear hu4 QK cA;go_upto_region 4 with fail;change Code.wp _ _ _ _ (W4.setCell ⟨sb,0,none⟩ aJ);generalize W4.setCell ⟨sb,0,none⟩ aJ=W5 at *;clear k0 f0;have CV:=aB (∀j u,(CJ (b,(l0:Int)))[j]? =some u→(W5.alloc (.cells (CJ (b,(l0:Int))).toArray 146)).drew.cell? ((⟨W5.heap.size,0,none⟩:Addr).add j)=some u) (cV W5 _ _);have ha:ag az W5 (W5.alloc (.cells (CJ (b,(l0:Int))).toArray 146)).drew:=((ag.aj az W5).alloc _).drew;have yB:=ae ha;have c0:aE W5.drew sb 0 aJ:=iG.af rfl;have c1:aw W5.drew ub 0 l0:=UJ.af rfl;have e0:=ha.cell (iG.af (i:=0) rfl) id;have e1:=ha.cell (UJ.af (i:=0) rfl) id;have YC:=ae<|bM.trans (ha.mono (S':=ar sb) fun k hk=>hk.elim);clear ha;go_upto_region 4 with fail;refine dU (fun w':World=>aE w' sb 0 aJ∧aw w' ub 0 l0) 13 fun aH=>?_
 refine bX [0,1,2,3,4,5,6,7] ?_;refine cM 8 fun Kc hK=>?_
 go_simp;refine eh hK fun aH=>?_
 clear hK;refine cM 9 fun Kc hK=>?_
 go_simp;refine eh hK fun aH=>?_
 clear hK;refine cM 10 fun Kc hK=>?_
 refine nV _ (.tmp 25) (.tmp 30) 138 146 rfl KX rfl aD Tryz.underlying138 w.heap.size aJ 0 [] (CJ (b,(l0:Int))) rfl (World.ownsRow_nil _ _ _ _) ⟨W5.heap.size,0,none⟩ rfl rfl CV (by simp[CJ,Value.oneCell']) aD aD YC.size ?_;intro v6 W6 h6 bT _;have h6:dD W6 w.heap.size v6 [(b,(l0:Int))]:=h6;obtain⟨A6,c6,rfl,_,_⟩:=h6.shape;have bT:ag az _ W6:=bT.mono fun k hk=>(a7 hk).elim
 have JQ:=ae h6;have cZ:=ae bT;have kI:=ae<|bT.aq (yB.aq iG id) id;have d0:=bT.cell e0 id;have d1:=bT.cell e1 id;clear h6 bT;refine eh hK fun aH=>?_
 clear hK;refine bX [11,12] ?_;refine cG ?_;have f1:W6.frozen? ⟨sb,0,none⟩=false:=kI.free 0;clear c0 c1 e0 e1 d0 d1;have N4:ag (ar sb) W6 (W6.setCell ⟨sb,0,none⟩ (.slice A6 1 c6)):=(ag.aj (ar sb) W6).setCell (p:=⟨sb,0,none⟩) (.inl (show ar sb sb from rfl)) _;have sV:=aB (Box (W6.setCell ⟨sb,0,none⟩ (.slice A6 1 c6)) sb 140 (mJ (.slice A6 1 c6) (aU cb 4 cc))) (kI.store 0 (.slice A6 1 c6));have JP:=ae (JQ.aA N4 fun k hk e=>by
  obtain⟨c9,h9⟩:=dD.wV JQ hk;exact(h9.off kI aD) e)
 have aaj:=(adf.aA yB fun _ _ e=>e).aA cZ fun _ _ e=>e
 have zE:=ae (aaj.aA N4 fun k hk e=>by
  obtain⟨c9,h9⟩:=dD.wV aaj hk;exact(h9.off kI aD) e)
 have HU7:=ae<|N4.aq (cZ.aq (yB.aq UJ id) id) Bg.1;have Dh:=ae<|N4.aq (cZ.aq (yB.aq iz id) id) Bg.2;have fC:=ae<|(YC.trans (cZ.mono (S':=ar sb) fun k hk=>hk.elim)).trans N4;clear N4 aaj;go_upto_region 5 with fail;change Code.wp _ _ _ _ (W6.setCell ⟨sb,0,none⟩ (.slice A6 1 c6));generalize W6.setCell ⟨sb,0,none⟩ (.slice A6 1 c6)=W7 at *;clear f1 JQ kI cZ iG UJ iz bM adf CV yB YC;have c0:aE W7 sb 0 (.slice A6 1 c6):=sV.af rfl;have f0:W7.frozen? ⟨sb,0,none⟩=false:=sV.free 0;have Gd:=ae (show(gT ⟨S.L.erase b,S.v⟩).length≤64 by rw[bS];exact Nat.le_trans (List.length_erase_le) G0);have HNS:=aB (¬aK (.slice A6 1 c6) sb) (fun e=>by
  obtain⟨c9,h9⟩:=dD.wV JP e;exact(h9.off sV aD) rfl)
 go_upto_region 6 with(at_builtin;refine vp _ rfl (.tmp 38) (.tmp 39) 138 146 rfl KX rfl aD Tryz.underlying138 w.heap.size (.slice A6 1 c6) 1 _ rfl JP W3.heap.size (.slice A4 (gT ⟨S.L.erase b,S.v⟩).length c4) (gT ⟨S.L.erase b,S.v⟩).length ((gT ⟨S.L.erase b,S.v⟩).flatMap CJ) rfl zE (fun y hy=>by obtain⟨z,_,hz⟩:=List.mem_flatMap.1 hy;simp[CJ]at hz;rcases hz with rfl|rfl<;>rfl) (by unfold maxLen;have:=Gd.out;omega) (by have:=Gd.out;omega) fC.size ?_;intro v8 W8 h8 eT _;have HV8:=ae h8;have ix:=ae eT;obtain⟨A8,c8,e8,_,_⟩:=cz h8;subst e8;have UF:=ix.aq sV HNS.out;have Bm:=ae UF;have f8:=UF.free 0;have x8:aE W8 sb 0 (.slice A6 1 c6):=UF.af rfl;clear h8 eT UF);have agY:=ae<|HC.aA fC fun e=>(Db.off HB aD) e;have j9:ag (ar sb) W8 (W8.setCell ⟨sb,0,none⟩ (.slice A8 (1+(gT ⟨S.L.erase b,S.v⟩).length) c8)):=(ag.aj (ar sb) W8).setCell (p:=⟨sb,0,none⟩) (.inl (show ar sb sb from rfl)) _;have aaM:=Xw HU b (l0:Int);have hPL:(oN S b (l0:Int)).L.length=1+(gT ⟨S.L.erase b,S.v⟩).length:=by rw[←bS,aaM,List.length_cons];omega
 have ui:=ae hPL;have zL:=aB (Box (W8.setCell ⟨sb,0,none⟩ (.slice A8 (1+(gT ⟨S.L.erase b,S.v⟩).length) c8)) sb 140 (mJ (.slice A8 (oN S b (l0:Int)).L.length c8) (aU cb 4 cc))) (by rw[hPL];exact Bm.store 0 _);have Si:dD W8 w.heap.size (.slice A8 (oN S b (l0:Int)).L.length c8) (gT (oN S b (l0:Int))):=by
  rw[aaM,hPL];unfold dD;rw[List.length_cons,List.flatMap_cons,Nat.add_comm 1];have h:=HV8.out;rw[Nat.add_comm 1,List.flatMap_cons,List.flatMap_nil,List.append_nil]at h;exact h
 have C8:=ae (Si.aA j9 fun k hk e=>by
  obtain⟨c9,h9⟩:=dD.wV Si hk;exact(h9.off Bm aD) e)
 have hu8:=ix.aq HU7 fun e=>by
  obtain⟨c9,h9⟩:=dD.wV JP e;exact(h9.off HU7 aD) rfl
 have hr8:=ix.aq Dh fun e=>by
  obtain⟨c9,h9⟩:=dD.wV JP e;exact(h9.off Dh aD) rfl
 have EU:=ae<|j9.aq hu8 Bg.1;have gW:=ae<|j9.aq hr8 Bg.2;have kf:=ae ((fC.aC ix fun k hk=>by
  rcases JP.2 with⟨e,_⟩|⟨g9,aaP,VR,e,QU,_⟩
  ·rw[show Value.slice A6 1 c6=_ from e]at hk;exact(a7 hk).elim
  ·rw[show Value.slice A6 1 c6=_ from e]at hk;rw[←aG.1 hk];exact .inr QU).trans j9)
 have af6:=ae (BQ HU Vy.1 Vy.2 gL gL:jQ (oN S b (l0:Int)));change Code.wp _ _ _ _ (W8.setCell ⟨sb,0,none⟩ (.slice A8 (1+(gT ⟨S.L.erase b,S.v⟩).length) c8));clear j9 aaM hPL Si hu8 hr8 f8 x8 f0 c0 Bm HV8 ix HU7 Dh sV JP zE HNS fC HW HWA HP HA dM AG ME Qr iR bn jc bK;generalize W8.setCell ⟨sb,0,none⟩ (.slice A8 (1+(gT ⟨S.L.erase b,S.v⟩).length) c8)=W9 at *;have z0:aw W9 ub 0 l0:=EU.af rfl;go_wp2_with fail;have zG:=aB (¬ar sb cb) (fun e=>(Db.off HB aD) e);obtain⟨R,hR⟩:∃R,R=eX cp 4 (oN S b (l0:Int)) l0 []:=⟨_,rfl⟩;have HR:=ae hR;clear z0 hR
 go_loopw [7] (fun iv wr=>RuR sb ub rb cb cc cp l0 R w iv wr) (fun iv _=>4 - (intOf iv).toNat)
 case atStart=>exact⟨4,l0,oN S b (l0:Int),[],A8,c8,aJ,Qz.1,Qz.2,by have:=Qz.out;omega,Qz.1,rfl,af6,zL,C8,EU,gW,World.ownsRow_nil _ _ _ _,HR.symm,kf⟩
 case round=>
  obtain⟨f,l,S1,m,A1,c1,u1,h1,h4,hf,J4,rfl,hinv,fB,C4,hu1,Ml,AA,pA,aR⟩:=hrel;have HL:=aB (1≤l∧l≤4∧5≤f+l∧m.length<l) (⟨h1,h4,hf,J4⟩);have HUI:=ae hinv;have HBx:=ae fB;have HIx:=ae C4;have HUx:=ae hu1;have Yz:=ae Ml;have HMx:=ae AA;have HSx:=ae pA;have Mw:=ae aR;obtain⟨Au,cu,eu,_,_⟩:=cz AA;subst eu;have Sw:=ae (show(gT S1).length≤100 by rw[bS];have:=hinv.len;omega);have HBd:=aB (Box wr.drew sb 140 _) (fB);have YF:=aB (dD wr.drew w.heap.size (.slice A1 S1.L.length c1) (gT S1)) (C4);have Ye:ag az wr wr.drew:=(ag.aj az wr).drew;have NU:=ae Ye;have HNI:=aB (∀k,aK (.slice A1 S1.L.length c1) k→k≠sb) (fun k hk=>by
   obtain⟨c9,h9⟩:=dD.wV C4 hk;exact h9.off fB aD)
  have Gx:=aB (∀k,aK (.slice Au m.length cu) k→k≠sb∧k≠ub∧k≠rb∧(∀g,(∃cs,Box wr g 146 cs)→g≠k)) (fun k hk=>by
   obtain⟨c9,h9⟩:=gD.wV AA hk;exact⟨h9.off fB aD,h9.off hu1 aD,h9.off Ml aD,fun g ⟨c8,h8⟩=>h8.off h9 aD⟩)
  clear hf J4 hinv fB C4 hu1 Ml AA pA aR Ye
  by_cases hl4:l=4
  ·have KM:=ae (show eX cp f S1 l m=(S1,m) by
    cases f with
    |zero=>rfl
    |succ f=>rw[eX,if_neg (fun e=>by omega)])
   subst hl4;have hd:decide (((4:Nat):Int)≤3)=false:=aD;clear h1 h4;go_upto_region 7 with fail;refine oa (fun _:World=>True) 14 ?_ ?_
   ·exact trivial
   intro aH;refine yd [0,1,2,3,4,6,7,8,9,10,11,12] ?_;refine cM 5 fun Kc hK=>?_
   rw[if_neg cU];refine jS hK ?_ fun aH=>?_
   ·exact trivial
   clear hK;refine wAx [13] ?_;refine cG ?_
   (try clear aH)
   exact sm
  ·have vA:l≤3:=ao;have oL:=ae vA;have ZJ:(l:Int)≤3:=ao;have hl0:(0:Int)≤(l:Int):=Int.natCast_nonneg l;have hl5:(l:Int)<4:=ao;have afb:l<4:=ao;have HY:=D7 (l:=(l:Int)) HBd YF Sw;rw[bS,Nk]at HY;have k1:aw wr.drew cb l (cp l):=(HC.aA Mw zG) l h1 vA;have k2:aE wr.drew sb 1 (aU cb 4 cc):=HBx.af rfl;have HX:=aB (∀x y:Int,x=cp l→y=(gg S1 l:Int)→(x<y↔cp l<(gg S1 l:Int))) (fun x y e1 e2=>by rw[e1,e2]);obtain⟨x,hx⟩:∃x,x=cp l:=⟨_,rfl⟩;obtain⟨y,hy⟩:∃y,y=(gg S1 l:Int):=⟨_,rfl⟩;have HX:=ae<|HX x y hx hy;have wM:=aB (x=cp l∧y=(gg S1 l:Int)) (⟨hx,hy⟩);rw[←hx]at k1;rw[←hy]at HY;have HY:=ae HY;clear h1 h4 hl4 vA hx hy
   by_cases hc:x<y
   ·have QI:decide (x<y)=true:=decide_eq_true hc;have HC0:=ae<|HX.1 hc;have Hj:eX cp f S1 l m=eX cp (f - 1) (yD S1 (eB (iU S1 l)) ((l+1:Nat):Int)) (l+1) (m ++ [(eB (iU S1 l),l)]):=by
     have:=HL.out;have:=oL.out;obtain⟨f',rfl⟩:∃f',f=f'+1:=⟨f - 1,ao⟩;rw[eX,if_pos ⟨ao,HC0.out⟩];rfl
    obtain⟨k,hk,hky,QN⟩:=Xt (S:=S1) (l:=(l:Int)) (show 0<gg S1 l by have h9:=wM.1;have:=adC.out l HL.1 oL.out;have:=HC0.out;omega);rw[←QN]at Hj;have HSK:=ae Hj;have HK:=aB (k<S1.L.length) (hk);have uS:=ae (show S1.L.getD k 0∈S1.L by rw[List.getD_eq_getElem?_getD,List.getElem?_eq_getElem hk];exact List.getElem_mem hk);have HYR:=Iw (l:=(l:Int)) HBd YF Sw;rw[bS,hky]at HYR;have HYR:=ae HYR;obtain⟨g,c,eg,hg0,UD⟩:=dD.cell YF (k:=k) (by rw[bS];exact hk);rw[bS]at eg;injection eg with eg1 eg2 eg3;subst eg1 eg3;rw[fR S1 hk]at hg0 UD;obtain⟨gcs,QO⟩:=dD.wV YF (k:=g) rfl;have HG:=ae QO;have HGW:=aB (Box wr g _ gcs) (QO);go_upto_region 7 with fail;refine dU (fun w':World=>aw w' cb l x∧aE w' sb 1 (aU cb 4 cc)) 14 fun aH=>?_
    refine bX [0,1,2,3,4,6,7,8,9,10,11,12] ?_;refine cM 5 fun Kc hK=>?_
    go_simp
    go_at_call 79
    refine HY.mono ?_;rintro e W2 ⟨rfl,rfl⟩;refine eh hK fun aH=>?_
    clear hK;refine bX [13] ?_;refine cG ?_;clear aH k1 k2 hc QI;have C0:(0:Int)≤(k:Int):=Int.natCast_nonneg k;have UB:(k:Int)<(S1.L.length:Int):=ao;have s0:aE wr.drew sb 0 (aU g S1.L.length c1):=HBd.af rfl;have sf:wr.drew.frozen? ⟨g,k*2+1,none⟩=false:=QO.free _;go_upto_region 9 with(go_at_call 80;refine HYR.mono ?_;rintro e W2 ⟨rfl,rfl⟩);go_upto_region 10 with fail;have js:ag (ar g) wr.drew (wr.drew.setCell ⟨g,k*2+1,none⟩ (ah ((l:Int)+1))):=(ag.aj (ar g) wr.drew).setCell (p:=⟨g,k*2+1,none⟩) (.inl (show ar g g from rfl)) _;have HJS:=ae js;have wR:=dD.aeR (w:=wr.drew) (base:=w.heap.size) (g:=g) (c:=c1) (I:=gT S1) (by rw[bS];exact YF) (k:=k) (by rw[bS];exact HK) ((l:Int)+1);rw[fR S1 HK.out,Xv HUI.nodup HK.out,bS]at wR;have C8:=ae wR;have acQ:Box (wr.drew.setCell ⟨g,k*2+1,none⟩ (ah ((l:Int)+1))) g 146 _:=QO.store (k*2+1) (ah ((l:Int)+1));have HG9:=ae acQ;have y0:aw (wr.drew.setCell ⟨g,k*2+1,none⟩ (ah ((l:Int)+1))) g (k*2) (S1.L.getD k 0):=by
     obtain⟨g',c',e',q0,_⟩:=dD.cell wR (k:=k) (by rw[bS];exact HK);injection e' with e1 e2 e3;injection e1 with e1;injection e1 with e1;subst e1;rw[fR (yD S1 (S1.L.getD k 0) ((l:Int)+1)) HK.out]at q0;exact q0
    have QU:=js.aq HBd (fun e=>(HG.off HBd aD) e.symm);have hu9:=js.aq (NU.aq HUx id) (fun e=>(HG.off HUx aD) e.symm);have Dz:=js.aq (NU.aq Yz id) (fun e=>(HG.off Yz aD) e.symm);have zL:=ae QU;have EU:=ae hu9;have yp:=ae Dz;have Q9:=aB (gD (wr.drew.setCell ⟨g,k*2+1,none⟩ (ah ((l:Int)+1))) w.heap.size (.slice Au m.length cu) m) (bk (bk HMx NU fun _ _=>id) js fun k9 nO e=>(Gx k9 nO).2.2.2 g ⟨gcs,HG⟩ e.symm);have nE:=aB (w.heap.size≤g) ((World.ownsRow.lt YF g rfl).1);have kf:=ae<|(Mw.drew).setCell (p:=⟨g,k*2+1,none⟩) (.inr nE) (ah ((l:Int)+1));change Code.wp _ _ _ _ (wr.drew.setCell ⟨g,k*2+1,none⟩ (ah ((l:Int)+1)));clear s0 sf js wR acQ QU hu9 Dz hg0 UD HYR HY HG HBd YF NU;generalize wr.drew.setCell ⟨g,k*2+1,none⟩ (ah ((l:Int)+1))=W9 at *;obtain⟨yv,hyv⟩:∃z,z=S1.L.getD k 0:=⟨_,rfl⟩;have HYV:=ae hyv;rw[←hyv]at y0;clear hyv QO;have CV:=aB (∀j u,(JI (yv,l))[j]? =some u→(W9.alloc (.cells (JI (yv,l)).toArray 100)).drew.cell? ((⟨W9.heap.size,0,none⟩:Addr).add j)=some u) (cV W9 _ _);have ha:ag az W9 (W9.alloc (.cells (JI (yv,l)).toArray 100)).drew:=((ag.aj az W9).alloc _).drew;have Gf:=ae ha;have HMA:=aB (gD (W9.alloc (.cells (JI (yv,l)).toArray 100)).drew w.heap.size (.slice Au m.length cu) m) (bk Q9 ha fun _ _=>id);have EW:=aB (m.length+1≤5) gO;have oK:=aB (w.heap.size≤(W9.alloc (.cells (JI (yv,l)).toArray 100)).drew.heap.size) (Nat.le_trans kf.size ha.size);have c0:aE W9.drew sb 0 (aU g S1.L.length c1):=zL.af rfl;have Z3:aE W9.drew ub 1 (.slice Au m.length cu):=EU.af rfl;have Z0:aw W9.drew g (k*2) yv:=y0;have e0:=ha.cell (zL.af (i:=0) rfl) id;have e1:=ha.cell (EU.af (i:=1) rfl) id;have e2:=ha.cell y0 id;have HD:=aB (¬aK (.slice Au m.length cu) sb∧¬aK (.slice Au m.length cu) ub∧¬aK (.slice Au m.length cu) g) (⟨fun e=>(Gx _ e).1 rfl,fun e=>(Gx _ e).2.1 rfl,fun e=>(Gx _ e).2.2.2 g ⟨gcs,HGW⟩ rfl⟩);have hwr:IntKind.i64.wrap ((l:Int)+1)=(l:Int)+1:=by have:=oL.out;rw[IntKind.wrap_i64];omega
    clear ha y0;go_upto_region 10 with fail;refine dU (fun w':World=>aE w' sb 0 (aU g S1.L.length c1)∧aE w' ub 1 (.slice Au m.length cu)∧aw w' g (k*2) yv) 16 fun aH=>?_
    refine bX [0,1,2,3,4,5,6,7,8,9,10,11,12] ?_;refine cM 13 fun Kc hK=>?_
    go_simp;refine eh hK fun aH=>?_
    clear hK;refine cM 14 fun Kc hK=>?_
    go_simp;refine eh hK fun aH=>?_
    clear hK;refine cM 15 fun Kc hK=>?_
    refine nV _ (.tmp 73) (.tmp 86) 95 100 rfl SM rfl aD Tryz.underlying95 w.heap.size (.slice Au m.length cu) m.length (m.flatMap JI) (JI (yv,l)) rfl HMA ⟨W9.heap.size,0,none⟩ rfl rfl CV (by simp[JI,Value.oneCell']) (by unfold maxLen;have:=EW.out;omega) (by have:=EW.out;omega) oK ?_;intro v6 W6 h6 bT _;have JQ:=ae h6;have cZ:=ae bT;obtain⟨A6,c6,e6,_,_⟩:=cz h6;subst e6;have Ag:=ae<|bT.aq (Gf.aq EU id) HD.2.1;have d0:=bT.cell e0 HD.1;have d1:=bT.cell e1 HD.2.1;have d2:=bT.cell e2 HD.2.2;clear h6 bT;refine eh hK fun aH=>?_
    clear hK;refine cG ?_;have f1:W6.frozen? ⟨ub,1,none⟩=false:=Ag.free 1;clear c0 Z3 Z0 e0 e1 e2 d0 d2 aH;have jt:ag (ar ub) W6 (W6.setCell ⟨ub,1,none⟩ (.slice A6 (m.length+1) c6)):=(ag.aj (ar ub) W6).setCell (p:=⟨ub,1,none⟩) (.inl (show ar ub ub from rfl)) _;have hi6:=(C8.aA Gf fun _ _ e=>e).aA cZ fun k9 nO e=>by
     have e5:g=k9:=aG.1 nO;exact HD.2.2 (by rw[e5];exact e)
    have hm6:gD W6 w.heap.size (.slice A6 (m.length+1) c6) (m ++ [(yv,l)]):=by
     show World.ownsRow _ _ _ _ _ (m ++ [(yv,l)]).length ((m ++ [(yv,l)]).flatMap JI)
     rw[List.length_append,List.flatMap_append];simpa using JQ.out
    have J8:=cZ.aq (Gf.aq zL id) HD.1;have Qg:=cZ.aq (Gf.aq yp id) (fun e=>(Gx _ e).2.2.1 rfl);have Vv:=ae (show RuR sb ub rb cb cc cp l0 R w (ah ((l:Int)+1)) (W6.setCell ⟨ub,1,none⟩ (.slice A6 (m.length+1) c6))from
     ⟨f - 1,l+1,yD S1 yv ((l:Int)+1),m ++ [(yv,l)],some ⟨g,0,none⟩,c1,.slice A6 (m.length+1) c6,ao,by have:=oL.out;omega,by have:=HL.out;have:=oL.out;omega,by rw[List.length_append];have:=HL.out;simp;omega,by push_cast;rfl,
      BP HUI (by rw[HYV.out];exact uS) ao gN,
      jt.aq J8 (fun e=>(Ag.off J8 aD) e.symm),
      by
       rw[HYV.out];refine hi6.aA jt fun k9 nO e=>?_
       obtain⟨c9,h9⟩:=dD.wV hi6 nO;exact(h9.off Ag aD) e,
      Ag.store 1 _,
      jt.aq Qg (fun e=>HNU (show rb=ub from e)),
      bk hm6 jt fun k9 nO e=>(by
       obtain⟨c9,h9⟩:=gD.wV hm6 nO;exact(h9.off Ag aD) e),
      by rw[HYV.out];have h9:=HSK.out;rw[show((l+1:Nat):Int)=(l:Int)+1 by push_cast;rfl]at h9;rw[←h9];exact HSx,
      ((kf.trans (Gf.mono (S':=ar sb) fun k hk=>hk.elim)).aC cZ fun k9 nO=>.inr (World.ownsRow.lt HMx k9 nO).1).setCell (p:=⟨ub,1,none⟩) (.inr Qq.2) _⟩)
    clear jt hi6 hm6 J8 Qg;go_upto_region 11 with fail;change Code.wp _ _ _ _ (W6.setCell ⟨ub,1,none⟩ (.slice A6 (m.length+1) c6));generalize W6.setCell ⟨ub,1,none⟩ (.slice A6 (m.length+1) c6)=W8 at *;clear f1 d1;go_wp2
    go_roundw
    case rel=>exact Vv
    case measure=>simp[intOf];have:=oL.out;omega
   ·have QI:decide (x<y)=false:=decide_eq_false hc;have KM:=ae (show eX cp f S1 l m=(S1,m) by
     cases f with
     |zero=>rfl
     |succ f=>rw[eX,if_neg (fun e=>hc (HX.2 e.2))])
    clear hc;go_upto_region 7 with fail;refine dU (fun w':World=>aw w' cb l x∧aE w' sb 1 (aU cb 4 cc)) 14 fun aH=>?_
    refine bX [0,1,2,3,4,6,7,8,9,10,11,12] ?_;refine cM 5 fun Kc hK=>?_
    go_simp
    go_at_call 79
    refine HY.mono ?_;rintro e W2 ⟨rfl,rfl⟩;refine eh hK fun aH=>?_
    clear hK;refine bX [13] ?_;refine cG ?_;clear aH k1 k2 QI;exact sm
end
end Go.Proofs.YtchofaecncibjaaGreat
