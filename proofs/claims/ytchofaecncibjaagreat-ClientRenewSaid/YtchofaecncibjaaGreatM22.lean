/- Lemmas. -/
import Derived.Test.YtchofaecncibjaaGreatM18
import Derived.Test.YtchofaecncibjaaGreatM21
set_option linter.all false
set_option maxHeartbeats 20000000
set_option maxRecDepth 100000
namespace Go.Proofs.YtchofaecncibjaaGreat
section
open Go.ChangeShapes Go.RowKit Go.Shelf Go.WideShapes
def bq (l:jR):List Nat:=
 match l.length with
 |0=>[]
 |m+1=>(Sort.insertionSort (ltOf fun(i k:Fin (m+1))=>jH l i.val k.val) (Array.ofFn fun i=>i) 0 (m+1)).toList.map Fin.val
section
variable {α:Type}[Inhabited α]{enc:α→Value}
theorem MP {w W:World}{g:Nat}{d:Array α}(hg:g<w.heap.size)(S:SW enc w g 0 d W):ag (fun k=>k=g) w W:=by
 obtain⟨n,os,rfl⟩:=S;refine⟨rfl,rfl,rfl,?_,fun k hk hn=>?_⟩
 ·rw[show sortWorld enc w g 0 n d os=Sort.grow (Sort.putRow enc (Sort.ahead w n) g 0 d) os from rfl,Sort.size_grow,Sort.size_putRow];exact Nat.le_add_right _ _
 ·rw[show sortWorld enc w g 0 n d os=Sort.grow (Sort.putRow enc (Sort.ahead w n) g 0 d) os from rfl,Sort.heap_grow_old _ _ (by rw[Sort.size_putRow];exact hk)]
  show(w.heap.modify g _)[k]? =_
  rw[Array.getElem?_modify,if_neg (fun e=>hn e.symm)]
theorem abr {w W:World}{base g cap:Nat}{cur:Array Value}{e:TypeId}{d d':Array α}(hg:w.heap[g]? =some (.cells cur e (0,0)))(hb:base≤g)(hn:d.size≤cap)(hm:cap≤maxLen)(hs:cur.size=cap*1)
 (hz:d'.size=d.size) (S:SW enc w g 0 d' W):W.ownsRow base e 1 (aU g d.size cap) d.size (d'.toList.map enc):=by
 have aY:g<w.heap.size:=(Array.getElem?_eq_some_iff.1 hg).1;refine⟨by simp[hz],.inr ⟨g,cap,Sort.putCells enc 0 d' cur,rfl,hb,?_,hn,hm,by simp[Sort.putCells,hs],?_⟩⟩
 ·obtain⟨n,os,rfl⟩:=S;rw[show sortWorld enc w g 0 n d' os=Sort.grow (Sort.putRow enc (Sort.ahead w n) g 0 d') os from rfl,Sort.heap_grow_old _ _ (by rw[Sort.size_putRow];exact aY)]
  show(w.heap.modify g _)[g]? =_
  rw[Array.getElem?_modify,if_pos rfl,hg];rfl
 ·rw[Nat.mul_one];apply List.ext_getElem?;intro j
  by_cases hj:j<d.size
  ·rw[List.getElem?_take_of_lt hj,List.getElem?_map];have h1:j<cur.size:=ao;have h2:j<d'.size:=ao;simp only[Sort.putCells,Array.getElem?_toList,Array.getElem?_mapIdx,Array.getElem?_eq_getElem h1,Array.getElem?_eq_getElem h2,Option.map_some];rw[if_pos ⟨dT _,ao⟩,getElem!_pos d' (j - 0) ao];rfl
  ·rw[List.getElem?_take_eq_none ao,List.getElem?_eq_none (by simp;omega)]
end
theorem aF.less {t:TypeId}{w:World}{base base':Nat}{v:Value}{l:List Int}(h:aF t w base v l)(hb:base'≤base):aF t w base' v l:=by
 rcases h with⟨hlen,⟨rfl,h0⟩|⟨g,cap,cur,rfl,h1,h2⟩⟩
 ·exact⟨hlen,.inl ⟨rfl,h0⟩⟩
 ·exact⟨hlen,.inr ⟨g,cap,cur,rfl,Nat.le_trans hb h1,h2⟩⟩
theorem lC {l:jR}(h:l.length=0):bq l= []:=by
 unfold bq
 split
 ·rfl
 ·omega
theorem lD {l:jR}{m:Nat}(h:l.length=m+1):bq l=(Sort.insertionSort (ltOf fun(i k:Fin (m+1))=>jH l i.val k.val) (Array.ofFn fun i=>i) 0 (m+1)).toList.map Fin.val:=by
 unfold bq
 split
 ·omega
 ·rename_i m' e
  obtain rfl:m'=m:=ao;rfl
theorem fG (l:jR):(bq l).length=l.length:=by
 cases h:l.length with
 |zero=>rw[lC h];rfl
 |succ m=>
  rw[lD h,List.length_map,Array.length_toList,jK];simp
section
theorem IZ {A:Option Addr}{n c bx base:Nat}{l:jR}{v:Value}(w:World)(hx:aE w bx 0 (.slice A n c))(gX:bx<w.heap.size)(hF:kO w A n c l)(cD:kN l)(hn:l.length<20)
 (bF:aF 3 w base v ((List.range l.length).map Int.ofNat)) (fB:bx<base) (dX:∀g o,A=some ⟨g,o,none⟩→0<l.length→g<base):
 Calls Tryz.prog 155 #[v,.func (.func 156) #[] #[aO bx]] w fun e w'=>e= .returned (.tuple #[])∧aF 3 w' base v ((bq l).map Int.ofNat)∧ag (aK v) w w':=by
 have hsh:=bF.shape;rcases bF with⟨hlen,⟨rfl,h0⟩|⟨g,cap,cur,rfl,hb,hg,ox,hm,hsz,ND⟩⟩
 ·have h0:l.length=0:=by simpa using h0
  rw[lC h0];exact(Cd none 0 _ w).mono fun e w' ⟨h1,h2⟩=>⟨h1,aF.nil _ _ _,h2▸ag.aj _ _⟩
 ·simp only[List.length_map,List.length_range]at ox ND ⊢
  cases hl:l.length with
  |zero=>
   rw[lC hl];refine(Cd _ cap _ w).mono fun e w' ⟨h1,h2⟩=>⟨h1,?_,h2▸ag.aj _ _⟩
   subst h2;exact⟨rfl,.inr ⟨g,cap,cur,rfl,hb,hg,dT _,hm,hsz,rfl⟩⟩
  |succ m=>
   have aY:g<w.heap.size:=(Array.getElem?_eq_some_iff.1 hg).1;have hz:(Array.ofFn (n:=m+1) fun i=>i).size=m+1:=by simp
   have heg:∀args w,(callFunc 156 args).run Tryz.prog w= .ok (.enter 156 args) w:=enters_of Tryz.func156 bZ rfl;have hH:Sort.Holds (fun i:Fin (m+1)=>Value.int .i64 i.val) w g 0 (Array.ofFn fun i=>i):=fun j hj=>by
    rw[hz]at hj;have gX:Box w g 3 cur:=hg;refine⟨?_,gX.free _⟩;rw[Nat.zero_add];refine gX.af ?_;have e:=congrArg (fun L=>L[j]?) ND;rw[Nat.mul_one,List.getElem?_take_of_lt ao,Array.getElem?_toList,List.getElem?_map,List.getElem?_map,List.getElem?_range ao]at e;rw[e,getElem!_pos _ j (by rw[hz];exact hj)];simp
   have wT:CmpLays1 Tryz.prog 156 #[aO bx] (fun i:Fin (m+1)=>Value.int .i64 i.val) (fun i k=>jH l i.val k.val) g 0 (Array.ofFn (n:=m+1) fun i=>i).size w:=by
    intro q os dk hs x y;have ho:=MP (enc:=fun i:Fin (m+1)=>Value.int .i64 i.val) (d:=dk) aY ⟨q,os,rfl⟩;have h1:=ho.cell hx (show¬bx=g by omega);have h2:kO (sortWorld (fun i:Fin (m+1)=>Value.int .i64 i.val) w g 0 q dk os) A n c l:=hF.mH ho fun g' o e (e2:g'=g)=>by
     have:=dX g' o e ao;omega
    exact Lx _ h1 (Nat.lt_of_lt_of_le gX ho.size) h2 cD (by have:=x.isLt;omega) (by have:=y.isLt;omega) ao
   have hS:=Ox (fun i:Fin (m+1)=>Value.int .i64 i.val) (fun i k=>jH l i.val k.val) 156 #[aO bx] g 0 cap (Array.ofFn fun i=>i) w heg wT ⟨fun _=>rfl,hH,aY⟩ (by rw[hz];omega);rw[hz]at hS;refine hS.mono fun e w' ⟨h1,h2⟩=>⟨h1,?_,?_⟩
   ·have Ay:(Sort.insertionSort (ltOf fun(i k:Fin (m+1))=>jH l i.val k.val) (Array.ofFn fun i=>i) 0 (m+1)).size=(Array.ofFn (n:=m+1) fun i=>i).size:=jK _ _ _ _;have:=abr (base:=base) (e:=3) (d:=Array.ofFn (n:=m+1) fun i=>i) hg hb (by rw[hz];omega) hm hsz Ay h2;rw[hz]at this;unfold aF;rw[lD hl];rw[List.length_map,List.length_map,Array.length_toList,Ay,hz,List.map_map,List.map_map];exact this
   ·exact(MP aY h2).mono fun k hk=>.inl (by rw[hk];rfl)
end
def ab7 (l:jR)(w W:World)(v i:Value)(wr:World):Prop:=
 ∃k:Nat,k≤l.length∧i=ah k∧aF 3 wr W.heap.size v ((List.range k).map Int.ofNat)∧ag az W wr
section
theorem K2 {A:Option Addr}{n c:Nat}{l:jR}(w:World)(h:kO w A n c l)(cD:kN l)(hn:l.length<20):
 Calls Tryz.prog 151 #[.slice A n c] w fun e w'=>∃v,e= .returned (.tuple #[v,ah 0])∧aF 3 w' w.heap.size v ((bq l).map Int.ofNat)∧ag az w w':=by
 obtain rfl:=h.len;have HO:=ae<|(iy.refl w).alloc (.cells #[.slice A l.length c] 243);have HF:=ae<|h.keep HO.aA;have Gv:=ae cD;have HL:=ae hn;have HB:=ae<|Box.fresh w 243 #[.slice A l.length c];have HG:=aB (∀g o,A=some ⟨g,o,none⟩→0<l.length→g<w.heap.size) (fun g o e h0=>by
  obtain⟨g',o',e',hg,_⟩:=h.at_ 0 h0;rw[e]at e';injection e' with e';injection e' with e1 e2;rw[e1];exact hg)
 clear h cD
 go_enter Tryz.func151,Tryz.ntmps151
 go_upto_region 1 with fail;change Code.wp _ _ _ _ (w.alloc (.cells #[.slice A l.length c] 243));generalize w.alloc (.cells #[.slice A l.length c] 243)=W at *;have x0:aE W w.heap.size 0 (.slice A l.length c):=HB.af rfl;have HC:=ae<|Dn W HF Gv ao;go_upto_region 3 with(go_at_call 152;refine HC.mono ?_;rintro e W1 ⟨rfl,aR⟩);have k6:=ae<|HF.keep aR.aA;have bU:=ae<|aR.aA.aq HB id;have aX:=ae<|HO.trans aR;have y0:aE W1 w.heap.size 0 (.slice A l.length c):=bU.af rfl;clear x0 HC HF HB HO aR;go_upto_region 7 with fail
 go_loopw [4,13] (fun v i wr=>ab7 l w W1 v i wr) (fun _ i _=>l.length - (intOf i).toNat)
 case atStart=>exact⟨0,dT _,rfl,aF.nil _ _ _,ag.aj _ _⟩
 case round=>
  obtain⟨k,hk,rfl,bF,ho⟩:=hrel;have mI:=ae bF;have HW:=ae ho;have oK:=aB (W1.heap.size≤wr.heap.size) (ho.size);clear bF ho
  by_cases aY:k<l.length
  ·have iV:(k:Int)<l.length:=ao;have bL:=ae aY;have HLK:=ae (show((List.range k).map Int.ofNat).length≤1000000 by simp;omega);clear aY hk;go_wp2_with (at_builtin;refine ku _ rfl (.tmp 16) (.tmp 18) 61 3 rfl iD Tryz.underlying61 W1.heap.size u4 ((List.range k).map Int.ofNat) k rfl (mI.alloc _) ⟨wr.heap.size,0,none⟩ rfl (World.cell?_alloc_at _ _ _ _ rfl) HLK (by have:=oK.out;rw[World.size_alloc];omega) ?_;intro v' w1 vo ZM)
   go_roundw
   case rel=>
    refine⟨k+1,bL,by go_num,?_,(HW.alloc _).aC ZM fun j hj=>.inr (mI.lt j hj).1⟩;rw[List.range_succ,List.map_append];exact vo
   case measure=>simp[intOf];have:=bL.out;omega
  ·obtain rfl:k=l.length:=ao;clear aY hk;go_upto_region 11 with fail;have hlw:∀k,k<w.heap.size+1→k<W1.heap.size:=fun k hk=>Nat.lt_of_lt_of_le hk bU.lt
   have HP:=ae<|IZ wr (HW.cell y0 id) (Nat.lt_of_lt_of_le bU.lt oK) (k6.keep HW) Gv HL mI (hlw _ ao) (fun g o e h0=>hlw _ (by have:=HG.out g o e h0;omega));go_wp2_with (go_at_call 155;refine HP.mono ?_;rintro e W2 ⟨rfl,Sj,bp⟩);go_ret2;refine⟨_,rfl,?_,?_⟩
   ·exact Sj.less (Nat.le_of_lt (hlw _ ao))
   ·exact(aX.aA.trans HW).aC bp fun j hj=>.inr (Nat.le_trans (Nat.le_of_lt (hlw _ ao)) (mI.lt j hj).1)
end
end
section
open Go.ChangeShapes Go.RowKit Go.WideShapes
def Mh (h:aS)(b:Int):Bool:=decide (h.fr≤b)&&decide (b<h.fr+h.size)
def bj (l:List aS)(b:Int):Nat:=l.findIdx fun h=>Mh h b
def fX (l:List aS)(b:Int):Int:=if bj l b<l.length then(bj l b:Int)else -1
theorem FF (l:List aS){k:Nat}(hk:k<l.length):l.getD k default=l[k]:=by simp[hk]
theorem MS {l:List aS}{b:Int}{k:Nat}(hk:k<l.length)(h:Mh (l.getD k default) b=true)(hn:∀j,j<k→Mh (l.getD j default) b=false):bj l b=k:=by
 refine(List.findIdx_eq hk).2 ⟨?_,fun j hj=>?_⟩
 ·rw[FF l hk]at h;exact h
 ·have:=hn j hj;rw[FF l ao]at this;exact this
theorem Iq {l:List aS}{b:Int}(hn:∀j,j<l.length→Mh (l.getD j default) b=false):bj l b=l.length:=by
 refine List.findIdx_eq_length.2 fun x hx=>?_
 obtain⟨j,hj,rfl⟩:=List.getElem_of_mem hx;have:=hn j hj;rw[FF l hj]at this;exact this
def hnC (h:aS):Array Value:=#[ah h.fr,ah h.size,ah h.often,.bool h.loop]
def Zi (l:List aS)(b:Int)(w:World)(i:Value)(wr:World):Prop:=∃k:Nat,k≤l.length∧i=ah k∧(∀j,j<k→Mh (l.getD j default) b=false)∧iy w wr
section
theorem Lp {h:aS}{b:Int}{bx:Nat}(w:World)(hx:aw w bx 0 b)(gX:bx<w.heap.size)(h0:0≤h.fr)(h1:0≤h.size)(h2:h.fr+h.size≤32):
 Calls Tryz.prog 145 #[.agg (hnC h),aO bx] w fun e w'=>e= .returned (.bool (Mh h b))∧iy w w':=by
 obtain⟨fr,size,often,loop⟩:=h;unfold Mh hnC;dsimp only at *;have HB:=ae<|Box.fresh w 76 #[ah fr,ah size,ah often,.bool loop];have HO:=ae<|(iy.refl w).alloc (.cells #[ah fr,ah size,ah often,.bool loop] 76);have y:=HO.aA.cell hx id;have ew:IntKind.i64.wrap (fr+size)=fr+size:=by rw[IntKind.wrap_i64];omega
 have HBX:=ae gX;clear hx gX;generalize hr:(decide (fr≤b)&&decide (b<fr+size))=r at *;have HR:=ae hr;clear hr
 go_enter Tryz.func145,Tryz.ntmps145
 go_upto_region 1 with fail;change Code.wp _ _ _ _ (w.alloc (.cells #[ah fr,ah size,ah often,.bool loop] 76));generalize w.alloc (.cells #[ah fr,ah size,ah often,.bool loop] 76)=W at *;generalize w.heap.size=g at *;have x0:aw W g 0 fr:=HB.af rfl;have x1:aw W g 1 size:=HB.af rfl
 by_cases c1:fr≤b
 ·by_cases c2:b<fr+size
  ·go_wp2;go_ret;exact⟨by rw[show r=true by rw[←HR.out];simp;omega];rfl,HO⟩
  ·go_wp2;go_ret;exact⟨by rw[show r=false by rw[←HR.out];simp;omega];rfl,HO⟩
 ·go_wp2;go_ret;exact⟨by rw[show r=false by rw[←HR.out];simp;omega];rfl,HO⟩
theorem LS {A:Option Addr}{n c bx:Nat}{l:List aS}{b blocks:Int}(w:World)(hx:aw w bx 0 b)(gX:bx<w.heap.size)(h:aW w A n c l)(hP:dY blocks l):
 Calls Tryz.prog 144 #[.slice A n c,.func (.func 145) #[] #[aO bx]] w fun e w'=>e= .returned (ah (fX l b))∧iy w w':=by
 obtain rfl:=h.len;have H:=ae h;have HP:=ae hP;have HX:=ae hx;have HBX:=ae gX;have hn:=hP.2.2;have HS:=aB (Zi l b w (ah 0) w) (⟨0,dT _,rfl,fun j hj=>absurd hj ao,iy.refl w⟩);clear h hP hx gX
 go_enter Tryz.func144,Tryz.ntmps144
 go_upto_region 2 with fail
 go_loopw [8] (fun i wr=>Zi l b w i wr) (fun i _=>l.length - (intOf i).toNat)
 case atStart=>exact HS
 case round=>
  clear HS;obtain⟨k,hk,rfl,iQ,hg⟩:=hrel;have HG:=ae hg;have HN:=ae iQ;clear hg iQ
  by_cases aY:k<l.length
  ·obtain⟨g,o,rfl,hgl,x0,x1,x2,x3⟩:=(H.keep HG.aA).at_ k aY;have cD:=HP.1 k aY;unfold zA at cD;have HC:Hid (∀w',iy wr w'→Calls Tryz.prog 145 #[.agg (hnC (l.getD k default)),aO bx] w' fun e mR=>e= .returned (.bool (Mh (l.getD k default) b))∧iy w' mR):=
    ae fun w' hw'=>Lp w' ((HG.trans hw').aA.cell HX id) (Nat.lt_of_lt_of_le HBX (HG.trans hw').aA.size) cD.1 ao ao
   clear cD;have iV:(k:Int)<l.length:=ao;have bL:=ae aY;unfold hnC at HC;generalize hd:l.getD k default=hh at *;have HD:=ae hd;clear hd aY hk
   cases pr:Mh hh b with
   |true=>
    rw[pr]at HC;have HZ:=ae (show fX l b=k by unfold fX;rw[MS bL.out (by rw[HD.out];exact pr) HN.out,if_pos bL.out]);go_wp2_with (go_at_call 145;refine(HC _ (iy.refl _)).mono ?_;rintro e W1 ⟨rfl,aR⟩);go_ret;exact⟨by rw[HZ.out];rfl,HG.trans aR⟩
   |false=>
    rw[pr]at HC;have Gy:=aB (∀j,j<k+1→Mh (l.getD j default) b=false) (fun j hj=>by
     by_cases e:j=k
     ·rw[e,HD.out];exact pr
     ·exact HN j ao)
    go_wp2_with (go_at_call 145;refine(HC _ (iy.refl _)).mono ?_;rintro e W1 ⟨rfl,aR⟩)
    go_roundw
    case rel=>exact⟨k+1,bL,by go_num,Gy,HG.trans aR⟩
    case measure=>simp[intOf];have:=bL.out;omega
  ·obtain rfl:k=l.length:=ao;clear aY hk;have HZ:=ae (show fX l b= -1 by unfold fX;rw[Iq HN.out,if_neg ao]);go_wp2_with fail;go_ret;exact⟨by rw[HZ.out];rfl,HG⟩
end
structure nT where
 pb:Nat
 ob:Nat
 A:Option Addr
 c:Nat
def adS (i:nT)(blocks:Int)(q:Nat→Int)(n:Nat):Array Value:=#[ah blocks,ah (q 0),ah (q 1),ah (q 2),.slice i.A n i.c,aU i.ob n n]
def od (n:Nat)(O:Nat→Nat→Int):Array Value:=Array.ofFn (n:=n*4) fun i=>ah (O (i.1 / 4) (i.1 % 4))
theorem yP (n:Nat)(O:Nat→Nat→Int){r t:Nat}(hr:r<n)(ht:t<4):(od n O)[r*4+t]? =some (ah (O r t)):=by
 unfold od;rw[Array.getElem?_ofFn,dif_pos ao];simp only[show(r*4+t) / 4=r by omega,show(r*4+t) % 4=t by omega]
structure jM (w:World)(i:nT)(blocks:Int)(q:Nat→Int)(l:List aS)(O:Nat→Nat→Int):Prop where
 aq:Box w i.pb 217 (adS i blocks q l.length)
 bw:aW w i.A l.length i.c l
 prt:Box w i.ob 230 (od l.length O)
 hP:dY blocks l
 ht:0<l.length→∀k o,i.A=some ⟨k,o,none⟩→∃cs,Box w k 76 cs
def nT.F (i:nT):Nat→Prop:=fun k=>k=i.pb∨k=i.ob∨∃o,i.A=some ⟨k,o,none⟩
section
variable {w w':World}{i:nT}{blocks:Int}{q:Nat→Int}{l:List aS}{O:Nat→Nat→Int}
theorem jM.mH {S:Nat→Prop}(h:jM w i blocks q l O)(ho:ag S w w')(hS:∀k,i.F k→¬S k):jM w' i blocks q l O:=
 ⟨ho.aq h.aq (hS _ (.inl rfl)),⟨h.bw.len,h.bw.cap,h.bw.max,fun j hj=>by
  obtain⟨g,o,e,hg,h0,h1,h2,h3⟩:=h.bw.at_ j hj;have hn:=hS g (.inr (.inr ⟨o,e⟩));exact⟨g,o,e,Nat.lt_of_lt_of_le hg ho.size,ho.cell h0 hn,ho.cell h1 hn,ho.cell h2 hn,ho.cell h3 hn⟩⟩,ho.aq h.prt (hS _ (.inr (.inl rfl))),h.hP,fun h0 k o e=>by obtain⟨cs,hb⟩:=h.ht h0 k o e;exact⟨cs,ho.aq hb (hS k (.inr (.inr ⟨o,e⟩)))⟩⟩
theorem jM.keep (h:jM w i blocks q l O)(ho:ag az w w'):jM w' i blocks q l O:=h.mH ho fun _ _=>id
def N0 (l:List aS)(b:Int):Value:=.tuple #[ah (if bj l b<l.length then(bj l b:Int)else 0),.bool (decide (bj l b<l.length))]
def bO (l:List aS)(O:Nat→Nat→Int)(b:Int)(t:Nat):Int:=if bj l b<l.length then O (bj l b) t else 0
def Hg (l:List aS)(b:Int):Bool:=decide (bj l b<l.length)&&(l.getD (bj l b) default).loop
end
section
variable {i:nT}{blocks:Int}{q:Nat→Int}{l:List aS}{O:Nat→Nat→Int}
theorem rz{P:Prop}(h:P:=by
 go_wp2_with (go_at_call 144;refine HI.mono ?_;rintro e W1 ⟨rfl,aR⟩);go_ret2;exact⟨by simp[yl,CK];omega,HO.trans aR⟩):P:=h
theorem zd (b:Int)(w:World)(h:jM w i blocks q l O):Calls Tryz.prog 125 #[aO i.pb,ah b] w fun e w'=>e= .returned (N0 l b)∧iy w w':=by
 have HO:=ae<|(iy.refl w).alloc (.cells #[ah b] 3);have HH:=ae<|h.keep HO.aA;have HX:=ae<|(Box.fresh w 3 #[ah b]).af (i:=0) rfl;have HS:=ae (Box.fresh w 3 #[ah b]).lt;clear h;have hz:fX l b= -1∨∃k:Nat,fX l b=k:=by unfold fX;split;exact .inr ⟨_,rfl⟩;exact .inl rfl
 have HV:Hid (N0 l b= .tuple #[ah (if fX l b<0 then 0 else fX l b),.bool (decide (0≤fX l b))]):=ae (by
  unfold N0 fX
  by_cases h:bj l b<l.length
  ·rw[if_pos h,if_pos h,if_neg ao,decide_eq_true h,decide_eq_true ao]
  ·rw[if_neg h,if_neg h,if_pos ao,decide_eq_false h,decide_eq_false ao])
 rw[HV.out];have HI:=ae<|LS _ HX HS HH.bw HH.hP;generalize fX l b=z at *;clear HV
 go_enter Tryz.func125,Tryz.ntmps125
 go_upto_region 1 with fail;change Code.wp _ _ _ _ (w.alloc (.cells #[ah b] 3));generalize w.alloc (.cells #[ah b] 3)=W at *;generalize w.heap.size=g at *;have x4:aE W i.pb 4 (.slice i.A l.length i.c):=HH.aq.af rfl
 by_cases yl:0≤z
 ·have CK:¬z<0:=ao;exact rz
 ·have CK:z<0:=ao;exact rz
theorem rI{P:Prop}(h:P:=by
 go_wp2_with (go_at_call 125;refine HR.mono ?_;rintro e W1 ⟨rfl,aR⟩);go_ret;exact⟨rfl,aR⟩):P:=h
theorem xF (b:Int){t:Nat}(ht:t<3)(w:World)(h:jM w i blocks q l O):Calls Tryz.prog 103 #[aO i.pb,ah b,ah ((t+1:Nat):Int)] w fun e w'=>e= .returned (ah (bO l O b t))∧iy w w':=by
 have HR:=ae<|zd b w h;have HH:=ae h;have h8:=h.hP.2.2;clear h;have ew:IntKind.i64.wrap (((t+1:Nat):Int) - 1)=t:=by rw[IntKind.wrap_i64];omega
 have Mk:¬((t+1:Nat):Int)<1:=ao;have ht2:¬(3:Int)<((t+1:Nat):Int):=ao;have F0:(t:Int)<4:=ao;unfold N0 at HR;unfold bO
 by_cases hk:bj l b<l.length
 ·rw[if_pos hk,decide_eq_true hk]at HR;rw[if_pos hk];have HX:=ae<|fun(W:World) (ho:ag az w W)=>(HH.keep ho).prt.af (yP l.length O hk (show t<4 by omega));have HP:=ae<|fun(W:World) (ho:ag az w W)=>(HH.keep ho).aq.af (i:=5) (v:=aU i.ob l.length l.length) rfl;generalize O (bj l b) t=x at *;generalize bj l b=k at *;have pr:(k:Int)<l.length:=ao;generalize((t+1:Nat):Int)=t1 at *
  go_enter Tryz.func103,Tryz.ntmps103
  go_upto_region 2 with(go_at_call 125;refine HR.mono ?_;rintro e W1 ⟨rfl,aR⟩);have x5:=HP.out _ aR.aA;have x6:=HX.out _ aR.aA;go_wp2;go_ret;exact⟨rfl,aR⟩
 ·rw[if_neg hk,decide_eq_false hk]at HR;rw[if_neg hk];generalize((t+1:Nat):Int)=t1 at *
  go_enter Tryz.func103,Tryz.ntmps103
  exact rI
theorem TX (b:Int)(w:World)(h:jM w i blocks q l O):Calls Tryz.prog 186 #[aO i.pb,ah b] w fun e w'=>e= .returned (.bool (Hg l b))∧iy w w':=by
 have HR:=ae<|zd b w h;have HH:=ae h;have h8:=h.hP.2.2;clear h;unfold N0 at HR;unfold Hg
 by_cases hk:bj l b<l.length
 ·rw[if_pos hk,decide_eq_true hk]at HR;rw[decide_eq_true hk,Bool.true_and];have HX:=ae<|fun(W:World) (ho:ag az w W)=>(HH.keep ho).bw.at_ _ hk;have HP:=ae<|fun(W:World) (ho:ag az w W)=>(HH.keep ho).aq.af (i:=4) (v:=.slice i.A l.length i.c) rfl;generalize bj l b=k at *;have pr:(k:Int)<l.length:=ao;generalize(l.getD k default).loop=x at *
  go_enter Tryz.func186,Tryz.ntmps186
  go_upto_region 2 with(go_at_call 125;refine HR.mono ?_;rintro e W1 ⟨rfl,aR⟩);have x5:=HP.out _ aR.aA;obtain⟨g,o,eA,hg,y0,y1,y2,y3⟩:=HX.out _ aR.aA;rw[eA]at x5;go_wp2;go_ret;exact⟨rfl,aR⟩
 ·rw[if_neg hk,decide_eq_false hk]at HR;rw[decide_eq_false hk,Bool.false_and]
  go_enter Tryz.func186,Tryz.ntmps186
  exact rI
end
end
structure yC where
 c:Nat→Int
 o:Nat→Nat→Int
 left:Int
def fa (i:Nat)(s:yC)(t:Nat):yC:=
 let n:=min s.left (s.c t)
 ⟨fun x=>if x=t then s.c t - n else s.c x,fun r x=>if r=i∧x=t then n else s.o r x,s.left - n⟩
def ll (l:List aS)(s:yC)(i:Nat):yC:=
 let s3:=(List.range 3).foldl (fa i) {s with left:=(l.getD i default).size}
 {s3 with o:=fun r x=>if r=i∧x=3 then s3.left else s3.o r x}
def Hq (l:List aS)(q:Nat→Int)(ord:List Nat):yC:=ord.foldl (ll l) ⟨q,fun _ _=>0,0⟩
def bE (l:List aS):List (Int×Int):=l.map fun h=>(h.often,h.size)
def eW (l:List aS)(q:Nat→Int):Nat→Nat→Int:=(Hq l q (bq (bE l))).o
theorem Fx (n:Nat)(O:Nat→Nat→Int){r t:Nat}(hr:r<n)(ht:t<4)(v:Int):(od n O).setIfInBounds (r*4+t) (ah v)=od n (fun a b=>if a=r∧b=t then v else O a b):=by
 apply Array.ext_getElem?;intro k;unfold od;rw[Array.getElem?_setIfInBounds]
 by_cases e:r*4+t=k
 ·subst e;rw[if_pos rfl,if_pos (by simp;omega),Array.getElem?_ofFn,dif_pos ao];simp only[show(r*4+t) / 4=r by omega,show(r*4+t) % 4=t by omega,and_self,if_true]
 ·rw[if_neg e]
  by_cases hk:k<n*4
  ·rw[Array.getElem?_ofFn,Array.getElem?_ofFn,dif_pos hk,dif_pos hk];dsimp only;rw[if_neg ao]
  ·rw[Array.getElem?_ofFn,Array.getElem?_ofFn,dif_neg hk,dif_neg hk]
section
open Go.ChangeShapes Go.RowKit Go.WideShapes
structure tE where
 p:Nat
 g:Nat
 eb:Nat
 i:nT
 t:Nat
def acp (j:tE):Array Value:=#[aO j.g,aO j.i.pb,ah ((j.t+1:Nat):Int)]
structure mY (w:World)(j:tE)(blocks:Int)(q:Nat→Int)(l:List aS)(O:Nat→Nat→Int)(S:Nat→List Int):Prop where
 aq:Box w j.p 222 (acp j)
 sp:jV w j.g j.eb (l.length+1) S
 pl:jM w j.i blocks q l O
 t3:j.t<3
section
variable {w w':World}{j:tE}{blocks:Int}{q:Nat→Int}{l:List aS}{O:Nat→Nat→Int}{S:Nat→List Int}
theorem mY.keep (h:mY w j blocks q l O S)(ho:ag az w w'):mY w' j blocks q l O S:=⟨ho.aq h.aq id,h.sp.keep ho,h.pl.keep ho,h.t3⟩
theorem mY.c0 (h:mY w j blocks q l O S):aE w j.p 0 (aO j.g):=h.aq.af rfl
theorem mY.c1 (h:mY w j blocks q l O S):aE w j.p 1 (aO j.i.pb):=h.aq.af rfl
theorem mY.c2 (h:mY w j blocks q l O S):aw w j.p 2 ((j.t+1:Nat):Int):=h.aq.af rfl
end
section
variable {j:tE}{blocks:Int}{q:Nat→Int}{l:List aS}{O:Nat→Nat→Int}{S:Nat→List Int}
theorem uz (b:Int)(w:World)(h:mY w j blocks q l O S):Calls Tryz.prog 141 #[aO j.p,ah b] w fun e w'=>e= .returned (.bool (decide (0<bO l O b j.t)))∧iy w w':=by
 have HP:Hid (∀n os,Calls Tryz.prog 103 #[aO j.i.pb,ah b,ah ((j.t+1:Nat):Int)] (Sort.grow (w.drewN n) os) fun e w'=>e= .returned (ah (bO l O b j.t))∧∃q Mf,w'=Sort.grow ((Sort.grow (w.drewN n) os).drewN q) Mf):=
  ae fun n os=>xF b h.t3 _ (h.pl.keep (show iy w (Sort.grow (w.drewN n) os)from⟨n,os,rfl⟩).aA)
 have aY:=h.aq.lt;have x1:=fun n os=>cell_grown (w:=w) (a:=⟨j.p,1,none⟩) aY h.c1 n os
 have x2:=fun n os=>cell_grown (w:=w) (a:=⟨j.p,2,none⟩) aY h.c2 n os
 clear h;generalize bO l O b j.t=x at *;generalize((j.t+1:Nat):Int)=t1 at *;have mixed:Tryz.prog.follows .mixedOrders=true:=by kernel_rfl
 go_enter Tryz.func141,Tryz.ntmps141
 go_upto_region 1 with fail
 go_quiet_grown (first|(go_at_call 103;refine Calls.grown_of (HP _ _)))
 go_wp2;go_ret;exact⟨rfl,_,_,rfl⟩
theorem rU{P:Prop}(h:P:=by
 have x0:=h.c0;clear h
 go_enter Tryz.func189,Tryz.ntmps189
 go_wp2_with (go_at_call 146;refine HP.mono ?_;rintro e W1 ⟨rfl,rfl⟩);go_ret;exact⟨rfl,rfl⟩):P:=h
theorem vZ {b:Int}{r:Nat}(w:World)(h:mY w j blocks q l O S)(hb:b∈S r):Calls Tryz.prog 189 #[aO j.p,ah b] w fun e w'=>e= .returned (.bool true)∧w=w':=by
 have HP:=ae<|BD w h.sp hb;exact rU
theorem Cn {b:Int}(w:World)(h:mY w j blocks q l O S)(hb:∀r,b∉S r):Calls Tryz.prog 189 #[aO j.p,ah b] w fun e w'=>e= .returned (.bool false)∧w=w':=by
 have HP:=ae<|MH w h.sp hb;exact rU
end
def tE.F (j:tE):Nat→Prop:=fun k=>k=j.p∨k=j.g∨k=j.eb∨j.i.F k
section
variable {j:tE}{blocks:Int}{q:Nat→Int}{l:List aS}{O:Nat→Nat→Int}{S:Nat→List Int}
theorem Ck {b:Int}(w:World)(h:mY w j blocks q l O S)(hb:∀r,b∉S r):Calls Tryz.prog 192 #[aO j.p,ah b] w fun e w'=>e= .returned (.bool false)∧w=w':=by
 have HP:=ae<|Cn w h hb;clear h
 go_enter Tryz.func192,Tryz.ntmps192
 go_wp2_with (go_at_call 189;refine HP.mono ?_;rintro e W1 ⟨rfl,rfl⟩);go_ret;exact⟨rfl,rfl⟩
theorem Cm {n r:Nat}(w:World)(h:mY w j blocks q l O S)(hr:r<l.length+1)(hn:n<64)(hb:(n:Int)∈S r):
 Calls Tryz.prog 192 #[aO j.p,ah n] w fun e w'=>e= .returned (.bool true)∧jV w' j.g j.eb (l.length+1) (bD (dh S n) r n)∧ag (uZ j.g j.eb) w w':=by
 have HH:=ae<|vZ w h hb;have HO:=ae<|BD w h.sp hb;have HF:=ae<|kq w h.sp hr hn;have x0:=h.c0;clear h
 go_enter Tryz.func192,Tryz.ntmps192
 go_wp2_with (first|(go_at_call 189;refine HH.mono ?_;rintro e W1 ⟨rfl,rfl⟩)|(go_at_call 146;refine HO.mono ?_;rintro e W2 ⟨rfl,rfl⟩)|(go_at_call 105;refine HF.mono ?_;rintro e W3 ⟨rfl,h1,h2⟩));go_ret;exact⟨rfl,h1,h2⟩
theorem Lr {n r:Nat}(w:World)(h:mY w j blocks q l O S)(hb:(n:Int)∈S r):
 Calls Tryz.prog 191 #[aO j.p,ah n] w fun e w'=>e= .returned (.bool true)∧jV w' j.g j.eb (l.length+1) (dh S n)∧ag (uZ j.g j.eb) w w':=by
 have HH:=ae<|vZ w h hb;have HR:=ae<|kP w h.sp hb;have x0:=h.c0;clear h
 go_enter Tryz.func191,Tryz.ntmps191
 go_wp2_with (first|(go_at_call 189;refine HH.mono ?_;rintro e W1 ⟨rfl,rfl⟩)|(go_at_call 130;refine HR.mono ?_;rintro e W3 ⟨rfl,h1,h2⟩));go_ret;exact⟨rfl,h1,h2⟩
def hZ (l:List aS)(S:Nat→List Int)(r:Nat)(b:Int):Int:=if Hg l b then Go.Proofs.YtchofaecncibjaaGreat.hd (S r)else eB (S r)
theorem TF {r:Nat}{b:Int}(w:World)(h:mY w j blocks q l O S)(hr:r<l.length+1)(hne:S r≠[]):
 Calls Tryz.prog 194 #[aO j.p,ah r,ah b] w fun e w'=>e= .returned (ah (hZ l S r b))∧iy w w':=by
 have HL:=o7 r w h.sp hr;rw[if_neg hne]at HL;have HL:=ae HL;have HF:Hid (∀w',iy w w'→Calls Tryz.prog 195 #[aO j.g,ah r] w' _):=ae fun w' hw=>PC r w' (h.sp.keep hw.aA) hr
 rw[if_neg hne]at HF;have HP:=ae<|TX b w h.pl;have x0:=h.c0;have x1:=h.c1;have HX:=ae<|fun w' (hw:iy w w')=>hw.aA.cell x0 id;clear h;unfold hZ;generalize Go.Proofs.YtchofaecncibjaaGreat.hd (S r)=f at *;generalize eB (S r)=z at *
 cases CP:Hg l b with
 |true=>
  rw[CP]at HP;rw[if_pos rfl];clear CP
  go_enter Tryz.func194,Tryz.ntmps194
  go_upto_region 2 with(go_at_call 129;refine HL.mono ?_;rintro e W1 ⟨rfl,rfl⟩);go_upto_region 3 with(go_at_call 186;refine HP.mono ?_;rintro e W2 ⟨rfl,bp⟩);have x2:=HX.out _ bp;go_wp2_with (go_at_call 195;refine(HF _ bp).mono ?_;rintro e W3 ⟨rfl,rfl⟩);go_ret;exact⟨rfl,bp⟩
 |false=>
  rw[CP]at HP;rw[if_neg aD];clear CP
  go_enter Tryz.func194,Tryz.ntmps194
  go_upto_region 2 with(go_at_call 129;refine HL.mono ?_;rintro e W1 ⟨rfl,rfl⟩);go_wp2_with (go_at_call 186;refine HP.mono ?_;rintro e W2 ⟨rfl,bp⟩);go_ret;exact⟨rfl,bp⟩
end
section
variable {j:tE}{blocks:Int}{q:Nat→Int}{l:List aS}{O:Nat→Nat→Int}{S:Nat→List Int}
theorem Ls {n r:Nat}(w:World)(h:mY w j blocks q l O S)(hr:r<l.length+1)(hn:n<64)(hb:(n:Int)∈S r)(ht:0<bO l O n j.t):
 Calls Tryz.prog 187 #[aO j.p,ah n] w fun e w'=>e= .returned (.tuple #[ah 0,.bool false,ah 0])∧jV w' j.g j.eb (l.length+1) (bD (dh S n) r n)∧ag (uZ j.g j.eb) w w':=by
 have HT:=uz n w h;rw[decide_eq_true ht]at HT;have HT:=ae HT;have HU:Hid (∀w',iy w w'→Calls Tryz.prog 192 #[aO j.p,ah n] w' fun e mR=>e= .returned (.bool true)∧jV mR j.g j.eb (l.length+1) (bD (dh S n) r n)∧ag (uZ j.g j.eb) w' mR):=
  ae fun w' hw=>Cm w' (h.keep hw.aA) hr hn hb
 clear h ht
 go_enter Tryz.func187,Tryz.ntmps187
 go_wp2_with (first|(go_at_call 141;refine HT.mono ?_;rintro e W1 ⟨rfl,aR⟩)|(go_at_call 192;refine(HU _ aR).mono ?_;rintro e W2 ⟨rfl,h1,h2⟩))
 go_ret3
 exact⟨rfl,h1,(aR.aA.mono fun _ hk=>hk.elim).trans h2⟩
theorem BU {b:Int}{t:Nat}(h:0<bO l O b t):bj l b<l.length:=by
 unfold bO at h
 by_cases hk:bj l b<l.length
 ·exact hk
 ·rw[if_neg hk]at h;omega
theorem qa{P:Prop}(h:P:=by
 have:=zd n w' (h.pl.keep hw.aA);unfold N0 at this;rw[if_pos hr,decide_eq_true hr]at this;exact this):P:=h
theorem FP {n:Nat}(w:World)(h:mY w j blocks q l O S)(hn:n<64)(hb:∀r,(n:Int)∉S r)(ht:0<bO l O n j.t)(zS:((S (bj l n)).length:Int)<bO l O n j.t):
 Calls Tryz.prog 187 #[aO j.p,ah n] w fun e w'=>e= .returned (.tuple #[ah 0,.bool false,ah 0])∧jV w' j.g j.eb (l.length+1) (bD (dh S n) (bj l n) n)∧ag (uZ j.g j.eb) w w':=by
 have HT:=uz n w h;rw[decide_eq_true ht]at HT;have HT:=ae HT;have hr:=BU ht;have HU:Hid (∀w',iy w w'→Calls Tryz.prog 192 #[aO j.p,ah n] w' fun e mR=>e= .returned (.bool false)∧w'=mR):=
  ae fun w' hw=>Ck w' (h.keep hw.aA) hb
 have HR:Hid (∀w',iy w w'→Calls Tryz.prog 125 #[aO j.i.pb,ah n] w' fun e mR=>e= .returned (.tuple #[ah (bj l n:Nat),.bool true])∧iy w' mR):=
  ae fun w' hw=>by
   exact qa
 have HL:Hid (∀w',iy w w'→∀k os,Calls Tryz.prog 193 #[aO j.g,ah (bj l n:Nat)] (Sort.grow (w'.drewN k) os) fun e mR=>e= .returned (ah (S (bj l n)).length)∧∃q Mf,mR=Sort.grow ((Sort.grow (w'.drewN k) os).drewN q) Mf):=
  ae fun w' hw k os=>(pL _ _ (h.sp.keep (hw.trans ⟨k,os,rfl⟩:iy w _).aA) ao).mono fun e mR ⟨h1,h2⟩=>⟨h1,h2▸iy.refl _⟩
 have HP:Hid (∀w',iy w w'→∀k os,Calls Tryz.prog 103 #[aO j.i.pb,ah n,ah ((j.t+1:Nat):Int)] (Sort.grow (w'.drewN k) os) fun e mR=>e= .returned (ah (bO l O n j.t))∧∃q Mf,mR=Sort.grow ((Sort.grow (w'.drewN k) os).drewN q) Mf):=
  ae fun w' hw k os=>xF n h.t3 _ (h.pl.keep (hw.trans ⟨k,os,rfl⟩:iy w _).aA)
 have HF:Hid (∀w',iy w w'→Calls Tryz.prog 105 #[aO j.g,ah (bj l n:Nat),ah n] w' fun e mR=>e= .returned (ah 0)∧jV mR j.g j.eb (l.length+1) (bD (dh S n) (bj l n) n)∧ag (uZ j.g j.eb) w' mR):=
  ae fun w' hw=>kq w' (h.sp.keep hw.aA) ao hn
 have aY:=ae h.aq.lt;have HC:=ae<|fun w' (hw:iy w w')=>h.keep hw.aA;have x1:=h.c1;clear h ht;generalize bD (dh S n) (bj l n) n=S' at *;generalize bO l O n j.t=P at *;generalize(S (bj l n)).length=L at *;generalize bj l n=r at *;have mixed:Tryz.prog.follows .mixedOrders=true:=by kernel_rfl
 go_enter Tryz.func187,Tryz.ntmps187
 go_upto_region 7 with(first|(go_at_call 141;refine HT.mono ?_;rintro e W1 ⟨rfl,aR⟩)|(go_at_call 192;refine(HU _ aR).mono ?_;rintro e W2 ⟨rfl,rfl⟩));have x1':=(HC _ aR).c1;go_upto_region 8 with(go_at_call 125;refine(HR _ aR).mono ?_;rintro e W3 ⟨rfl,cB⟩);have bn:=ae<|aR.trans cB;have vA:j.p<W3.heap.size:=(HC _ bn).aq.lt;have y0:=fun k os=>cell_grown (w:=W3) (a:=⟨j.p,0,none⟩) vA (HC _ bn).c0 k os
 have y1:=fun k os=>cell_grown (w:=W3) (a:=⟨j.p,1,none⟩) vA (HC _ bn).c1 k os
 have y2:=fun k os=>cell_grown (w:=W3) (a:=⟨j.p,2,none⟩) vA (HC _ bn).c2 k os
 generalize((j.t+1:Nat):Int)=t1 at *;clear x1 x1' aR cB vA
 go_quiet_grown (first|(go_at_call 103;refine Calls.grown_of (HP _ bn _ _))|(go_at_call 193;refine Calls.grown_of (HL _ bn _ _)))
 have bK:=ae<|bn.trans (show iy W3 (Sort.grow (W3.drewN nq) osq)from⟨nq,osq,rfl⟩);have z0:=y0 nq osq;go_wp2_with (go_at_call 105;refine(HF _ bK).mono ?_;rintro e W5 ⟨rfl,h1,h2⟩)
 go_ret3
 exact⟨rfl,h1,(bK.aA.mono fun _ hk=>hk.elim).trans h2⟩
theorem FQ {n m:Nat}(w:World)(h:mY w j blocks q l O S)(hn:n<64)(hb:∀r,(n:Int)∉S r)(ht:0<bO l O n j.t)(Hn:bO l O n j.t≤((S (bj l n)).length:Int))(hm:hZ l S (bj l n) n=m)(hmS:(m:Int)∈S (bj l n)):
 Calls Tryz.prog 187 #[aO j.p,ah n] w fun e w'=>e= .returned (.tuple #[ah m,.bool true,ah 0])∧jV w' j.g j.eb (l.length+1) (bD (dh (dh S m) n) (bj l n) n)∧ag (uZ j.g j.eb) w w':=by
 have HT:=uz n w h;rw[decide_eq_true ht]at HT;have HT:=ae HT;have hr:=BU ht;have HU:Hid (∀w',iy w w'→Calls Tryz.prog 192 #[aO j.p,ah n] w' fun e mR=>e= .returned (.bool false)∧w'=mR):=
  ae fun w' hw=>Ck w' (h.keep hw.aA) hb
 have HR:Hid (∀w',iy w w'→Calls Tryz.prog 125 #[aO j.i.pb,ah n] w' fun e mR=>e= .returned (.tuple #[ah (bj l n:Nat),.bool true])∧iy w' mR):=
  ae fun w' hw=>by
   exact qa
 have HL:Hid (∀w',iy w w'→∀k os,Calls Tryz.prog 193 #[aO j.g,ah (bj l n:Nat)] (Sort.grow (w'.drewN k) os) fun e mR=>e= .returned (ah (S (bj l n)).length)∧∃q Mf,mR=Sort.grow ((Sort.grow (w'.drewN k) os).drewN q) Mf):=
  ae fun w' hw k os=>(pL _ _ (h.sp.keep (hw.trans ⟨k,os,rfl⟩:iy w _).aA) ao).mono fun e mR ⟨h1,h2⟩=>⟨h1,h2▸iy.refl _⟩
 have HP:Hid (∀w',iy w w'→∀k os,Calls Tryz.prog 103 #[aO j.i.pb,ah n,ah ((j.t+1:Nat):Int)] (Sort.grow (w'.drewN k) os) fun e mR=>e= .returned (ah (bO l O n j.t))∧∃q Mf,mR=Sort.grow ((Sort.grow (w'.drewN k) os).drewN q) Mf):=
  ae fun w' hw k os=>xF n h.t3 _ (h.pl.keep (hw.trans ⟨k,os,rfl⟩:iy w _).aA)
 have HG:Hid (∀w',iy w w'→Calls Tryz.prog 194 #[aO j.p,ah (bj l n:Nat),ah n] w' fun e mR=>e= .returned (ah m)∧iy w' mR):=
  ae fun w' hw=>by
   have:=TF (r:=bj l n) (b:=n) w' (h.keep hw.aA) ao (List.ne_nil_of_mem hmS);rw[hm]at this;exact this
 have HM:Hid (∀w',iy w w'→Calls Tryz.prog 130 #[aO j.g,ah m] w' fun e mR=>e= .returned (ah 0)∧jV mR j.g j.eb (l.length+1) (dh S m)∧ag (uZ j.g j.eb) w' mR):=
  ae fun w' hw=>kP w' (h.sp.keep hw.aA) hmS
 have HF:Hid (∀w',jV w' j.g j.eb (l.length+1) (dh S m)→Calls Tryz.prog 105 #[aO j.g,ah (bj l n:Nat),ah n] w' fun e mR=>e= .returned (ah 0)∧jV mR j.g j.eb (l.length+1) (bD (dh (dh S m) n) (bj l n) n)∧ag (uZ j.g j.eb) w' mR):=
  ae fun w' hw=>kq w' hw ao hn
 have HZ:Hid (∀w' mR,iy w w'→ag (uZ j.g j.eb) w' mR→aE mR j.p 0 (aO j.g)):=ae fun w' mR hw ho=>by
  have h2:=h.keep hw.aA;have F7:j.p≠j.g:=by
   obtain⟨N,E,hm,_⟩:=h2.sp;exact h2.aq.off hm.1 aD
  have hd2:j.p≠j.eb:=by
   obtain⟨N,E,hm,_⟩:=h2.sp;exact h2.aq.off hm.2 aD
  exact ho.cell h2.c0 (by rintro(e|e)<;>contradiction)
 have aY:=ae h.aq.lt;have HC:=ae<|fun w' (hw:iy w w')=>h.keep hw.aA;have x1:=h.c1;clear h ht hm hmS;generalize bD (dh (dh S m) n) (bj l n) n=S' at *;generalize dh S m=S1 at *;generalize bO l O n j.t=P at *;generalize(S (bj l n)).length=L at *;generalize bj l n=r at *;have mixed:Tryz.prog.follows .mixedOrders=true:=by kernel_rfl
 go_enter Tryz.func187,Tryz.ntmps187
 go_upto_region 7 with(first|(go_at_call 141;refine HT.mono ?_;rintro e W1 ⟨rfl,aR⟩)|(go_at_call 192;refine(HU _ aR).mono ?_;rintro e W2 ⟨rfl,rfl⟩));have x1':=(HC _ aR).c1;go_upto_region 8 with(go_at_call 125;refine(HR _ aR).mono ?_;rintro e W3 ⟨rfl,cB⟩);have bn:=ae<|aR.trans cB;have vA:j.p<W3.heap.size:=(HC _ bn).aq.lt;have y0:=fun k os=>cell_grown (w:=W3) (a:=⟨j.p,0,none⟩) vA (HC _ bn).c0 k os
 have y1:=fun k os=>cell_grown (w:=W3) (a:=⟨j.p,1,none⟩) vA (HC _ bn).c1 k os
 have y2:=fun k os=>cell_grown (w:=W3) (a:=⟨j.p,2,none⟩) vA (HC _ bn).c2 k os
 generalize((j.t+1:Nat):Int)=t1 at *;clear x1 x1' aR cB vA
 go_quiet_grown (first|(go_at_call 103;refine Calls.grown_of (HP _ bn _ _))|(go_at_call 193;refine Calls.grown_of (HL _ bn _ _)))
 have bK:=ae<|bn.trans (show iy W3 (Sort.grow (W3.drewN nq) osq)from⟨nq,osq,rfl⟩);have z0:=y0 nq osq;go_upto_region 10 with(go_at_call 194;refine(HG _ bK).mono ?_;rintro e W5 ⟨rfl,cA⟩);have bM:=ae<|bK.trans cA;have z5:=(HC _ bM).c0;go_upto_region 11 with(go_at_call 130;refine(HM _ bM).mono ?_;rintro e W6 ⟨rfl,h61,h62⟩);have z6:=HZ.out _ _ bM h62;go_wp2_with (go_at_call 105;refine(HF _ h61).mono ?_;rintro e W7 ⟨rfl,h1,h2⟩)
 go_ret3
 exact⟨rfl,h1,((bM.aA.mono fun _ hk=>hk.elim).trans h62).trans h2⟩
end
theorem SJ:(Tryz.prog.info? 230).map (fun i=>(i.zero,i.size,i.bytes))=some (some (.agg #[ah 0,ah 0,ah 0,ah 0]),4,32):=by kernel_rfl
def PCl (n:Nat)(w:World)(e:Ending)(w':World):Prop:=(∃A c,e= .returned (.slice A n c))∧ag az w w'
section
theorem Lu {ob n:Nat}{O:Nat→Nat→Int}(w:World)(h:Box w ob 230 (od n O))(hl:n≤100):Calls Tryz.prog 143 #[aU ob n n] w (PCl n w):=by
 have he:=fun w=>Lib.run_eql_slice_nil (P:=Tryz.prog) (w:=w)
 obtain⟨i0,hi,hz,hsz,kv⟩:=info_parts SJ;have bu:ag az w (w.alloc (.cells #[] 230)):=(ag.aj _ _).alloc _;have bF:(w.alloc (.cells #[] 230)).ownsRow w.heap.size 230 4 (aU w.heap.size 0 0) 0 []:=⟨rfl,.inr ⟨w.heap.size,0,#[],rfl,dm _,Box.fresh w 230 #[],dm _,dT _,rfl,rfl⟩⟩;have mI:=ae bF;have HCE:Hid (∀j u,(od n O).toList[j]? =some u→(w.alloc (.cells #[] 230)).cell? ((⟨ob,0,none⟩:Addr).add j)=some u):=ae fun j u hj=>by
  rw[Addr.add_lit,Nat.zero_add];exact(bu.aq h id).af (by simpa using hj)
 have GI:=ae bu;have kx:Hid (∀u∈(od n O).toList,u.oneCell'=true):=ae fun u hu=>by
  unfold od at hu;simp at hu;obtain⟨k,rfl⟩:=hu;rfl
 have oK:Hid ((od n O).toList.length=n*4):=ae (by unfold od;simp);have HL:=ae hl;have HI:=ae hi;have HZ:=ae hz;have HS:=ae hsz;have HB:=ae kv;clear bF bu h hl hi hz hsz kv
 go_enter Tryz.func143,Tryz.ntmps143
 go_wp2_with (at_builtin;refine wpList_append_own_at (w.alloc (.cells #[] 230)) rfl (.tmp 5) (.tmp 6) 215 rfl w.heap.size 230 i0 _ 4 32 Tryz.underlying215 HI HZ HS HB rfl aD _ 0 [] rfl mI ⟨ob,0,none⟩ n n (od n O).toList rfl oK HCE kx mz gO bh ?_;intro v' w1 h2 h3 h4 h5;have H2:=ae h2;have H3:=ae h3;clear h2 h3 h4 h5);go_ret;have h2:=H2.out;rw[Nat.zero_add]at h2;obtain⟨A',c',rfl,_,_⟩:=cz h2;exact⟨⟨A',c',rfl⟩,GI.aC ((ag.aj _ _).grown (S:=fun k=>w.heap.size≤k) H3 fun k hk=>.inl (by
  have:w.heap.size=k:=aG.1 hk;omega)) fun k hk=>.inr hk⟩
theorem Ix {i:nT}{blocks:Int}{q:Nat→Int}{l:List aS}{O:Nat→Nat→Int}(w:World)(h:jM w i blocks q l O):Calls Tryz.prog 123 #[aO i.pb] w (PCl l.length w):=by
 have HC:=ae<|Lu w h.prt (by have:=h.hP.2.2;omega);have x5:aE w i.pb 5 (aU i.ob l.length l.length):=h.aq.af rfl;clear h
 go_enter Tryz.func123,Tryz.ntmps123
 go_wp2_with (go_at_call 143;refine HC.mono ?_;rintro e W1 ⟨⟨A,c,rfl⟩,ho⟩);go_ret;exact⟨⟨A,c,rfl⟩,ho⟩
end
def z4:Array Value:=#[ah 0,ah 0,ah 0,ah 0]
theorem adV (m:Nat):madeCells z4 (m*4)=od m (fun _ _=>0):=by
 refine Array.ext (by simp[madeCells,od]) fun i h1 h2=>?_
 simp only[madeCells,od,Array.getElem_map,Array.getElem_range,Array.getElem_ofFn];have h3:i % 4<4:=Nat.mod_lt _ aD
 show z4[i % 4]! =ah 0
 generalize i % 4=j at *;rcases(show j=0∨j=1∨j=2∨j=3 by omega)with rfl|rfl|rfl|rfl<;>rfl
theorem OC (m:Nat)(hm:m≤40)(w:World):(Instr.makeSlice 215 (ah m) (ah m)).run Tryz.prog w= .ok (aU w.heap.size m m) (w.alloc (.cells (od m (fun _ _=>0)) 230)):=by
 obtain⟨i,hi,J0⟩:=Option.map_eq_some_iff.1 SJ;simp only[Prod.mk.injEq]at J0;obtain⟨hz,hs,hb⟩:=J0;have:=run_make (P:=Tryz.prog) w 215 230 i _ Tryz.underlying215 hi hz .i64 .i64 m m ao (Int.le_refl _) eO ao;rw[hs]at this;rw[this,←adV];rfl
def gB (c:Nat→Int):Array Value:=#[ah (c 0),ah (c 1),ah (c 2)]
theorem Nu (c:Nat→Int){t:Nat}(ht:t<3):(gB c)[t]? =some (ah (c t)):=by
 rcases(show t=0∨t=1∨t=2 by omega)with rfl|rfl|rfl<;>rfl
theorem Uj (c:Nat→Int){t:Nat}(ht:t<3)(v:Int):(gB c).setIfInBounds t (ah v)=gB (fun x=>if x=t then v else c x):=by
 rcases(show t=0∨t=1∨t=2 by omega)with rfl|rfl|rfl<;>simp[gB]
def Ys (p:Int×Int):List Value:=[ah p.1,ah p.2]
theorem XC (p:Int×Int):(Ys p).length=2:=rfl
theorem O1 {w:World}{base:Nat}{v:Value}{L:jR}(h:w.ownsRow base 245 2 v L.length (L.flatMap Ys)):∃A c,v= .slice A L.length c∧kO w A L.length c L:=by
 rcases h.2 with⟨e,h0⟩|⟨g,cap,cur,e,hb,hg,hn,hm,hs,ht⟩
 ·rw[h0];exact⟨none,0,e,⟨h0.symm,dT _,dT _,fun i hi=>by omega⟩⟩
 ·refine⟨some ⟨g,0,none⟩,cap,e,⟨rfl,hn,hm,fun i hi=>?_⟩⟩;have key:∀j u,j<2→(Ys (L.getD i default))[j]? =some u→aE w g (0+i*2+j) u:=fun j u hj hu=>by
   have hc:=h.cells (g:=g) (by rw[e];rfl) (i*2+j) u (by rw[mP Ys 2 default XC L i j hi hj];exact hu);rw[Addr.add_lit,←Nat.add_assoc]at hc;exact hc
  exact⟨g,0,rfl,(Array.getElem?_eq_some_iff.1 hg).1,key 0 _ aD rfl,key 1 _ aD rfl⟩
theorem cr (l:List aS):(bE l).length=l.length:=by simp[bE]
theorem uH (l:List aS){i:Nat}(hi:i<l.length):(bE l).getD i default=((l.getD i default).often,(l.getD i default).size):=by
 simp[bE,hi]
theorem zp {blocks:Int}{l:List aS}(h:dY blocks l):kN (bE l):=fun i hi=>by
 rw[cr]at hi;have:=h.1 i hi;unfold zA at this;rw[uH l hi];exact⟨ao,ao,by show 0<(l.getD i default).size;omega,by show(l.getD i default).size≤_;omega⟩
theorem mU (l:jR):∀x∈bq l,x<l.length:=by
 intro x hx
 cases h:l.length with
 |zero=>rw[lC h]at hx;cases hx
 |succ m=>
  rw[lD h,List.mem_map]at hx;obtain⟨a,_,rfl⟩:=hx;exact a.isLt
def iJ (l:List aS)(s:yC)(i k:Nat):yC:=(List.range k).foldl (fa i) {s with left:=(l.getD i default).size}
theorem Mb (l:List aS)(s:yC)(i:Nat):iJ l s i 0= {s with left:=(l.getD i default).size}:=rfl
theorem wv (l:List aS)(s:yC)(i k:Nat):iJ l s i (k+1)=fa i (iJ l s i k) k:=by
 unfold iJ;rw[List.range_succ,List.foldl_append];rfl
def gC (l:List aS)(q:Nat→Int)(ord:List Nat)(k:Nat):yC:=(ord.take k).foldl (ll l) ⟨q,fun _ _=>0,0⟩
theorem pR (l:List aS)(q:Nat→Int)(ord:List Nat){k:Nat}(hk:k<ord.length):gC l q ord (k+1)=ll l (gC l q ord k) (ord.getD k 0):=by
 unfold gC;rw[List.take_succ_eq_append_getElem hk,List.foldl_append];simp[hk]
theorem kU (l:List aS)(s:yC)(i:Nat):ll l s i= {iJ l s i 3 with o:=fun r x=>if r=i∧x=3 then(iJ l s i 3).left else(iJ l s i 3).o r x}:=rfl
structure abo (s:yC):Prop where
 c:∀x,x<3→0≤s.c x∧s.c x≤16
 l0:0≤s.left
 l1:s.left≤32
theorem PY {s:yC}(h:abo s)(i:Nat){t:Nat}(ht:t<3):abo (fa i s t):=by
 have h1:=h.c t ht;have h2:=h.l0;have h3:=h.l1;refine⟨fun x hx=>?_,?_,?_⟩
 ·unfold fa;dsimp only
  split
  ·omega
  ·exact h.c x hx
 ·unfold fa;dsimp only;omega
 ·unfold fa;dsimp only;omega
theorem B8 {l:List aS}{s:yC}{i:Nat}(h:∀x,x<3→0≤s.c x∧s.c x≤16)(hs:0≤(l.getD i default).size∧(l.getD i default).size≤32):∀{k:Nat},k≤3→abo (iJ l s i k)
 |0,_=>⟨h,hs.1,hs.2⟩
 |k+1,hk=>by rw[wv];exact PY (B8 h hs ao) i ao
theorem xX {blocks:Int}{l:List aS}(hP:dY blocks l){q:Nat→Int}(hq:∀x,x<3→0≤q x∧q x≤16){ord:List Nat}(ho:∀x∈ord,x<l.length):∀k,∀x,x<3→0≤(gC l q ord k).c x∧(gC l q ord k).c x≤16
 |0,x,hx=>hq x hx
 |k+1,x,hx=>by
  by_cases hk:k<ord.length
  ·rw[pR l q ord hk,kU];have hm:=ho (ord.getD k 0) (by simp[hk]);have hh:=hP.1 _ hm;unfold zA at hh;exact(B8 (xX hP hq ho k) ⟨ao,ao⟩ (dm 3)).c x hx
  ·have:gC l q ord (k+1)=gC l q ord k:=by unfold gC;rw[List.take_of_length_le ao,List.take_of_length_le ao]
   rw[this];exact xX hP hq ho k x hx
def acj (l:List aS)(q:Nat→Int)(w:World)(e:Ending)(w':World):Prop:=
 ∃ob,e= .returned (aU ob l.length l.length)∧Box w' ob 230 (od l.length (eW l q))∧w.heap.size≤ob∧ag az w w'
def aeE (l:List aS)(w:World)(f i:Value)(wr:World):Prop:=
 ∃k:Nat,k≤l.length∧i=ah k∧wr.ownsRow w.heap.size 245 2 f k (((bE l).take k).flatMap Ys)∧ag az w wr
def Duo (a b:Nat):Nat→Prop:=fun k=>k=a∨k=b
def aeD (l:List aS)(q:Nat→Int)(cb ob:Nat)(w:World)(i:Value)(wr:World):Prop:=
 ∃k:Nat,k≤l.length∧i=ah k∧Box wr cb 22 (gB (gC l q (bq (bE l)) k).c)∧Box wr ob 230 (od l.length (gC l q (bq (bE l)) k).o)∧ag (Duo cb ob) w wr
def aeC (l:List aS)(s:yC)(r cb ob:Nat)(w:World)(lf t:Value)(wr:World):Prop:=
 ∃k:Nat,k≤3∧t=ah k∧lf=ah (iJ l s r k).left∧Box wr cb 22 (gB (iJ l s r k).c)∧Box wr ob 230 (od l.length (iJ l s r k).o)∧ag (Duo cb ob) w wr
theorem abQ:(Tryz.prog.info? 245).map (fun i=>(i.zero,i.size,i.bytes))=some (some (.agg #[ah 0,ah 0]),2,16):=by kernel_rfl
theorem IV {w:World}{cb ob n r t:Nat}{s:yC}(hb:Box w cb 22 (gB s.c))(hp:Box w ob 230 (od n s.o))(ht:t<3)(hr:r<n)(hne:¬ob=cb)(m d:Int)(hm:m=min s.left (s.c t))(hd:d=s.c t - m):
 Box ((w.setCell ⟨ob,r*4+t,none⟩ (ah m)).setCell ⟨cb,t,none⟩ (ah d)) cb 22 (gB (fa r s t).c)∧
 Box ((w.setCell ⟨ob,r*4+t,none⟩ (ah m)).setCell ⟨cb,t,none⟩ (ah d)) ob 230 (od n (fa r s t).o):=by
 constructor
 ·have h1:=(hb.mH (p:=⟨ob,r*4+t,none⟩) (fun e=>hne (show cb=ob from e).symm) (ah m)).store t (ah d);rw[Uj _ ht,hd,hm]at h1;rw[hd,hm];exact h1
 ·have h1:=(hp.store (r*4+t) (ah m)).mH (p:=⟨cb,t,none⟩) hne (ah d);rw[Fx n _ hr ao,hm]at h1;rw[hm];exact h1
section
theorem qU{P:Prop}(h:P:=by
 go_wp2
 go_roundw
 case rel=>
  refine⟨t+1,HTL,by go_num,?_,?_,?_,?_⟩
  ·rw[HTS.out];unfold fa;dsimp only;rw[Ki.out,HCS.out]
  ·rw[HTS.out];exact(IV sV HP7 HTL Qw hne _ _ (by rw[Ki.out,HCS.out];try omega) (by rw[HCS.out];try omega)).1
  ·rw[HTS.out];exact(IV sV HP7 HTL Qw hne _ _ (by rw[Ki.out,HCS.out];try omega) (by rw[HCS.out];try omega)).2
  ·exact(fC.setCell (p:=⟨ob,r*4+t,none⟩) (.inl (.inr rfl)) _).setCell (p:=⟨cb,t,none⟩) (.inl (.inl rfl)) _
 case measure=>simp[intOf];have:=HTL.out;omega):P:=h
theorem qy{P:Prop}(h:P:=by
 unfold gC Hq;rw[List.take_of_length_le (by rw[fG,cr];exact dm _)]):P:=h
theorem gR{P:Prop}(h:P:=by rw[e];exact aG.2 rfl):P:=h
theorem a6{P:Prop}(h:P:=by simp[Value.oneCell']):P:=h
theorem FX {A:Option Addr}{n c:Nat}{blocks:Int}{l:List aS}{q:Nat→Int}(w:World)(bw:aW w A n c l)(hP:dY blocks l)(hq:∀t,t<3→0≤q t∧q t≤16):
 Calls Tryz.prog 142 #[.slice A n c,.agg (gB q)] w (acj l q w):=by
 obtain rfl:=bw.len;have H:=ae bw;have HP:=ae hP;have HQ:=ae hq;have Gv:=ae<|zp hP;have F2:=hP.2.2;have HN8:=ae F2;clear bw hP hq
 go_enter Tryz.func142,Tryz.ntmps142
 go_upto_region 1 with fail;have HB:=ae<|Box.fresh w 22 (gB q);have HO:=ae<|(ag.aj az w).alloc (.cells (gB q) 22);have Db:=ae<|dm w.heap.size;have H1:=ae<|H.keep HO;change Code.wp _ _ _ _ (w.alloc (.cells (gB q) 22));generalize w.alloc (.cells (gB q) 22)=W at *;obtain⟨cb,fL⟩:∃cb,cb=w.heap.size:=⟨_,rfl⟩;rw[←fL]at HB ⊢;have Db:=aB (w.heap.size≤cb) (Nat.le_of_eq fL.symm);clear fL;go_upto_region 3 with fail
 go_loopw [5,18] (fun f i wr=>aeE l W f i wr) (fun _ i _=>l.length - (intOf i).toNat)
 case atStart=>exact⟨0,dT _,rfl,World.ownsRow_nil _ _ _ _,ag.aj _ _⟩
 case round=>
  obtain⟨k,hk,rfl,bF,ho⟩:=hrel;have mI:=ae bF;have Qx:=ae ho;clear bF ho
  by_cases aY:k<l.length
  ·obtain⟨g,o,rfl,hgl,x0,x1,x2,x3⟩:=(H1.keep Qx).at_ k aY;have Ge:=ae<|uH l aY;have iV:(k:Int)<l.length:=ao;have bL:=ae aY;clear aY hk;generalize(l.getD k default).fr=a0 at *;generalize(l.getD k default).size=a1 at *;generalize(l.getD k default).often=a2 at *;generalize(l.getD k default).loop=a3 at *;go_upto_region 5 with(refine fJ #[ah a0,ah a1,ah a2,.bool a3] (Box.fresh wr 76 zH) a6 ?_);have bp:ag az wr ((wr.alloc (.cells zH 76)).setRow wr.heap.size #[ah a0,ah a1,ah a2,.bool a3]):=((ag.aj az wr).alloc _).au (.inr (dm _)) _;have dX:=(Box.fresh wr 76 zH).au #[ah a0,ah a1,ah a2,.bool a3];have afM:=ae<|bk mI bp fun _ _=>id;have afR:=ae<|Qx.trans bp;change Code.wp _ _ _ _ ((wr.alloc (.cells zH 76)).setRow wr.heap.size #[ah a0,ah a1,ah a2,.bool a3]);clear bp x0 x1 x2 x3 Qx;generalize(wr.alloc (.cells zH 76)).setRow wr.heap.size #[ah a0,ah a1,ah a2,.bool a3]=W2 at *;have y1:aw W2 wr.heap.size 1 a1:=dX.af rfl;have y2:aw W2 wr.heap.size 2 a2:=dX.af rfl;have bu:ag az W2 (W2.alloc (.cells #[ah a2,ah a1] 245)):=(ag.aj _ _).alloc _;have dM:=aB (∀j u,(Ys (a2,a1))[j]? =some u→(W2.alloc (.cells #[ah a2,ah a1] 245)).cell? ((⟨W2.heap.size,0,none⟩:Addr).add j)=some u) (fun j u hj=>by
    rw[Addr.add_lit,Nat.zero_add];exact(Box.fresh W2 245 #[ah a2,ah a1]).af (by rw[←Array.getElem?_toList];exact hj))
   have Bt:=ae<|bk afM bu fun _ _=>id;have adk:=ae<|afR.trans bu;have oK:=ae adk.size;clear dX bu;go_wp2_with (at_builtin;refine ef _ rfl (.tmp 22) (.tmp 28) 243 245 rfl abQ rfl aD Tryz.underlying243 W.heap.size u5 k _ (Ys (a2,a1)) rfl Bt ⟨W2.heap.size,0,none⟩ rfl rfl dM (by simp[Ys,Value.oneCell']) (by unfold maxLen;have:=bL.out;have:=HN8.out;omega) (by have:=bL.out;have:=HN8.out;omega) oK ?_;intro v' w1 vo ZM _)
   go_roundw
   case rel=>
    refine⟨k+1,bL,by go_num,?_,adk.aC ZM fun j hj=>.inr (World.ownsRow.lt Bt j hj).1⟩;rw[List.take_succ_eq_append_getElem (by rw[cr];exact bL.out),List.flatMap_append];have:=Ge.out;rw[List.getD_eq_getElem?_getD,List.getElem?_eq_getElem (by rw[cr];exact bL.out),Option.getD_some]at this;rw[this];simpa using vo
   case measure=>simp[intOf];have:=bL.out;omega
  ·obtain rfl:k=l.length:=ao;clear aY hk;rw[List.take_of_length_le (by rw[cr];exact dm _)]at mI;have hlen:=cr l;rw[←hlen]at mI;obtain⟨FA,fc,efr,F6⟩:=O1 mI;rw[hlen]at efr F6;have HW:=ae<|K2 wr F6 Gv (by rw[hlen];omega);have V9:=ae Qx;clear hlen mI F6;subst efr;go_upto_region 8 with(go_at_call 151;refine HW.mono ?_;rintro e W4 ⟨ov,rfl,hov,cI⟩);have hol:((bq (bE l)).map Int.ofNat).length=l.length:=by rw[List.length_map,fG,cr]
   obtain⟨OA,oc,eo,_⟩:=hov.shape;rw[hol]at eo;have HOV:=ae hov;have HOL:=ae hol;subst eo;clear hov hol HW;have uW:=OC l.length ao W4;have bM:=ae<|(V9.trans cI).alloc (.cells (od l.length (fun _ _=>0)) 230);have afU:=ae<|(ag.aj az W4).alloc (.cells (od l.length (fun _ _=>0)) 230);have HPB:=ae<|Box.fresh W4 230 (od l.length (fun _ _=>0));have HIV:=ae<|gl.keep HOV.at afU fun _ _ _ _ _=>id;have CT:=aB (W.heap.size≤W4.heap.size∧(∀k,aK (.slice OA l.length oc) k→wr.heap.size≤k∧k<W4.heap.size)) (⟨(V9.trans cI).size,fun k hk=>HOV.lt k hk⟩);have Kf:=ae V9.size;clear cI V9;go_upto_region 9 with fail;change Code.wp _ _ _ _ (W4.alloc (.cells (od l.length (fun _ _=>0)) 230));generalize W4.alloc (.cells (od l.length (fun _ _=>0)) 230)=W5 at *;generalize W4.heap.size=ob at *;clear uW;have aa9:=ae HB.lt;have iG:=ae<|bM.aq HB id;go_upto_region 10 with fail
   go_loopw [41] (fun i wx=>aeD l q cb ob W5 i wx) (fun i _=>l.length - (intOf i).toNat)
   case atStart=>exact⟨0,dT _,rfl,iG,HPB,ag.aj _ _⟩
   case round=>
    obtain⟨k,hk,rfl,J8,hp6,bT⟩:=hrel;have kI:=ae J8;have HP6:=ae hp6;have cZ:=ae bT;clear J8 hp6 bT
    by_cases aY:k<l.length
    ·have QN:k<(bq (bE l)).length:=by rw[fG,cr];exact aY
     have hrm:=mU (bE l) ((bq (bE l)).getD k 0) (by simp[QN]);rw[cr]at hrm;have HSU:=ae<|pR l q (bq (bE l)) QN;obtain⟨g5,o5,rfl,x5⟩:=(HIV.keep cZ fun g o n c e hd=>by
      have:=CT.2 g gR;have:=Db.out;have:=aa9.out;have:=Kf.out;rcases hd with hd|hd<;>omega).af (i:=k) (by rw[HOL.out];exact aY)
     have exv:((bq (bE l)).map Int.ofNat).getD k 0=(((bq (bE l)).getD k 0:Nat):Int):=by simp[QN]
     rw[exv]at x5;have Aw:=ae ((HO.trans bM).aC cZ (fun b hb=>.inr (by
      have:=Db.out;have:=CT.1;have:=HO.size;rcases hb with hb|hb<;>omega)))
     obtain⟨g,o,rfl,hgl,y0,y1,y2,y3⟩:=(H.keep Aw).at_ _ hrm;have cD:=HP.1 _ hrm;unfold zA at cD;have afK:=ae<|xX HP HQ (fun x hx=>by have:=mU (bE l) x hx;rwa [cr]at this) k;generalize(bq (bE l)).getD k 0=r at *;have oK:=aB (0≤(l.getD r default).size∧(l.getD r default).size≤32) (⟨ao,ao⟩);have HZQ:=ae<|Mb l (gC l q (bq (bE l)) k) r;have ZD:(r:Int)<l.length:=ao;have iV:(k:Int)<l.length:=ao;have bL:=ae aY;have Qw:=ae hrm;clear cD exv QN aY hrm hk y0 y2 y3;generalize hps:gC l q (bq (bE l)) k=s at *;have HPS:=ae hps;clear hps;go_upto_region 14 with fail
     go_loopw [13,50] (fun lf t wx=>aeC l s r cb ob W5 lf t wx) (fun _ t _=>3 - (intOf t).toNat)
     case atStart=>exact⟨0,ao,rfl,by rw[HZQ.out];simp,by rw[HZQ.out];exact kI,by rw[HZQ.out];exact HP6,cZ⟩
     case round=>
      obtain⟨t,ht,rfl,rfl,Yl,hp7,dL⟩:=hrel;have sV:=ae Yl;have HP7:=ae hp7;have fC:=ae dL;clear Yl hp7 dL
      by_cases Zz:t<3
      ·have VG:=B8 afK oK ht;have h1:=VG.c t Zz;have h2:=VG.l0;have h3:=VG.l1;have HTS:=ae<|wv l s r t;have z1:=sV.af (Nu _ Zz);have z1f:=sV.free t;have z2:=HP7.af (yP l.length (iJ l s r t).o Qw (show t<4 by omega));have z2f:=HP7.free (r*4+t);have hne:¬ob=cb:=by have:=aa9.out;have:=CT.1;omega
       have Kv:¬cb=ob:=fun e=>hne e.symm
       have hti:(t:Int)<3:=ao;have agz:(t:Int)<4:=ao;have HTL:=ae Zz;clear Zz ht VG;generalize hcs:(iJ l s r t).c t=cs at *;generalize hls:(iJ l s r t).left=ls at *;have HCS:=ae hcs;have Ki:=ae hls;clear hcs hls
       by_cases agE:cs<ls
       ·exact qU
       ·exact qU
      ·obtain rfl:t=3:=ao;clear Zz ht;have hne:¬ob=cb:=by have:=aa9.out;have:=CT.1;omega
       have z2:=HP7.af (yP l.length (iJ l s r 3).o Qw (show 3<4 by omega));have z2f:=HP7.free (r*4+3);go_wp2
       go_roundw
       case rel=>
        refine⟨k+1,bL,by go_num,?_,?_,?_⟩
        ·rw[HSU.out,kU];exact sV.mH (fun e=>hne (show cb=ob from e).symm) _
        ·rw[HSU.out,kU];have h1:=HP7.store (r*4+3) (ah (iJ l s r 3).left);rw[Fx l.length _ Qw.out (show 3<4 by omega)]at h1;exact h1
        ·exact fC.setCell (p:=⟨ob,r*4+3,none⟩) (.inl (.inr rfl)) _
       case measure=>simp[intOf];have:=bL.out;omega
    ·obtain rfl:k=l.length:=ao;clear aY hk;go_wp2_with fail;go_ret;refine⟨ob,rfl,?_,Nat.le_trans HO.size CT.1,?_⟩
     ·have h1:=HP6.out;have e:gC l q (bq (bE l)) l.length=Hq l q (bq (bE l)):=by
       exact qy
      rw[e]at h1;exact h1
     ·exact(HO.trans bM).aC cZ (fun b hb=>.inr (by
       have:=Db.out;have:=CT.1;have:=HO.size;rcases hb with hb|hb<;>omega))
end
def cW (S:Nat→List Int)(k:Nat):List Int:=(List.range k).flatMap S
theorem iu (S:Nat→List Int)(k:Nat):cW S (k+1)=cW S k ++ S k:=by unfold cW;rw[List.range_succ,List.flatMap_append];simp
theorem D9 {S:Nat→List Int}(h:∀r,(S r).length≤64):∀k,(cW S k).length≤64*k
 |0=>by simp[cW]
 |k+1=>by rw[iu,List.length_append];have:=D9 h k;have:=h k;omega
def aej (w W:World)(n:Nat)(S:Nat→List Int)(v i:Value)(wr:World):Prop:=∃k:Nat,k≤n∧i=ah k∧aF 3 wr w.heap.size v (cW S k)∧ag az w wr
section
variable {j:tE}{blocks:Int}{q:Nat→Int}{l:List aS}{O:Nat→Nat→Int}{S:Nat→List Int}
theorem M4 (w:World)(h:mY w j blocks q l O S):Calls Tryz.prog 188 #[aO j.p] w fun e w'=>∃v,e= .returned v∧aF 3 w' w.heap.size v (cW S l.length)∧ag az w w':=by
 have HC:=ae<|Ix w h.pl;have h8:=h.pl.hP.2.2;have x1:=h.c1;have HH:=ae h;have H64:=aB (∀r,(S r).length≤64) (by obtain⟨N,E,hm,hr,_⟩:=h.sp;exact fun r=>hr.len r);clear h;generalize hn:l.length=n at *;have HN:=ae hn;clear hn
 go_enter Tryz.func188,Tryz.ntmps188
 go_wp2_with (go_at_call 123;refine HC.mono ?_;rintro e W1 ⟨⟨A,c,rfl⟩,aR⟩);have aX:=ae aR;clear HC x1 aR
 go_loopw [3,13] (fun v i wr=>aej w W1 n S v i wr) (fun _ i _=>n - (intOf i).toNat)
 case atStart=>exact⟨0,dT _,rfl,aF.nil _ _ _,aX⟩
 case round=>
  obtain⟨k,hk,rfl,bF,ho⟩:=hrel;have mI:=ae bF;have HO:=ae ho;clear bF ho
  by_cases aY:k<n
  ·have iV:(k:Int)<n:=ao;have bL:=ae aY;have x0:=(HH.keep HO).c0;have HA:=ae<|AU wr (HH.keep HO).sp (i:=k) (by rw[HN.out];omega);have HL:=aB ((cW S k).length+(S k).length≤1000000) (by have:=D9 H64 k;have:=H64.out k;omega);have HS:=ae HO.size;clear aY hk;go_wp2_with (first|(go_at_call 128;refine HA.mono ?_;rintro e W2 ⟨va,rfl,ZS,ha2⟩)|(at_builtin;refine lp _ rfl (.tmp 16) (.tmp 23) 61 3 rfl iD Tryz.underlying61 w.heap.size u3 (cW S k) rfl (mI.aA ha2 fun _ _=>id) wr.heap.size va (S k) rfl ZS HL (Nat.le_trans HS ha2.size) ?_;intro v' w1 vo ZM))
   go_roundw
   case rel=>
    refine⟨k+1,bL,by go_num,by rw[iu];exact vo,(HO.trans ha2).aC ZM fun jj hj=>.inr (mI.lt jj hj).1⟩
   case measure=>simp[intOf];have:=bL.out;omega
  ·obtain rfl:k=n:=ao;clear aY hk;go_wp2_with fail;go_ret;exact⟨_,rfl,mI,HO⟩
end
def ab3 (i:nT)(t:Nat)(blocks:Int)(q:Nat→Int)(l:List aS)(O:Nat→Nat→Int)(w:World)(e:Ending)(w':World):Prop:=
 ∃p g eb,e= .returned (.tuple #[aO p,ah 0])∧mY w' ⟨p,g,eb,i,t⟩ blocks q l O (fun _=>[])∧w.heap.size≤p∧w.heap.size≤g∧w.heap.size≤eb∧ag az w w'
section
theorem WT {i:nT}{t:Nat}{blocks:Int}{q:Nat→Int}{l:List aS}{O:Nat→Nat→Int}(w:World)(h:jM w i blocks q l O)(ht:t<3):
 Calls Tryz.prog 100 #[aO i.pb,ah ((t+1:Nat):Int)] w (ab3 i t blocks q l O w):=by
 have HC:=ae<|Ix w h;have h8:=h.hP.2.2;have HH:=ae h;have HT:=ae ht;have Mk:¬((t+1:Nat):Int)<1:=ao;have ht2:¬(3:Int)<((t+1:Nat):Int):=ao;have ew:IntKind.i64.wrap ((l.length:Int)+1)=((l.length+1:Nat):Int):=by rw[IntKind.wrap_i64];omega
 have HN:=ae<|fun w=>AM (m:=l.length+1) w ao ao;clear h ht;generalize hq:((t+1:Nat):Int)=t1 at *;have HQ:=ae hq;clear hq
 go_enter Tryz.func100,Tryz.ntmps100
 go_wp2_with (first|(go_at_call 123;refine HC.mono ?_;rintro e W1 ⟨⟨A,c,rfl⟩,aR⟩)|(go_at_call 68;refine(HN _).mono ?_;rintro e W2 ⟨g,eb,rfl,h1,h2,h3,h4⟩));go_ret2;have pA:w.heap.size≤W1.heap.size:=aR.size;have kC:W1.heap.size≤W2.heap.size:=h4.size;have ho:=(aR.trans h4).alloc (.cells #[aO g,aO i.pb,ah t1] 222);refine⟨W2.heap.size,g,eb,rfl,⟨?_,h1.keep ((ag.aj az W2).alloc _),HH.keep ho,HT⟩,Nat.le_trans pA kC,Nat.le_trans pA h2,Nat.le_trans pA h3,ho⟩;unfold acp;rw[HQ.out];exact Box.fresh _ _ _
end
end
end Go.Proofs.YtchofaecncibjaaGreat
