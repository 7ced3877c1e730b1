/- Lemmas. -/
import Derived.Test.YtpcfhbeakecihaaGreatM17
import Derived.Test.YtpcfhbeakecihaaGreatM20
set_option linter.all false
set_option maxHeartbeats 20000000
set_option maxRecDepth 100000
namespace Go.Proofs.YtpcfhbeakecihaaGreat
section
open Go.ChangeShapes Go.RowKit Go.Shelf Go.WideShapes
def a8 (l:gO):List Nat:=
 match l.length with
 |0=>[]
 |m+1=>(Sort.insertionSort (ltOf fun(i k:Fin (m+1))=>gP l i.val k.val) (Array.ofFn fun i=>i) 0 (m+1)).toList.map Fin.val
section
variable {α:Type}[Inhabited α]{enc:α→Value}
theorem FE {w W:World}{g:Nat}{d:Array α}(hg:g<w.heap.size)(S:SW enc w g 0 d W):af (fun k=>k=g) w W:=by
 obtain⟨n,os,rfl⟩:=S;refine⟨rfl,rfl,rfl,?_,fun k hk hn=>?_⟩
 ·rw[show sortWorld enc w g 0 n d os=Sort.grow (Sort.putRow enc (Sort.ahead w n) g 0 d) os from rfl,Sort.size_grow,Sort.size_putRow];exact Nat.le_add_right _ _
 ·rw[show sortWorld enc w g 0 n d os=Sort.grow (Sort.putRow enc (Sort.ahead w n) g 0 d) os from rfl,Sort.heap_grow_old _ _ (by rw[Sort.size_putRow];exact hk)]
  show(w.heap.modify g _)[k]? =_
  rw[Array.getElem?_modify,if_neg (fun e=>hn e.symm)]
theorem Tu {w W:World}{base g cap:Nat}{cur:Array Value}{e:TypeId}{d d':Array α}(hg:w.heap[g]? =some (.cells cur e (0,0)))(hb:base≤g)(hn:d.size≤cap)(hm:cap≤maxLen)(hs:cur.size=cap*1)
 (hz:d'.size=d.size) (S:SW enc w g 0 d' W):W.ownsRow base e 1 (bp g d.size cap) d.size (d'.toList.map enc):=by
 have aY:g<w.heap.size:=(Array.getElem?_eq_some_iff.1 hg).1;refine⟨by simp[hz],.inr ⟨g,cap,Sort.putCells enc 0 d' cur,rfl,hb,?_,hn,hm,by simp[Sort.putCells,hs],?_⟩⟩
 ·obtain⟨n,os,rfl⟩:=S;rw[show sortWorld enc w g 0 n d' os=Sort.grow (Sort.putRow enc (Sort.ahead w n) g 0 d') os from rfl,Sort.heap_grow_old _ _ (by rw[Sort.size_putRow];exact aY)]
  show(w.heap.modify g _)[g]? =_
  rw[Array.getElem?_modify,if_pos rfl,hg];rfl
 ·rw[Nat.mul_one];apply List.ext_getElem?;intro j
  by_cases hj:j<d.size
  ·rw[List.getElem?_take_of_lt hj,List.getElem?_map];have h1:j<cur.size:=aj;have h2:j<d'.size:=aj;simp only[Sort.putCells,Array.getElem?_toList,Array.getElem?_mapIdx,Array.getElem?_eq_getElem h1,Array.getElem?_eq_getElem h2,Option.map_some];rw[if_pos ⟨fH _,aj⟩,getElem!_pos d' (j - 0) aj];rfl
  ·rw[List.getElem?_take_eq_none aj,List.getElem?_eq_none cM]
end
theorem aA.less {t:TypeId}{w:World}{base base':Nat}{v:Value}{l:List Int}(h:aA t w base v l)(hb:base'≤base):aA t w base' v l:=by
 rcases h with⟨hlen,⟨rfl,h0⟩|⟨g,cap,cur,rfl,h1,h2⟩⟩
 ·exact⟨hlen,.inl ⟨rfl,h0⟩⟩
 ·exact⟨hlen,.inr ⟨g,cap,cur,rfl,Nat.le_trans hb h1,h2⟩⟩
theorem iY {l:gO}(h:l.length=0):a8 l= []:=by
 unfold a8
 split
 ·rfl
 ·omega
theorem iZ {l:gO}{m:Nat}(h:l.length=m+1):a8 l=(Sort.insertionSort (ltOf fun(i k:Fin (m+1))=>gP l i.val k.val) (Array.ofFn fun i=>i) 0 (m+1)).toList.map Fin.val:=by
 unfold a8
 split
 ·omega
 ·rename_i m' e
  obtain rfl:m'=m:=aj;rfl
theorem dW (l:gO):(a8 l).length=l.length:=by
 cases h:l.length with
 |zero=>rw[iY h];rfl
 |succ m=>
  rw[iZ h,List.length_map,Array.length_toList,gT];simp
section
theorem Ct {A:Option Addr}{n c bx base:Nat}{l:gO}{v:Value}(w:World)(hx:aM w bx 0 (.slice A n c))(py:bx<w.heap.size)(hF:iF w A n c l)(bN:iE l)(hn:l.length<20)
 (bf:aA 3 w base v ((List.range l.length).map Int.ofNat)) (ei:bx<base) (ez:∀g o,A=some ⟨g,o,none⟩→0<l.length→g<base):
 Calls Tryz.prog 143 #[v,.func (.func 144) #[] #[aO bx]] w fun e w'=>e= .returned (.tuple #[])∧aA 3 w' base v ((a8 l).map Int.ofNat)∧af (aJ v) w w':=by
 have hsh:=bf.shape;rcases bf with⟨hlen,⟨rfl,h0⟩|⟨g,cap,cur,rfl,hb,hg,za,hm,hsz,QK⟩⟩
 ·have h0:l.length=0:=by simpa using h0
  rw[iY h0];exact(wh none 0 _ w).mono fun e w' ⟨h1,h2⟩=>⟨h1,aA.nil _ _ _,h2▸af.ai _ _⟩
 ·simp only[List.length_map,List.length_range]at za QK ⊢
  cases hl:l.length with
  |zero=>
   rw[iY hl];refine(wh _ cap _ w).mono fun e w' ⟨h1,h2⟩=>⟨h1,?_,h2▸af.ai _ _⟩
   subst h2;exact⟨rfl,.inr ⟨g,cap,cur,rfl,hb,hg,fH _,hm,hsz,rfl⟩⟩
  |succ m=>
   have aY:g<w.heap.size:=(Array.getElem?_eq_some_iff.1 hg).1;have hz:(Array.ofFn (n:=m+1) fun i=>i).size=m+1:=by simp
   have heg:∀args w,(callFunc 144 args).run Tryz.prog w= .ok (.enter 144 args) w:=enters_of Tryz.func144 aS rfl;have hH:Sort.Holds (fun i:Fin (m+1)=>Value.int .i64 i.val) w g 0 (Array.ofFn fun i=>i):=fun j hj=>by
    rw[hz]at hj;have py:Box w g 3 cur:=hg;refine⟨?_,py.free _⟩;rw[Nat.zero_add];refine py.ag ?_;have e:=congrArg (fun L=>L[j]?) QK;rw[Nat.mul_one,List.getElem?_take_of_lt aj,Array.getElem?_toList,List.getElem?_map,List.getElem?_map,List.getElem?_range aj]at e;rw[e,getElem!_pos _ j (by rw[hz];exact hj)];simp
   have sm:CmpLays1 Tryz.prog 144 #[aO bx] (fun i:Fin (m+1)=>Value.int .i64 i.val) (fun i k=>gP l i.val k.val) g 0 (Array.ofFn (n:=m+1) fun i=>i).size w:=by
    intro q os dk hs x y;have ho:=FE (enc:=fun i:Fin (m+1)=>Value.int .i64 i.val) (d:=dk) aY ⟨q,os,rfl⟩;have h1:=ho.cell hx (show¬bx=g by omega);have h2:iF (sortWorld (fun i:Fin (m+1)=>Value.int .i64 i.val) w g 0 q dk os) A n c l:=hF.q7 ho fun g' o e (e2:g'=g)=>by
     have:=ez g' o e aj;omega
    exact Er _ h1 (Nat.lt_of_lt_of_le py ho.size) h2 bN (by have:=x.isLt;omega) (by have:=y.isLt;omega) aj
   have hS:=Hz (fun i:Fin (m+1)=>Value.int .i64 i.val) (fun i k=>gP l i.val k.val) 144 #[aO bx] g 0 cap (Array.ofFn fun i=>i) w heg sm ⟨fun _=>rfl,hH,aY⟩ (by rw[hz];omega);rw[hz]at hS;refine hS.mono fun e w' ⟨h1,h2⟩=>⟨h1,?_,?_⟩
   ·have yO:(Sort.insertionSort (ltOf fun(i k:Fin (m+1))=>gP l i.val k.val) (Array.ofFn fun i=>i) 0 (m+1)).size=(Array.ofFn (n:=m+1) fun i=>i).size:=gT _ _ _ _;have:=Tu (base:=base) (e:=3) (d:=Array.ofFn (n:=m+1) fun i=>i) hg hb (by rw[hz];omega) hm hsz yO h2;rw[hz]at this;unfold aA;rw[iZ hl];rw[List.length_map,List.length_map,Array.length_toList,yO,hz,List.map_map,List.map_map];exact this
   ·exact(FE aY h2).mono fun k hk=>.inl (by rw[hk];rfl)
end
def T6 (l:gO)(w W:World)(v i:Value)(wr:World):Prop:=
 ∃k:Nat,k≤l.length∧i=ah k∧aA 3 wr W.heap.size v ((List.range k).map Int.ofNat)∧af au W wr
section
theorem DW {A:Option Addr}{n c:Nat}{l:gO}(w:World)(h:iF w A n c l)(bN:iE l)(hn:l.length<20):
 Calls Tryz.prog 138 #[.slice A n c] w fun e w'=>∃v,e= .returned (.tuple #[v,ah 0])∧aA 3 w' w.heap.size v ((a8 l).map Int.ofNat)∧af au w w':=by
 obtain rfl:=h.len;have HO:=ae<|(fG.refl w).alloc (.cells #[.slice A l.length c] 237);have HF:=ae<|h.keep HO.ar;have Fk:=ae bN;have HL:=ae hn;have HB:=ae<|Box.fresh w 237 #[.slice A l.length c];have HG:=aq (∀g o,A=some ⟨g,o,none⟩→0<l.length→g<w.heap.size) (fun g o e h0=>by
  obtain⟨g',o',e',hg,_⟩:=h.at_ 0 h0;rw[e]at e';injection e' with e';injection e' with e1 e2;rw[e1];exact hg)
 clear h bN
 go_enter Tryz.func138,Tryz.ntmps138
 go_upto_region 1 with fail;change Code.wp _ _ _ _ (w.alloc (.cells #[.slice A l.length c] 237));generalize w.alloc (.cells #[.slice A l.length c] 237)=W at *;have x0:aM W w.heap.size 0 (.slice A l.length c):=HB.ag rfl;have HC:=ae<|xr W HF Fk aj;go_upto_region 3 with(go_at_call 140;refine HC.mono ?_;rintro e W1 ⟨rfl,aK⟩);have kr:=ae<|HF.keep aK.ar;have b8:=ae<|aK.ar.ak HB id;have bc:=ae<|HO.trans aK;have y0:aM W1 w.heap.size 0 (.slice A l.length c):=b8.ag rfl;clear x0 HC HF HB HO aK;go_upto_region 7 with fail
 go_loopw [4,13] (fun v i wr=>T6 l w W1 v i wr) (fun _ i _=>l.length - (intOf i).toNat)
 case atStart=>exact⟨0,fH _,rfl,aA.nil _ _ _,af.ai _ _⟩
 case round=>
  obtain⟨k,hk,rfl,bf,ho⟩:=hrel;have lI:=ae bf;have HW:=ae ho;have lh:=aq (W1.heap.size≤wr.heap.size) (ho.size);clear bf ho
  by_cases aY:k<l.length
  ·have jk:(k:Int)<l.length:=aj;have cD:=ae aY;have HLK:=ae (show((List.range k).map Int.ofNat).length≤1000000 by simp;omega);clear aY hk;go_wp2_with (at_builtin;refine il _ rfl (.tmp 16) (.tmp 18) 47 3 rfl gp Tryz.underlying47 W1.heap.size u4 ((List.range k).map Int.ofNat) k rfl (lI.alloc _) ⟨wr.heap.size,0,none⟩ rfl (World.cell?_alloc_at _ _ _ _ rfl) HLK (by have:=lh.out;rw[World.size_alloc];omega) ?_;intro v' w1 rk R9)
   go_roundw
   case rel=>
    refine⟨k+1,cD,by go_num,?_,(HW.alloc _).aG R9 fun j hj=>.inr (lI.lt j hj).1⟩;rw[List.range_succ,List.map_append];exact rk
   case measure=>simp[intOf];have:=cD.out;omega
  ·obtain rfl:k=l.length:=aj;clear aY hk;go_upto_region 11 with fail;have hlw:∀k,k<w.heap.size+1→k<W1.heap.size:=fun k hk=>Nat.lt_of_lt_of_le hk b8.lt
   have HP:=ae<|Ct wr (HW.cell y0 id) (Nat.lt_of_lt_of_le b8.lt lh) (kr.keep HW) Fk HL lI (hlw _ aj) (fun g o e h0=>hlw _ (by have:=HG.out g o e h0;omega));go_wp2_with (go_at_call 143;refine HP.mono ?_;rintro e W2 ⟨rfl,KR,bq⟩);go_ret2;refine⟨_,rfl,?_,?_⟩
   ·exact KR.less (Nat.le_of_lt (hlw _ aj))
   ·exact(bc.ar.trans HW).aG bq fun j hj=>.inr (Nat.le_trans (Nat.le_of_lt (hlw _ aj)) (lI.lt j hj).1)
end
end
section
open Go.ChangeShapes Go.RowKit Go.WideShapes
def EZ (h:aH)(b:Int):Bool:=decide (h.fr≤b)&&decide (b<h.fr+h.size)
def aZ (l:List aH)(b:Int):Nat:=l.findIdx fun h=>EZ h b
def fl (l:List aH)(b:Int):Int:=if aZ l b<l.length then(aZ l b:Int)else -1
theorem zO (l:List aH){k:Nat}(hk:k<l.length):l.getD k default=l[k]:=by simp[hk]
theorem FK {l:List aH}{b:Int}{k:Nat}(hk:k<l.length)(h:EZ (l.getD k default) b=true)(hn:∀j,j<k→EZ (l.getD j default) b=false):aZ l b=k:=by
 refine(List.findIdx_eq hk).2 ⟨?_,fun j hj=>?_⟩
 ·rw[zO l hk]at h;exact h
 ·have:=hn j hj;rw[zO l aj]at this;exact this
theorem BV {l:List aH}{b:Int}(hn:∀j,j<l.length→EZ (l.getD j default) b=false):aZ l b=l.length:=by
 refine List.findIdx_eq_length.2 fun x hx=>?_
 obtain⟨j,hj,rfl⟩:=List.getElem_of_mem hx;have:=hn j hj;rw[zO l hj]at this;exact this
def hnC (h:aH):Array Value:=#[ah h.fr,ah h.size,ah h.often,.bool h.loop]
def Rz (l:List aH)(b:Int)(w:World)(i:Value)(wr:World):Prop:=∃k:Nat,k≤l.length∧i=ah k∧(∀j,j<k→EZ (l.getD j default) b=false)∧fG w wr
section
theorem Ei {h:aH}{b:Int}{bx:Nat}(w:World)(hx:aF w bx 0 b)(py:bx<w.heap.size)(h0:0≤h.fr)(h1:0≤h.size)(h2:h.fr+h.size≤32):
 Calls Tryz.prog 147 #[.agg (hnC h),aO bx] w fun e w'=>e= .returned (.bool (EZ h b))∧fG w w':=by
 obtain⟨fr,size,often,loop⟩:=h;unfold EZ hnC;dsimp only at *;have HB:=ae<|Box.fresh w 100 #[ah fr,ah size,ah often,.bool loop];have HO:=ae<|(fG.refl w).alloc (.cells #[ah fr,ah size,ah often,.bool loop] 100);have y:=HO.ar.cell hx id;have ew:IntKind.i64.wrap (fr+size)=fr+size:=by rw[IntKind.wrap_i64];omega
 have cj:=ae py;clear hx py;generalize hr:(decide (fr≤b)&&decide (b<fr+size))=r at *;have HR:=ae hr;clear hr
 go_enter Tryz.func147,Tryz.ntmps147
 go_upto_region 1 with fail;change Code.wp _ _ _ _ (w.alloc (.cells #[ah fr,ah size,ah often,.bool loop] 100));generalize w.alloc (.cells #[ah fr,ah size,ah often,.bool loop] 100)=W at *;generalize w.heap.size=g at *;have x0:aF W g 0 fr:=HB.ag rfl;have x1:aF W g 1 size:=HB.ag rfl
 by_cases c1:fr≤b
 ·by_cases c2:b<fr+size
  ·go_wp2;go_ret;exact⟨by rw[show r=true by rw[←HR.out];simp;omega];rfl,HO⟩
  ·go_wp2;go_ret;exact⟨by rw[show r=false by rw[←HR.out];simp;omega];rfl,HO⟩
 ·go_wp2;go_ret;exact⟨by rw[show r=false by rw[←HR.out];simp;omega];rfl,HO⟩
theorem ED {A:Option Addr}{n c bx:Nat}{l:List aH}{b blocks:Int}(w:World)(hx:aF w bx 0 b)(py:bx<w.heap.size)(h:aX w A n c l)(hP:cT blocks l):
 Calls Tryz.prog 146 #[.slice A n c,.func (.func 147) #[] #[aO bx]] w fun e w'=>e= .returned (ah (fl l b))∧fG w w':=by
 obtain rfl:=h.len;have H:=ae h;have HP:=ae hP;have HX:=ae hx;have cj:=ae py;have hn:=hP.2.2;have HS:=aq (Rz l b w (ah 0) w) (⟨0,fH _,rfl,fun j hj=>absurd hj aj,fG.refl w⟩);clear h hP hx py
 go_enter Tryz.func146,Tryz.ntmps146
 go_upto_region 2 with fail
 go_loopw [8] (fun i wr=>Rz l b w i wr) (fun i _=>l.length - (intOf i).toNat)
 case atStart=>exact HS
 case round=>
  clear HS;obtain⟨k,hk,rfl,pH,hg⟩:=hrel;have HG:=ae hg;have HN:=ae pH;clear hg pH
  by_cases aY:k<l.length
  ·obtain⟨g,o,rfl,hgl,x0,x1,x2,x3⟩:=(H.keep HG.ar).at_ k aY;have bN:=HP.1 k aY;unfold Aj at bN;have HC:Hid (∀w',fG wr w'→Calls Tryz.prog 147 #[.agg (hnC (l.getD k default)),aO bx] w' fun e ky=>e= .returned (.bool (EZ (l.getD k default) b))∧fG w' ky):=
    ae fun w' hw'=>Ei w' ((HG.trans hw').ar.cell HX id) (Nat.lt_of_lt_of_le cj (HG.trans hw').ar.size) bN.1 aj aj
   clear bN;have jk:(k:Int)<l.length:=aj;have cD:=ae aY;unfold hnC at HC;generalize hd:l.getD k default=hh at *;have HD:=ae hd;clear hd aY hk
   cases xC:EZ hh b with
   |true=>
    rw[xC]at HC;have HZ:=ae (show fl l b=k by unfold fl;rw[FK cD.out (by rw[HD.out];exact xC) HN.out,if_pos cD.out]);go_wp2_with (go_at_call 147;refine(HC _ (fG.refl _)).mono ?_;rintro e W1 ⟨rfl,aK⟩);go_ret;exact⟨by rw[HZ.out];rfl,HG.trans aK⟩
   |false=>
    rw[xC]at HC;have Fl:=aq (∀j,j<k+1→EZ (l.getD j default) b=false) (fun j hj=>by
     by_cases e:j=k
     ·rw[e,HD.out];exact xC
     ·exact HN j aj)
    go_wp2_with (go_at_call 147;refine(HC _ (fG.refl _)).mono ?_;rintro e W1 ⟨rfl,aK⟩)
    go_roundw
    case rel=>exact⟨k+1,cD,by go_num,Fl,HG.trans aK⟩
    case measure=>simp[intOf];have:=cD.out;omega
  ·obtain rfl:k=l.length:=aj;clear aY hk;have HZ:=ae (show fl l b= -1 by unfold fl;rw[BV HN.out,if_neg aj]);go_wp2_with fail;go_ret;exact⟨by rw[HZ.out];rfl,HG⟩
end
structure kT where
 pb:Nat
 ob:Nat
 A:Option Addr
 c:Nat
def Y1 (i:kT)(blocks:Int)(q:Nat→Int)(n:Nat):Array Value:=#[ah blocks,ah (q 0),ah (q 1),ah (q 2),.slice i.A n i.c,bp i.ob n n]
def kY (n:Nat)(O:Nat→Nat→Int):Array Value:=Array.ofFn (n:=n*4) fun i=>ah (O (i.1 / 4) (i.1 % 4))
theorem vB (n:Nat)(O:Nat→Nat→Int){r t:Nat}(hr:r<n)(ht:t<4):(kY n O)[r*4+t]? =some (ah (O r t)):=by
 unfold kY;rw[Array.getElem?_ofFn,dif_pos aj];simp only[show(r*4+t) / 4=r by omega,show(r*4+t) % 4=t by omega]
structure gW (w:World)(i:kT)(blocks:Int)(q:Nat→Int)(l:List aH)(O:Nat→Nat→Int):Prop where
 ak:Box w i.pb 191 (Y1 i blocks q l.length)
 bL:aX w i.A l.length i.c l
 prt:Box w i.ob 233 (kY l.length O)
 hP:cT blocks l
 ht:0<l.length→∀k o,i.A=some ⟨k,o,none⟩→∃cs,Box w k 100 cs
def kT.F (i:kT):Nat→Prop:=fun k=>k=i.pb∨k=i.ob∨∃o,i.A=some ⟨k,o,none⟩
section
variable {w w':World}{i:kT}{blocks:Int}{q:Nat→Int}{l:List aH}{O:Nat→Nat→Int}
theorem gW.q7 {S:Nat→Prop}(h:gW w i blocks q l O)(ho:af S w w')(hS:∀k,i.F k→¬S k):gW w' i blocks q l O:=
 ⟨ho.ak h.ak (hS _ (.inl rfl)),⟨h.bL.len,h.bL.cap,h.bL.max,fun j hj=>by
  obtain⟨g,o,e,hg,h0,h1,h2,h3⟩:=h.bL.at_ j hj;have hn:=hS g (.inr (.inr ⟨o,e⟩));exact⟨g,o,e,Nat.lt_of_lt_of_le hg ho.size,ho.cell h0 hn,ho.cell h1 hn,ho.cell h2 hn,ho.cell h3 hn⟩⟩,ho.ak h.prt (hS _ (.inr (.inl rfl))),h.hP,fun h0 k o e=>by obtain⟨cs,hb⟩:=h.ht h0 k o e;exact⟨cs,ho.ak hb (hS k (.inr (.inr ⟨o,e⟩)))⟩⟩
theorem gW.keep (h:gW w i blocks q l O)(ho:af au w w'):gW w' i blocks q l O:=h.q7 ho fun _ _=>id
def Gy (l:List aH)(b:Int):Value:=.tuple #[ah (if aZ l b<l.length then(aZ l b:Int)else 0),.bool (decide (aZ l b<l.length))]
def bK (l:List aH)(O:Nat→Nat→Int)(b:Int)(t:Nat):Int:=if aZ l b<l.length then O (aZ l b) t else 0
def BG (l:List aH)(b:Int):Bool:=decide (aZ l b<l.length)&&(l.getD (aZ l b) default).loop
end
section
variable {i:kT}{blocks:Int}{q:Nat→Int}{l:List aH}{O:Nat→Nat→Int}
theorem oT{P:Prop}(h:P:=by
 go_wp2_with (go_at_call 146;refine HI.mono ?_;rintro e W1 ⟨rfl,aK⟩);go_ret2;exact⟨by simp[uS,Da];omega,HO.trans aK⟩):P:=h
theorem tG (b:Int)(w:World)(h:gW w i blocks q l O):Calls Tryz.prog 139 #[aO i.pb,ah b] w fun e w'=>e= .returned (Gy l b)∧fG w w':=by
 have HO:=ae<|(fG.refl w).alloc (.cells #[ah b] 3);have HH:=ae<|h.keep HO.ar;have HX:=ae<|(Box.fresh w 3 #[ah b]).ag (i:=0) rfl;have HS:=ae (Box.fresh w 3 #[ah b]).lt;clear h;have hz:fl l b= -1∨∃k:Nat,fl l b=k:=by unfold fl;split;exact .inr ⟨_,rfl⟩;exact .inl rfl
 have HV:Hid (Gy l b= .tuple #[ah (if fl l b<0 then 0 else fl l b),.bool (decide (0≤fl l b))]):=ae (by
  unfold Gy fl
  by_cases h:aZ l b<l.length
  ·rw[if_pos h,if_pos h,if_neg aj,decide_eq_true h,decide_eq_true aj]
  ·rw[if_neg h,if_neg h,if_pos aj,decide_eq_false h,decide_eq_false aj])
 rw[HV.out];have HI:=ae<|ED _ HX HS HH.bL HH.hP;generalize fl l b=z at *;clear HV
 go_enter Tryz.func139,Tryz.ntmps139
 go_upto_region 1 with fail;change Code.wp _ _ _ _ (w.alloc (.cells #[ah b] 3));generalize w.alloc (.cells #[ah b] 3)=W at *;generalize w.heap.size=g at *;have x4:aM W i.pb 4 (.slice i.A l.length i.c):=HH.ak.ag rfl
 by_cases uS:0≤z
 ·have Da:¬z<0:=aj;exact oT
 ·have Da:z<0:=aj;exact oT
theorem oo{P:Prop}(h:P:=by
 go_wp2_with (go_at_call 139;refine HR.mono ?_;rintro e W1 ⟨rfl,aK⟩);go_ret;exact⟨rfl,aK⟩):P:=h
theorem vK (b:Int){t:Nat}(ht:t<3)(w:World)(h:gW w i blocks q l O):Calls Tryz.prog 135 #[aO i.pb,ah b,ah ((t+1:Nat):Int)] w fun e w'=>e= .returned (ah (bK l O b t))∧fG w w':=by
 have HR:=ae<|tG b w h;have HH:=ae h;have h8:=h.hP.2.2;clear h;have ew:IntKind.i64.wrap (((t+1:Nat):Int) - 1)=t:=by rw[IntKind.wrap_i64];omega
 have Ju:¬((t+1:Nat):Int)<1:=aj;have ht2:¬(3:Int)<((t+1:Nat):Int):=aj;have UI:(t:Int)<4:=aj;unfold Gy at HR;unfold bK
 by_cases hk:aZ l b<l.length
 ·rw[if_pos hk,decide_eq_true hk]at HR;rw[if_pos hk];have HX:=ae<|fun(W:World) (ho:af au w W)=>(HH.keep ho).prt.ag (vB l.length O hk (show t<4 by omega));have HP:=ae<|fun(W:World) (ho:af au w W)=>(HH.keep ho).ak.ag (i:=5) (v:=bp i.ob l.length l.length) rfl;generalize O (aZ l b) t=x at *;generalize aZ l b=k at *;have xC:(k:Int)<l.length:=aj;generalize((t+1:Nat):Int)=t1 at *
  go_enter Tryz.func135,Tryz.ntmps135
  go_upto_region 2 with(go_at_call 139;refine HR.mono ?_;rintro e W1 ⟨rfl,aK⟩);have x5:=HP.out _ aK.ar;have x6:=HX.out _ aK.ar;go_wp2;go_ret;exact⟨rfl,aK⟩
 ·rw[if_neg hk,decide_eq_false hk]at HR;rw[if_neg hk];generalize((t+1:Nat):Int)=t1 at *
  go_enter Tryz.func135,Tryz.ntmps135
  exact oo
theorem Mi (b:Int)(w:World)(h:gW w i blocks q l O):Calls Tryz.prog 178 #[aO i.pb,ah b] w fun e w'=>e= .returned (.bool (BG l b))∧fG w w':=by
 have HR:=ae<|tG b w h;have HH:=ae h;have h8:=h.hP.2.2;clear h;unfold Gy at HR;unfold BG
 by_cases hk:aZ l b<l.length
 ·rw[if_pos hk,decide_eq_true hk]at HR;rw[decide_eq_true hk,Bool.true_and];have HX:=ae<|fun(W:World) (ho:af au w W)=>(HH.keep ho).bL.at_ _ hk;have HP:=ae<|fun(W:World) (ho:af au w W)=>(HH.keep ho).ak.ag (i:=4) (v:=.slice i.A l.length i.c) rfl;generalize aZ l b=k at *;have xC:(k:Int)<l.length:=aj;generalize(l.getD k default).loop=x at *
  go_enter Tryz.func178,Tryz.ntmps178
  go_upto_region 2 with(go_at_call 139;refine HR.mono ?_;rintro e W1 ⟨rfl,aK⟩);have x5:=HP.out _ aK.ar;obtain⟨g,o,eA,hg,y0,y1,y2,y3⟩:=HX.out _ aK.ar;rw[eA]at x5;go_wp2;go_ret;exact⟨rfl,aK⟩
 ·rw[if_neg hk,decide_eq_false hk]at HR;rw[decide_eq_false hk,Bool.false_and]
  go_enter Tryz.func178,Tryz.ntmps178
  exact oo
end
end
structure tf where
 c:Nat→Int
 o:Nat→Nat→Int
 left:Int
def dB (i:Nat)(s:tf)(t:Nat):tf:=
 let n:=min s.left (s.c t)
 ⟨fun x=>if x=t then s.c t - n else s.c x,fun r x=>if r=i∧x=t then n else s.o r x,s.left - n⟩
def iM (l:List aH)(s:tf)(i:Nat):tf:=
 let s3:=(List.range 3).foldl (dB i) {s with left:=(l.getD i default).size}
 {s3 with o:=fun r x=>if r=i∧x=3 then s3.left else s3.o r x}
def BL (l:List aH)(q:Nat→Int)(ord:List Nat):tf:=ord.foldl (iM l) ⟨q,fun _ _=>0,0⟩
def bn (l:List aH):List (Int×Int):=l.map fun h=>(h.often,h.size)
def fJ (l:List aH)(q:Nat→Int):Nat→Nat→Int:=(BL l q (a8 (bn l))).o
theorem zJ (n:Nat)(O:Nat→Nat→Int){r t:Nat}(hr:r<n)(ht:t<4)(v:Int):(kY n O).setIfInBounds (r*4+t) (ah v)=kY n (fun a b=>if a=r∧b=t then v else O a b):=by
 apply Array.ext_getElem?;intro k;unfold kY;rw[Array.getElem?_setIfInBounds]
 by_cases e:r*4+t=k
 ·subst e;rw[if_pos rfl,if_pos cM,Array.getElem?_ofFn,dif_pos aj];simp only[show(r*4+t) / 4=r by omega,show(r*4+t) % 4=t by omega,and_self,if_true]
 ·rw[if_neg e]
  by_cases hk:k<n*4
  ·rw[Array.getElem?_ofFn,Array.getElem?_ofFn,dif_pos hk,dif_pos hk];dsimp only;rw[if_neg aj]
  ·rw[Array.getElem?_ofFn,Array.getElem?_ofFn,dif_neg hk,dif_neg hk]
section
open Go.ChangeShapes Go.RowKit Go.WideShapes
structure pM where
 p:Nat
 g:Nat
 eb:Nat
 i:kT
 t:Nat
def XM (j:pM):Array Value:=#[aO j.g,aO j.i.pb,ah ((j.t+1:Nat):Int)]
structure kO (w:World)(j:pM)(blocks:Int)(q:Nat→Int)(l:List aH)(O:Nat→Nat→Int)(S:Nat→List Int):Prop where
 ak:Box w j.p 199 (XM j)
 sp:iA w j.g j.eb (l.length+1) S
 pl:gW w j.i blocks q l O
 t3:j.t<3
section
variable {w w':World}{j:pM}{blocks:Int}{q:Nat→Int}{l:List aH}{O:Nat→Nat→Int}{S:Nat→List Int}
theorem kO.keep (h:kO w j blocks q l O S)(ho:af au w w'):kO w' j blocks q l O S:=⟨ho.ak h.ak id,h.sp.keep ho,h.pl.keep ho,h.t3⟩
theorem kO.c0 (h:kO w j blocks q l O S):aM w j.p 0 (aO j.g):=h.ak.ag rfl
theorem kO.c1 (h:kO w j blocks q l O S):aM w j.p 1 (aO j.i.pb):=h.ak.ag rfl
theorem kO.c2 (h:kO w j blocks q l O S):aF w j.p 2 ((j.t+1:Nat):Int):=h.ak.ag rfl
end
section
variable {j:pM}{blocks:Int}{q:Nat→Int}{l:List aH}{O:Nat→Nat→Int}{S:Nat→List Int}
theorem qF (b:Int)(w:World)(h:kO w j blocks q l O S):Calls Tryz.prog 122 #[aO j.p,ah b] w fun e w'=>e= .returned (.bool (decide (0<bK l O b j.t)))∧fG w w':=by
 have HP:Hid (∀n os,Calls Tryz.prog 135 #[aO j.i.pb,ah b,ah ((j.t+1:Nat):Int)] (Sort.grow (w.drewN n) os) fun e w'=>e= .returned (ah (bK l O b j.t))∧∃q EX,w'=Sort.grow ((Sort.grow (w.drewN n) os).drewN q) EX):=
  ae fun n os=>vK b h.t3 _ (h.pl.keep (show fG w (Sort.grow (w.drewN n) os)from⟨n,os,rfl⟩).ar)
 have aY:=h.ak.lt;have x1:=fun n os=>cell_grown (w:=w) (a:=⟨j.p,1,none⟩) aY h.c1 n os
 have x2:=fun n os=>cell_grown (w:=w) (a:=⟨j.p,2,none⟩) aY h.c2 n os
 clear h;generalize bK l O b j.t=x at *;generalize((j.t+1:Nat):Int)=t1 at *;have mixed:Tryz.prog.follows .mixedOrders=true:=by kernel_rfl
 go_enter Tryz.func122,Tryz.ntmps122
 go_upto_region 1 with fail
 go_quiet_grown (first|(go_at_call 135;refine Calls.grown_of (HP _ _)))
 go_wp2;go_ret;exact⟨rfl,_,_,rfl⟩
theorem nz{P:Prop}(h:P:=by
 have x0:=h.c0;clear h
 go_enter Tryz.func181,Tryz.ntmps181
 go_wp2_with (go_at_call 190;refine HP.mono ?_;rintro e W1 ⟨rfl,rfl⟩);go_ret;exact⟨rfl,rfl⟩):P:=h
theorem rQ {b:Int}{r:Nat}(w:World)(h:kO w j blocks q l O S)(hb:b∈S r):Calls Tryz.prog 181 #[aO j.p,ah b] w fun e w'=>e= .returned (.bool true)∧w=w':=by
 have HP:=ae<|BF w h.sp hb;exact nz
theorem wv {b:Int}(w:World)(h:kO w j blocks q l O S)(hb:∀r,b∉S r):Calls Tryz.prog 181 #[aO j.p,ah b] w fun e w'=>e= .returned (.bool false)∧w=w':=by
 have HP:=ae<|Fv w h.sp hb;exact nz
end
def pM.F (j:pM):Nat→Prop:=fun k=>k=j.p∨k=j.g∨k=j.eb∨j.i.F k
section
variable {j:pM}{blocks:Int}{q:Nat→Int}{l:List aH}{O:Nat→Nat→Int}{S:Nat→List Int}
theorem wq {b:Int}(w:World)(h:kO w j blocks q l O S)(hb:∀r,b∉S r):Calls Tryz.prog 184 #[aO j.p,ah b] w fun e w'=>e= .returned (.bool false)∧w=w':=by
 have HP:=ae<|wv w h hb;clear h
 go_enter Tryz.func184,Tryz.ntmps184
 go_wp2_with (go_at_call 181;refine HP.mono ?_;rintro e W1 ⟨rfl,rfl⟩);go_ret;exact⟨rfl,rfl⟩
theorem wu {n r:Nat}(w:World)(h:kO w j blocks q l O S)(hr:r<l.length+1)(hn:n<64)(hb:(n:Int)∈S r):
 Calls Tryz.prog 184 #[aO j.p,ah n] w fun e w'=>e= .returned (.bool true)∧iA w' j.g j.eb (l.length+1) (bm (cu S n) r n)∧af (ra j.g j.eb) w w':=by
 have HH:=ae<|rQ w h hb;have HO:=ae<|BF w h.sp hb;have HF:=ae<|iW w h.sp hr hn;have x0:=h.c0;clear h
 go_enter Tryz.func184,Tryz.ntmps184
 go_wp2_with (first|(go_at_call 181;refine HH.mono ?_;rintro e W1 ⟨rfl,rfl⟩)|(go_at_call 190;refine HO.mono ?_;rintro e W2 ⟨rfl,rfl⟩)|(go_at_call 188;refine HF.mono ?_;rintro e W3 ⟨rfl,h1,h2⟩));go_ret;exact⟨rfl,h1,h2⟩
theorem Ej {n r:Nat}(w:World)(h:kO w j blocks q l O S)(hb:(n:Int)∈S r):
 Calls Tryz.prog 183 #[aO j.p,ah n] w fun e w'=>e= .returned (.bool true)∧iA w' j.g j.eb (l.length+1) (cu S n)∧af (ra j.g j.eb) w w':=by
 have HH:=ae<|rQ w h hb;have HR:=ae<|ku w h.sp hb;have x0:=h.c0;clear h
 go_enter Tryz.func183,Tryz.ntmps183
 go_wp2_with (first|(go_at_call 181;refine HH.mono ?_;rintro e W1 ⟨rfl,rfl⟩)|(go_at_call 187;refine HR.mono ?_;rintro e W3 ⟨rfl,h1,h2⟩));go_ret;exact⟨rfl,h1,h2⟩
def fq (l:List aH)(S:Nat→List Int)(r:Nat)(b:Int):Int:=if BG l b then Go.Proofs.YtpcfhbeakecihaaGreat.hd (S r)else gU (S r)
theorem L6 {r:Nat}{b:Int}(w:World)(h:kO w j blocks q l O S)(hr:r<l.length+1)(hne:S r≠[]):
 Calls Tryz.prog 186 #[aO j.p,ah r,ah b] w fun e w'=>e= .returned (ah (fq l S r b))∧fG w w':=by
 have HL:=p9 r w h.sp hr;rw[if_neg hne]at HL;have HL:=ae HL;have HF:Hid (∀w',fG w w'→Calls Tryz.prog 193 #[aO j.g,ah r] w' _):=ae fun w' hw=>I2 r w' (h.sp.keep hw.ar) hr
 rw[if_neg hne]at HF;have HP:=ae<|Mi b w h.pl;have x0:=h.c0;have x1:=h.c1;have HX:=ae<|fun w' (hw:fG w w')=>hw.ar.cell x0 id;clear h;unfold fq;generalize Go.Proofs.YtpcfhbeakecihaaGreat.hd (S r)=f at *;generalize gU (S r)=z at *
 cases yS:BG l b with
 |true=>
  rw[yS]at HP;rw[if_pos rfl];clear yS
  go_enter Tryz.func186,Tryz.ntmps186
  go_upto_region 2 with(go_at_call 192;refine HL.mono ?_;rintro e W1 ⟨rfl,rfl⟩);go_upto_region 3 with(go_at_call 178;refine HP.mono ?_;rintro e W2 ⟨rfl,bq⟩);have x2:=HX.out _ bq;go_wp2_with (go_at_call 193;refine(HF _ bq).mono ?_;rintro e W3 ⟨rfl,rfl⟩);go_ret;exact⟨rfl,bq⟩
 |false=>
  rw[yS]at HP;rw[if_neg aE];clear yS
  go_enter Tryz.func186,Tryz.ntmps186
  go_upto_region 2 with(go_at_call 192;refine HL.mono ?_;rintro e W1 ⟨rfl,rfl⟩);go_wp2_with (go_at_call 178;refine HP.mono ?_;rintro e W2 ⟨rfl,bq⟩);go_ret;exact⟨rfl,bq⟩
end
section
variable {j:pM}{blocks:Int}{q:Nat→Int}{l:List aH}{O:Nat→Nat→Int}{S:Nat→List Int}
theorem Ek {n r:Nat}(w:World)(h:kO w j blocks q l O S)(hr:r<l.length+1)(hn:n<64)(hb:(n:Int)∈S r)(ht:0<bK l O n j.t):
 Calls Tryz.prog 179 #[aO j.p,ah n] w fun e w'=>e= .returned (.tuple #[ah 0,.bool false,ah 0])∧iA w' j.g j.eb (l.length+1) (bm (cu S n) r n)∧af (ra j.g j.eb) w w':=by
 have HT:=qF n w h;rw[decide_eq_true ht]at HT;have HT:=ae HT;have HU:Hid (∀w',fG w w'→Calls Tryz.prog 184 #[aO j.p,ah n] w' fun e ky=>e= .returned (.bool true)∧iA ky j.g j.eb (l.length+1) (bm (cu S n) r n)∧af (ra j.g j.eb) w' ky):=
  ae fun w' hw=>wu w' (h.keep hw.ar) hr hn hb
 clear h ht
 go_enter Tryz.func179,Tryz.ntmps179
 go_wp2_with (first|(go_at_call 122;refine HT.mono ?_;rintro e W1 ⟨rfl,aK⟩)|(go_at_call 184;refine(HU _ aK).mono ?_;rintro e W2 ⟨rfl,h1,h2⟩))
 go_ret3
 exact⟨rfl,h1,(aK.ar.mono fun _ hk=>hk.elim).trans h2⟩
theorem vM {b:Int}{t:Nat}(h:0<bK l O b t):aZ l b<l.length:=by
 unfold bK at h
 by_cases hk:aZ l b<l.length
 ·exact hk
 ·rw[if_neg hk]at h;omega
theorem mO{P:Prop}(h:P:=by
 have:=tG n w' (h.pl.keep hw.ar);unfold Gy at this;rw[if_pos hr,decide_eq_true hr]at this;exact this):P:=h
theorem Ae {n:Nat}(w:World)(h:kO w j blocks q l O S)(hn:n<64)(hb:∀r,(n:Int)∉S r)(ht:0<bK l O n j.t)(ue:((S (aZ l n)).length:Int)<bK l O n j.t):
 Calls Tryz.prog 179 #[aO j.p,ah n] w fun e w'=>e= .returned (.tuple #[ah 0,.bool false,ah 0])∧iA w' j.g j.eb (l.length+1) (bm (cu S n) (aZ l n) n)∧af (ra j.g j.eb) w w':=by
 have HT:=qF n w h;rw[decide_eq_true ht]at HT;have HT:=ae HT;have hr:=vM ht;have HU:Hid (∀w',fG w w'→Calls Tryz.prog 184 #[aO j.p,ah n] w' fun e ky=>e= .returned (.bool false)∧w'=ky):=
  ae fun w' hw=>wq w' (h.keep hw.ar) hb
 have HR:Hid (∀w',fG w w'→Calls Tryz.prog 139 #[aO j.i.pb,ah n] w' fun e ky=>e= .returned (.tuple #[ah (aZ l n:Nat),.bool true])∧fG w' ky):=
  ae fun w' hw=>by
   exact mO
 have HL:Hid (∀w',fG w w'→∀k os,Calls Tryz.prog 185 #[aO j.g,ah (aZ l n:Nat)] (Sort.grow (w'.drewN k) os) fun e ky=>e= .returned (ah (S (aZ l n)).length)∧∃q EX,ky=Sort.grow ((Sort.grow (w'.drewN k) os).drewN q) EX):=
  ae fun w' hw k os=>(my _ _ (h.sp.keep (hw.trans ⟨k,os,rfl⟩:fG w _).ar) aj).mono fun e ky ⟨h1,h2⟩=>⟨h1,h2▸fG.refl _⟩
 have HP:Hid (∀w',fG w w'→∀k os,Calls Tryz.prog 135 #[aO j.i.pb,ah n,ah ((j.t+1:Nat):Int)] (Sort.grow (w'.drewN k) os) fun e ky=>e= .returned (ah (bK l O n j.t))∧∃q EX,ky=Sort.grow ((Sort.grow (w'.drewN k) os).drewN q) EX):=
  ae fun w' hw k os=>vK n h.t3 _ (h.pl.keep (hw.trans ⟨k,os,rfl⟩:fG w _).ar)
 have HF:Hid (∀w',fG w w'→Calls Tryz.prog 188 #[aO j.g,ah (aZ l n:Nat),ah n] w' fun e ky=>e= .returned (ah 0)∧iA ky j.g j.eb (l.length+1) (bm (cu S n) (aZ l n) n)∧af (ra j.g j.eb) w' ky):=
  ae fun w' hw=>iW w' (h.sp.keep hw.ar) aj hn
 have aY:=ae h.ak.lt;have HC:=ae<|fun w' (hw:fG w w')=>h.keep hw.ar;have x1:=h.c1;clear h ht;generalize bm (cu S n) (aZ l n) n=S' at *;generalize bK l O n j.t=P at *;generalize(S (aZ l n)).length=L at *;generalize aZ l n=r at *;have mixed:Tryz.prog.follows .mixedOrders=true:=by kernel_rfl
 go_enter Tryz.func179,Tryz.ntmps179
 go_upto_region 7 with(first|(go_at_call 122;refine HT.mono ?_;rintro e W1 ⟨rfl,aK⟩)|(go_at_call 184;refine(HU _ aK).mono ?_;rintro e W2 ⟨rfl,rfl⟩));have x1':=(HC _ aK).c1;go_upto_region 8 with(go_at_call 139;refine(HR _ aK).mono ?_;rintro e W3 ⟨rfl,bV⟩);have bI:=ae<|aK.trans bV;have MZ:j.p<W3.heap.size:=(HC _ bI).ak.lt;have y0:=fun k os=>cell_grown (w:=W3) (a:=⟨j.p,0,none⟩) MZ (HC _ bI).c0 k os
 have y1:=fun k os=>cell_grown (w:=W3) (a:=⟨j.p,1,none⟩) MZ (HC _ bI).c1 k os
 have y2:=fun k os=>cell_grown (w:=W3) (a:=⟨j.p,2,none⟩) MZ (HC _ bI).c2 k os
 generalize((j.t+1:Nat):Int)=t1 at *;clear x1 x1' aK bV MZ
 go_quiet_grown (first|(go_at_call 135;refine Calls.grown_of (HP _ bI _ _))|(go_at_call 185;refine Calls.grown_of (HL _ bI _ _)))
 have cr:=ae<|bI.trans (show fG W3 (Sort.grow (W3.drewN nq) osq)from⟨nq,osq,rfl⟩);have z0:=y0 nq osq;go_wp2_with (go_at_call 188;refine(HF _ cr).mono ?_;rintro e W5 ⟨rfl,h1,h2⟩)
 go_ret3
 exact⟨rfl,h1,(cr.ar.mono fun _ hk=>hk.elim).trans h2⟩
theorem Af {n m:Nat}(w:World)(h:kO w j blocks q l O S)(hn:n<64)(hb:∀r,(n:Int)∉S r)(ht:0<bK l O n j.t)(BJ:bK l O n j.t≤((S (aZ l n)).length:Int))(hm:fq l S (aZ l n) n=m)(hmS:(m:Int)∈S (aZ l n)):
 Calls Tryz.prog 179 #[aO j.p,ah n] w fun e w'=>e= .returned (.tuple #[ah m,.bool true,ah 0])∧iA w' j.g j.eb (l.length+1) (bm (cu (cu S m) n) (aZ l n) n)∧af (ra j.g j.eb) w w':=by
 have HT:=qF n w h;rw[decide_eq_true ht]at HT;have HT:=ae HT;have hr:=vM ht;have HU:Hid (∀w',fG w w'→Calls Tryz.prog 184 #[aO j.p,ah n] w' fun e ky=>e= .returned (.bool false)∧w'=ky):=
  ae fun w' hw=>wq w' (h.keep hw.ar) hb
 have HR:Hid (∀w',fG w w'→Calls Tryz.prog 139 #[aO j.i.pb,ah n] w' fun e ky=>e= .returned (.tuple #[ah (aZ l n:Nat),.bool true])∧fG w' ky):=
  ae fun w' hw=>by
   exact mO
 have HL:Hid (∀w',fG w w'→∀k os,Calls Tryz.prog 185 #[aO j.g,ah (aZ l n:Nat)] (Sort.grow (w'.drewN k) os) fun e ky=>e= .returned (ah (S (aZ l n)).length)∧∃q EX,ky=Sort.grow ((Sort.grow (w'.drewN k) os).drewN q) EX):=
  ae fun w' hw k os=>(my _ _ (h.sp.keep (hw.trans ⟨k,os,rfl⟩:fG w _).ar) aj).mono fun e ky ⟨h1,h2⟩=>⟨h1,h2▸fG.refl _⟩
 have HP:Hid (∀w',fG w w'→∀k os,Calls Tryz.prog 135 #[aO j.i.pb,ah n,ah ((j.t+1:Nat):Int)] (Sort.grow (w'.drewN k) os) fun e ky=>e= .returned (ah (bK l O n j.t))∧∃q EX,ky=Sort.grow ((Sort.grow (w'.drewN k) os).drewN q) EX):=
  ae fun w' hw k os=>vK n h.t3 _ (h.pl.keep (hw.trans ⟨k,os,rfl⟩:fG w _).ar)
 have HG:Hid (∀w',fG w w'→Calls Tryz.prog 186 #[aO j.p,ah (aZ l n:Nat),ah n] w' fun e ky=>e= .returned (ah m)∧fG w' ky):=
  ae fun w' hw=>by
   have:=L6 (r:=aZ l n) (b:=n) w' (h.keep hw.ar) aj (List.ne_nil_of_mem hmS);rw[hm]at this;exact this
 have HM:Hid (∀w',fG w w'→Calls Tryz.prog 187 #[aO j.g,ah m] w' fun e ky=>e= .returned (ah 0)∧iA ky j.g j.eb (l.length+1) (cu S m)∧af (ra j.g j.eb) w' ky):=
  ae fun w' hw=>ku w' (h.sp.keep hw.ar) hmS
 have HF:Hid (∀w',iA w' j.g j.eb (l.length+1) (cu S m)→Calls Tryz.prog 188 #[aO j.g,ah (aZ l n:Nat),ah n] w' fun e ky=>e= .returned (ah 0)∧iA ky j.g j.eb (l.length+1) (bm (cu (cu S m) n) (aZ l n) n)∧af (ra j.g j.eb) w' ky):=
  ae fun w' hw=>iW w' hw aj hn
 have HZ:Hid (∀w' ky,fG w w'→af (ra j.g j.eb) w' ky→aM ky j.p 0 (aO j.g)):=ae fun w' ky hw ho=>by
  have h2:=h.keep hw.ar;have NK:j.p≠j.g:=by
   obtain⟨N,E,hm,_⟩:=h2.sp;exact h2.ak.off hm.1 aE
  have hd2:j.p≠j.eb:=by
   obtain⟨N,E,hm,_⟩:=h2.sp;exact h2.ak.off hm.2 aE
  exact ho.cell h2.c0 (by rintro(e|e)<;>contradiction)
 have aY:=ae h.ak.lt;have HC:=ae<|fun w' (hw:fG w w')=>h.keep hw.ar;have x1:=h.c1;clear h ht hm hmS;generalize bm (cu (cu S m) n) (aZ l n) n=S' at *;generalize cu S m=S1 at *;generalize bK l O n j.t=P at *;generalize(S (aZ l n)).length=L at *;generalize aZ l n=r at *;have mixed:Tryz.prog.follows .mixedOrders=true:=by kernel_rfl
 go_enter Tryz.func179,Tryz.ntmps179
 go_upto_region 7 with(first|(go_at_call 122;refine HT.mono ?_;rintro e W1 ⟨rfl,aK⟩)|(go_at_call 184;refine(HU _ aK).mono ?_;rintro e W2 ⟨rfl,rfl⟩));have x1':=(HC _ aK).c1;go_upto_region 8 with(go_at_call 139;refine(HR _ aK).mono ?_;rintro e W3 ⟨rfl,bV⟩);have bI:=ae<|aK.trans bV;have MZ:j.p<W3.heap.size:=(HC _ bI).ak.lt;have y0:=fun k os=>cell_grown (w:=W3) (a:=⟨j.p,0,none⟩) MZ (HC _ bI).c0 k os
 have y1:=fun k os=>cell_grown (w:=W3) (a:=⟨j.p,1,none⟩) MZ (HC _ bI).c1 k os
 have y2:=fun k os=>cell_grown (w:=W3) (a:=⟨j.p,2,none⟩) MZ (HC _ bI).c2 k os
 generalize((j.t+1:Nat):Int)=t1 at *;clear x1 x1' aK bV MZ
 go_quiet_grown (first|(go_at_call 135;refine Calls.grown_of (HP _ bI _ _))|(go_at_call 185;refine Calls.grown_of (HL _ bI _ _)))
 have cr:=ae<|bI.trans (show fG W3 (Sort.grow (W3.drewN nq) osq)from⟨nq,osq,rfl⟩);have z0:=y0 nq osq;go_upto_region 10 with(go_at_call 186;refine(HG _ cr).mono ?_;rintro e W5 ⟨rfl,fz⟩);have ek:=ae<|cr.trans fz;have z5:=(HC _ ek).c0;go_upto_region 11 with(go_at_call 187;refine(HM _ ek).mono ?_;rintro e W6 ⟨rfl,h61,h62⟩);have z6:=HZ.out _ _ ek h62;go_wp2_with (go_at_call 188;refine(HF _ h61).mono ?_;rintro e W7 ⟨rfl,h1,h2⟩)
 go_ret3
 exact⟨rfl,h1,((ek.ar.mono fun _ hk=>hk.elim).trans h62).trans h2⟩
end
theorem Le:(Tryz.prog.info? 233).map (fun i=>(i.zero,i.size,i.bytes))=some (some (.agg #[ah 0,ah 0,ah 0,ah 0]),4,32):=by kernel_rfl
def PCl (n:Nat)(w:World)(e:Ending)(w':World):Prop:=(∃A c,e= .returned (.slice A n c))∧af au w w'
section
theorem Em {ob n:Nat}{O:Nat→Nat→Int}(w:World)(h:Box w ob 233 (kY n O))(hl:n≤100):Calls Tryz.prog 133 #[bp ob n n] w (PCl n w):=by
 have he:=fun w=>Lib.run_eql_slice_nil (P:=Tryz.prog) (w:=w)
 obtain⟨i0,hi,hz,hsz,iq⟩:=info_parts Le;have fW:af au w (w.alloc (.cells #[] 233)):=(af.ai _ _).alloc _;have bf:(w.alloc (.cells #[] 233)).ownsRow w.heap.size 233 4 (bp w.heap.size 0 0) 0 []:=⟨rfl,.inr ⟨w.heap.size,0,#[],rfl,dX _,Box.fresh w 233 #[],dX _,fH _,rfl,rfl⟩⟩;have lI:=ae bf;have Vz:Hid (∀j u,(kY n O).toList[j]? =some u→(w.alloc (.cells #[] 233)).cell? ((⟨ob,0,none⟩:Addr).add j)=some u):=ae fun j u hj=>by
  rw[Addr.add_lit,Nat.zero_add];exact(fW.ak h id).ag (by simpa using hj)
 have Dt:=ae fW;have rC:Hid (∀u∈(kY n O).toList,u.oneCell'=true):=ae fun u hu=>by
  unfold kY at hu;simp at hu;obtain⟨k,rfl⟩:=hu;rfl
 have lh:Hid ((kY n O).toList.length=n*4):=ae (by unfold kY;simp);have HL:=ae hl;have HI:=ae hi;have HZ:=ae hz;have HS:=ae hsz;have HB:=ae iq;clear bf fW h hl hi hz hsz iq
 go_enter Tryz.func133,Tryz.ntmps133
 go_wp2_with (at_builtin;refine wpList_append_own_at (w.alloc (.cells #[] 233)) rfl (.tmp 5) (.tmp 6) 189 rfl w.heap.size 233 i0 _ 4 32 Tryz.underlying189 HI HZ HS HB rfl aE _ 0 [] rfl lI ⟨ob,0,none⟩ n n (kY n O).toList rfl lh Vz rC jT eZ (by rw[World.size_alloc];omega) ?_;intro v' w1 h2 h3 h4 h5;have H2:=ae h2;have H3:=ae h3;clear h2 h3 h4 h5);go_ret;have h2:=H2.out;rw[Nat.zero_add]at h2;obtain⟨A',c',rfl,_,_⟩:=iV h2;exact⟨⟨A',c',rfl⟩,Dt.aG ((af.ai _ _).grown (S:=fun k=>w.heap.size≤k) H3 fun k hk=>.inl (by
  have:w.heap.size=k:=aD.1 hk;omega)) fun k hk=>.inr hk⟩
theorem B0 {i:kT}{blocks:Int}{q:Nat→Int}{l:List aH}{O:Nat→Nat→Int}(w:World)(h:gW w i blocks q l O):Calls Tryz.prog 113 #[aO i.pb] w (PCl l.length w):=by
 have HC:=ae<|Em w h.prt (by have:=h.hP.2.2;omega);have x5:aM w i.pb 5 (bp i.ob l.length l.length):=h.ak.ag rfl;clear h
 go_enter Tryz.func113,Tryz.ntmps113
 go_wp2_with (go_at_call 133;refine HC.mono ?_;rintro e W1 ⟨⟨A,c,rfl⟩,ho⟩);go_ret;exact⟨⟨A,c,rfl⟩,ho⟩
end
def z4:Array Value:=#[ah 0,ah 0,ah 0,ah 0]
theorem Y5 (m:Nat):madeCells z4 (m*4)=kY m (fun _ _=>0):=by
 refine Array.ext (by simp[madeCells,kY]) fun i h1 h2=>?_
 simp only[madeCells,kY,Array.getElem_map,Array.getElem_range,Array.getElem_ofFn];have h3:i % 4<4:=Nat.mod_lt _ aE
 show z4[i % 4]! =ah 0
 generalize i % 4=j at *;rcases(show j=0∨j=1∨j=2∨j=3 by omega)with rfl|rfl|rfl|rfl<;>rfl
theorem Ig (m:Nat)(hm:m≤40)(w:World):(Instr.makeSlice 189 (ah m) (ah m)).run Tryz.prog w= .ok (bp w.heap.size m m) (w.alloc (.cells (kY m (fun _ _=>0)) 233)):=by
 obtain⟨i,hi,Nx⟩:=Option.map_eq_some_iff.1 Le;simp only[Prod.mk.injEq]at Nx;obtain⟨hz,hs,hb⟩:=Nx;have:=run_make (P:=Tryz.prog) w 189 233 i _ Tryz.underlying189 hi hz .i64 .i64 m m aj (Int.le_refl _) (by rw[hb];omega) aj;rw[hs]at this;rw[this,←Y5];rfl
def eM (c:Nat→Int):Array Value:=#[ah (c 0),ah (c 1),ah (c 2)]
theorem F5 (c:Nat→Int){t:Nat}(ht:t<3):(eM c)[t]? =some (ah (c t)):=by
 rcases(show t=0∨t=1∨t=2 by omega)with rfl|rfl|rfl<;>rfl
theorem MM (c:Nat→Int){t:Nat}(ht:t<3)(v:Int):(eM c).setIfInBounds t (ah v)=eM (fun x=>if x=t then v else c x):=by
 rcases(show t=0∨t=1∨t=2 by omega)with rfl|rfl|rfl<;>simp[eM]
def M5 (p:Int×Int):List Value:=[ah p.1,ah p.2]
theorem P3 (p:Int×Int):(M5 p).length=2:=rfl
theorem Iw {w:World}{base:Nat}{v:Value}{L:gO}(h:w.ownsRow base 239 2 v L.length (L.flatMap M5)):∃A c,v= .slice A L.length c∧iF w A L.length c L:=by
 rcases h.2 with⟨e,h0⟩|⟨g,cap,cur,e,hb,hg,hn,hm,hs,ht⟩
 ·rw[h0];exact⟨none,0,e,⟨h0.symm,fH _,fH _,fun i hi=>by omega⟩⟩
 ·refine⟨some ⟨g,0,none⟩,cap,e,⟨rfl,hn,hm,fun i hi=>?_⟩⟩;have key:∀j u,j<2→(M5 (L.getD i default))[j]? =some u→aM w g (0+i*2+j) u:=fun j u hj hu=>by
   have hc:=h.cells (g:=g) (by rw[e];rfl) (i*2+j) u (by rw[sJ M5 2 default P3 L i j hi hj];exact hu);rw[Addr.add_lit,←Nat.add_assoc]at hc;exact hc
  exact⟨g,0,rfl,(Array.getElem?_eq_some_iff.1 hg).1,key 0 _ aE rfl,key 1 _ aE rfl⟩
theorem bG (l:List aH):(bn l).length=l.length:=by simp[bn]
theorem qI (l:List aH){i:Nat}(hi:i<l.length):(bn l).getD i default=((l.getD i default).often,(l.getD i default).size):=by
 simp[bn,hi]
theorem tM {blocks:Int}{l:List aH}(h:cT blocks l):iE (bn l):=fun i hi=>by
 rw[bG]at hi;have:=h.1 i hi;unfold Aj at this;rw[qI l hi];exact⟨aj,aj,by show 0<(l.getD i default).size;omega,by show(l.getD i default).size≤_;omega⟩
theorem kv (l:gO):∀x∈a8 l,x<l.length:=by
 intro x hx
 cases h:l.length with
 |zero=>rw[iY h]at hx;cases hx
 |succ m=>
  rw[iZ h,List.mem_map]at hx;obtain⟨a,_,rfl⟩:=hx;exact a.isLt
def fV (l:List aH)(s:tf)(i k:Nat):tf:=(List.range k).foldl (dB i) {s with left:=(l.getD i default).size}
theorem ES (l:List aH)(s:tf)(i:Nat):fV l s i 0= {s with left:=(l.getD i default).size}:=rfl
theorem rZ (l:List aH)(s:tf)(i k:Nat):fV l s i (k+1)=dB i (fV l s i k) k:=by
 unfold fV;rw[List.range_succ,List.foldl_append];rfl
def eN (l:List aH)(q:Nat→Int)(ord:List Nat)(k:Nat):tf:=(ord.take k).foldl (iM l) ⟨q,fun _ _=>0,0⟩
theorem mG (l:List aH)(q:Nat→Int)(ord:List Nat){k:Nat}(hk:k<ord.length):eN l q ord (k+1)=iM l (eN l q ord k) (ord.getD k 0):=by
 unfold eN;rw[List.take_succ_eq_append_getElem hk,List.foldl_append];simp[hk]
theorem iI (l:List aH)(s:tf)(i:Nat):iM l s i= {fV l s i 3 with o:=fun r x=>if r=i∧x=3 then(fV l s i 3).left else(fV l s i 3).o r x}:=rfl
structure Tr (s:tf):Prop where
 c:∀x,x<3→0≤s.c x∧s.c x≤16
 l0:0≤s.left
 l1:s.left≤32
theorem Ji {s:tf}(h:Tr s)(i:Nat){t:Nat}(ht:t<3):Tr (dB i s t):=by
 have h1:=h.c t ht;have h2:=h.l0;have h3:=h.l1;refine⟨fun x hx=>?_,?_,?_⟩
 ·unfold dB;dsimp only
  split
  ·omega
  ·exact h.c x hx
 ·unfold dB;dsimp only;omega
 ·unfold dB;dsimp only;omega
theorem vY {l:List aH}{s:tf}{i:Nat}(h:∀x,x<3→0≤s.c x∧s.c x≤16)(hs:0≤(l.getD i default).size∧(l.getD i default).size≤32):∀{k:Nat},k≤3→Tr (fV l s i k)
 |0,_=>⟨h,hs.1,hs.2⟩
 |k+1,hk=>by rw[rZ];exact Ji (vY h hs aj) i aj
theorem sX {blocks:Int}{l:List aH}(hP:cT blocks l){q:Nat→Int}(hq:∀x,x<3→0≤q x∧q x≤16){ord:List Nat}(ho:∀x∈ord,x<l.length):∀k,∀x,x<3→0≤(eN l q ord k).c x∧(eN l q ord k).c x≤16
 |0,x,hx=>hq x hx
 |k+1,x,hx=>by
  by_cases hk:k<ord.length
  ·rw[mG l q ord hk,iI];have hm:=ho (ord.getD k 0) (by simp[hk]);have hh:=hP.1 _ hm;unfold Aj at hh;exact(vY (sX hP hq ho k) ⟨aj,aj⟩ (dX 3)).c x hx
  ·have:eN l q ord (k+1)=eN l q ord k:=by unfold eN;rw[List.take_of_length_le aj,List.take_of_length_le aj]
   rw[this];exact sX hP hq ho k x hx
def Uf (l:List aH)(q:Nat→Int)(w:World)(e:Ending)(w':World):Prop:=
 ∃ob,e= .returned (bp ob l.length l.length)∧Box w' ob 233 (kY l.length (fJ l q))∧w.heap.size≤ob∧af au w w'
def Zz (l:List aH)(w:World)(f i:Value)(wr:World):Prop:=
 ∃k:Nat,k≤l.length∧i=ah k∧wr.ownsRow w.heap.size 239 2 f k (((bn l).take k).flatMap M5)∧af au w wr
def Duo (a b:Nat):Nat→Prop:=fun k=>k=a∨k=b
def Zy (l:List aH)(q:Nat→Int)(cb ob:Nat)(w:World)(i:Value)(wr:World):Prop:=
 ∃k:Nat,k≤l.length∧i=ah k∧Box wr cb 22 (eM (eN l q (a8 (bn l)) k).c)∧Box wr ob 233 (kY l.length (eN l q (a8 (bn l)) k).o)∧af (Duo cb ob) w wr
def Zx (l:List aH)(s:tf)(r cb ob:Nat)(w:World)(lf t:Value)(wr:World):Prop:=
 ∃k:Nat,k≤3∧t=ah k∧lf=ah (fV l s r k).left∧Box wr cb 22 (eM (fV l s r k).c)∧Box wr ob 233 (kY l.length (fV l s r k).o)∧af (Duo cb ob) w wr
theorem TN:(Tryz.prog.info? 239).map (fun i=>(i.zero,i.size,i.bytes))=some (some (.agg #[ah 0,ah 0]),2,16):=by kernel_rfl
theorem Cm {w:World}{cb ob n r t:Nat}{s:tf}(hb:Box w cb 22 (eM s.c))(hp:Box w ob 233 (kY n s.o))(ht:t<3)(hr:r<n)(hne:¬ob=cb)(m d:Int)(hm:m=min s.left (s.c t))(hd:d=s.c t - m):
 Box ((w.setCell ⟨ob,r*4+t,none⟩ (ah m)).setCell ⟨cb,t,none⟩ (ah d)) cb 22 (eM (dB r s t).c)∧
 Box ((w.setCell ⟨ob,r*4+t,none⟩ (ah m)).setCell ⟨cb,t,none⟩ (ah d)) ob 233 (kY n (dB r s t).o):=by
 constructor
 ·have h1:=(hb.q7 (p:=⟨ob,r*4+t,none⟩) (fun e=>hne (show cb=ob from e).symm) (ah m)).store t (ah d);rw[MM _ ht,hd,hm]at h1;rw[hd,hm];exact h1
 ·have h1:=(hp.store (r*4+t) (ah m)).q7 (p:=⟨cb,t,none⟩) hne (ah d);rw[zJ n _ hr aj,hm]at h1;rw[hm];exact h1
section
theorem nL{P:Prop}(h:P:=by
 go_wp2
 go_roundw
 case rel=>
  refine⟨t+1,AF,by go_num,?_,?_,?_,?_⟩
  ·rw[HTS.out];unfold dB;dsimp only;rw[AL.out,XE.out]
  ·rw[HTS.out];exact(Cm N3 St AF JH hne _ _ (by rw[AL.out,XE.out];try omega) (by rw[XE.out];try omega)).1
  ·rw[HTS.out];exact(Cm N3 St AF JH hne _ _ (by rw[AL.out,XE.out];try omega) (by rw[XE.out];try omega)).2
  ·exact(pz.setCell (p:=⟨ob,r*4+t,none⟩) (.inl (.inr rfl)) _).setCell (p:=⟨cb,t,none⟩) (.inl (.inl rfl)) _
 case measure=>simp[intOf];have:=AF.out;omega):P:=h
theorem mZ{P:Prop}(h:P:=by
 unfold eN BL;rw[List.take_of_length_le (by rw[dW,bG];exact dX _)]):P:=h
theorem fg{P:Prop}(h:P:=by rw[e];exact aD.2 rfl):P:=h
theorem Ah {A:Option Addr}{n c:Nat}{blocks:Int}{l:List aH}{q:Nat→Int}(w:World)(bL:aX w A n c l)(hP:cT blocks l)(hq:∀t,t<3→0≤q t∧q t≤16):
 Calls Tryz.prog 132 #[.slice A n c,.agg (eM q)] w (Uf l q w):=by
 obtain rfl:=bL.len;have H:=ae bL;have HP:=ae hP;have HQ:=ae hq;have Fk:=ae<|tM hP;have E6:=hP.2.2;have HN8:=ae E6;clear bL hP hq
 go_enter Tryz.func132,Tryz.ntmps132
 go_upto_region 1 with fail;have HB:=ae<|Box.fresh w 22 (eM q);have HO:=ae<|(af.ai au w).alloc (.cells (eM q) 22);have AO:=ae<|dX w.heap.size;have H1:=ae<|H.keep HO;change Code.wp _ _ _ _ (w.alloc (.cells (eM q) 22));generalize w.alloc (.cells (eM q) 22)=W at *;obtain⟨cb,jV⟩:∃cb,cb=w.heap.size:=⟨_,rfl⟩;rw[←jV]at HB ⊢;have AO:=aq (w.heap.size≤cb) (Nat.le_of_eq jV.symm);clear jV;go_upto_region 3 with fail
 go_loopw [5,18] (fun f i wr=>Zz l W f i wr) (fun _ i _=>l.length - (intOf i).toNat)
 case atStart=>exact⟨0,fH _,rfl,World.ownsRow_nil _ _ _ _,af.ai _ _⟩
 case round=>
  obtain⟨k,hk,rfl,bf,ho⟩:=hrel;have lI:=ae bf;have Nf:=ae ho;clear bf ho
  by_cases aY:k<l.length
  ·obtain⟨g,o,rfl,hgl,x0,x1,x2,x3⟩:=(H1.keep Nf).at_ k aY;have HFR:=ae<|qI l aY;have jk:(k:Int)<l.length:=aj;have cD:=ae aY;clear aY hk;generalize(l.getD k default).fr=a0 at *;generalize(l.getD k default).size=a1 at *;generalize(l.getD k default).often=a2 at *;generalize(l.getD k default).loop=a3 at *;go_upto_region 5 with(refine iP #[ah a0,ah a1,ah a2,.bool a3] (Box.fresh wr 100 zH) aU ?_);have bq:af au wr ((wr.alloc (.cells zH 100)).setRow wr.heap.size #[ah a0,ah a1,ah a2,.bool a3]):=((af.ai au wr).alloc _).aw (.inr (dX _)) _;have ez:=(Box.fresh wr 100 zH).aw #[ah a0,ah a1,ah a2,.bool a3];have abo:=ae<|fR lI bq fun _ _=>id;have abt:=ae<|Nf.trans bq;change Code.wp _ _ _ _ ((wr.alloc (.cells zH 100)).setRow wr.heap.size #[ah a0,ah a1,ah a2,.bool a3]);clear bq x0 x1 x2 x3 Nf;generalize(wr.alloc (.cells zH 100)).setRow wr.heap.size #[ah a0,ah a1,ah a2,.bool a3]=W2 at *;have y1:aF W2 wr.heap.size 1 a1:=ez.ag rfl;have y2:aF W2 wr.heap.size 2 a2:=ez.ag rfl;have fW:af au W2 (W2.alloc (.cells #[ah a2,ah a1] 239)):=(af.ai _ _).alloc _;have hG:=aq (∀j u,(M5 (a2,a1))[j]? =some u→(W2.alloc (.cells #[ah a2,ah a1] 239)).cell? ((⟨W2.heap.size,0,none⟩:Addr).add j)=some u) (fun j u hj=>by
    rw[Addr.add_lit,Nat.zero_add];exact(Box.fresh W2 239 #[ah a2,ah a1]).ag (by rw[←Array.getElem?_toList];exact hj))
   have Ys:=ae<|fR abo fW fun _ _=>id;have Yt:=ae<|abt.trans fW;have lh:=ae Yt.size;clear ez fW;go_wp2_with (at_builtin;refine fE _ rfl (.tmp 22) (.tmp 28) 237 239 rfl TN rfl aE Tryz.underlying237 W.heap.size u5 k _ (M5 (a2,a1)) rfl Ys ⟨W2.heap.size,0,none⟩ rfl rfl hG (by simp[M5,Value.oneCell']) (by unfold maxLen;have:=cD.out;have:=HN8.out;omega) (by have:=cD.out;have:=HN8.out;omega) lh ?_;intro v' w1 rk R9 _)
   go_roundw
   case rel=>
    refine⟨k+1,cD,by go_num,?_,Yt.aG R9 fun j hj=>.inr (World.ownsRow.lt Ys j hj).1⟩;rw[List.take_succ_eq_append_getElem (by rw[bG];exact cD.out),List.flatMap_append];have:=HFR.out;rw[List.getD_eq_getElem?_getD,List.getElem?_eq_getElem (by rw[bG];exact cD.out),Option.getD_some]at this;rw[this];simpa using rk
   case measure=>simp[intOf];have:=cD.out;omega
  ·obtain rfl:k=l.length:=aj;clear aY hk;rw[List.take_of_length_le (by rw[bG];exact dX _)]at lI;have hlen:=bG l;rw[←hlen]at lI;obtain⟨FA,fc,efr,M0⟩:=Iw lI;rw[hlen]at efr M0;have HW:=ae<|DW wr M0 Fk (by rw[hlen];omega);have OJ:=ae Nf;clear hlen lI M0;subst efr;go_upto_region 8 with(go_at_call 138;refine HW.mono ?_;rintro e W4 ⟨ov,rfl,hov,ey⟩);have hol:((a8 (bn l)).map Int.ofNat).length=l.length:=by rw[List.length_map,dW,bG]
   obtain⟨OA,oc,eo,_⟩:=hov.shape;rw[hol]at eo;have HOV:=ae hov;have HOL:=ae hol;subst eo;clear hov hol HW;have tc:=Ig l.length aj W4;have ek:=ae<|(OJ.trans ey).alloc (.cells (kY l.length (fun _ _=>0)) 233);have GN:=ae<|(af.ai au W4).alloc (.cells (kY l.length (fun _ _=>0)) 233);have NU:=ae<|Box.fresh W4 233 (kY l.length (fun _ _=>0));have HIV:=ae<|eF.keep HOV.at GN fun _ _ _ _ _=>id;have Di:=aq (W.heap.size≤W4.heap.size∧(∀k,aJ (.slice OA l.length oc) k→wr.heap.size≤k∧k<W4.heap.size)) (⟨(OJ.trans ey).size,fun k hk=>HOV.lt k hk⟩);have HWR:=ae OJ.size;clear ey OJ;go_upto_region 9 with fail;change Code.wp _ _ _ _ (W4.alloc (.cells (kY l.length (fun _ _=>0)) 233));generalize W4.alloc (.cells (kY l.length (fun _ _=>0)) 233)=W5 at *;generalize W4.heap.size=ob at *;clear tc;have Tm:=ae HB.lt;have Km:=ae<|ek.ak HB id;go_upto_region 10 with fail
   go_loopw [41] (fun i wx=>Zy l q cb ob W5 i wx) (fun i _=>l.length - (intOf i).toNat)
   case atStart=>exact⟨0,fH _,rfl,Km,NU,af.ai _ _⟩
   case round=>
    obtain⟨k,hk,rfl,hb6,hp6,fI⟩:=hrel;have xb:=ae hb6;have HP6:=ae hp6;have iu:=ae fI;clear hb6 hp6 fI
    by_cases aY:k<l.length
    ·have NF:k<(a8 (bn l)).length:=by rw[dW,bG];exact aY
     have V9:=kv (bn l) ((a8 (bn l)).getD k 0) (by simp[NF]);rw[bG]at V9;have Vj:=ae<|mG l q (a8 (bn l)) NF;obtain⟨g5,o5,rfl,x5⟩:=(HIV.keep iu fun g o n c e hd=>by
      have:=Di.2 g fg;have:=AO.out;have:=Tm.out;have:=HWR.out;rcases hd with hd|hd<;>omega).ag (i:=k) (by rw[HOL.out];exact aY)
     have exv:((a8 (bn l)).map Int.ofNat).getD k 0=(((a8 (bn l)).getD k 0:Nat):Int):=by simp[NF]
     rw[exv]at x5;have abN:=ae ((HO.trans ek).aG iu (fun b hb=>.inr (by
      have:=AO.out;have:=Di.1;have:=HO.size;rcases hb with hb|hb<;>omega)))
     obtain⟨g,o,rfl,hgl,y0,y1,y2,y3⟩:=(H.keep abN).at_ _ V9;have bN:=HP.1 _ V9;unfold Aj at bN;have abl:=ae<|sX HP HQ (fun x hx=>by have:=kv (bn l) x hx;rwa [bG]at this) k;generalize(a8 (bn l)).getD k 0=r at *;have lh:=aq (0≤(l.getD r default).size∧(l.getD r default).size≤32) (⟨aj,aj⟩);have HZQ:=ae<|ES l (eN l q (a8 (bn l)) k) r;have UL:(r:Int)<l.length:=aj;have jk:(k:Int)<l.length:=aj;have cD:=ae aY;have JH:=ae V9;clear bN exv NF aY V9 hk y0 y2 y3;generalize hps:eN l q (a8 (bn l)) k=s at *;have HPS:=ae hps;clear hps;go_upto_region 14 with fail
     go_loopw [13,50] (fun lf t wx=>Zx l s r cb ob W5 lf t wx) (fun _ t _=>3 - (intOf t).toNat)
     case atStart=>exact⟨0,aj,rfl,by rw[HZQ.out];simp,by rw[HZQ.out];exact xb,by rw[HZQ.out];exact HP6,iu⟩
     case round=>
      obtain⟨t,ht,rfl,rfl,U4,hp7,l4⟩:=hrel;have N3:=ae U4;have St:=ae hp7;have pz:=ae l4;clear U4 hp7 l4
      by_cases R1:t<3
      ·have Ob:=vY abl lh ht;have h1:=Ob.c t R1;have h2:=Ob.l0;have h3:=Ob.l1;have HTS:=ae<|rZ l s r t;have z1:=N3.ag (F5 _ R1);have z1f:=N3.free t;have z2:=St.ag (vB l.length (fV l s r t).o JH (show t<4 by omega));have z2f:=St.free (r*4+t);have hne:¬ob=cb:=by have:=Tm.out;have:=Di.1;omega
       have Kv:¬cb=ob:=fun e=>hne e.symm
       have hti:(t:Int)<3:=aj;have ack:(t:Int)<4:=aj;have AF:=ae R1;clear R1 ht Ob;generalize hcs:(fV l s r t).c t=cs at *;generalize hls:(fV l s r t).left=ls at *;have XE:=ae hcs;have AL:=ae hls;clear hcs hls
       by_cases acs:cs<ls
       ·exact nL
       ·exact nL
      ·obtain rfl:t=3:=aj;clear R1 ht;have hne:¬ob=cb:=by have:=Tm.out;have:=Di.1;omega
       have z2:=St.ag (vB l.length (fV l s r 3).o JH (show 3<4 by omega));have z2f:=St.free (r*4+3);go_wp2
       go_roundw
       case rel=>
        refine⟨k+1,cD,by go_num,?_,?_,?_⟩
        ·rw[Vj.out,iI];exact N3.q7 (fun e=>hne (show cb=ob from e).symm) _
        ·rw[Vj.out,iI];have h1:=St.store (r*4+3) (ah (fV l s r 3).left);rw[zJ l.length _ JH.out (show 3<4 by omega)]at h1;exact h1
        ·exact pz.setCell (p:=⟨ob,r*4+3,none⟩) (.inl (.inr rfl)) _
       case measure=>simp[intOf];have:=cD.out;omega
    ·obtain rfl:k=l.length:=aj;clear aY hk;go_wp2_with fail;go_ret;refine⟨ob,rfl,?_,Nat.le_trans HO.size Di.1,?_⟩
     ·have h1:=HP6.out;have e:eN l q (a8 (bn l)) l.length=BL l q (a8 (bn l)):=by
       exact mZ
      rw[e]at h1;exact h1
     ·exact(HO.trans ek).aG iu (fun b hb=>.inr (by
       have:=AO.out;have:=Di.1;have:=HO.size;rcases hb with hb|hb<;>omega))
end
def b9 (S:Nat→List Int)(k:Nat):List Int:=(List.range k).flatMap S
theorem fD (S:Nat→List Int)(k:Nat):b9 S (k+1)=b9 S k ++ S k:=by unfold b9;rw[List.range_succ,List.flatMap_append];simp
theorem yh {S:Nat→List Int}(h:∀r,(S r).length≤64):∀k,(b9 S k).length≤64*k
 |0=>by simp[b9]
 |k+1=>by rw[fD,List.length_append];have:=yh h k;have:=h k;omega
def Zo (w W:World)(n:Nat)(S:Nat→List Int)(v i:Value)(wr:World):Prop:=∃k:Nat,k≤n∧i=ah k∧aA 3 wr w.heap.size v (b9 S k)∧af au w wr
section
variable {j:pM}{blocks:Int}{q:Nat→Int}{l:List aH}{O:Nat→Nat→Int}{S:Nat→List Int}
theorem Po (w:World)(h:kO w j blocks q l O S):Calls Tryz.prog 180 #[aO j.p] w fun e w'=>∃v,e= .returned v∧aA 3 w' w.heap.size v (b9 S l.length)∧af au w w':=by
 have HC:=ae<|B0 w h.pl;have h8:=h.pl.hP.2.2;have x1:=h.c1;have HH:=ae h;have XH:=aq (∀r,(S r).length≤64) (by obtain⟨N,E,hm,hr,_⟩:=h.sp;exact fun r=>hr.len r);clear h;generalize hn:l.length=n at *;have HN:=ae hn;clear hn
 go_enter Tryz.func180,Tryz.ntmps180
 go_wp2_with (go_at_call 113;refine HC.mono ?_;rintro e W1 ⟨⟨A,c,rfl⟩,aK⟩);have bc:=ae aK;clear HC x1 aK
 go_loopw [3,13] (fun v i wr=>Zo w W1 n S v i wr) (fun _ i _=>n - (intOf i).toNat)
 case atStart=>exact⟨0,fH _,rfl,aA.nil _ _ _,bc⟩
 case round=>
  obtain⟨k,hk,rfl,bf,ho⟩:=hrel;have lI:=ae bf;have HO:=ae ho;clear bf ho
  by_cases aY:k<n
  ·have jk:(k:Int)<n:=aj;have cD:=ae aY;have x0:=(HH.keep HO).c0;have HA:=ae<|zS wr (HH.keep HO).sp (i:=k) (by rw[HN.out];omega);have HL:=aq ((b9 S k).length+(S k).length≤1000000) (by have:=yh XH k;have:=XH.out k;omega);have HS:=ae HO.size;clear aY hk;go_wp2_with (first|(go_at_call 189;refine HA.mono ?_;rintro e W2 ⟨va,rfl,ha1,ha2⟩)|(at_builtin;refine iN _ rfl (.tmp 16) (.tmp 23) 47 3 rfl gp Tryz.underlying47 w.heap.size u3 (b9 S k) rfl (lI.ar ha2 fun _ _=>id) wr.heap.size va (S k) rfl ha1 HL (Nat.le_trans HS ha2.size) ?_;intro v' w1 rk R9))
   go_roundw
   case rel=>
    refine⟨k+1,cD,by go_num,by rw[fD];exact rk,(HO.trans ha2).aG R9 fun jj hj=>.inr (lI.lt jj hj).1⟩
   case measure=>simp[intOf];have:=cD.out;omega
  ·obtain rfl:k=n:=aj;clear aY hk;go_wp2_with fail;go_ret;exact⟨_,rfl,lI,HO⟩
end
def T2 (i:kT)(t:Nat)(blocks:Int)(q:Nat→Int)(l:List aH)(O:Nat→Nat→Int)(w:World)(e:Ending)(w':World):Prop:=
 ∃p g eb,e= .returned (.tuple #[aO p,ah 0])∧kO w' ⟨p,g,eb,i,t⟩ blocks q l O (fun _=>[])∧w.heap.size≤p∧w.heap.size≤g∧w.heap.size≤eb∧af au w w'
section
theorem Pn {i:kT}{t:Nat}{blocks:Int}{q:Nat→Int}{l:List aH}{O:Nat→Nat→Int}(w:World)(h:gW w i blocks q l O)(ht:t<3):
 Calls Tryz.prog 82 #[aO i.pb,ah ((t+1:Nat):Int)] w (T2 i t blocks q l O w):=by
 have HC:=ae<|B0 w h;have h8:=h.hP.2.2;have HH:=ae h;have HT:=ae ht;have Ju:¬((t+1:Nat):Int)<1:=aj;have ht2:¬(3:Int)<((t+1:Nat):Int):=aj;have ew:IntKind.i64.wrap ((l.length:Int)+1)=((l.length+1:Nat):Int):=by rw[IntKind.wrap_i64];omega
 have HN:=ae<|fun w=>zK (m:=l.length+1) w aj aj;clear h ht;generalize hq:((t+1:Nat):Int)=t1 at *;have HQ:=ae hq;clear hq
 go_enter Tryz.func82,Tryz.ntmps82
 go_wp2_with (first|(go_at_call 113;refine HC.mono ?_;rintro e W1 ⟨⟨A,c,rfl⟩,aK⟩)|(go_at_call 112;refine(HN _).mono ?_;rintro e W2 ⟨g,eb,rfl,h1,h2,h3,h4⟩));go_ret2;have wU:w.heap.size≤W1.heap.size:=aK.size;have uC:W1.heap.size≤W2.heap.size:=h4.size;have ho:=(aK.trans h4).alloc (.cells #[aO g,aO i.pb,ah t1] 199);refine⟨W2.heap.size,g,eb,rfl,⟨?_,h1.keep ((af.ai au W2).alloc _),HH.keep ho,HT⟩,Nat.le_trans wU uC,Nat.le_trans wU h2,Nat.le_trans wU h3,ho⟩;unfold XM;rw[HQ.out];exact Box.fresh _ _ _
end
end
end Go.Proofs.YtpcfhbeakecihaaGreat
