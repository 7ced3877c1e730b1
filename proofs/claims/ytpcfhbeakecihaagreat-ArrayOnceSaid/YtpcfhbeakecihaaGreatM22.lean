/- Lemmas. -/
import Derived.Test.YtpcfhbeakecihaaGreatM18
import Derived.Test.YtpcfhbeakecihaaGreatM21
set_option linter.all false
set_option maxHeartbeats 20000000
set_option maxRecDepth 100000
namespace Go.Proofs.YtpcfhbeakecihaaGreat
section
open Go.ChangeShapes Go.RowKit Go.Shelf Go.WideShapes
def bg (l:dU):List Nat:=
 match l.length with
 |0=>[]
 |m+1=>(Sort.insertionSort (ltOf fun(i k:Fin (m+1))=>dW l i.val k.val) (Array.ofFn fun i=>i) 0 (m+1)).toList.map Fin.val
section
variable {α:Type}[Inhabited α]{enc:α→Value}
theorem rI {w W:World}{g:Nat}{d:Array α}(hg:g<w.heap.size)(S:SW enc w g 0 d W):af (fun k=>k=g) w W:=by
 obtain⟨n,os,rfl⟩:=S;refine⟨rfl,rfl,rfl,?_,fun k hk hn=>?_⟩
 ·rw[show sortWorld enc w g 0 n d os=Sort.grow (Sort.putRow enc (Sort.ahead w n) g 0 d) os from rfl,Sort.size_grow,Sort.size_putRow];exact Nat.le_add_right _ _
 ·rw[show sortWorld enc w g 0 n d os=Sort.grow (Sort.putRow enc (Sort.ahead w n) g 0 d) os from rfl,Sort.heap_grow_old _ _ (by rw[Sort.size_putRow];exact hk)]
  show(w.heap.modify g _)[k]? =_
  rw[Array.getElem?_modify,if_neg (fun e=>hn e.symm)]
theorem A1 {w W:World}{base g cap:Nat}{cur:Array Value}{e:TypeId}{d d':Array α}(hg:w.heap[g]? =some (.cells cur e (0,0)))(hb:base≤g)(hn:d.size≤cap)(hm:cap≤maxLen)(hs:cur.size=cap*1)
 (hz:d'.size=d.size) (S:SW enc w g 0 d' W):W.ownsRow base e 1 (cS g d.size cap) d.size (d'.toList.map enc):=by
 have aO:g<w.heap.size:=(Array.getElem?_eq_some_iff.1 hg).1;refine⟨by simp[hz],.inr ⟨g,cap,Sort.putCells enc 0 d' cur,rfl,hb,?_,hn,hm,by simp[Sort.putCells,hs],?_⟩⟩
 ·obtain⟨n,os,rfl⟩:=S;rw[show sortWorld enc w g 0 n d' os=Sort.grow (Sort.putRow enc (Sort.ahead w n) g 0 d') os from rfl,Sort.heap_grow_old _ _ (by rw[Sort.size_putRow];exact aO)]
  show(w.heap.modify g _)[g]? =_
  rw[Array.getElem?_modify,if_pos rfl,hg];rfl
 ·rw[Nat.mul_one];apply List.ext_getElem?;intro j
  by_cases hj:j<d.size
  ·rw[List.getElem?_take_of_lt hj,List.getElem?_map];have h1:j<cur.size:=ai;have h2:j<d'.size:=ai;simp only[Sort.putCells,Array.getElem?_toList,Array.getElem?_mapIdx,Array.getElem?_eq_getElem h1,Array.getElem?_eq_getElem h2,Option.map_some];rw[if_pos ⟨eK _,ai⟩,getElem!_pos d' (j - 0) ai];rfl
  ·rw[List.getElem?_take_eq_none ai,List.getElem?_eq_none (by simp;omega)]
end
theorem aC.less {t:TypeId}{w:World}{base iy:Nat}{v:Value}{l:List Int}(h:aC t w base v l)(hb:iy≤base):aC t w iy v l:=by
 rcases h with⟨hlen,⟨rfl,h0⟩|⟨g,cap,cur,rfl,h1,h2⟩⟩
 ·exact⟨hlen,.inl ⟨rfl,h0⟩⟩
 ·exact⟨hlen,.inr ⟨g,cap,cur,rfl,Nat.le_trans hb h1,h2⟩⟩
theorem dn {l:dU}(h:l.length=0):bg l= []:=by
 unfold bg
 split
 ·rfl
 ·omega
theorem er {l:dU}{m:Nat}(h:l.length=m+1):bg l=(Sort.insertionSort (ltOf fun(i k:Fin (m+1))=>dW l i.val k.val) (Array.ofFn fun i=>i) 0 (m+1)).toList.map Fin.val:=by
 unfold bg
 split
 ·omega
 ·rename_i m' e
  obtain rfl:m'=m:=ai;rfl
theorem iW (l:dU):(bg l).length=l.length:=by
 cases h:l.length with
 |zero=>rw[dn h];rfl
 |succ m=>
  rw[er h,List.length_map,Array.length_toList,cF];simp
section
theorem o7 {A:Option Addr}{n c bx base:Nat}{l:dU}{v:Value}(w:World)(hx:ba w bx 0 (.slice A n c))(jY:bx<w.heap.size)(hF:cX w A n c l)(bG:eQ l)(hn:l.length<20)
 (bp:aC 3 w base v ((List.range l.length).map Int.ofNat)) (dq:bx<base) (dF:∀g o,A=some ⟨g,o,none⟩→0<l.length→g<base):
 Calls Tryz.prog 143 #[v,.func (.func 144) #[] #[aI bx]] w fun e w'=>e= .returned (.tuple #[])∧aC 3 w' base v ((bg l).map Int.ofNat)∧af (aJ v) w w':=by
 have J6:=bp.shape;rcases bp with⟨hlen,⟨rfl,h0⟩|⟨g,cap,cur,rfl,hb,hg,nZ,hm,hsz,Ab⟩⟩
 ·have h0:l.length=0:=by simpa using h0
  rw[dn h0];exact(kP none 0 _ w).mono fun e w' ⟨h1,h2⟩=>⟨h1,aC.nil _ _ _,h2▸af.ak _ _⟩
 ·simp only[List.length_map,List.length_range]at nZ Ab ⊢
  cases hl:l.length with
  |zero=>
   rw[dn hl];refine(kP _ cap _ w).mono fun e w' ⟨h1,h2⟩=>⟨h1,?_,h2▸af.ak _ _⟩
   subst h2;exact⟨rfl,.inr ⟨g,cap,cur,rfl,hb,hg,eK _,hm,hsz,rfl⟩⟩
  |succ m=>
   have aO:g<w.heap.size:=(Array.getElem?_eq_some_iff.1 hg).1;have hz:(Array.ofFn (n:=m+1) fun i=>i).size=m+1:=by simp
   have Oa:∀args w,(callFunc 144 args).run Tryz.prog w= .ok (.enter 144 args) w:=enters_of Tryz.func144 bJ rfl;have hH:Sort.Holds (fun i:Fin (m+1)=>Value.int .i64 i.val) w g 0 (Array.ofFn fun i=>i):=fun j hj=>by
    rw[hz]at hj;have jY:Box w g 3 cur:=hg;refine⟨?_,jY.free _⟩;rw[Nat.zero_add];refine jY.ag ?_;have e:=congrArg (fun L=>L[j]?) Ab;rw[Nat.mul_one,List.getElem?_take_of_lt ai,Array.getElem?_toList,List.getElem?_map,List.getElem?_map,List.getElem?_range ai]at e;rw[e,getElem!_pos _ j (by rw[hz];exact hj)];simp
   have je:CmpLays1 Tryz.prog 144 #[aI bx] (fun i:Fin (m+1)=>Value.int .i64 i.val) (fun i k=>dW l i.val k.val) g 0 (Array.ofFn (n:=m+1) fun i=>i).size w:=by
    intro q os dk hs x y;have ho:=rI (enc:=fun i:Fin (m+1)=>Value.int .i64 i.val) (d:=dk) aO ⟨q,os,rfl⟩;have h1:=ho.cell hx (show¬bx=g by omega);have h2:cX (sortWorld (fun i:Fin (m+1)=>Value.int .i64 i.val) w g 0 q dk os) A n c l:=hF.jB ho fun g' o e (e2:g'=g)=>by
     have:=dF g' o e ai;omega
    exact qD _ h1 (Nat.lt_of_lt_of_le jY ho.size) h2 bG (by have:=x.isLt;omega) (by have:=y.isLt;omega) ai
   have hS:=sM (fun i:Fin (m+1)=>Value.int .i64 i.val) (fun i k=>dW l i.val k.val) 144 #[aI bx] g 0 cap (Array.ofFn fun i=>i) w Oa je ⟨fun _=>rfl,hH,aO⟩ (by rw[hz];omega);rw[hz]at hS;refine hS.mono fun e w' ⟨h1,h2⟩=>⟨h1,?_,?_⟩
   ·have tP:(Sort.insertionSort (ltOf fun(i k:Fin (m+1))=>dW l i.val k.val) (Array.ofFn fun i=>i) 0 (m+1)).size=(Array.ofFn (n:=m+1) fun i=>i).size:=cF _ _ _ _;have:=A1 (base:=base) (e:=3) (d:=Array.ofFn (n:=m+1) fun i=>i) hg hb (by rw[hz];omega) hm hsz tP h2;rw[hz]at this;unfold aC;rw[er hl];rw[List.length_map,List.length_map,Array.length_toList,tP,hz,List.map_map,List.map_map];exact this
   ·exact(rI aO h2).mono fun k hk=>.inl (by rw[hk];rfl)
end
def Bq (l:dU)(w W:World)(v i:Value)(wr:World):Prop:=
 ∃k:Nat,k≤l.length∧i=ah k∧aC 3 wr W.heap.size v ((List.range k).map Int.ofNat)∧af aA W wr
section
theorem ql {A:Option Addr}{n c:Nat}{l:dU}(w:World)(h:cX w A n c l)(bG:eQ l)(hn:l.length<20):
 Calls Tryz.prog 138 #[.slice A n c] w fun e w'=>∃v,e= .returned (.tuple #[v,ah 0])∧aC 3 w' w.heap.size v ((bg l).map Int.ofNat)∧af aA w w':=by
 obtain rfl:=h.len;have HO:=ae<|(bX.refl w).alloc (.cells #[.slice A l.length c] 237);have HF:=ae<|h.keep HO.ao;have xf:=ae bG;have HL:=ae hn;have HB:=ae<|Box.fresh w 237 #[.slice A l.length c];have HG:=aH (∀g o,A=some ⟨g,o,none⟩→0<l.length→g<w.heap.size) (fun g o e h0=>by
  obtain⟨g',o',e',hg,_⟩:=h.at_ 0 h0;rw[e]at e';injection e' with e';injection e' with e1 e2;rw[e1];exact hg)
 clear h bG
 go_enter Tryz.func138,Tryz.ntmps138
 go_upto_region 1 with fail;change Code.wp _ _ _ _ (w.alloc (.cells #[.slice A l.length c] 237));generalize w.alloc (.cells #[.slice A l.length c] 237)=W at *;have x0:ba W w.heap.size 0 (.slice A l.length c):=HB.ag rfl;have HC:=ae<|lH W HF xf ai;go_upto_region 3 with(go_at_call 140;refine HC.mono ?_;rintro e W1 ⟨rfl,a8⟩);have ki:=ae<|HF.keep a8.ao;have cQ:=ae<|a8.ao.az HB id;have bw:=ae<|HO.trans a8;have y0:ba W1 w.heap.size 0 (.slice A l.length c):=cQ.ag rfl;clear x0 HC HF HB HO a8;go_upto_region 7 with fail
 go_loopw [4,13] (fun v i wr=>Bq l w W1 v i wr) (fun _ i _=>l.length - (intOf i).toNat)
 case atStart=>exact⟨0,eK _,rfl,aC.nil _ _ _,af.ak _ _⟩
 case round=>
  obtain⟨k,hk,rfl,bp,ho⟩:=hrel;have kc:=ae bp;have HW:=ae ho;have iw:=aH (W1.heap.size≤wr.heap.size) (ho.size);clear bp ho
  by_cases aO:k<l.length
  ·have mO:(k:Int)<l.length:=ai;have cT:=ae aO;have ID:=ae (show((List.range k).map Int.ofNat).length≤1000000 by simp;omega);clear aO hk;go_wp2_with (at_builtin;refine hG _ rfl (.tmp 16) (.tmp 18) 47 3 rfl kp Tryz.underlying47 W1.heap.size u4 ((List.range k).map Int.ofNat) k rfl (kc.alloc _) ⟨wr.heap.size,0,none⟩ rfl (World.cell?_alloc_at _ _ _ _ rfl) ID (by have:=iw.out;rw[World.size_alloc];omega) ?_;intro v' w1 j0 CT)
   go_roundw
   case rel=>
    refine⟨k+1,cT,by go_num,?_,(HW.alloc _).aE CT fun j hj=>.inr (kc.lt j hj).1⟩;rw[List.range_succ,List.map_append];exact j0
   case measure=>simp[intOf];have:=cT.out;omega
  ·obtain rfl:k=l.length:=ai;clear aO hk;go_upto_region 11 with fail;have Fh:∀k,k<w.heap.size+1→k<W1.heap.size:=fun k hk=>Nat.lt_of_lt_of_le hk cQ.lt
   have HP:=ae<|o7 wr (HW.cell y0 id) (Nat.lt_of_lt_of_le cQ.lt iw) (ki.keep HW) xf HL kc (Fh _ ai) (fun g o e h0=>Fh _ (by have:=HG.out g o e h0;omega));go_wp2_with (go_at_call 143;refine HP.mono ?_;rintro e W2 ⟨rfl,Ec,bd⟩);go_ret2;refine⟨_,rfl,?_,?_⟩
   ·exact Ec.less (Nat.le_of_lt (Fh _ ai))
   ·exact(bw.ao.trans HW).aE bd fun j hj=>.inr (Nat.le_trans (Nat.le_of_lt (Fh _ ai)) (kc.lt j hj).1)
end
end
section
open Go.ChangeShapes Go.RowKit Go.WideShapes
def wC (h:au)(b:Int):Bool:=decide (h.fr≤b)&&decide (b<h.fr+h.size)
def aS (l:List au)(b:Int):Nat:=l.findIdx fun h=>wC h b
def jE (l:List au)(b:Int):Int:=if aS l b<l.length then(aS l b:Int)else -1
theorem nr (l:List au){k:Nat}(hk:k<l.length):l.getD k default=l[k]:=by simp[hk]
theorem xR {l:List au}{b:Int}{k:Nat}(hk:k<l.length)(h:wC (l.getD k default) b=true)(hn:∀j,j<k→wC (l.getD j default) b=false):aS l b=k:=by
 refine(List.findIdx_eq hk).2 ⟨?_,fun j hj=>?_⟩
 ·rw[nr l hk]at h;exact h
 ·have:=hn j hj;rw[nr l ai]at this;exact this
theorem vI {l:List au}{b:Int}(hn:∀j,j<l.length→wC (l.getD j default) b=false):aS l b=l.length:=by
 refine List.findIdx_eq_length.2 fun x hx=>?_
 obtain⟨j,hj,rfl⟩:=List.getElem_of_mem hx;have:=hn j hj;rw[nr l hj]at this;exact this
def Ff (h:au):Array Value:=#[ah h.fr,ah h.size,ah h.often,.bool h.loop]
def zE (l:List au)(b:Int)(w:World)(i:Value)(wr:World):Prop:=∃k:Nat,k≤l.length∧i=ah k∧(∀j,j<k→wC (l.getD j default) b=false)∧bX w wr
section
theorem qv {h:au}{b:Int}{bx:Nat}(w:World)(hx:aF w bx 0 b)(jY:bx<w.heap.size)(h0:0≤h.fr)(h1:0≤h.size)(h2:h.fr+h.size≤32):
 Calls Tryz.prog 147 #[.agg (Ff h),aI bx] w fun e w'=>e= .returned (.bool (wC h b))∧bX w w':=by
 obtain⟨fr,size,often,loop⟩:=h;unfold wC Ff;dsimp only at *;have HB:=ae<|Box.fresh w 100 #[ah fr,ah size,ah often,.bool loop];have HO:=ae<|(bX.refl w).alloc (.cells #[ah fr,ah size,ah often,.bool loop] 100);have y:=HO.ao.cell hx id;have ew:IntKind.i64.wrap (fr+size)=fr+size:=by rw[IntKind.wrap_i64];omega
 have MD:=ae jY;clear hx jY;generalize hr:(decide (fr≤b)&&decide (b<fr+size))=r at *;have HR:=ae hr;clear hr
 go_enter Tryz.func147,Tryz.ntmps147
 go_upto_region 1 with fail;change Code.wp _ _ _ _ (w.alloc (.cells #[ah fr,ah size,ah often,.bool loop] 100));generalize w.alloc (.cells #[ah fr,ah size,ah often,.bool loop] 100)=W at *;generalize w.heap.size=g at *;have x0:aF W g 0 fr:=HB.ag rfl;have x1:aF W g 1 size:=HB.ag rfl
 by_cases c1:fr≤b
 ·by_cases c2:b<fr+size
  ·go_wp2;go_ret;exact⟨by rw[show r=true by rw[←HR.out];simp;omega];rfl,HO⟩
  ·go_wp2;go_ret;exact⟨by rw[show r=false by rw[←HR.out];simp;omega];rfl,HO⟩
 ·go_wp2;go_ret;exact⟨by rw[show r=false by rw[←HR.out];simp;omega];rfl,HO⟩
theorem qO {A:Option Addr}{n c bx:Nat}{l:List au}{b blocks:Int}(w:World)(hx:aF w bx 0 b)(jY:bx<w.heap.size)(h:aL w A n c l)(hP:cW blocks l):
 Calls Tryz.prog 146 #[.slice A n c,.func (.func 147) #[] #[aI bx]] w fun e w'=>e= .returned (ah (jE l b))∧bX w w':=by
 obtain rfl:=h.len;have H:=ae h;have HP:=ae hP;have HX:=ae hx;have MD:=ae jY;have hn:=hP.2.2;have HS:=aH (zE l b w (ah 0) w) (⟨0,eK _,rfl,fun j hj=>absurd hj ai,bX.refl w⟩);clear h hP hx jY
 go_enter Tryz.func146,Tryz.ntmps146
 go_upto_region 2 with fail
 go_loopw [8] (fun i wr=>zE l b w i wr) (fun i _=>l.length - (intOf i).toNat)
 case atStart=>exact HS
 case round=>
  clear HS;obtain⟨k,hk,rfl,ll,hg⟩:=hrel;have HG:=ae hg;have HN:=ae ll;clear hg ll
  by_cases aO:k<l.length
  ·obtain⟨g,o,rfl,Hd,x0,x1,x2,x3⟩:=(H.keep HG.ao).at_ k aO;have bG:=HP.1 k aO;unfold pU at bG;have HC:Hid (∀w',bX wr w'→Calls Tryz.prog 147 #[.agg (Ff (l.getD k default)),aI bx] w' fun e dS=>e= .returned (.bool (wC (l.getD k default) b))∧bX w' dS):=
    ae fun w' hw'=>qv w' ((HG.trans hw').ao.cell HX id) (Nat.lt_of_lt_of_le MD (HG.trans hw').ao.size) bG.1 ai ai
   clear bG;have mO:(k:Int)<l.length:=ai;have cT:=ae aO;unfold Ff at HC;generalize hd:l.getD k default=hh at *;have HD:=ae hd;clear hd aO hk
   cases pP:wC hh b with
   |true=>
    rw[pP]at HC;have HZ:=ae (show jE l b=k by unfold jE;rw[xR cT.out (by rw[HD.out];exact pP) HN.out,if_pos cT.out]);go_wp2_with (go_at_call 147;refine(HC _ (bX.refl _)).mono ?_;rintro e W1 ⟨rfl,a8⟩);go_ret;exact⟨by rw[HZ.out];rfl,HG.trans a8⟩
   |false=>
    rw[pP]at HC;have B9:=aH (∀j,j<k+1→wC (l.getD j default) b=false) (fun j hj=>by
     by_cases e:j=k
     ·rw[e,HD.out];exact pP
     ·exact HN j ai)
    go_wp2_with (go_at_call 147;refine(HC _ (bX.refl _)).mono ?_;rintro e W1 ⟨rfl,a8⟩)
    go_roundw
    case rel=>exact⟨k+1,cT,by go_num,B9,HG.trans a8⟩
    case measure=>simp[intOf];have:=cT.out;omega
  ·obtain rfl:k=l.length:=ai;clear aO hk;have HZ:=ae (show jE l b= -1 by unfold jE;rw[vI HN.out,if_neg ai]);go_wp2_with fail;go_ret;exact⟨by rw[HZ.out];rfl,HG⟩
end
structure ei where
 pb:Nat
 ob:Nat
 A:Option Addr
 c:Nat
def D8 (i:ei)(blocks:Int)(q:Nat→Int)(n:Nat):Array Value:=#[ah blocks,ah (q 0),ah (q 1),ah (q 2),.slice i.A n i.c,cS i.ob n n]
def jC (n:Nat)(O:Nat→Nat→Int):Array Value:=Array.ofFn (n:=n*4) fun i=>ah (O (i.1 / 4) (i.1 % 4))
theorem qg (n:Nat)(O:Nat→Nat→Int){r t:Nat}(hr:r<n)(ht:t<4):(jC n O)[r*4+t]? =some (ah (O r t)):=by
 unfold jC;rw[Array.getElem?_ofFn,dif_pos ai];simp only[show(r*4+t) / 4=r by omega,show(r*4+t) % 4=t by omega]
structure cH (w:World)(i:ei)(blocks:Int)(q:Nat→Int)(l:List au)(O:Nat→Nat→Int):Prop where
 az:Box w i.pb 191 (D8 i blocks q l.length)
 bI:aL w i.A l.length i.c l
 prt:Box w i.ob 233 (jC l.length O)
 hP:cW blocks l
 ht:0<l.length→∀k o,i.A=some ⟨k,o,none⟩→∃cs,Box w k 100 cs
def ei.F (i:ei):Nat→Prop:=fun k=>k=i.pb∨k=i.ob∨∃o,i.A=some ⟨k,o,none⟩
section
variable {w w':World}{i:ei}{blocks:Int}{q:Nat→Int}{l:List au}{O:Nat→Nat→Int}
theorem cH.jB {S:Nat→Prop}(h:cH w i blocks q l O)(ho:af S w w')(hS:∀k,i.F k→¬S k):cH w' i blocks q l O:=
 ⟨ho.az h.az (hS _ (.inl rfl)),⟨h.bI.len,h.bI.cap,h.bI.max,fun j hj=>by
  obtain⟨g,o,e,hg,h0,h1,h2,h3⟩:=h.bI.at_ j hj;have hn:=hS g (.inr (.inr ⟨o,e⟩));exact⟨g,o,e,Nat.lt_of_lt_of_le hg ho.size,ho.cell h0 hn,ho.cell h1 hn,ho.cell h2 hn,ho.cell h3 hn⟩⟩,ho.az h.prt (hS _ (.inr (.inl rfl))),h.hP,fun h0 k o e=>by obtain⟨cs,hb⟩:=h.ht h0 k o e;exact⟨cs,ho.az hb (hS k (.inr (.inr ⟨o,e⟩)))⟩⟩
theorem cH.keep (h:cH w i blocks q l O)(ho:af aA w w'):cH w' i blocks q l O:=h.jB ho fun _ _=>id
def ss (l:List au)(b:Int):Value:=.tuple #[ah (if aS l b<l.length then(aS l b:Int)else 0),.bool (decide (aS l b<l.length))]
def bz (l:List au)(O:Nat→Nat→Int)(b:Int)(t:Nat):Int:=if aS l b<l.length then O (aS l b) t else 0
def rD (l:List au)(b:Int):Bool:=decide (aS l b<l.length)&&(l.getD (aS l b) default).loop
end
section
variable {i:ei}{blocks:Int}{q:Nat→Int}{l:List au}{O:Nat→Nat→Int}
theorem gg{P:Prop}(h:P:=by
 go_wp2_with (go_at_call 146;refine HI.mono ?_;rintro e W1 ⟨rfl,a8⟩);go_ret2;exact⟨by simp[pV,rf];omega,HO.trans a8⟩):P:=h
theorem jN (b:Int)(w:World)(h:cH w i blocks q l O):Calls Tryz.prog 139 #[aI i.pb,ah b] w fun e w'=>e= .returned (ss l b)∧bX w w':=by
 have HO:=ae<|(bX.refl w).alloc (.cells #[ah b] 3);have HH:=ae<|h.keep HO.ao;have HX:=ae<|(Box.fresh w 3 #[ah b]).ag (i:=0) rfl;have HS:=ae (Box.fresh w 3 #[ah b]).lt;clear h;have hz:jE l b= -1∨∃k:Nat,jE l b=k:=by unfold jE;split;exact .inr ⟨_,rfl⟩;exact .inl rfl
 have HV:Hid (ss l b= .tuple #[ah (if jE l b<0 then 0 else jE l b),.bool (decide (0≤jE l b))]):=ae (by
  unfold ss jE
  by_cases h:aS l b<l.length
  ·rw[if_pos h,if_pos h,if_neg ai,decide_eq_true h,decide_eq_true ai]
  ·rw[if_neg h,if_neg h,if_pos ai,decide_eq_false h,decide_eq_false ai])
 rw[HV.out];have HI:=ae<|qO _ HX HS HH.bI HH.hP;generalize jE l b=z at *;clear HV
 go_enter Tryz.func139,Tryz.ntmps139
 go_upto_region 1 with fail;change Code.wp _ _ _ _ (w.alloc (.cells #[ah b] 3));generalize w.alloc (.cells #[ah b] 3)=W at *;generalize w.heap.size=g at *;have x4:ba W i.pb 4 (.slice i.A l.length i.c):=HH.az.ag rfl
 by_cases pV:0≤z
 ·have rf:¬z<0:=ai;exact gg
 ·have rf:z<0:=ai;exact gg
theorem fO{P:Prop}(h:P:=by
 go_wp2_with (go_at_call 139;refine HR.mono ?_;rintro e W1 ⟨rfl,a8⟩);go_ret;exact⟨rfl,a8⟩):P:=h
theorem kF (b:Int){t:Nat}(ht:t<3)(w:World)(h:cH w i blocks q l O):Calls Tryz.prog 135 #[aI i.pb,ah b,ah ((t+1:Nat):Int)] w fun e w'=>e= .returned (ah (bz l O b t))∧bX w w':=by
 have HR:=ae<|jN b w h;have HH:=ae h;have h8:=h.hP.2.2;clear h;have ew:IntKind.i64.wrap (((t+1:Nat):Int) - 1)=t:=by rw[IntKind.wrap_i64];omega
 have GO:¬((t+1:Nat):Int)<1:=ai;have NA:¬(3:Int)<((t+1:Nat):Int):=ai;have Nz:(t:Int)<4:=ai;unfold ss at HR;unfold bz
 by_cases hk:aS l b<l.length
 ·rw[if_pos hk,decide_eq_true hk]at HR;rw[if_pos hk];have HX:=ae<|fun(W:World) (ho:af aA w W)=>(HH.keep ho).prt.ag (qg l.length O hk (show t<4 by omega));have HP:=ae<|fun(W:World) (ho:af aA w W)=>(HH.keep ho).az.ag (i:=5) (v:=cS i.ob l.length l.length) rfl;generalize O (aS l b) t=x at *;generalize aS l b=k at *;have pP:(k:Int)<l.length:=ai;generalize((t+1:Nat):Int)=t1 at *
  go_enter Tryz.func135,Tryz.ntmps135
  go_upto_region 2 with(go_at_call 139;refine HR.mono ?_;rintro e W1 ⟨rfl,a8⟩);have x5:=HP.out _ a8.ao;have x6:=HX.out _ a8.ao;go_wp2;go_ret;exact⟨rfl,a8⟩
 ·rw[if_neg hk,decide_eq_false hk]at HR;rw[if_neg hk];generalize((t+1:Nat):Int)=t1 at *
  go_enter Tryz.func135,Tryz.ntmps135
  exact fO
theorem vX (b:Int)(w:World)(h:cH w i blocks q l O):Calls Tryz.prog 178 #[aI i.pb,ah b] w fun e w'=>e= .returned (.bool (rD l b))∧bX w w':=by
 have HR:=ae<|jN b w h;have HH:=ae h;have h8:=h.hP.2.2;clear h;unfold ss at HR;unfold rD
 by_cases hk:aS l b<l.length
 ·rw[if_pos hk,decide_eq_true hk]at HR;rw[decide_eq_true hk,Bool.true_and];have HX:=ae<|fun(W:World) (ho:af aA w W)=>(HH.keep ho).bI.at_ _ hk;have HP:=ae<|fun(W:World) (ho:af aA w W)=>(HH.keep ho).az.ag (i:=4) (v:=.slice i.A l.length i.c) rfl;generalize aS l b=k at *;have pP:(k:Int)<l.length:=ai;generalize(l.getD k default).loop=x at *
  go_enter Tryz.func178,Tryz.ntmps178
  go_upto_region 2 with(go_at_call 139;refine HR.mono ?_;rintro e W1 ⟨rfl,a8⟩);have x5:=HP.out _ a8.ao;obtain⟨g,o,eA,hg,y0,y1,y2,y3⟩:=HX.out _ a8.ao;rw[eA]at x5;go_wp2;go_ret;exact⟨rfl,a8⟩
 ·rw[if_neg hk,decide_eq_false hk]at HR;rw[decide_eq_false hk,Bool.false_and]
  go_enter Tryz.func178,Tryz.ntmps178
  exact fO
end
end
structure lx where
 c:Nat→Int
 o:Nat→Nat→Int
 left:Int
def bW (i:Nat)(s:lx)(t:Nat):lx:=
 let n:=min s.left (s.c t)
 ⟨fun x=>if x=t then s.c t - n else s.c x,fun r x=>if r=i∧x=t then n else s.o r x,s.left - n⟩
def ic (l:List au)(s:lx)(i:Nat):lx:=
 let s3:=(List.range 3).foldl (bW i) {s with left:=(l.getD i default).size}
 {s3 with o:=fun r x=>if r=i∧x=3 then s3.left else s3.o r x}
def rF (l:List au)(q:Nat→Int)(ord:List Nat):lx:=ord.foldl (ic l) ⟨q,fun _ _=>0,0⟩
def bk (l:List au):List (Int×Int):=l.map fun h=>(h.often,h.size)
def gw (l:List au)(q:Nat→Int):Nat→Nat→Int:=(rF l q (bg (bk l))).o
theorem rN (n:Nat)(O:Nat→Nat→Int){r t:Nat}(hr:r<n)(ht:t<4)(v:Int):(jC n O).setIfInBounds (r*4+t) (ah v)=jC n (fun a b=>if a=r∧b=t then v else O a b):=by
 apply Array.ext_getElem?;intro k;unfold jC;rw[Array.getElem?_setIfInBounds]
 by_cases e:r*4+t=k
 ·subst e;rw[if_pos rfl,if_pos (by simp;omega),Array.getElem?_ofFn,dif_pos ai];simp only[show(r*4+t) / 4=r by omega,show(r*4+t) % 4=t by omega,and_self,if_true]
 ·rw[if_neg e]
  by_cases hk:k<n*4
  ·rw[Array.getElem?_ofFn,Array.getElem?_ofFn,dif_pos hk,dif_pos hk];dsimp only;rw[if_neg ai]
  ·rw[Array.getElem?_ofFn,Array.getElem?_ofFn,dif_neg hk,dif_neg hk]
section
open Go.ChangeShapes Go.RowKit Go.WideShapes
structure gG where
 p:Nat
 g:Nat
 eb:Nat
 i:ei
 t:Nat
def Dt (j:gG):Array Value:=#[aI j.g,aI j.i.pb,ah ((j.t+1:Nat):Int)]
structure ea (w:World)(j:gG)(blocks:Int)(q:Nat→Int)(l:List au)(O:Nat→Nat→Int)(S:Nat→List Int):Prop where
 az:Box w j.p 199 (Dt j)
 sp:cU w j.g j.eb (l.length+1) S
 pl:cH w j.i blocks q l O
 t3:j.t<3
section
variable {w w':World}{j:gG}{blocks:Int}{q:Nat→Int}{l:List au}{O:Nat→Nat→Int}{S:Nat→List Int}
theorem ea.keep (h:ea w j blocks q l O S)(ho:af aA w w'):ea w' j blocks q l O S:=⟨ho.az h.az id,h.sp.keep ho,h.pl.keep ho,h.t3⟩
theorem ea.c0 (h:ea w j blocks q l O S):ba w j.p 0 (aI j.g):=h.az.ag rfl
theorem ea.c1 (h:ea w j blocks q l O S):ba w j.p 1 (aI j.i.pb):=h.az.ag rfl
theorem ea.c2 (h:ea w j blocks q l O S):aF w j.p 2 ((j.t+1:Nat):Int):=h.az.ag rfl
end
section
variable {j:gG}{blocks:Int}{q:Nat→Int}{l:List au}{O:Nat→Nat→Int}{S:Nat→List Int}
theorem ig (b:Int)(w:World)(h:ea w j blocks q l O S):Calls Tryz.prog 122 #[aI j.p,ah b] w fun e w'=>e= .returned (.bool (decide (0<bz l O b j.t)))∧bX w w':=by
 have HP:Hid (∀n os,Calls Tryz.prog 135 #[aI j.i.pb,ah b,ah ((j.t+1:Nat):Int)] (Sort.grow (w.drewN n) os) fun e w'=>e= .returned (ah (bz l O b j.t))∧∃q ra,w'=Sort.grow ((Sort.grow (w.drewN n) os).drewN q) ra):=
  ae fun n os=>kF b h.t3 _ (h.pl.keep (show bX w (Sort.grow (w.drewN n) os)from⟨n,os,rfl⟩).ao)
 have aO:=h.az.lt;have x1:=fun n os=>cell_grown (w:=w) (a:=⟨j.p,1,none⟩) aO h.c1 n os
 have x2:=fun n os=>cell_grown (w:=w) (a:=⟨j.p,2,none⟩) aO h.c2 n os
 clear h;generalize bz l O b j.t=x at *;generalize((j.t+1:Nat):Int)=t1 at *;have mixed:Tryz.prog.follows .mixedOrders=true:=by kernel_rfl
 go_enter Tryz.func122,Tryz.ntmps122
 go_upto_region 1 with fail
 go_quiet_grown (first|(go_at_call 135;refine Calls.grown_of (HP _ _)))
 go_wp2;go_ret;exact⟨rfl,_,_,rfl⟩
theorem fB{P:Prop}(h:P:=by
 have x0:=h.c0;clear h
 go_enter Tryz.func181,Tryz.ntmps181
 go_wp2_with (go_at_call 190;refine HP.mono ?_;rintro e W1 ⟨rfl,rfl⟩);go_ret;exact⟨rfl,rfl⟩):P:=h
theorem iR {b:Int}{r:Nat}(w:World)(h:ea w j blocks q l O S)(hb:b∈S r):Calls Tryz.prog 181 #[aI j.p,ah b] w fun e w'=>e= .returned (.bool true)∧w=w':=by
 have HP:=ae<|oq w h.sp hb;exact fB
theorem kS {b:Int}(w:World)(h:ea w j blocks q l O S)(hb:∀r,b∉S r):Calls Tryz.prog 181 #[aI j.p,ah b] w fun e w'=>e= .returned (.bool false)∧w=w':=by
 have HP:=ae<|rC w h.sp hb;exact fB
end
def gG.F (j:gG):Nat→Prop:=fun k=>k=j.p∨k=j.g∨k=j.eb∨j.i.F k
section
variable {j:gG}{blocks:Int}{q:Nat→Int}{l:List au}{O:Nat→Nat→Int}{S:Nat→List Int}
theorem kQ {b:Int}(w:World)(h:ea w j blocks q l O S)(hb:∀r,b∉S r):Calls Tryz.prog 184 #[aI j.p,ah b] w fun e w'=>e= .returned (.bool false)∧w=w':=by
 have HP:=ae<|kS w h hb;clear h
 go_enter Tryz.func184,Tryz.ntmps184
 go_wp2_with (go_at_call 181;refine HP.mono ?_;rintro e W1 ⟨rfl,rfl⟩);go_ret;exact⟨rfl,rfl⟩
theorem kR {n r:Nat}(w:World)(h:ea w j blocks q l O S)(hr:r<l.length+1)(hn:n<64)(hb:(n:Int)∈S r):
 Calls Tryz.prog 184 #[aI j.p,ah n] w fun e w'=>e= .returned (.bool true)∧cU w' j.g j.eb (l.length+1) (aG (bE S n) r n)∧af (iu j.g j.eb) w w':=by
 have HH:=ae<|iR w h hb;have HO:=ae<|oq w h.sp hb;have HF:=ae<|di w h.sp hr hn;have x0:=h.c0;clear h
 go_enter Tryz.func184,Tryz.ntmps184
 go_wp2_with (first|(go_at_call 181;refine HH.mono ?_;rintro e W1 ⟨rfl,rfl⟩)|(go_at_call 190;refine HO.mono ?_;rintro e W2 ⟨rfl,rfl⟩)|(go_at_call 188;refine HF.mono ?_;rintro e W3 ⟨rfl,h1,h2⟩));go_ret;exact⟨rfl,h1,h2⟩
theorem qw {n r:Nat}(w:World)(h:ea w j blocks q l O S)(hb:(n:Int)∈S r):
 Calls Tryz.prog 183 #[aI j.p,ah n] w fun e w'=>e= .returned (.bool true)∧cU w' j.g j.eb (l.length+1) (bE S n)∧af (iu j.g j.eb) w w':=by
 have HH:=ae<|iR w h hb;have HR:=ae<|dQ w h.sp hb;have x0:=h.c0;clear h
 go_enter Tryz.func183,Tryz.ntmps183
 go_wp2_with (first|(go_at_call 181;refine HH.mono ?_;rintro e W1 ⟨rfl,rfl⟩)|(go_at_call 187;refine HR.mono ?_;rintro e W3 ⟨rfl,h1,h2⟩));go_ret;exact⟨rfl,h1,h2⟩
def dL (l:List au)(S:Nat→List Int)(r:Nat)(b:Int):Int:=if rD l b then Go.Proofs.YtpcfhbeakecihaaGreat.hd (S r)else ez (S r)
theorem vN {r:Nat}{b:Int}(w:World)(h:ea w j blocks q l O S)(hr:r<l.length+1)(hne:S r≠[]):
 Calls Tryz.prog 186 #[aI j.p,ah r,ah b] w fun e w'=>e= .returned (ah (dL l S r b))∧bX w w':=by
 have HL:=gU r w h.sp hr;rw[if_neg hne]at HL;have HL:=ae HL;have HF:Hid (∀w',bX w w'→Calls Tryz.prog 193 #[aI j.g,ah r] w' _):=ae fun w' hw=>tB r w' (h.sp.keep hw.ao) hr
 rw[if_neg hne]at HF;have HP:=ae<|vX b w h.pl;have x0:=h.c0;have x1:=h.c1;have HX:=ae<|fun w' (hw:bX w w')=>hw.ao.cell x0 id;clear h;unfold dL;generalize Go.Proofs.YtpcfhbeakecihaaGreat.hd (S r)=f at *;generalize ez (S r)=z at *
 cases Fi:rD l b with
 |true=>
  rw[Fi]at HP;rw[if_pos rfl];clear Fi
  go_enter Tryz.func186,Tryz.ntmps186
  go_upto_region 2 with(go_at_call 192;refine HL.mono ?_;rintro e W1 ⟨rfl,rfl⟩);go_upto_region 3 with(go_at_call 178;refine HP.mono ?_;rintro e W2 ⟨rfl,bd⟩);have x2:=HX.out _ bd;go_wp2_with (go_at_call 193;refine(HF _ bd).mono ?_;rintro e W3 ⟨rfl,rfl⟩);go_ret;exact⟨rfl,bd⟩
 |false=>
  rw[Fi]at HP;rw[if_neg av];clear Fi
  go_enter Tryz.func186,Tryz.ntmps186
  go_upto_region 2 with(go_at_call 192;refine HL.mono ?_;rintro e W1 ⟨rfl,rfl⟩);go_wp2_with (go_at_call 178;refine HP.mono ?_;rintro e W2 ⟨rfl,bd⟩);go_ret;exact⟨rfl,bd⟩
end
section
variable {j:gG}{blocks:Int}{q:Nat→Int}{l:List au}{O:Nat→Nat→Int}{S:Nat→List Int}
theorem qx {n r:Nat}(w:World)(h:ea w j blocks q l O S)(hr:r<l.length+1)(hn:n<64)(hb:(n:Int)∈S r)(ht:0<bz l O n j.t):
 Calls Tryz.prog 179 #[aI j.p,ah n] w fun e w'=>e= .returned (.tuple #[ah 0,.bool false,ah 0])∧cU w' j.g j.eb (l.length+1) (aG (bE S n) r n)∧af (iu j.g j.eb) w w':=by
 have HT:=ig n w h;rw[decide_eq_true ht]at HT;have HT:=ae HT;have HU:Hid (∀w',bX w w'→Calls Tryz.prog 184 #[aI j.p,ah n] w' fun e dS=>e= .returned (.bool true)∧cU dS j.g j.eb (l.length+1) (aG (bE S n) r n)∧af (iu j.g j.eb) w' dS):=
  ae fun w' hw=>kR w' (h.keep hw.ao) hr hn hb
 clear h ht
 go_enter Tryz.func179,Tryz.ntmps179
 go_wp2_with (first|(go_at_call 122;refine HT.mono ?_;rintro e W1 ⟨rfl,a8⟩)|(go_at_call 184;refine(HU _ a8).mono ?_;rintro e W2 ⟨rfl,h1,h2⟩))
 go_ret3
 exact⟨rfl,h1,(a8.ao.mono fun _ hk=>hk.elim).trans h2⟩
theorem kG {b:Int}{t:Nat}(h:0<bz l O b t):aS l b<l.length:=by
 unfold bz at h
 by_cases hk:aS l b<l.length
 ·exact hk
 ·rw[if_neg hk]at h;omega
theorem fh{P:Prop}(h:P:=by
 have:=jN n w' (h.pl.keep hw.ao);unfold ss at this;rw[if_pos hr,decide_eq_true hr]at this;exact this):P:=h
theorem nE {n:Nat}(w:World)(h:ea w j blocks q l O S)(hn:n<64)(hb:∀r,(n:Int)∉S r)(ht:0<bz l O n j.t)(ou:((S (aS l n)).length:Int)<bz l O n j.t):
 Calls Tryz.prog 179 #[aI j.p,ah n] w fun e w'=>e= .returned (.tuple #[ah 0,.bool false,ah 0])∧cU w' j.g j.eb (l.length+1) (aG (bE S n) (aS l n) n)∧af (iu j.g j.eb) w w':=by
 have HT:=ig n w h;rw[decide_eq_true ht]at HT;have HT:=ae HT;have hr:=kG ht;have HU:Hid (∀w',bX w w'→Calls Tryz.prog 184 #[aI j.p,ah n] w' fun e dS=>e= .returned (.bool false)∧w'=dS):=
  ae fun w' hw=>kQ w' (h.keep hw.ao) hb
 have HR:Hid (∀w',bX w w'→Calls Tryz.prog 139 #[aI j.i.pb,ah n] w' fun e dS=>e= .returned (.tuple #[ah (aS l n:Nat),.bool true])∧bX w' dS):=
  ae fun w' hw=>by
   exact fh
 have HL:Hid (∀w',bX w w'→∀k os,Calls Tryz.prog 185 #[aI j.g,ah (aS l n:Nat)] (Sort.grow (w'.drewN k) os) fun e dS=>e= .returned (ah (S (aS l n)).length)∧∃q ra,dS=Sort.grow ((Sort.grow (w'.drewN k) os).drewN q) ra):=
  ae fun w' hw k os=>(eS _ _ (h.sp.keep (hw.trans ⟨k,os,rfl⟩:bX w _).ao) ai).mono fun e dS ⟨h1,h2⟩=>⟨h1,h2▸bX.refl _⟩
 have HP:Hid (∀w',bX w w'→∀k os,Calls Tryz.prog 135 #[aI j.i.pb,ah n,ah ((j.t+1:Nat):Int)] (Sort.grow (w'.drewN k) os) fun e dS=>e= .returned (ah (bz l O n j.t))∧∃q ra,dS=Sort.grow ((Sort.grow (w'.drewN k) os).drewN q) ra):=
  ae fun w' hw k os=>kF n h.t3 _ (h.pl.keep (hw.trans ⟨k,os,rfl⟩:bX w _).ao)
 have HF:Hid (∀w',bX w w'→Calls Tryz.prog 188 #[aI j.g,ah (aS l n:Nat),ah n] w' fun e dS=>e= .returned (ah 0)∧cU dS j.g j.eb (l.length+1) (aG (bE S n) (aS l n) n)∧af (iu j.g j.eb) w' dS):=
  ae fun w' hw=>di w' (h.sp.keep hw.ao) ai hn
 have aO:=ae h.az.lt;have HC:=ae<|fun w' (hw:bX w w')=>h.keep hw.ao;have x1:=h.c1;clear h ht;generalize aG (bE S n) (aS l n) n=S' at *;generalize bz l O n j.t=P at *;generalize(S (aS l n)).length=L at *;generalize aS l n=r at *;have mixed:Tryz.prog.follows .mixedOrders=true:=by kernel_rfl
 go_enter Tryz.func179,Tryz.ntmps179
 go_upto_region 7 with(first|(go_at_call 122;refine HT.mono ?_;rintro e W1 ⟨rfl,a8⟩)|(go_at_call 184;refine(HU _ a8).mono ?_;rintro e W2 ⟨rfl,rfl⟩));have Gz:=(HC _ a8).c1;go_upto_region 8 with(go_at_call 139;refine(HR _ a8).mono ?_;rintro e W3 ⟨rfl,bQ⟩);have b7:=ae<|a8.trans bQ;have wG:j.p<W3.heap.size:=(HC _ b7).az.lt;have y0:=fun k os=>cell_grown (w:=W3) (a:=⟨j.p,0,none⟩) wG (HC _ b7).c0 k os
 have y1:=fun k os=>cell_grown (w:=W3) (a:=⟨j.p,1,none⟩) wG (HC _ b7).c1 k os
 have y2:=fun k os=>cell_grown (w:=W3) (a:=⟨j.p,2,none⟩) wG (HC _ b7).c2 k os
 generalize((j.t+1:Nat):Int)=t1 at *;clear x1 Gz a8 bQ wG
 go_quiet_grown (first|(go_at_call 135;refine Calls.grown_of (HP _ b7 _ _))|(go_at_call 185;refine Calls.grown_of (HL _ b7 _ _)))
 have jb:=ae<|b7.trans (show bX W3 (Sort.grow (W3.drewN nq) osq)from⟨nq,osq,rfl⟩);have z0:=y0 nq osq;go_wp2_with (go_at_call 188;refine(HF _ jb).mono ?_;rintro e W5 ⟨rfl,h1,h2⟩)
 go_ret3
 exact⟨rfl,h1,(jb.ao.mono fun _ hk=>hk.elim).trans h2⟩
theorem nF {n m:Nat}(w:World)(h:ea w j blocks q l O S)(hn:n<64)(hb:∀r,(n:Int)∉S r)(ht:0<bz l O n j.t)(MR:bz l O n j.t≤((S (aS l n)).length:Int))(hm:dL l S (aS l n) n=m)(G0:(m:Int)∈S (aS l n)):
 Calls Tryz.prog 179 #[aI j.p,ah n] w fun e w'=>e= .returned (.tuple #[ah m,.bool true,ah 0])∧cU w' j.g j.eb (l.length+1) (aG (bE (bE S m) n) (aS l n) n)∧af (iu j.g j.eb) w w':=by
 have HT:=ig n w h;rw[decide_eq_true ht]at HT;have HT:=ae HT;have hr:=kG ht;have HU:Hid (∀w',bX w w'→Calls Tryz.prog 184 #[aI j.p,ah n] w' fun e dS=>e= .returned (.bool false)∧w'=dS):=
  ae fun w' hw=>kQ w' (h.keep hw.ao) hb
 have HR:Hid (∀w',bX w w'→Calls Tryz.prog 139 #[aI j.i.pb,ah n] w' fun e dS=>e= .returned (.tuple #[ah (aS l n:Nat),.bool true])∧bX w' dS):=
  ae fun w' hw=>by
   exact fh
 have HL:Hid (∀w',bX w w'→∀k os,Calls Tryz.prog 185 #[aI j.g,ah (aS l n:Nat)] (Sort.grow (w'.drewN k) os) fun e dS=>e= .returned (ah (S (aS l n)).length)∧∃q ra,dS=Sort.grow ((Sort.grow (w'.drewN k) os).drewN q) ra):=
  ae fun w' hw k os=>(eS _ _ (h.sp.keep (hw.trans ⟨k,os,rfl⟩:bX w _).ao) ai).mono fun e dS ⟨h1,h2⟩=>⟨h1,h2▸bX.refl _⟩
 have HP:Hid (∀w',bX w w'→∀k os,Calls Tryz.prog 135 #[aI j.i.pb,ah n,ah ((j.t+1:Nat):Int)] (Sort.grow (w'.drewN k) os) fun e dS=>e= .returned (ah (bz l O n j.t))∧∃q ra,dS=Sort.grow ((Sort.grow (w'.drewN k) os).drewN q) ra):=
  ae fun w' hw k os=>kF n h.t3 _ (h.pl.keep (hw.trans ⟨k,os,rfl⟩:bX w _).ao)
 have HG:Hid (∀w',bX w w'→Calls Tryz.prog 186 #[aI j.p,ah (aS l n:Nat),ah n] w' fun e dS=>e= .returned (ah m)∧bX w' dS):=
  ae fun w' hw=>by
   have:=vN (r:=aS l n) (b:=n) w' (h.keep hw.ao) ai (List.ne_nil_of_mem G0);rw[hm]at this;exact this
 have HM:Hid (∀w',bX w w'→Calls Tryz.prog 187 #[aI j.g,ah m] w' fun e dS=>e= .returned (ah 0)∧cU dS j.g j.eb (l.length+1) (bE S m)∧af (iu j.g j.eb) w' dS):=
  ae fun w' hw=>dQ w' (h.sp.keep hw.ao) G0
 have HF:Hid (∀w',cU w' j.g j.eb (l.length+1) (bE S m)→Calls Tryz.prog 188 #[aI j.g,ah (aS l n:Nat),ah n] w' fun e dS=>e= .returned (ah 0)∧cU dS j.g j.eb (l.length+1) (aG (bE (bE S m) n) (aS l n) n)∧af (iu j.g j.eb) w' dS):=
  ae fun w' hw=>di w' hw ai hn
 have HZ:Hid (∀w' dS,bX w w'→af (iu j.g j.eb) w' dS→ba dS j.p 0 (aI j.g)):=ae fun w' dS hw ho=>by
  have h2:=h.keep hw.ao;have xc:j.p≠j.g:=by
   obtain⟨N,E,hm,_⟩:=h2.sp;exact h2.az.off hm.1 av
  have He:j.p≠j.eb:=by
   obtain⟨N,E,hm,_⟩:=h2.sp;exact h2.az.off hm.2 av
  exact ho.cell h2.c0 (by rintro(e|e)<;>contradiction)
 have aO:=ae h.az.lt;have HC:=ae<|fun w' (hw:bX w w')=>h.keep hw.ao;have x1:=h.c1;clear h ht hm G0;generalize aG (bE (bE S m) n) (aS l n) n=S' at *;generalize bE S m=S1 at *;generalize bz l O n j.t=P at *;generalize(S (aS l n)).length=L at *;generalize aS l n=r at *;have mixed:Tryz.prog.follows .mixedOrders=true:=by kernel_rfl
 go_enter Tryz.func179,Tryz.ntmps179
 go_upto_region 7 with(first|(go_at_call 122;refine HT.mono ?_;rintro e W1 ⟨rfl,a8⟩)|(go_at_call 184;refine(HU _ a8).mono ?_;rintro e W2 ⟨rfl,rfl⟩));have Gz:=(HC _ a8).c1;go_upto_region 8 with(go_at_call 139;refine(HR _ a8).mono ?_;rintro e W3 ⟨rfl,bQ⟩);have b7:=ae<|a8.trans bQ;have wG:j.p<W3.heap.size:=(HC _ b7).az.lt;have y0:=fun k os=>cell_grown (w:=W3) (a:=⟨j.p,0,none⟩) wG (HC _ b7).c0 k os
 have y1:=fun k os=>cell_grown (w:=W3) (a:=⟨j.p,1,none⟩) wG (HC _ b7).c1 k os
 have y2:=fun k os=>cell_grown (w:=W3) (a:=⟨j.p,2,none⟩) wG (HC _ b7).c2 k os
 generalize((j.t+1:Nat):Int)=t1 at *;clear x1 Gz a8 bQ wG
 go_quiet_grown (first|(go_at_call 135;refine Calls.grown_of (HP _ b7 _ _))|(go_at_call 185;refine Calls.grown_of (HL _ b7 _ _)))
 have jb:=ae<|b7.trans (show bX W3 (Sort.grow (W3.drewN nq) osq)from⟨nq,osq,rfl⟩);have z0:=y0 nq osq;go_upto_region 10 with(go_at_call 186;refine(HG _ jb).mono ?_;rintro e W5 ⟨rfl,eD⟩);have kh:=ae<|jb.trans eD;have z5:=(HC _ kh).c0;go_upto_region 11 with(go_at_call 187;refine(HM _ kh).mono ?_;rintro e W6 ⟨rfl,Ou,KY⟩);have z6:=HZ.out _ _ kh KY;go_wp2_with (go_at_call 188;refine(HF _ Ou).mono ?_;rintro e W7 ⟨rfl,h1,h2⟩)
 go_ret3
 exact⟨rfl,h1,((kh.ao.mono fun _ hk=>hk.elim).trans KY).trans h2⟩
end
theorem vf:(Tryz.prog.info? 233).map (fun i=>(i.zero,i.size,i.bytes))=some (some (.agg #[ah 0,ah 0,ah 0,ah 0]),4,32):=by kernel_rfl
def LL (n:Nat)(w:World)(e:Ending)(w':World):Prop:=(∃A c,e= .returned (.slice A n c))∧af aA w w'
section
theorem qz {ob n:Nat}{O:Nat→Nat→Int}(w:World)(h:Box w ob 233 (jC n O))(hl:n≤100):Calls Tryz.prog 133 #[cS ob n n] w (LL n w):=by
 have he:=fun w=>Lib.run_eql_slice_nil (P:=Tryz.prog) (w:=w)
 obtain⟨i0,hi,hz,hsz,eE⟩:=info_parts vf;have mK:af aA w (w.alloc (.cells #[] 233)):=(af.ak _ _).alloc _;have bp:(w.alloc (.cells #[] 233)).ownsRow w.heap.size 233 4 (cS w.heap.size 0 0) 0 []:=⟨rfl,.inr ⟨w.heap.size,0,#[],rfl,dT _,Box.fresh w 233 #[],dT _,eK _,rfl,rfl⟩⟩;have kc:=ae bp;have II:Hid (∀j u,(jC n O).toList[j]? =some u→(w.alloc (.cells #[] 233)).cell? ((⟨ob,0,none⟩:Addr).add j)=some u):=ae fun j u hj=>by
  rw[Addr.add_lit,Nat.zero_add];exact(mK.az h id).ag (by simpa using hj)
 have xl:=ae mK;have tY:Hid (∀u∈(jC n O).toList,u.oneCell'=true):=ae fun u hu=>by
  unfold jC at hu;simp at hu;obtain⟨k,rfl⟩:=hu;rfl
 have iw:Hid ((jC n O).toList.length=n*4):=ae (by unfold jC;simp);have HL:=ae hl;have HI:=ae hi;have HZ:=ae hz;have HS:=ae hsz;have HB:=ae eE;clear bp mK h hl hi hz hsz eE
 go_enter Tryz.func133,Tryz.ntmps133
 go_wp2_with (at_builtin;refine wpList_append_own_at (w.alloc (.cells #[] 233)) rfl (.tmp 5) (.tmp 6) 189 rfl w.heap.size 233 i0 _ 4 32 Tryz.underlying189 HI HZ HS HB rfl av _ 0 [] rfl kc ⟨ob,0,none⟩ n n (jC n O).toList rfl iw II tY (by have:=HL.out;unfold maxLen;omega) (by have:=HL.out;omega) (by rw[World.size_alloc];omega) ?_;intro v' w1 h2 h3 h4 h5;have H2:=ae h2;have H3:=ae h3;clear h2 h3 h4 h5);go_ret;have h2:=H2.out;rw[Nat.zero_add]at h2;obtain⟨A',c',rfl,_,_⟩:=oH h2;exact⟨⟨A',c',rfl⟩,xl.aE ((af.ak _ _).grown (S:=fun k=>w.heap.size≤k) H3 fun k hk=>.inl (by
  have:w.heap.size=k:=aq.1 hk;omega)) fun k hk=>.inr hk⟩
theorem oK {i:ei}{blocks:Int}{q:Nat→Int}{l:List au}{O:Nat→Nat→Int}(w:World)(h:cH w i blocks q l O):Calls Tryz.prog 113 #[aI i.pb] w (LL l.length w):=by
 have HC:=ae<|qz w h.prt (by have:=h.hP.2.2;omega);have x5:ba w i.pb 5 (cS i.ob l.length l.length):=h.az.ag rfl;clear h
 go_enter Tryz.func113,Tryz.ntmps113
 go_wp2_with (go_at_call 133;refine HC.mono ?_;rintro e W1 ⟨⟨A,c,rfl⟩,ho⟩);go_ret;exact⟨⟨A,c,rfl⟩,ho⟩
end
def z4:Array Value:=#[ah 0,ah 0,ah 0,ah 0]
theorem Ea (m:Nat):madeCells z4 (m*4)=jC m (fun _ _=>0):=by
 refine Array.ext (by simp[madeCells,jC]) fun i h1 h2=>?_
 simp only[madeCells,jC,Array.getElem_map,Array.getElem_range,Array.getElem_ofFn];have h3:i % 4<4:=Nat.mod_lt _ av
 show z4[i % 4]! =ah 0
 generalize i % 4=j at *;rcases(show j=0∨j=1∨j=2∨j=3 by omega)with rfl|rfl|rfl|rfl<;>rfl
theorem sR (m:Nat)(hm:m≤40)(w:World):(Instr.makeSlice 189 (ah m) (ah m)).run Tryz.prog w= .ok (cS w.heap.size m m) (w.alloc (.cells (jC m (fun _ _=>0)) 233)):=by
 obtain⟨i,hi,CC⟩:=Option.map_eq_some_iff.1 vf;simp only[Prod.mk.injEq]at CC;obtain⟨hz,hs,hb⟩:=CC;have:=run_make (P:=Tryz.prog) w 189 233 i _ Tryz.underlying189 hi hz .i64 .i64 m m ai (Int.le_refl _) (by rw[hb];omega) ai;rw[hs]at this;rw[this,←Ea];rfl
def c8 (c:Nat→Int):Array Value:=#[ah (c 0),ah (c 1),ah (c 2)]
theorem r9 (c:Nat→Int){t:Nat}(ht:t<3):(c8 c)[t]? =some (ah (c t)):=by
 rcases(show t=0∨t=1∨t=2 by omega)with rfl|rfl|rfl<;>rfl
theorem wu (c:Nat→Int){t:Nat}(ht:t<3)(v:Int):(c8 c).setIfInBounds t (ah v)=c8 (fun x=>if x=t then v else c x):=by
 rcases(show t=0∨t=1∨t=2 by omega)with rfl|rfl|rfl<;>simp[c8]
def wI (p:Int×Int):List Value:=[ah p.1,ah p.2]
theorem yw (p:Int×Int):(wI p).length=2:=rfl
theorem BG (L:dU):(L.flatMap wI).length=L.length*2:=by
 rw[List.length_flatMap];have:(L.map fun p=>(wI p).length)=L.map fun _=>2:=rfl
 rw[this,List.map_const',List.sum_replicate_nat]
theorem s8 {w:World}{base:Nat}{v:Value}{L:dU}(h:w.ownsRow base 239 2 v L.length (L.flatMap wI)):∃A c,v= .slice A L.length c∧cX w A L.length c L:=by
 rcases h.2 with⟨e,h0⟩|⟨g,cap,cur,e,hb,hg,hn,hm,hs,ht⟩
 ·rw[h0];exact⟨none,0,e,⟨h0.symm,eK _,eK _,fun i hi=>by omega⟩⟩
 ·refine⟨some ⟨g,0,none⟩,cap,e,⟨rfl,hn,hm,fun i hi=>?_⟩⟩;have key:∀j u,j<2→(wI (L.getD i default))[j]? =some u→ba w g (0+i*2+j) u:=fun j u hj hu=>by
   have hc:=h.cells (g:=g) (by rw[e];rfl) (i*2+j) u (by rw[kq wI 2 default yw L i j hi hj];exact hu);rw[Addr.add_lit,←Nat.add_assoc]at hc;exact hc
  exact⟨g,0,rfl,(Array.getElem?_eq_some_iff.1 hg).1,key 0 _ av rfl,key 1 _ av rfl⟩
theorem br (l:List au):(bk l).length=l.length:=by simp[bk]
theorem mj (l:List au){i:Nat}(hi:i<l.length):(bk l).getD i default=((l.getD i default).often,(l.getD i default).size):=by
 simp[bk,hi]
theorem mi {blocks:Int}{l:List au}(h:cW blocks l):eQ (bk l):=fun i hi=>by
 rw[br]at hi;have:=h.1 i hi;unfold pU at this;rw[mj l hi];exact⟨ai,ai,by show 0<(l.getD i default).size;omega,by show(l.getD i default).size≤_;omega⟩
theorem jS (l:dU):∀x∈bg l,x<l.length:=by
 intro x hx
 cases h:l.length with
 |zero=>rw[dn h]at hx;cases hx
 |succ m=>
  rw[er h,List.mem_map]at hx;obtain⟨a,_,rfl⟩:=hx;exact a.isLt
def cd (l:List au)(s:lx)(i k:Nat):lx:=(List.range k).foldl (bW i) {s with left:=(l.getD i default).size}
theorem q6 (l:List au)(s:lx)(i:Nat):cd l s i 0= {s with left:=(l.getD i default).size}:=rfl
theorem ja (l:List au)(s:lx)(i k:Nat):cd l s i (k+1)=bW i (cd l s i k) k:=by
 unfold cd;rw[List.range_succ,List.foldl_append];rfl
def eh (l:List au)(q:Nat→Int)(ord:List Nat)(k:Nat):lx:=(ord.take k).foldl (ic l) ⟨q,fun _ _=>0,0⟩
theorem kU (l:List au)(q:Nat→Int)(ord:List Nat){k:Nat}(hk:k<ord.length):eh l q ord (k+1)=ic l (eh l q ord k) (ord.getD k 0):=by
 unfold eh;rw[List.take_succ_eq_append_getElem hk,List.foldl_append];simp[hk]
theorem eX (l:List au)(s:lx)(i:Nat):ic l s i= {cd l s i 3 with o:=fun r x=>if r=i∧x=3 then(cd l s i 3).left else(cd l s i 3).o r x}:=rfl
structure A0 (s:lx):Prop where
 c:∀x,x<3→0≤s.c x∧s.c x≤16
 l0:0≤s.left
 l1:s.left≤32
theorem tK {s:lx}(h:A0 s)(i:Nat){t:Nat}(ht:t<3):A0 (bW i s t):=by
 have h1:=h.c t ht;have h2:=h.l0;have h3:=h.l1;refine⟨fun x hx=>?_,?_,?_⟩
 ·unfold bW;dsimp only
  split
  ·omega
  ·exact h.c x hx
 ·unfold bW;dsimp only;omega
 ·unfold bW;dsimp only;omega
theorem kM {l:List au}{s:lx}{i:Nat}(h:∀x,x<3→0≤s.c x∧s.c x≤16)(hs:0≤(l.getD i default).size∧(l.getD i default).size≤32):∀{k:Nat},k≤3→A0 (cd l s i k)
 |0,_=>⟨h,hs.1,hs.2⟩
 |k+1,hk=>by rw[ja];exact tK (kM h hs ai) i ai
theorem kL {blocks:Int}{l:List au}(hP:cW blocks l){q:Nat→Int}(hq:∀x,x<3→0≤q x∧q x≤16){ord:List Nat}(ho:∀x∈ord,x<l.length):∀k,∀x,x<3→0≤(eh l q ord k).c x∧(eh l q ord k).c x≤16
 |0,x,hx=>hq x hx
 |k+1,x,hx=>by
  by_cases hk:k<ord.length
  ·rw[kU l q ord hk,eX];have hm:=ho (ord.getD k 0) (by simp[hk]);have hh:=hP.1 _ hm;unfold pU at hh;exact(kM (kL hP hq ho k) ⟨ai,ai⟩ (dT 3)).c x hx
  ·have:eh l q ord (k+1)=eh l q ord k:=by unfold eh;rw[List.take_of_length_le ai,List.take_of_length_le ai]
   rw[this];exact kL hP hq ho k x hx
def BA (l:List au)(q:Nat→Int)(w:World)(e:Ending)(w':World):Prop:=
 ∃ob,e= .returned (cS ob l.length l.length)∧Box w' ob 233 (jC l.length (gw l q))∧w.heap.size≤ob∧af aA w w'
def Ez (l:List au)(w:World)(f i:Value)(wr:World):Prop:=
 ∃k:Nat,k≤l.length∧i=ah k∧wr.ownsRow w.heap.size 239 2 f k (((bk l).take k).flatMap wI)∧af aA w wr
def MK (a b:Nat):Nat→Prop:=fun k=>k=a∨k=b
def Ey (l:List au)(q:Nat→Int)(cb ob:Nat)(w:World)(i:Value)(wr:World):Prop:=
 ∃k:Nat,k≤l.length∧i=ah k∧Box wr cb 22 (c8 (eh l q (bg (bk l)) k).c)∧Box wr ob 233 (jC l.length (eh l q (bg (bk l)) k).o)∧af (MK cb ob) w wr
def Ex (l:List au)(s:lx)(r cb ob:Nat)(w:World)(lf t:Value)(wr:World):Prop:=
 ∃k:Nat,k≤3∧t=ah k∧lf=ah (cd l s r k).left∧Box wr cb 22 (c8 (cd l s r k).c)∧Box wr ob 233 (jC l.length (cd l s r k).o)∧af (MK cb ob) w wr
theorem Bl:(Tryz.prog.info? 239).map (fun i=>(i.zero,i.size,i.bytes))=some (some (.agg #[ah 0,ah 0]),2,16):=by kernel_rfl
theorem o3 {w:World}{cb ob n r t:Nat}{s:lx}(hb:Box w cb 22 (c8 s.c))(hp:Box w ob 233 (jC n s.o))(ht:t<3)(hr:r<n)(hne:¬ob=cb)(m d:Int)(hm:m=min s.left (s.c t))(hd:d=s.c t - m):
 Box ((w.setCell ⟨ob,r*4+t,none⟩ (ah m)).setCell ⟨cb,t,none⟩ (ah d)) cb 22 (c8 (bW r s t).c)∧
 Box ((w.setCell ⟨ob,r*4+t,none⟩ (ah m)).setCell ⟨cb,t,none⟩ (ah d)) ob 233 (jC n (bW r s t).o):=by
 constructor
 ·have h1:=(hb.jB (p:=⟨ob,r*4+t,none⟩) (fun e=>hne (show cb=ob from e).symm) (ah m)).store t (ah d);rw[wu _ ht,hd,hm]at h1;rw[hd,hm];exact h1
 ·have h1:=(hp.store (r*4+t) (ah m)).jB (p:=⟨cb,t,none⟩) hne (ah d);rw[rN n _ hr ai,hm]at h1;rw[hm];exact h1
section
theorem fE{P:Prop}(h:P:=by
 go_wp2
 go_roundw
 case rel=>
  refine⟨t+1,FR,by go_num,?_,?_,?_,?_⟩
  ·rw[Il.out];unfold bW;dsimp only;rw[zl.out,Dq.out]
  ·rw[Il.out];exact(o3 Dr Ar FR tV hne _ _ (by rw[zl.out,Dq.out];try omega) (by rw[Dq.out];try omega)).1
  ·rw[Il.out];exact(o3 Dr Ar FR tV hne _ _ (by rw[zl.out,Dq.out];try omega) (by rw[Dq.out];try omega)).2
  ·exact(zk.setCell (p:=⟨ob,r*4+t,none⟩) (.inl (.inr rfl)) _).setCell (p:=⟨cb,t,none⟩) (.inl (.inl rfl)) _
 case measure=>simp[intOf];have:=FR.out;omega):P:=h
theorem nJ {A:Option Addr}{n c:Nat}{blocks:Int}{l:List au}{q:Nat→Int}(w:World)(bI:aL w A n c l)(hP:cW blocks l)(hq:∀t,t<3→0≤q t∧q t≤16):
 Calls Tryz.prog 132 #[.slice A n c,.agg (c8 q)] w (BA l q w):=by
 obtain rfl:=bI.len;have H:=ae bI;have HP:=ae hP;have HQ:=ae hq;have xf:=ae<|mi hP;have NP:=hP.2.2;have Mg:=ae NP;clear bI hP hq
 go_enter Tryz.func132,Tryz.ntmps132
 go_upto_region 1 with fail;have HB:=ae<|Box.fresh w 22 (c8 q);have HO:=ae<|(af.ak aA w).alloc (.cells (c8 q) 22);have zo:=ae<|dT w.heap.size;have H1:=ae<|H.keep HO;change Code.wp _ _ _ _ (w.alloc (.cells (c8 q) 22));generalize w.alloc (.cells (c8 q) 22)=W at *;obtain⟨cb,si⟩:∃cb,cb=w.heap.size:=⟨_,rfl⟩;rw[←si]at HB ⊢;have zo:=aH (w.heap.size≤cb) (Nat.le_of_eq si.symm);clear si;go_upto_region 3 with fail
 go_loopw [5,18] (fun f i wr=>Ez l W f i wr) (fun _ i _=>l.length - (intOf i).toNat)
 case atStart=>exact⟨0,eK _,rfl,World.ownsRow_nil _ _ _ _,af.ak _ _⟩
 case round=>
  obtain⟨k,hk,rfl,bp,ho⟩:=hrel;have kc:=ae bp;have wO:=ae ho;clear bp ho
  by_cases aO:k<l.length
  ·obtain⟨g,o,rfl,Hd,x0,x1,x2,x3⟩:=(H1.keep wO).at_ k aO;have F1:=ae<|mj l aO;have mO:(k:Int)<l.length:=ai;have cT:=ae aO;clear aO hk;generalize(l.getD k default).fr=a0 at *;generalize(l.getD k default).size=a1 at *;generalize(l.getD k default).often=a2 at *;generalize(l.getD k default).loop=a3 at *;go_upto_region 5 with(refine pT #[ah a0,ah a1,ah a2,.bool a3] (Box.fresh wr 100 zH) (by simp[Value.oneCell']) ?_);have bd:af aA wr ((wr.alloc (.cells zH 100)).setRow wr.heap.size #[ah a0,ah a1,ah a2,.bool a3]):=((af.ak aA wr).alloc _).aK (.inr (dT _)) _;have dF:=(Box.fresh wr 100 zH).aK #[ah a0,ah a1,ah a2,.bool a3];have Jv:=ae<|dO kc bd fun _ _=>id;have Jy:=ae<|wO.trans bd;change Code.wp _ _ _ _ ((wr.alloc (.cells zH 100)).setRow wr.heap.size #[ah a0,ah a1,ah a2,.bool a3]);clear bd x0 x1 x2 x3 wO;generalize(wr.alloc (.cells zH 100)).setRow wr.heap.size #[ah a0,ah a1,ah a2,.bool a3]=W2 at *;have y1:aF W2 wr.heap.size 1 a1:=dF.ag rfl;have y2:aF W2 wr.heap.size 2 a2:=dF.ag rfl;have mK:af aA W2 (W2.alloc (.cells #[ah a2,ah a1] 239)):=(af.ak _ _).alloc _;have kj:=aH (∀j u,(wI (a2,a1))[j]? =some u→(W2.alloc (.cells #[ah a2,ah a1] 239)).cell? ((⟨W2.heap.size,0,none⟩:Addr).add j)=some u) (fun j u hj=>by
    rw[Addr.add_lit,Nat.zero_add];exact(Box.fresh W2 239 #[ah a2,ah a1]).ag (by rw[←Array.getElem?_toList];exact hj))
   have DW:=ae<|dO Jv mK fun _ _=>id;have DX:=ae<|Jy.trans mK;have iw:=ae DX.size;clear dF mK;go_wp2_with (at_builtin;refine j6 _ rfl (.tmp 22) (.tmp 28) 237 239 rfl Bl rfl av Tryz.underlying237 W.heap.size u5 k _ (wI (a2,a1)) rfl DW ⟨W2.heap.size,0,none⟩ rfl rfl kj (by simp[wI,Value.oneCell']) (by unfold maxLen;have:=cT.out;have:=Mg.out;omega) (by have:=cT.out;have:=Mg.out;omega) iw ?_;intro v' w1 j0 CT _)
   go_roundw
   case rel=>
    refine⟨k+1,cT,by go_num,?_,DX.aE CT fun j hj=>.inr (World.ownsRow.lt DW j hj).1⟩;rw[List.take_succ_eq_append_getElem (by rw[br];exact cT.out),List.flatMap_append];have:=F1.out;rw[List.getD_eq_getElem?_getD,List.getElem?_eq_getElem (by rw[br];exact cT.out),Option.getD_some]at this;rw[this];simpa using j0
   case measure=>simp[intOf];have:=cT.out;omega
  ·obtain rfl:k=l.length:=ai;clear aO hk;rw[List.take_of_length_le (by rw[br];exact dT _)]at kc;have hlen:=br l;rw[←hlen]at kc;obtain⟨FA,fc,K3,CX⟩:=s8 kc;rw[hlen]at K3 CX;have HW:=ae<|ql wr CX xf (by rw[hlen];omega);have xB:=ae wO;clear hlen kc CX;subst K3;go_upto_region 8 with(go_at_call 138;refine HW.mono ?_;rintro e W4 ⟨ov,rfl,GR,gB⟩);have GU:((bg (bk l)).map Int.ofNat).length=l.length:=by rw[List.length_map,iW,br]
   obtain⟨OA,oc,eo,_⟩:=GR.shape;rw[GU]at eo;have Mc:=ae GR;have Pq:=ae GU;subst eo;clear GR GU HW;have nM:=sR l.length ai W4;have kh:=ae<|(xB.trans gB).alloc (.cells (jC l.length (fun _ _=>0)) 233);have JA:=ae<|(af.ak aA W4).alloc (.cells (jC l.length (fun _ _=>0)) 233);have FW:=ae<|Box.fresh W4 233 (jC l.length (fun _ _=>0));have Pz:=ae<|cD.keep Mc.at JA fun _ _ _ _ _=>id;have xg:=aH (W.heap.size≤W4.heap.size∧(∀k,aJ (.slice OA l.length oc) k→wr.heap.size≤k∧k<W4.heap.size)) (⟨(xB.trans gB).size,fun k hk=>Mc.lt k hk⟩);have O6:=ae xB.size;clear gB xB;go_upto_region 9 with fail;change Code.wp _ _ _ _ (W4.alloc (.cells (jC l.length (fun _ _=>0)) 233));generalize W4.alloc (.cells (jC l.length (fun _ _=>0)) 233)=W5 at *;generalize W4.heap.size=ob at *;clear nM;have AZ:=ae HB.lt;have Ga:=ae<|kh.az HB id;go_upto_region 10 with fail
   go_loopw [41] (fun i wx=>Ey l q cb ob W5 i wx) (fun i _=>l.length - (intOf i).toNat)
   case atStart=>exact⟨0,eK _,rfl,Ga,FW,af.ak _ _⟩
   case round=>
    obtain⟨k,hk,rfl,KM,Kh,nQ⟩:=hrel;have F9:=ae KM;have Ma:=ae Kh;have lO:=ae nQ;clear KM Kh nQ
    by_cases aO:k<l.length
    ·have Fk:k<(bg (bk l)).length:=by rw[iW,br];exact aO
     have CM:=jS (bk l) ((bg (bk l)).getD k 0) (by simp[Fk]);rw[br]at CM;have L3:=ae<|kU l q (bg (bk l)) Fk;obtain⟨g5,o5,rfl,x5⟩:=(Pz.keep lO fun g o n c e hd=>by
      have:=xg.2 g (by rw[e];exact aq.2 rfl);have:=zo.out;have:=AZ.out;have:=O6.out;rcases hd with hd|hd<;>omega).ag (i:=k) (by rw[Pq.out];exact aO)
     have K2:((bg (bk l)).map Int.ofNat).getD k 0=(((bg (bk l)).getD k 0:Nat):Int):=by simp[Fk]
     rw[K2]at x5;have JF:=ae ((HO.trans kh).aE lO (fun b hb=>.inr (by
      have:=zo.out;have:=xg.1;have:=HO.size;rcases hb with hb|hb<;>omega)))
     obtain⟨g,o,rfl,Hd,y0,y1,y2,y3⟩:=(H.keep JF).at_ _ CM;have bG:=HP.1 _ CM;unfold pU at bG;have Jt:=ae<|kL HP HQ (fun x hx=>by have:=jS (bk l) x hx;rwa [br]at this) k;generalize(bg (bk l)).getD k 0=r at *;have iw:=aH (0≤(l.getD r default).size∧(l.getD r default).size≤32) (⟨ai,ai⟩);have Ih:=ae<|q6 l (eh l q (bg (bk l)) k) r;have Qv:(r:Int)<l.length:=ai;have mO:(k:Int)<l.length:=ai;have cT:=ae aO;have tV:=ae CM;clear bG K2 Fk aO CM hk y0 y2 y3;generalize Kf:eh l q (bg (bk l)) k=s at *;have Q5:=ae Kf;clear Kf;go_upto_region 14 with fail
     go_loopw [13,50] (fun lf t wx=>Ex l s r cb ob W5 lf t wx) (fun _ t _=>3 - (intOf t).toNat)
     case atStart=>exact⟨0,ai,rfl,by rw[Ih.out];simp,by rw[Ih.out];exact F9,by rw[Ih.out];exact Ma,lO⟩
     case round=>
      obtain⟨t,ht,rfl,rfl,KL,Kg,pW⟩:=hrel;have Dr:=ae KL;have Ar:=ae Kg;have zk:=ae pW;clear KL Kg pW
      by_cases Aa:t<3
      ·have xr:=kM Jt iw ht;have h1:=xr.c t Aa;have h2:=xr.l0;have h3:=xr.l1;have Il:=ae<|ja l s r t;have z1:=Dr.ag (r9 _ Aa);have P9:=Dr.free t;have z2:=Ar.ag (qg l.length (cd l s r t).o tV (show t<4 by omega));have MV:=Ar.free (r*4+t);have hne:¬ob=cb:=by have:=AZ.out;have:=xg.1;omega
       have AE:¬cb=ob:=fun e=>hne e.symm
       have Qq:(t:Int)<3:=ai;have PU:(t:Int)<4:=ai;have FR:=ae Aa;clear Aa ht xr;generalize hcs:(cd l s r t).c t=cs at *;generalize Kr:(cd l s r t).left=ls at *;have Dq:=ae hcs;have zl:=ae Kr;clear hcs Kr
       by_cases PX:cs<ls
       ·exact fE
       ·exact fE
      ·obtain rfl:t=3:=ai;clear Aa ht;have hne:¬ob=cb:=by have:=AZ.out;have:=xg.1;omega
       have z2:=Ar.ag (qg l.length (cd l s r 3).o tV (show 3<4 by omega));have MV:=Ar.free (r*4+3);go_wp2
       go_roundw
       case rel=>
        refine⟨k+1,cT,by go_num,?_,?_,?_⟩
        ·rw[L3.out,eX];exact Dr.jB (fun e=>hne (show cb=ob from e).symm) _
        ·rw[L3.out,eX];have h1:=Ar.store (r*4+3) (ah (cd l s r 3).left);rw[rN l.length _ tV.out (show 3<4 by omega)]at h1;exact h1
        ·exact zk.setCell (p:=⟨ob,r*4+3,none⟩) (.inl (.inr rfl)) _
       case measure=>simp[intOf];have:=cT.out;omega
    ·obtain rfl:k=l.length:=ai;clear aO hk;go_wp2_with fail;go_ret;refine⟨ob,rfl,?_,Nat.le_trans HO.size xg.1,?_⟩
     ·have h1:=Ma.out;have e:eh l q (bg (bk l)) l.length=rF l q (bg (bk l)):=by
       unfold eh rF;rw[List.take_of_length_le (by rw[iW,br];exact dT _)]
      rw[e]at h1;exact h1
     ·exact(HO.trans kh).aE lO (fun b hb=>.inr (by
       have:=zo.out;have:=xg.1;have:=HO.size;rcases hb with hb|hb<;>omega))
end
def bf (S:Nat→List Int)(k:Nat):List Int:=(List.range k).flatMap S
theorem cZ (S:Nat→List Int)(k:Nat):bf S (k+1)=bf S k ++ S k:=by unfold bf;rw[List.range_succ,List.flatMap_append];simp
theorem l9 {S:Nat→List Int}(h:∀r,(S r).length≤64):∀k,(bf S k).length≤64*k
 |0=>by simp[bf]
 |k+1=>by rw[cZ,List.length_append];have:=l9 h k;have:=h k;omega
def Er (w W:World)(n:Nat)(S:Nat→List Int)(v i:Value)(wr:World):Prop:=∃k:Nat,k≤n∧i=ah k∧aC 3 wr w.heap.size v (bf S k)∧af aA w wr
section
variable {j:gG}{blocks:Int}{q:Nat→Int}{l:List au}{O:Nat→Nat→Int}{S:Nat→List Int}
theorem xU (w:World)(h:ea w j blocks q l O S):Calls Tryz.prog 180 #[aI j.p] w fun e w'=>∃v,e= .returned v∧aC 3 w' w.heap.size v (bf S l.length)∧af aA w w':=by
 have HC:=ae<|oK w h.pl;have h8:=h.pl.hP.2.2;have x1:=h.c1;have HH:=ae h;have MI:=aH (∀r,(S r).length≤64) (by obtain⟨N,E,hm,hr,_⟩:=h.sp;exact fun r=>hr.len r);clear h;generalize hn:l.length=n at *;have HN:=ae hn;clear hn
 go_enter Tryz.func180,Tryz.ntmps180
 go_wp2_with (go_at_call 113;refine HC.mono ?_;rintro e W1 ⟨⟨A,c,rfl⟩,a8⟩);have bw:=ae a8;clear HC x1 a8
 go_loopw [3,13] (fun v i wr=>Er w W1 n S v i wr) (fun _ i _=>n - (intOf i).toNat)
 case atStart=>exact⟨0,eK _,rfl,aC.nil _ _ _,bw⟩
 case round=>
  obtain⟨k,hk,rfl,bp,ho⟩:=hrel;have kc:=ae bp;have HO:=ae ho;clear bp ho
  by_cases aO:k<n
  ·have mO:(k:Int)<n:=ai;have cT:=ae aO;have x0:=(HH.keep HO).c0;have HA:=ae<|nt wr (HH.keep HO).sp (i:=k) (by rw[HN.out];omega);have HL:=aH ((bf S k).length+(S k).length≤1000000) (by have:=l9 MI k;have:=MI.out k;omega);have HS:=ae HO.size;clear aO hk;go_wp2_with (first|(go_at_call 189;refine HA.mono ?_;rintro e W2 ⟨va,rfl,Ol,Hw⟩)|(at_builtin;refine iA _ rfl (.tmp 16) (.tmp 23) 47 3 rfl kp Tryz.underlying47 w.heap.size u3 (bf S k) rfl (kc.ao Hw fun _ _=>id) wr.heap.size va (S k) rfl Ol HL (Nat.le_trans HS Hw.size) ?_;intro v' w1 j0 CT))
   go_roundw
   case rel=>
    refine⟨k+1,cT,by go_num,by rw[cZ];exact j0,(HO.trans Hw).aE CT fun jj hj=>.inr (kc.lt jj hj).1⟩
   case measure=>simp[intOf];have:=cT.out;omega
  ·obtain rfl:k=n:=ai;clear aO hk;go_wp2_with fail;go_ret;exact⟨_,rfl,kc,HO⟩
end
def Bp (i:ei)(t:Nat)(blocks:Int)(q:Nat→Int)(l:List au)(O:Nat→Nat→Int)(w:World)(e:Ending)(w':World):Prop:=
 ∃p g eb,e= .returned (.tuple #[aI p,ah 0])∧ea w' ⟨p,g,eb,i,t⟩ blocks q l O (fun _=>[])∧w.heap.size≤p∧w.heap.size≤g∧w.heap.size≤eb∧af aA w w'
section
theorem xT {i:ei}{t:Nat}{blocks:Int}{q:Nat→Int}{l:List au}{O:Nat→Nat→Int}(w:World)(h:cH w i blocks q l O)(ht:t<3):
 Calls Tryz.prog 82 #[aI i.pb,ah ((t+1:Nat):Int)] w (Bp i t blocks q l O w):=by
 have HC:=ae<|oK w h;have h8:=h.hP.2.2;have HH:=ae h;have HT:=ae ht;have GO:¬((t+1:Nat):Int)<1:=ai;have NA:¬(3:Int)<((t+1:Nat):Int):=ai;have ew:IntKind.i64.wrap ((l.length:Int)+1)=((l.length+1:Nat):Int):=by rw[IntKind.wrap_i64];omega
 have HN:=ae<|fun w=>nk (m:=l.length+1) w ai ai;clear h ht;generalize hq:((t+1:Nat):Int)=t1 at *;have HQ:=ae hq;clear hq
 go_enter Tryz.func82,Tryz.ntmps82
 go_wp2_with (first|(go_at_call 113;refine HC.mono ?_;rintro e W1 ⟨⟨A,c,rfl⟩,a8⟩)|(go_at_call 112;refine(HN _).mono ?_;rintro e W2 ⟨g,eb,rfl,h1,h2,h3,h4⟩));go_ret2;have CL:w.heap.size≤W1.heap.size:=a8.size;have pO:W1.heap.size≤W2.heap.size:=h4.size;have ho:=(a8.trans h4).alloc (.cells #[aI g,aI i.pb,ah t1] 199);refine⟨W2.heap.size,g,eb,rfl,⟨?_,h1.keep ((af.ak aA W2).alloc _),HH.keep ho,HT⟩,Nat.le_trans CL pO,Nat.le_trans CL h2,Nat.le_trans CL h3,ho⟩;unfold Dt;rw[HQ.out];exact Box.fresh _ _ _
end
end
end Go.Proofs.YtpcfhbeakecihaaGreat
