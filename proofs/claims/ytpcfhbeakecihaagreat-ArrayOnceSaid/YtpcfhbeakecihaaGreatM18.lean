/- Lemmas. -/
import Derived.Test.YtpcfhbeakecihaaGreatM17
import Derived.Shelf.SlSortCmp.NoneTotal
set_option linter.all false
set_option maxHeartbeats 20000000
set_option maxRecDepth 100000
namespace Go.Proofs.YtpcfhbeakecihaaGreat
open Go.ChangeShapes Go.RowKit Go.Shelf Go.WideShapes
def A6:Go.Shelf.Ren:=⟨fun|20=>152|n=>n,fun|0=>0|3=>3|4=>4|22=>47|24=>3|25=>172|n=>n,fun|n=>n⟩
theorem rJ:SlLaysF.n20 Tryz.prog A6:={
 mixed:=by kernel_rfl
 f20 := ⟨"slices.insertionSortCmpFunc[int]", rfl, Tryz.func152.trans (congrArg some bJ)⟩
 t0:=Tryz.underlying0
 a0:=Tryz.isAgg0
 z0:=Tryz.sizeOf0
 v0:=Tryz.zeroValue0
 t3:=Tryz.underlying3
 a3:=Tryz.isAgg3
 z3:=Tryz.sizeOf3
 v3:=Tryz.zeroValue3
 t4:=Tryz.underlying4
 a4:=Tryz.isAgg4
 z4:=Tryz.sizeOf4
 v4:=Tryz.zeroValue4
 t22:=Tryz.underlying47
 a22:=Tryz.isAgg47
 z22:=Tryz.sizeOf47
 v22:=Tryz.zeroValue47
 a24:=Tryz.isAgg3
 z24:=Tryz.sizeOf3
 t25:=Tryz.underlying172
 a25:=Tryz.isAgg172
 z25:=Tryz.sizeOf172
 v25:=Tryz.zeroValue172}
section
variable {α:Type}[Inhabited α]
theorem np (enc:α→Value)(cf:α→α→Int)(g:Nat)(cb:Array Value)(blk off cap a b:Nat)(d0 d:Array α)(w0 w:World)
 (eg:∀args w,(callFunc g args).run Tryz.prog w= .ok (.enter g args) w) (je:CmpLays1 Tryz.prog g cb enc cf blk off d0.size w0) (R:Row1 enc w0 blk off d0) (hs:d0.size=d.size) (S:SW enc w0 blk off d w) (CZ:a≤b) (hb:b≤d.size) (hsz:d.size<4611686018427387904):
 Calls Tryz.prog 152 #[.slice (some ⟨blk,off,none⟩) d.size cap,ah a,ah b,.func (.func g) #[] cb] w fun e w'=>e= .returned (.tuple #[])∧SW enc w0 blk off (Sort.insertionSort (ltOf cf) d a b) w':=
 Any.insertionSortCmpFunc_s rJ enc cf g cb blk off cap a b d0 d w0 w eg je R hs S CZ hb hsz
theorem vZ (p:Option Addr)(cap:Nat)(fv:Value)(w:World):
 Calls Tryz.prog 152 #[.slice p 0 cap,ah 0,ah 0,fv] w fun e w'=>e= .returned (.tuple #[])∧w'=w:=
 AnyF.insertionSortCmpFunc_none {rJ with} p cap fv w
theorem qo (enc:α→Value)(cf:α→α→Int)(g:Nat)(cb:Array Value)(blk off cap:Nat)(d:Array α)(w:World)
 (eg:∀args w,(callFunc g args).run Tryz.prog w= .ok (.enter g args) w) (je:CmpLays1 Tryz.prog g cb enc cf blk off d.size w) (R:Row1 enc w blk off d) (Ao:d.size<20):
 Calls Tryz.prog 150 #[.slice (some ⟨blk,off,none⟩) d.size cap,ah d.size,.func (.func g) #[] cb] w fun e w'=>e= .returned (.tuple #[])∧SW enc w blk off (Sort.insertionSort (ltOf cf) d 0 d.size) w':=by
 have HI:=ae<|np enc cf g cb blk off cap 0 d.size d d w w eg je R rfl (SW.start R.hH) (eK _) (dT _) ai;clear eg je R;generalize d.size=n at *;have hn:¬(20:Int)≤n:=ai;have GY:¬(20:Int)<n:=ai
 go_enter Tryz.func150,Tryz.ntmps150
 go_upto_region 2 with fail;refine wp_loop_rounds 1 ?_;rw[rounds_succ];go_upto_region 6 with fail;go_upto_region 7 with(go_at_call 152;refine HI.mono ?_;rintro e w1 ⟨rfl,hs⟩);refine wp_loop_rounds 1 ?_;rw[rounds_succ];go_wp2
 go_end0
 exact⟨rfl,hs⟩
theorem swp_size (d:Array α)(i j:Nat):(Sort.swp d i j).size=d.size:=by unfold Sort.swp;simp
theorem iD (lt:α→α→Bool)(a:Nat):∀(j:Nat) (d:Array α),(Sort.insInner lt a j d).size=d.size
 |0,d=>rfl
 |j+1,d=>by
  unfold Sort.insInner
  split
  ·rw[iD lt a j,swp_size]
  ·rfl
theorem iC (lt:α→α→Bool)(a b:Nat):∀(k i:Nat) (d:Array α),b - i≤k→(Sort.insOuter lt a b i d).size=d.size
 |0,i,d,h=>by
  unfold Sort.insOuter;rw[if_neg ai]
 |k+1,i,d,h=>by
  unfold Sort.insOuter
  split
  ·rw[iC lt a b k (i+1) _ ai,iD]
  ·rfl
theorem cF (lt:α→α→Bool)(d:Array α)(a b:Nat):(Sort.insertionSort lt d a b).size=d.size:=iC lt a b b _ d ai
theorem sH (enc:α→Value)(cf:α→α→Int)(g:Nat)(cb:Array Value)(blk off cap:Nat)(d:Array α)(w:World)
 (eg:∀args w,(callFunc g args).run Tryz.prog w= .ok (.enter g args) w) (je:CmpLays1 Tryz.prog g cb enc cf blk off d.size w) (R:Row1 enc w blk off d) (Ao:d.size=20):
 Calls Tryz.prog 150 #[.slice (some ⟨blk,off,none⟩) d.size cap,ah d.size,.func (.func g) #[] cb] w fun e w'=>e= .returned (.tuple #[])∧SW enc w blk off (Sort.insertionSort (ltOf cf) d 0 d.size) w':=by
 have HI:=ae<|np enc cf g cb blk off cap 0 d.size d d w w eg je R rfl (SW.start R.hH) (eK _) (dT _) ai;have HJ:Hid (∀w',SW enc w blk off (Sort.insertionSort (ltOf cf) d 0 d.size) w'→Calls Tryz.prog 152 #[.slice (some ⟨blk,off,none⟩) d.size cap,ah d.size,ah d.size,.func (.func g) #[] cb] w' fun e w'=>e= .returned (.tuple #[])∧SW enc w blk off (Sort.insertionSort (ltOf cf) d 0 d.size) w'):=ae (by
  intro w' hS;have hz:(Sort.insertionSort (ltOf cf) d 0 d.size).size=d.size:=cF (ltOf cf) d 0 d.size;have h:=np enc cf g cb blk off cap d.size d.size d (Sort.insertionSort (ltOf cf) d 0 d.size) w w' eg je R hz.symm hS (dT _) (by rw[hz];exact dT _) ai;have hi:Sort.insertionSort (ltOf cf) (Sort.insertionSort (ltOf cf) d 0 d.size) d.size d.size=Sort.insertionSort (ltOf cf) d 0 d.size:=by
   generalize Sort.insertionSort (ltOf cf) d 0 d.size=d';unfold Sort.insertionSort Sort.insOuter;rw[if_neg ai]
  rw[hi,hz]at h;exact h)
 clear eg je R;generalize Sort.insertionSort (ltOf cf) d 0 d.size=d' at *;rw[Ao]at *;clear Ao
 go_enter Tryz.func150,Tryz.ntmps150
 go_upto_region 2 with fail;refine wp_loop_rounds 2 ?_;rw[rounds_succ];go_upto_region 4 with(go_at_call 152;refine HI.mono ?_;rintro e w1 ⟨rfl,hs⟩);have F0:=ae<|HJ _ hs;clear HJ;go_wp2;rw[rounds_succ];go_upto_region 6 with fail;go_upto_region 7 with(go_at_call 152;refine F0.mono ?_;rintro e w2 ⟨rfl,pO⟩);refine wp_loop_rounds 1 ?_;rw[rounds_succ];go_wp2
 go_end0
 exact⟨rfl,pO⟩
theorem sM (enc:α→Value)(cf:α→α→Int)(g:Nat)(cb:Array Value)(blk off cap:Nat)(d:Array α)(w:World)
 (eg:∀args w,(callFunc g args).run Tryz.prog w= .ok (.enter g args) w) (je:CmpLays1 Tryz.prog g cb enc cf blk off d.size w) (R:Row1 enc w blk off d) (Ao:d.size≤20):
 Calls Tryz.prog 143 #[.slice (some ⟨blk,off,none⟩) d.size cap,.func (.func g) #[] cb] w fun e w'=>e= .returned (.tuple #[])∧SW enc w blk off (Sort.insertionSort (ltOf cf) d 0 d.size) w':=by
 have HI:Hid (Calls Tryz.prog 150 #[.slice (some ⟨blk,off,none⟩) d.size cap,ah d.size,.func (.func g) #[] cb] w fun e w'=>e= .returned (.tuple #[])∧SW enc w blk off (Sort.insertionSort (ltOf cf) d 0 d.size) w'):=ae (by
  by_cases h:d.size<20
  ·exact qo enc cf g cb blk off cap d w eg je R h
  ·exact sH enc cf g cb blk off cap d w eg je R ai)
 clear eg je R;generalize d.size=n at *
 go_enter Tryz.func143,Tryz.ntmps143
 go_wp2_with (go_at_call 150;refine HI.mono ?_;rintro e w1 ⟨rfl,hs⟩)
 go_end0
 exact⟨rfl,hs⟩
theorem o9 (p:Option Addr)(cap:Nat)(fv:Value)(w:World):
 Calls Tryz.prog 150 #[.slice p 0 cap,ah 0,fv] w fun e w'=>e= .returned (.tuple #[])∧w=w':=by
 have HI:=ae<|vZ p cap fv w
 go_enter Tryz.func150,Tryz.ntmps150
 go_upto_region 2 with fail;refine wp_loop_rounds 1 ?_;rw[rounds_succ];go_upto_region 6 with fail;go_upto_region 7 with(go_at_call 152;refine HI.mono ?_;rintro e w1 ⟨rfl,rfl⟩);refine wp_loop_rounds 1 ?_;rw[rounds_succ];go_wp2
 go_end0
 exact⟨rfl,rfl⟩
theorem kP (p:Option Addr)(cap:Nat)(fv:Value)(w:World):
 Calls Tryz.prog 143 #[.slice p 0 cap,fv] w fun e w'=>e= .returned (.tuple #[])∧w=w':=by
 have HI:=ae<|o9 p cap fv w
 go_enter Tryz.func143,Tryz.ntmps143
 go_wp2_with (go_at_call 150;refine HI.mono ?_;rintro e w1 ⟨rfl,rfl⟩)
 go_end0
 exact⟨rfl,rfl⟩
end
abbrev dU:=List (Int×Int)
structure cX (w:World)(A:Option Addr)(n c:Nat)(l:dU):Prop where
 len:n=l.length
 cap:n≤c
 max:c≤maxLen
 at_:∀i,i<l.length→∃g o,A=some ⟨g,o,none⟩∧g<w.heap.size∧aF w g (o+i*2) ((l.getD i default).1)∧aF w g (o+i*2+1) ((l.getD i default).2)
theorem cX.jB {S:Nat→Prop}{w w':World}{A:Option Addr}{n c:Nat}{l:dU}(h:cX w A n c l)(ho:af S w w')(hS:∀g o,A=some ⟨g,o,none⟩→¬S g):cX w' A n c l:=
 ⟨h.len,h.cap,h.max,fun i hi=>by
  obtain⟨g,o,e,hg,h0,h1⟩:=h.at_ i hi;exact⟨g,o,e,Nat.lt_of_lt_of_le hg ho.size,ho.cell h0 (hS g o e),ho.cell h1 (hS g o e)⟩⟩
theorem cX.keep {w w':World}{A:Option Addr}{n c:Nat}{l:dU}(h:cX w A n c l)(ho:af aA w w'):cX w' A n c l:=h.jB ho fun _ _ _=>id
def eQ (l:dU):Prop:=∀i,i<l.length→kz (l.getD i default).1 (l.getD i default).2
def zG (l:dU)(w:World)(i:Value)(wr:World):Prop:=∃k:Nat,k≤l.length∧i=ah k∧bX w wr
section
theorem qE {t b:Int}(h:kz t b)(w:World):Calls Tryz.prog 141 #[.agg (jA t b)] w fun e w'=>e= .returned (.bool false)∧bX w w':=by
 have HR:=ae<|fun w=>kN h w
 go_enter Tryz.func141,Tryz.ntmps141
 go_upto_region 1 with fail;have HB:=ae<|Box.fresh w 239 (jA t b);have HO:=ae<|(bX.refl w).alloc (.cells (jA t b) 239);change Code.wp _ _ _ _ (w.alloc (.cells (jA t b) 239));generalize w.alloc (.cells (jA t b) 239)=W at *;generalize w.heap.size=g at *;go_wp2_with (first|(refine pL (jA t b) HB Tryz.underlying239 ?_)|(go_at_call 142;refine(HR _).mono ?_;rintro e W1 ⟨rfl,a8⟩));go_ret;exact⟨rfl,HO.trans a8⟩
theorem qm {A:Option Addr}{n c:Nat}{l:dU}(w:World)(h:cX w A n c l)(bG:eQ l)(hn:l.length≤100):
 Calls Tryz.prog 148 #[.slice A n c,.func (.func 141) #[] #[]] w fun e w'=>e= .returned (ah (-1))∧bX w w':=by
 obtain rfl:=h.len;have H:=ae h;have xf:=ae bG;have HS:=aH (zG l w (ah 0) w) (⟨0,eK _,rfl,bX.refl w⟩);clear h bG
 go_enter Tryz.func148,Tryz.ntmps148
 go_upto_region 2 with fail
 go_loopw [8] (fun i wr=>zG l w i wr) (fun i _=>l.length - (intOf i).toNat)
 case atStart=>exact HS
 case round=>
  clear HS;obtain⟨k,hk,rfl,hg⟩:=hrel;have HG:=ae hg;clear hg
  by_cases aO:k<l.length
  ·obtain⟨g,o,rfl,Hd,x0,x1⟩:=(H.keep HG.ao).at_ k aO;have HF:=ae<|xf k aO;generalize(l.getD k default).1=t at *;generalize(l.getD k default).2=b at *;have mO:(k:Int)<l.length:=ai;have cT:=ae aO;clear aO hk;have HC:=ae<|fun w=>qE HF w;go_wp2_with (go_at_call 141;refine(HC _).mono ?_;rintro e W1 ⟨rfl,a8⟩)
   go_roundw
   case rel=>exact⟨k+1,cT,by go_num,HG.trans a8⟩
   case measure=>simp[intOf];have:=cT.out;omega
  ·obtain rfl:k=l.length:=ai;clear aO hk;go_wp2_with fail;go_ret;exact⟨rfl,HG⟩
theorem lH {A:Option Addr}{n c:Nat}{l:dU}(w:World)(h:cX w A n c l)(bG:eQ l)(hn:l.length≤100):
 Calls Tryz.prog 140 #[.slice A n c,.func (.func 141) #[] #[]] w fun e w'=>e= .returned (.bool false)∧bX w w':=by
 have HI:=ae<|qm w h bG hn;clear h bG
 go_enter Tryz.func140,Tryz.ntmps140
 go_wp2_with (go_at_call 148;refine HI.mono ?_;rintro e W1 ⟨rfl,a8⟩);go_ret;exact⟨rfl,a8⟩
end
def dW (l:dU)(i k:Nat):Int:=lE ((l.getD k default).1*(l.getD i default).2) ((l.getD i default).1*(l.getD k default).2)
section
theorem qD {A:Option Addr}{n c bx i k:Nat}{l:dU}(w:World)(hx:ba w bx 0 (.slice A n c))(jY:bx<w.heap.size)(h:cX w A n c l)(bG:eQ l)(hi:i<l.length)(hk:k<l.length)(hn:l.length≤100):
 Calls Tryz.prog 144 #[ah i,ah k,aI bx] w fun e w'=>e= .returned (ah (dW l i k))∧bX w w':=by
 obtain⟨g,o,rfl,hg,x0,x1⟩:=h.at_ i hi;obtain⟨g',o',e',N9,y0,y1⟩:=h.at_ k hk;injection e' with e';injection e' with e1 e2;subst e1 e2;obtain rfl:=h.len;have ki:=bG i hi;have sq:=bG k hk;unfold dW;generalize(l.getD i default).1=t at *;generalize(l.getD i default).2=b at *;generalize(l.getD k default).1=t' at *;generalize(l.getD k default).2=b' at *;have HC:Hid (∀n os,Calls Tryz.prog 145 #[.agg #[ah t',ah b'],.agg #[ah t,ah b]] (Sort.grow (w.drewN n) os) fun e w'=>e= .returned (.tuple #[ah (lE (t'*b) (t*b')),ah 0])∧∃q ra,w'=Sort.grow ((Sort.grow (w.drewN n) os).drewN q) ra):=ae fun n os=>pH sq ki _
 have rm:=fun {a:Addr} {v:Value} (hb:a.block<w.heap.size) (hc:w.cell? a=some v)=>cell_grown hb hc
 have cx:=rm jY hx;have QR:=rm hg x0;have QQ:=rm hg x1;have QP:=rm hg y0;have QO:=rm hg y1;clear hx jY h bG x0 x1 y0 y1 ki sq hg N9;have QD:(i:Int)<l.length:=ai;have pP:(k:Int)<l.length:=ai;clear rm
 go_enter Tryz.func144,Tryz.ntmps144
 go_upto_region 1 with fail;have mixed:Tryz.prog.follows .mixedOrders=true:=by kernel_rfl
 go_quiet_grown (first|(go_at_call 145;refine Calls.grown_of (HC _ _)))
 go_wp2;go_ret;exact⟨rfl,_,_,rfl⟩
end
end Go.Proofs.YtpcfhbeakecihaaGreat
