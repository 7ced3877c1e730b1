/- Lemmas. -/
import Derived.Test.YtpcfhbeakecihaaGreatM16
import Derived.Shelf.SlSortCmp.NoneTotal
set_option linter.all false
set_option maxHeartbeats 20000000
set_option maxRecDepth 100000
namespace Go.Proofs.YtpcfhbeakecihaaGreat
open Go.ChangeShapes Go.RowKit Go.Shelf Go.WideShapes
def Ty:Go.Shelf.Ren:=⟨fun|20=>152|n=>n,fun|0=>0|3=>3|4=>4|22=>47|24=>3|25=>172|n=>n,fun|n=>n⟩
theorem FF:SlLaysF.n20 Tryz.prog Ty:={
 mixed:=by kernel_rfl
 f20 := ⟨"slices.insertionSortCmpFunc[int]", rfl, Tryz.func152.trans (congrArg some aS)⟩
 t0:=Tryz.underlying0
 a0:=Tryz.isAgg0
 z0:=Tryz.sizeOf0
 v0:=Tryz.zeroValue0
 t3:=Tryz.underlying3
 a3:=Tryz.isAgg3
 z3:=Tryz.sizeOf3
 v3:=Tryz.zeroValue3
 t4:=Tryz.underlying4
 a4:=Tryz.isAgg4
 z4:=Tryz.sizeOf4
 v4:=Tryz.zeroValue4
 t22:=Tryz.underlying47
 a22:=Tryz.isAgg47
 z22:=Tryz.sizeOf47
 v22:=Tryz.zeroValue47
 a24:=Tryz.isAgg3
 z24:=Tryz.sizeOf3
 t25:=Tryz.underlying172
 a25:=Tryz.isAgg172
 z25:=Tryz.sizeOf172
 v25:=Tryz.zeroValue172}
section
variable {α:Type}[Inhabited α]
theorem zN (enc:α→Value)(cf:α→α→Int)(g:Nat)(cb:Array Value)(blk off cap a b:Nat)(d0 d:Array α)(w0 w:World)
 (eg:∀args w,(callFunc g args).run Tryz.prog w= .ok (.enter g args) w) (sm:CmpLays1 Tryz.prog g cb enc cf blk off d0.size w0) (R:Row1 enc w0 blk off d0) (hs:d0.size=d.size) (S:SW enc w0 blk off d w) (fS:a≤b) (hb:b≤d.size) (hsz:d.size<4611686018427387904):
 Calls Tryz.prog 152 #[.slice (some ⟨blk,off,none⟩) d.size cap,ah a,ah b,.func (.func g) #[] cb] w fun e w'=>e= .returned (.tuple #[])∧SW enc w0 blk off (Sort.insertionSort (ltOf cf) d a b) w':=
 Any.insertionSortCmpFunc_s FF enc cf g cb blk off cap a b d0 d w0 w eg sm R hs S fS hb hsz
theorem Mk (p:Option Addr)(cap:Nat)(fv:Value)(w:World):
 Calls Tryz.prog 152 #[.slice p 0 cap,ah 0,ah 0,fv] w fun e w'=>e= .returned (.tuple #[])∧w'=w:=
 AnyF.insertionSortCmpFunc_none {FF with} p cap fv w
theorem D1 (enc:α→Value)(cf:α→α→Int)(g:Nat)(cb:Array Value)(blk off cap:Nat)(d:Array α)(w:World)
 (eg:∀args w,(callFunc g args).run Tryz.prog w= .ok (.enter g args) w) (sm:CmpLays1 Tryz.prog g cb enc cf blk off d.size w) (R:Row1 enc w blk off d) (Se:d.size<20):
 Calls Tryz.prog 150 #[.slice (some ⟨blk,off,none⟩) d.size cap,ah d.size,.func (.func g) #[] cb] w fun e w'=>e= .returned (.tuple #[])∧SW enc w blk off (Sort.insertionSort (ltOf cf) d 0 d.size) w':=by
 have HI:=ae<|zN enc cf g cb blk off cap 0 d.size d d w w eg sm R rfl (SW.start R.hH) (fH _) (dX _) aj;clear eg sm R;generalize d.size=n at *;have hn:¬(20:Int)≤n:=aj;have Jx:¬(20:Int)<n:=aj
 go_enter Tryz.func150,Tryz.ntmps150
 go_upto_region 2 with fail;refine wp_loop_rounds 1 ?_;rw[rounds_succ];go_upto_region 6 with fail;go_upto_region 7 with(go_at_call 152;refine HI.mono ?_;rintro e w1 ⟨rfl,hs⟩);refine wp_loop_rounds 1 ?_;rw[rounds_succ];go_wp2
 go_end0
 exact⟨rfl,hs⟩
theorem swp_size (d:Array α)(i j:Nat):(Sort.swp d i j).size=d.size:=by unfold Sort.swp;simp
theorem ru (lt:α→α→Bool)(a:Nat):∀(j:Nat) (d:Array α),(Sort.insInner lt a j d).size=d.size
 |0,d=>rfl
 |j+1,d=>by
  unfold Sort.insInner
  split
  ·rw[ru lt a j,swp_size]
  ·rfl
theorem rq (lt:α→α→Bool)(a b:Nat):∀(k i:Nat) (d:Array α),b - i≤k→(Sort.insOuter lt a b i d).size=d.size
 |0,i,d,h=>by
  unfold Sort.insOuter;rw[if_neg aj]
 |k+1,i,d,h=>by
  unfold Sort.insOuter
  split
  ·rw[rq lt a b k (i+1) _ aj,ru]
  ·rfl
theorem gT (lt:α→α→Bool)(d:Array α)(a b:Nat):(Sort.insertionSort lt d a b).size=d.size:=rq lt a b b _ d aj
theorem Hk (enc:α→Value)(cf:α→α→Int)(g:Nat)(cb:Array Value)(blk off cap:Nat)(d:Array α)(w:World)
 (eg:∀args w,(callFunc g args).run Tryz.prog w= .ok (.enter g args) w) (sm:CmpLays1 Tryz.prog g cb enc cf blk off d.size w) (R:Row1 enc w blk off d) (Se:d.size=20):
 Calls Tryz.prog 150 #[.slice (some ⟨blk,off,none⟩) d.size cap,ah d.size,.func (.func g) #[] cb] w fun e w'=>e= .returned (.tuple #[])∧SW enc w blk off (Sort.insertionSort (ltOf cf) d 0 d.size) w':=by
 have HI:=ae<|zN enc cf g cb blk off cap 0 d.size d d w w eg sm R rfl (SW.start R.hH) (fH _) (dX _) aj;have HJ:Hid (∀w',SW enc w blk off (Sort.insertionSort (ltOf cf) d 0 d.size) w'→Calls Tryz.prog 152 #[.slice (some ⟨blk,off,none⟩) d.size cap,ah d.size,ah d.size,.func (.func g) #[] cb] w' fun e w'=>e= .returned (.tuple #[])∧SW enc w blk off (Sort.insertionSort (ltOf cf) d 0 d.size) w'):=ae (by
  intro w' hS;have hz:(Sort.insertionSort (ltOf cf) d 0 d.size).size=d.size:=gT (ltOf cf) d 0 d.size;have h:=zN enc cf g cb blk off cap d.size d.size d (Sort.insertionSort (ltOf cf) d 0 d.size) w w' eg sm R hz.symm hS (dX _) (by rw[hz];exact dX _) aj;have hi:Sort.insertionSort (ltOf cf) (Sort.insertionSort (ltOf cf) d 0 d.size) d.size d.size=Sort.insertionSort (ltOf cf) d 0 d.size:=by
   generalize Sort.insertionSort (ltOf cf) d 0 d.size=d';unfold Sort.insertionSort Sort.insOuter;rw[if_neg aj]
  rw[hi,hz]at h;exact h)
 clear eg sm R;generalize Sort.insertionSort (ltOf cf) d 0 d.size=d' at *;rw[Se]at *;clear Se
 go_enter Tryz.func150,Tryz.ntmps150
 go_upto_region 2 with fail;refine wp_loop_rounds 2 ?_;rw[rounds_succ];go_upto_region 4 with(go_at_call 152;refine HI.mono ?_;rintro e w1 ⟨rfl,hs⟩);have Q2:=ae<|HJ _ hs;clear HJ;go_wp2;rw[rounds_succ];go_upto_region 6 with fail;go_upto_region 7 with(go_at_call 152;refine Q2.mono ?_;rintro e w2 ⟨rfl,uC⟩);refine wp_loop_rounds 1 ?_;rw[rounds_succ];go_wp2
 go_end0
 exact⟨rfl,uC⟩
theorem Hz (enc:α→Value)(cf:α→α→Int)(g:Nat)(cb:Array Value)(blk off cap:Nat)(d:Array α)(w:World)
 (eg:∀args w,(callFunc g args).run Tryz.prog w= .ok (.enter g args) w) (sm:CmpLays1 Tryz.prog g cb enc cf blk off d.size w) (R:Row1 enc w blk off d) (Se:d.size≤20):
 Calls Tryz.prog 143 #[.slice (some ⟨blk,off,none⟩) d.size cap,.func (.func g) #[] cb] w fun e w'=>e= .returned (.tuple #[])∧SW enc w blk off (Sort.insertionSort (ltOf cf) d 0 d.size) w':=by
 have HI:Hid (Calls Tryz.prog 150 #[.slice (some ⟨blk,off,none⟩) d.size cap,ah d.size,.func (.func g) #[] cb] w fun e w'=>e= .returned (.tuple #[])∧SW enc w blk off (Sort.insertionSort (ltOf cf) d 0 d.size) w'):=ae (by
  by_cases h:d.size<20
  ·exact D1 enc cf g cb blk off cap d w eg sm R h
  ·exact Hk enc cf g cb blk off cap d w eg sm R aj)
 clear eg sm R;generalize d.size=n at *
 go_enter Tryz.func143,Tryz.ntmps143
 go_wp2_with (go_at_call 150;refine HI.mono ?_;rintro e w1 ⟨rfl,hs⟩)
 go_end0
 exact⟨rfl,hs⟩
theorem Cx (p:Option Addr)(cap:Nat)(fv:Value)(w:World):
 Calls Tryz.prog 150 #[.slice p 0 cap,ah 0,fv] w fun e w'=>e= .returned (.tuple #[])∧w=w':=by
 have HI:=ae<|Mk p cap fv w
 go_enter Tryz.func150,Tryz.ntmps150
 go_upto_region 2 with fail;refine wp_loop_rounds 1 ?_;rw[rounds_succ];go_upto_region 6 with fail;go_upto_region 7 with(go_at_call 152;refine HI.mono ?_;rintro e w1 ⟨rfl,rfl⟩);refine wp_loop_rounds 1 ?_;rw[rounds_succ];go_wp2
 go_end0
 exact⟨rfl,rfl⟩
theorem wh (p:Option Addr)(cap:Nat)(fv:Value)(w:World):
 Calls Tryz.prog 143 #[.slice p 0 cap,fv] w fun e w'=>e= .returned (.tuple #[])∧w=w':=by
 have HI:=ae<|Cx p cap fv w
 go_enter Tryz.func143,Tryz.ntmps143
 go_wp2_with (go_at_call 150;refine HI.mono ?_;rintro e w1 ⟨rfl,rfl⟩)
 go_end0
 exact⟨rfl,rfl⟩
end
abbrev gO:=List (Int×Int)
structure iF (w:World)(A:Option Addr)(n c:Nat)(l:gO):Prop where
 len:n=l.length
 cap:n≤c
 max:c≤maxLen
 at_:∀i,i<l.length→∃g o,A=some ⟨g,o,none⟩∧g<w.heap.size∧aF w g (o+i*2) ((l.getD i default).1)∧aF w g (o+i*2+1) ((l.getD i default).2)
theorem iF.q7 {S:Nat→Prop}{w w':World}{A:Option Addr}{n c:Nat}{l:gO}(h:iF w A n c l)(ho:af S w w')(hS:∀g o,A=some ⟨g,o,none⟩→¬S g):iF w' A n c l:=
 ⟨h.len,h.cap,h.max,fun i hi=>by
  obtain⟨g,o,e,hg,h0,h1⟩:=h.at_ i hi;exact⟨g,o,e,Nat.lt_of_lt_of_le hg ho.size,ho.cell h0 (hS g o e),ho.cell h1 (hS g o e)⟩⟩
theorem iF.keep {w w':World}{A:Option Addr}{n c:Nat}{l:gO}(h:iF w A n c l)(ho:af au w w'):iF w' A n c l:=h.q7 ho fun _ _ _=>id
def iE (l:gO):Prop:=∀i,i<l.length→vz (l.getD i default).1 (l.getD i default).2
def RA (l:gO)(w:World)(i:Value)(wr:World):Prop:=∃k:Nat,k≤l.length∧i=ah k∧fG w wr
section
theorem Es {t b:Int}(h:vz t b)(w:World):Calls Tryz.prog 141 #[.agg (s8 t b)] w fun e w'=>e= .returned (.bool false)∧fG w w':=by
 have HR:=ae<|fun w=>wa h w
 go_enter Tryz.func141,Tryz.ntmps141
 go_upto_region 1 with fail;have HB:=ae<|Box.fresh w 239 (s8 t b);have HO:=ae<|(fG.refl w).alloc (.cells (s8 t b) 239);change Code.wp _ _ _ _ (w.alloc (.cells (s8 t b) 239));generalize w.alloc (.cells (s8 t b) 239)=W at *;generalize w.heap.size=g at *;go_wp2_with (first|(refine iy (s8 t b) HB Tryz.underlying239 ?_)|(go_at_call 142;refine(HR _).mono ?_;rintro e W1 ⟨rfl,aK⟩));go_ret;exact⟨rfl,HO.trans aK⟩
theorem DX {A:Option Addr}{n c:Nat}{l:gO}(w:World)(h:iF w A n c l)(bN:iE l)(hn:l.length≤100):
 Calls Tryz.prog 148 #[.slice A n c,.func (.func 141) #[] #[]] w fun e w'=>e= .returned (ah (-1))∧fG w w':=by
 obtain rfl:=h.len;have H:=ae h;have Fk:=ae bN;have HS:=aq (RA l w (ah 0) w) (⟨0,fH _,rfl,fG.refl w⟩);clear h bN
 go_enter Tryz.func148,Tryz.ntmps148
 go_upto_region 2 with fail
 go_loopw [8] (fun i wr=>RA l w i wr) (fun i _=>l.length - (intOf i).toNat)
 case atStart=>exact HS
 case round=>
  clear HS;obtain⟨k,hk,rfl,hg⟩:=hrel;have HG:=ae hg;clear hg
  by_cases aY:k<l.length
  ·obtain⟨g,o,rfl,hgl,x0,x1⟩:=(H.keep HG.ar).at_ k aY;have HF:=ae<|Fk k aY;generalize(l.getD k default).1=t at *;generalize(l.getD k default).2=b at *;have jk:(k:Int)<l.length:=aj;have cD:=ae aY;clear aY hk;have HC:=ae<|fun w=>Es HF w;go_wp2_with (go_at_call 141;refine(HC _).mono ?_;rintro e W1 ⟨rfl,aK⟩)
   go_roundw
   case rel=>exact⟨k+1,cD,by go_num,HG.trans aK⟩
   case measure=>simp[intOf];have:=cD.out;omega
  ·obtain rfl:k=l.length:=aj;clear aY hk;go_wp2_with fail;go_ret;exact⟨rfl,HG⟩
theorem xr {A:Option Addr}{n c:Nat}{l:gO}(w:World)(h:iF w A n c l)(bN:iE l)(hn:l.length≤100):
 Calls Tryz.prog 140 #[.slice A n c,.func (.func 141) #[] #[]] w fun e w'=>e= .returned (.bool false)∧fG w w':=by
 have HI:=ae<|DX w h bN hn;clear h bN
 go_enter Tryz.func140,Tryz.ntmps140
 go_wp2_with (go_at_call 148;refine HI.mono ?_;rintro e W1 ⟨rfl,aK⟩);go_ret;exact⟨rfl,aK⟩
end
def gP (l:gO)(i k:Nat):Int:=qV ((l.getD k default).1*(l.getD i default).2) ((l.getD i default).1*(l.getD k default).2)
section
theorem Er {A:Option Addr}{n c bx i k:Nat}{l:gO}(w:World)(hx:aM w bx 0 (.slice A n c))(py:bx<w.heap.size)(h:iF w A n c l)(bN:iE l)(hi:i<l.length)(hk:k<l.length)(hn:l.length≤100):
 Calls Tryz.prog 144 #[ah i,ah k,aO bx] w fun e w'=>e= .returned (ah (gP l i k))∧fG w w':=by
 obtain⟨g,o,rfl,hg,x0,x1⟩:=h.at_ i hi;obtain⟨g',o',e',hg',y0,y1⟩:=h.at_ k hk;injection e' with e';injection e' with e1 e2;subst e1 e2;obtain rfl:=h.len;have kr:=bN i hi;have lE:=bN k hk;unfold gP;generalize(l.getD i default).1=t at *;generalize(l.getD i default).2=b at *;generalize(l.getD k default).1=t' at *;generalize(l.getD k default).2=b' at *;have HC:Hid (∀n os,Calls Tryz.prog 145 #[.agg #[ah t',ah b'],.agg #[ah t,ah b]] (Sort.grow (w.drewN n) os) fun e w'=>e= .returned (.tuple #[ah (qV (t'*b) (t*b')),ah 0])∧∃q EX,w'=Sort.grow ((Sort.grow (w.drewN n) os).drewN q) EX):=ae fun n os=>CW lE kr _
 have pE:=fun {a:Addr} {v:Value} (hb:a.block<w.heap.size) (hc:w.cell? a=some v)=>cell_grown hb hc
 have cx:=pE py hx;have cx0:=pE hg x0;have cx1:=pE hg x1;have cy0:=pE hg y0;have cy1:=pE hg y1;clear hx py h bN x0 x1 y0 y1 kr lE hg hg';have hii:(i:Int)<l.length:=aj;have xC:(k:Int)<l.length:=aj;clear pE
 go_enter Tryz.func144,Tryz.ntmps144
 go_upto_region 1 with fail;have mixed:Tryz.prog.follows .mixedOrders=true:=by kernel_rfl
 go_quiet_grown (first|(go_at_call 145;refine Calls.grown_of (HC _ _)))
 go_wp2;go_ret;exact⟨rfl,_,_,rfl⟩
end
end Go.Proofs.YtpcfhbeakecihaaGreat
