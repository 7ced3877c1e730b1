/- Lemmas. -/
import Derived.Test.YtchofaecncibjaaGreatM17
import Derived.Shelf.SlSortCmp.NoneTotal
set_option linter.all false
set_option maxHeartbeats 20000000
set_option maxRecDepth 100000
namespace Go.Proofs.YtchofaecncibjaaGreat
open Go.ChangeShapes Go.RowKit Go.Shelf Go.WideShapes
def abw:Go.Shelf.Ren:=⟨fun|20=>162|n=>n,fun|0=>0|3=>3|4=>4|22=>61|24=>3|25=>196|n=>n,fun|n=>n⟩
theorem MQ:SlLaysF.n20 Tryz.prog abw:={
 mixed:=by kernel_rfl
 f20 := ⟨"slices.insertionSortCmpFunc[int]", rfl, Tryz.func162.trans (congrArg some bZ)⟩
 t0:=Tryz.underlying0
 a0:=Tryz.isAgg0
 z0:=Tryz.sizeOf0
 v0:=Tryz.zeroValue0
 t3:=Tryz.underlying3
 a3:=Tryz.isAgg3
 z3:=Tryz.sizeOf3
 v3:=Tryz.zeroValue3
 t4:=Tryz.underlying4
 a4:=Tryz.isAgg4
 z4:=Tryz.sizeOf4
 v4:=Tryz.zeroValue4
 t22:=Tryz.underlying61
 a22:=Tryz.isAgg61
 z22:=Tryz.sizeOf61
 v22:=Tryz.zeroValue61
 a24:=Tryz.isAgg3
 z24:=Tryz.sizeOf3
 t25:=Tryz.underlying196
 a25:=Tryz.isAgg196
 z25:=Tryz.sizeOf196
 v25:=Tryz.zeroValue196}
section
variable {α:Type}[Inhabited α]
theorem FE (enc:α→Value)(cf:α→α→Int)(g:Nat)(cb:Array Value)(blk off cap a b:Nat)(d0 d:Array α)(w0 w:World)
 (eg:∀args w,(callFunc g args).run Tryz.prog w= .ok (.enter g args) w) (wT:CmpLays1 Tryz.prog g cb enc cf blk off d0.size w0) (R:Row1 enc w0 blk off d0) (hs:d0.size=d.size) (S:SW enc w0 blk off d w) (ic:a≤b) (hb:b≤d.size) (hsz:d.size<4611686018427387904):
 Calls Tryz.prog 162 #[.slice (some ⟨blk,off,none⟩) d.size cap,ah a,ah b,.func (.func g) #[] cb] w fun e w'=>e= .returned (.tuple #[])∧SW enc w0 blk off (Sort.insertionSort (ltOf cf) d a b) w':=
 Any.insertionSortCmpFunc_s MQ enc cf g cb blk off cap a b d0 d w0 w eg wT R hs S ic hb hsz
theorem T0 (p:Option Addr)(cap:Nat)(ag0:Value)(w:World):
 Calls Tryz.prog 162 #[.slice p 0 cap,ah 0,ah 0,ag0] w fun e w'=>e= .returned (.tuple #[])∧w'=w:=
 AnyF.insertionSortCmpFunc_none {MQ with} p cap ag0 w
theorem K6 (enc:α→Value)(cf:α→α→Int)(g:Nat)(cb:Array Value)(blk off cap:Nat)(d:Array α)(w:World)
 (eg:∀args w,(callFunc g args).run Tryz.prog w= .ok (.enter g args) w) (wT:CmpLays1 Tryz.prog g cb enc cf blk off d.size w) (R:Row1 enc w blk off d) (ES:d.size<20):
 Calls Tryz.prog 160 #[.slice (some ⟨blk,off,none⟩) d.size cap,ah d.size,.func (.func g) #[] cb] w fun e w'=>e= .returned (.tuple #[])∧SW enc w blk off (Sort.insertionSort (ltOf cf) d 0 d.size) w':=by
 have HI:=ae<|FE enc cf g cb blk off cap 0 d.size d d w w eg wT R rfl (SW.start R.hH) (dT _) (dm _) ao;clear eg wT R;generalize d.size=n at *;have hn:¬(20:Int)≤n:=ao;have QL:¬(20:Int)<n:=ao
 go_enter Tryz.func160,Tryz.ntmps160
 go_upto_region 2 with fail;refine wp_loop_rounds 1 ?_;rw[rounds_succ];go_upto_region 6 with fail;go_upto_region 7 with(go_at_call 162;refine HI.mono ?_;rintro e w1 ⟨rfl,hs⟩);refine wp_loop_rounds 1 ?_;rw[rounds_succ];go_wp2
 go_end0
 exact⟨rfl,hs⟩
theorem swp_size (d:Array α)(i j:Nat):(Sort.swp d i j).size=d.size:=by unfold Sort.swp;simp
theorem vt (lt:α→α→Bool)(a:Nat):∀(j:Nat) (d:Array α),(Sort.insInner lt a j d).size=d.size
 |0,d=>rfl
 |j+1,d=>by
  unfold Sort.insInner
  split
  ·rw[vt lt a j,swp_size]
  ·rfl
theorem vq (lt:α→α→Bool)(a b:Nat):∀(k i:Nat) (d:Array α),b - i≤k→(Sort.insOuter lt a b i d).size=d.size
 |0,i,d,h=>by
  unfold Sort.insOuter;rw[if_neg ao]
 |k+1,i,d,h=>by
  unfold Sort.insOuter
  split
  ·rw[vq lt a b k (i+1) _ ao,vt]
  ·rfl
theorem jK (lt:α→α→Bool)(d:Array α)(a b:Nat):(Sort.insertionSort lt d a b).size=d.size:=vq lt a b b _ d ao
theorem Ou (enc:α→Value)(cf:α→α→Int)(g:Nat)(cb:Array Value)(blk off cap:Nat)(d:Array α)(w:World)
 (eg:∀args w,(callFunc g args).run Tryz.prog w= .ok (.enter g args) w) (wT:CmpLays1 Tryz.prog g cb enc cf blk off d.size w) (R:Row1 enc w blk off d) (ES:d.size=20):
 Calls Tryz.prog 160 #[.slice (some ⟨blk,off,none⟩) d.size cap,ah d.size,.func (.func g) #[] cb] w fun e w'=>e= .returned (.tuple #[])∧SW enc w blk off (Sort.insertionSort (ltOf cf) d 0 d.size) w':=by
 have HI:=ae<|FE enc cf g cb blk off cap 0 d.size d d w w eg wT R rfl (SW.start R.hH) (dT _) (dm _) ao;have HJ:Hid (∀w',SW enc w blk off (Sort.insertionSort (ltOf cf) d 0 d.size) w'→Calls Tryz.prog 162 #[.slice (some ⟨blk,off,none⟩) d.size cap,ah d.size,ah d.size,.func (.func g) #[] cb] w' fun e w'=>e= .returned (.tuple #[])∧SW enc w blk off (Sort.insertionSort (ltOf cf) d 0 d.size) w'):=ae (by
  intro w' hS;have hz:(Sort.insertionSort (ltOf cf) d 0 d.size).size=d.size:=jK (ltOf cf) d 0 d.size;have h:=FE enc cf g cb blk off cap d.size d.size d (Sort.insertionSort (ltOf cf) d 0 d.size) w w' eg wT R hz.symm hS (dm _) (by rw[hz];exact dm _) ao;have hi:Sort.insertionSort (ltOf cf) (Sort.insertionSort (ltOf cf) d 0 d.size) d.size d.size=Sort.insertionSort (ltOf cf) d 0 d.size:=by
   generalize Sort.insertionSort (ltOf cf) d 0 d.size=d';unfold Sort.insertionSort Sort.insOuter;rw[if_neg ao]
  rw[hi,hz]at h;exact h)
 clear eg wT R;generalize Sort.insertionSort (ltOf cf) d 0 d.size=d' at *;rw[ES]at *;clear ES
 go_enter Tryz.func160,Tryz.ntmps160
 go_upto_region 2 with fail;refine wp_loop_rounds 2 ?_;rw[rounds_succ];go_upto_region 4 with(go_at_call 162;refine HI.mono ?_;rintro e w1 ⟨rfl,hs⟩);have Rb:=ae<|HJ _ hs;clear HJ;go_wp2;rw[rounds_succ];go_upto_region 6 with fail;go_upto_region 7 with(go_at_call 162;refine Rb.mono ?_;rintro e w2 ⟨rfl,kC⟩);refine wp_loop_rounds 1 ?_;rw[rounds_succ];go_wp2
 go_end0
 exact⟨rfl,kC⟩
theorem Ox (enc:α→Value)(cf:α→α→Int)(g:Nat)(cb:Array Value)(blk off cap:Nat)(d:Array α)(w:World)
 (eg:∀args w,(callFunc g args).run Tryz.prog w= .ok (.enter g args) w) (wT:CmpLays1 Tryz.prog g cb enc cf blk off d.size w) (R:Row1 enc w blk off d) (ES:d.size≤20):
 Calls Tryz.prog 155 #[.slice (some ⟨blk,off,none⟩) d.size cap,.func (.func g) #[] cb] w fun e w'=>e= .returned (.tuple #[])∧SW enc w blk off (Sort.insertionSort (ltOf cf) d 0 d.size) w':=by
 have HI:Hid (Calls Tryz.prog 160 #[.slice (some ⟨blk,off,none⟩) d.size cap,ah d.size,.func (.func g) #[] cb] w fun e w'=>e= .returned (.tuple #[])∧SW enc w blk off (Sort.insertionSort (ltOf cf) d 0 d.size) w'):=ae (by
  by_cases h:d.size<20
  ·exact K6 enc cf g cb blk off cap d w eg wT R h
  ·exact Ou enc cf g cb blk off cap d w eg wT R ao)
 clear eg wT R;generalize d.size=n at *
 go_enter Tryz.func155,Tryz.ntmps155
 go_wp2_with (go_at_call 160;refine HI.mono ?_;rintro e w1 ⟨rfl,hs⟩)
 go_end0
 exact⟨rfl,hs⟩
theorem I1 (p:Option Addr)(cap:Nat)(ag0:Value)(w:World):
 Calls Tryz.prog 160 #[.slice p 0 cap,ah 0,ag0] w fun e w'=>e= .returned (.tuple #[])∧w=w':=by
 have HI:=ae<|T0 p cap ag0 w
 go_enter Tryz.func160,Tryz.ntmps160
 go_upto_region 2 with fail;refine wp_loop_rounds 1 ?_;rw[rounds_succ];go_upto_region 6 with fail;go_upto_region 7 with(go_at_call 162;refine HI.mono ?_;rintro e w1 ⟨rfl,rfl⟩);refine wp_loop_rounds 1 ?_;rw[rounds_succ];go_wp2
 go_end0
 exact⟨rfl,rfl⟩
theorem Cd (p:Option Addr)(cap:Nat)(ag0:Value)(w:World):
 Calls Tryz.prog 155 #[.slice p 0 cap,ag0] w fun e w'=>e= .returned (.tuple #[])∧w=w':=by
 have HI:=ae<|I1 p cap ag0 w
 go_enter Tryz.func155,Tryz.ntmps155
 go_wp2_with (go_at_call 160;refine HI.mono ?_;rintro e w1 ⟨rfl,rfl⟩)
 go_end0
 exact⟨rfl,rfl⟩
end
abbrev jR:=List (Int×Int)
structure kO (w:World)(A:Option Addr)(n c:Nat)(l:jR):Prop where
 len:n=l.length
 cap:n≤c
 max:c≤maxLen
 at_:∀i,i<l.length→∃g o,A=some ⟨g,o,none⟩∧g<w.heap.size∧aw w g (o+i*2) ((l.getD i default).1)∧aw w g (o+i*2+1) ((l.getD i default).2)
theorem kO.mH {S:Nat→Prop}{w w':World}{A:Option Addr}{n c:Nat}{l:jR}(h:kO w A n c l)(ho:ag S w w')(hS:∀g o,A=some ⟨g,o,none⟩→¬S g):kO w' A n c l:=
 ⟨h.len,h.cap,h.max,fun i hi=>by
  obtain⟨g,o,e,hg,h0,h1⟩:=h.at_ i hi;exact⟨g,o,e,Nat.lt_of_lt_of_le hg ho.size,ho.cell h0 (hS g o e),ho.cell h1 (hS g o e)⟩⟩
theorem kO.keep {w w':World}{A:Option Addr}{n c:Nat}{l:jR}(h:kO w A n c l)(ho:ag az w w'):kO w' A n c l:=h.mH ho fun _ _ _=>id
def kN (l:jR):Prop:=∀i,i<l.length→BJ (l.getD i default).1 (l.getD i default).2
def Zj (l:jR)(w:World)(i:Value)(wr:World):Prop:=∃k:Nat,k≤l.length∧i=ah k∧iy w wr
section
theorem Ly {t b:Int}(h:BJ t b)(w:World):Calls Tryz.prog 153 #[.agg (yg t b)] w fun e w'=>e= .returned (.bool false)∧iy w w':=by
 have HR:=ae<|fun w=>Ca h w
 go_enter Tryz.func153,Tryz.ntmps153
 go_upto_region 1 with fail;have HB:=ae<|Box.fresh w 245 (yg t b);have HO:=ae<|(iy.refl w).alloc (.cells (yg t b) 245);change Code.wp _ _ _ _ (w.alloc (.cells (yg t b) 245));generalize w.alloc (.cells (yg t b) 245)=W at *;generalize w.heap.size=g at *;go_wp2_with (first|(refine fH (yg t b) HB Tryz.underlying245 ?_)|(go_at_call 154;refine(HR _).mono ?_;rintro e W1 ⟨rfl,aR⟩));go_ret;exact⟨rfl,HO.trans aR⟩
theorem K3 {A:Option Addr}{n c:Nat}{l:jR}(w:World)(h:kO w A n c l)(cD:kN l)(hn:l.length≤100):
 Calls Tryz.prog 158 #[.slice A n c,.func (.func 153) #[] #[]] w fun e w'=>e= .returned (ah (-1))∧iy w w':=by
 obtain rfl:=h.len;have H:=ae h;have Gv:=ae cD;have HS:=aB (Zj l w (ah 0) w) (⟨0,dT _,rfl,iy.refl w⟩);clear h cD
 go_enter Tryz.func158,Tryz.ntmps158
 go_upto_region 2 with fail
 go_loopw [8] (fun i wr=>Zj l w i wr) (fun i _=>l.length - (intOf i).toNat)
 case atStart=>exact HS
 case round=>
  clear HS;obtain⟨k,hk,rfl,hg⟩:=hrel;have HG:=ae hg;clear hg
  by_cases aY:k<l.length
  ·obtain⟨g,o,rfl,hgl,x0,x1⟩:=(H.keep HG.aA).at_ k aY;have HF:=ae<|Gv k aY;generalize(l.getD k default).1=t at *;generalize(l.getD k default).2=b at *;have iV:(k:Int)<l.length:=ao;have bL:=ae aY;clear aY hk;have HC:=ae<|fun w=>Ly HF w;go_wp2_with (go_at_call 153;refine(HC _).mono ?_;rintro e W1 ⟨rfl,aR⟩)
   go_roundw
   case rel=>exact⟨k+1,bL,by go_num,HG.trans aR⟩
   case measure=>simp[intOf];have:=bL.out;omega
  ·obtain rfl:k=l.length:=ao;clear aY hk;go_wp2_with fail;go_ret;exact⟨rfl,HG⟩
theorem Dn {A:Option Addr}{n c:Nat}{l:jR}(w:World)(h:kO w A n c l)(cD:kN l)(hn:l.length≤100):
 Calls Tryz.prog 152 #[.slice A n c,.func (.func 153) #[] #[]] w fun e w'=>e= .returned (.bool false)∧iy w w':=by
 have HI:=ae<|K3 w h cD hn;clear h cD
 go_enter Tryz.func152,Tryz.ntmps152
 go_wp2_with (go_at_call 158;refine HI.mono ?_;rintro e W1 ⟨rfl,aR⟩);go_ret;exact⟨rfl,aR⟩
end
def jH (l:jR)(i k:Nat):Int:=uQ ((l.getD k default).1*(l.getD i default).2) ((l.getD i default).1*(l.getD k default).2)
section
theorem Lx {A:Option Addr}{n c bx i k:Nat}{l:jR}(w:World)(hx:aE w bx 0 (.slice A n c))(gX:bx<w.heap.size)(h:kO w A n c l)(cD:kN l)(hi:i<l.length)(hk:k<l.length)(hn:l.length≤100):
 Calls Tryz.prog 156 #[ah i,ah k,aO bx] w fun e w'=>e= .returned (ah (jH l i k))∧iy w w':=by
 obtain⟨g,o,rfl,hg,x0,x1⟩:=h.at_ i hi;obtain⟨g',o',e',hg',y0,y1⟩:=h.at_ k hk;injection e' with e';injection e' with e1 e2;subst e1 e2;obtain rfl:=h.len;have k6:=cD i hi;have lG:=cD k hk;unfold jH;generalize(l.getD i default).1=t at *;generalize(l.getD i default).2=b at *;generalize(l.getD k default).1=t' at *;generalize(l.getD k default).2=b' at *;have HC:Hid (∀n os,Calls Tryz.prog 157 #[.agg #[ah t',ah b'],.agg #[ah t,ah b]] (Sort.grow (w.drewN n) os) fun e w'=>e= .returned (.tuple #[ah (uQ (t'*b) (t*b')),ah 0])∧∃q Mf,w'=Sort.grow ((Sort.grow (w.drewN n) os).drewN q) Mf):=ae fun n os=>Jx lG k6 _
 have jU:=fun {a:Addr} {v:Value} (hb:a.block<w.heap.size) (hc:w.cell? a=some v)=>cell_grown hb hc
 have cx:=jU gX hx;have cx0:=jU hg x0;have cx1:=jU hg x1;have cy0:=jU hg y0;have cy1:=jU hg y1;clear hx gX h cD x0 x1 y0 y1 k6 lG hg hg';have UC:(i:Int)<l.length:=ao;have pr:(k:Int)<l.length:=ao;clear jU
 go_enter Tryz.func156,Tryz.ntmps156
 go_upto_region 1 with fail;have mixed:Tryz.prog.follows .mixedOrders=true:=by kernel_rfl
 go_quiet_grown (first|(go_at_call 157;refine Calls.grown_of (HC _ _)))
 go_wp2;go_ret;exact⟨rfl,_,_,rfl⟩
end
end Go.Proofs.YtchofaecncibjaaGreat
