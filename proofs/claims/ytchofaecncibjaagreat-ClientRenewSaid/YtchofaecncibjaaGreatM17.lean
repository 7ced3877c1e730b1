/- Lemmas. -/
import Derived.Test.YtchofaecncibjaaGreatM2
import Derived.Test.YtchofaecncibjaaGreatM3
import Derived.Test.YtchofaecncibjaaGreatM5
import Derived.Test.YtchofaecncibjaaGreatM10
import Derived.Test.YtchofaecncibjaaGreatM16
import Derived.Deep.CutRange
import Derived.Sort.Grow
set_option linter.all false
set_option maxHeartbeats 20000000
set_option maxRecDepth 100000
namespace Go.Proofs.YtchofaecncibjaaGreat
open Go.ChangeShapes Go.RowKit Go.WideShapes
theorem abA {b:Nat}{n:Int}(h:FI b n):FI (Op.negFloat .f64 b) (-n):=by
 have e:Op.negFloat .f64 b=b ^^^ 2 ^ 63:=rfl;have hs:Ieee.double.signWeight=2 ^ 63:=aD;have h1:(b ^^^ 2 ^ 63) % 2 ^ 63=b % 2 ^ 63:=by
  rw[Nat.xor_mod_two_pow,Nat.mod_self,Nat.xor_zero]
 have h2:(b ^^^ 2 ^ 63) / 2 ^ 63 % 2=1 - b / 2 ^ 63 % 2:=by
  rw[Nat.xor_div_two_pow,Nat.div_self aD];have:=Nat.xor_mod_two_pow (a:=b / 2 ^ 63) (b:=1) (n:=1);rw[Nat.pow_one]at this;rw[this];rcases Nat.mod_two_eq_zero_or_one (b / 2 ^ 63)with h|h<;>rw[h]<;>decide
 obtain⟨s,m,k,hr,hv⟩:=h;rw[e];refine⟨!s,m,k,?_,?_⟩
 ·unfold Ieee.Format.read at hr ⊢;simp only[hs,h1,h2]at hr ⊢;have Yd:((1 - b / 2 ^ 63 % 2==1):Bool)= !(b / 2 ^ 63 % 2==1):=by
   rcases Nat.mod_two_eq_zero_or_one (b / 2 ^ 63)with h|h<;>rw[h]<;>rfl
  rw[Yd]
  split at hr
  ·rename_i h3
   rw[if_pos h3];injection hr with e1 e2 e3;rw[e1,e2,e3]
  ·rename_i h3
   rw[if_neg h3]
   split at hr
   ·rename_i h4
    rw[if_pos h4];injection hr with e1 e2 e3;rw[e1,e2,e3]
   ·rename_i h4
    exfalso
    split at hr<;>cases hr
 ·rw[Int.neg_mul,←hv]
  cases s<;>simp
theorem Nr {a b c d:Nat}{x y u v:Int}(ha:FI a x)(hb:FI b y)(hc:FI c u)(hd:FI d v)(h1:x.natAbs<65536)(h2:y.natAbs<65536)(h3:u.natAbs<65536)(h4:v.natAbs<65536):
 ∃re im,cMulBits a b c d=some (re,im)∧FI re (x*u - y*v)∧FI im (x*v+y*u):=by
 have hm:∀p q:Int,p.natAbs<65536→q.natAbs<65536→(p*q).natAbs<4294967296:=fun p q hp hq=>by
  rw[Int.natAbs_mul]
  calc p.natAbs*q.natAbs≤65535*65535:=Nat.mul_le_mul ao ao
   _<4294967296:=aD
 have m1:=hm x u h1 h3;have m2:=hm y v h2 h4;have m3:=hm x v h1 h4;have m4:=hm y u h2 h3;obtain⟨r1,e1,f1⟩:=Fi ha hc ao;obtain⟨r2,e2,f2⟩:=Fi hb hd ao;obtain⟨r3,e3,f3⟩:=abt f1 f2 ao;obtain⟨r4,e4,f4⟩:=Fi ha hd ao;obtain⟨r5,e5,f5⟩:=Fi hb hc ao;obtain⟨r6,e6,f6⟩:=abW f4 f5 ao;refine⟨r3,r6,?_,f3,f6⟩;unfold cMulBits;rw[e1,e2,e4,e5]
 show((floatBits .sub .f64 r1 r2).bind fun re=>(floatBits .add .f64 r4 r5).bind fun im=>some (re,im))=_
 rw[e3,e6];rfl
def pZ (n:Int):Int:=n / 65536
def uL (n:Int):Int:=n % 65536
section
theorem sc{P:Prop}(h:P:=by
 rw[fB,dX];clear fB dX
 go_enter Tryz.func159,Tryz.ntmps159
 go_wp2;go_ret;exact⟨rfl,rfl⟩):P:=h
theorem tY (n m:Int)(w:World):Calls Tryz.prog 159 #[ah n,ah m] w fun e w'=>e= .returned (.bool (decide (0≤n)&&decide (n≤m)))∧w=w':=by
 by_cases h1:0≤n
 ·have fB:decide (0≤n)=true:=by simp[h1]
  by_cases h2:n≤m
  ·have dX:decide (n≤m)=true:=by simp[h2]
   exact sc
  ·have dX:decide (n≤m)=false:=by simp[h2]
   exact sc
 ·have fB:decide (0≤n)=false:=by simp[h1]
  rw[fB];clear fB
  go_enter Tryz.func159,Tryz.ntmps159
  go_wp2;go_ret;exact⟨rfl,rfl⟩
def ptW (n:Int):Value:=.complex .f64 (floatOfInt .f64 (pZ n)) (floatOfInt .f64 (uL n))
theorem OY {n:Int}(h0:0≤n)(h1:n<4294967296)(w:World):Calls Tryz.prog 166 #[ah n] w fun e w'=>e= .returned (ptW n)∧w=w':=by
 have hand:bits .and .i64 n 65535=uL n:=bits_mask .i64 63 aD (fun n h0 h1=>by rw[IntKind.wrap_i64];omega) 16 aD n h0 ao
 go_enter Tryz.func166,Tryz.ntmps166
 go_wp2;go_ret;exact⟨rfl,rfl⟩
theorem LC (a b:Nat)(w:World):Calls Tryz.prog 167 #[.complex .f64 a b] w fun e w'=>e= .returned (.complex .f64 a (Op.negFloat .f64 b))∧w=w':=by
 have Rn:Op.unary .neg (.float .f64 b)=pure (.float .f64 (Op.negFloat .f64 b)):=rfl
 go_enter Tryz.func167,Tryz.ntmps167
 go_wp2;go_ret;exact⟨rfl,rfl⟩
theorem kQ (u v:Int)(h1:0≤u∧u<65536)(h2:0≤v∧v<65536):0≤u*v∧u*v≤4294836225:=by
 refine⟨Int.mul_nonneg h1.1 h2.1,?_⟩
 calc u*v≤65535*65535:=Int.mul_le_mul ao ao h2.1 ao
  _=4294836225:=aD
theorem FK {fn:Func}{t u v x:Tmp}(h:fn.results=#[.tmp t,.tmp u,.tmp v,.tmp x])(tmps:Array Value)(P:Program)(w:World):
 (results fn tmps).run P w= .ok (.tuple #[tmps.getD t undef,tmps.getD u undef,tmps.getD v undef,tmps.getD x undef]) w:=by
 simp[results,h]
theorem Lv {x y A B C D:Int}{pa pb:Int→Nat}{d' r1 i1 r2 i2:Nat}(w:World)(m1:0≤A∧A≤4294836225)(m2:0≤B∧B≤4294836225)(m3:0≤C∧C≤4294836225)(m4:0≤D∧D≤4294836225)
 (th:0≤x) (Dy:x≤4294967295) (Ya:0≤y) (Dx:y≤4294967295)
 (px:∀n,0≤n→n≤4294967295→∀w,Calls Tryz.prog 166 #[ah n] w fun e w'=>e= .returned (.complex .f64 (pa n) (pb n))∧w=w')
 (mir:∀w,Calls Tryz.prog 167 #[.complex .f64 (pa y) (pb y)] w fun e w'=>e= .returned (.complex .f64 (pa y) d')∧w=w')
 (u1:∀w,(binOp .mul 260 (.complex .f64 (pa x) (pb x)) (.complex .f64 (pa y) (pb y))).run Tryz.prog w= .ok (.complex .f64 r1 i1) w)
 (u2:∀w,(binOp .mul 260 (.complex .f64 (pa x) (pb x)) (.complex .f64 (pa y) d')).run Tryz.prog w= .ok (.complex .f64 r2 i2) w)
 (c1:∀w,(convert 263 3 (.float .f64 r1)).run Tryz.prog w= .ok (ah (A - B)) w)
 (c2:∀w,(convert 263 3 (.float .f64 r2)).run Tryz.prog w= .ok (ah (A+B)) w)
 (c3:∀w,(convert 263 3 (.float .f64 i1)).run Tryz.prog w= .ok (ah (C+D)) w):
 Calls Tryz.prog 164 #[ah x,ah y] w fun e w'=>e= .returned (.tuple #[ah A,ah (C+D),ah B,ah 0])∧w=w':=by
 have px:=ae px;have mir:=ae mir;have U1:=ae u1;have U2:=ae u2;have C1:=ae c1;have C2:=ae c2;have C3:=ae c3;clear u1 u2 c1 c2 c3
 go_enter Tryz.func164,Tryz.ntmps164
 go_upto_region 3 with(go_at_call 159;refine(tY _ _ _).mono ?_;rintro e w1 ⟨rfl,rfl⟩);have u1:=U1.out;have u2:=U2.out;have c1:=C1.out;have c2:=C2.out;have c3:=C3.out;clear U1 U2 C1 C2 C3;go_upto_region 5 with(first|(go_at_call 166;refine(px.out _ (by assumption) (by assumption) _).mono ?_;rintro e w1 ⟨rfl,rfl⟩)|(go_at_call 167;refine(mir.out _).mono ?_;rintro e w1 ⟨rfl,rfl⟩));have q1:IntKind.i64.wrap ((A+B)+(A - B))=2*A:=by rw[IntKind.wrap_i64];omega
 have q2:IntKind.i64.wrap ((A+B) - (A - B))=2*B:=by rw[IntKind.wrap_i64];omega
 have q3:Int.tdiv (2*A) 2=A:=by rw[Int.tdiv_eq_ediv_of_nonneg ao];omega
 have q4:Int.tdiv (2*B) 2=B:=by rw[Int.tdiv_eq_ediv_of_nonneg ao];omega
 go_wp2
 (try simp only[Exit.inBlock,Exit.then])
 refine bodyPost_ret (FK rfl _ _ _) rfl ?_;exact⟨rfl,rfl⟩
theorem OZ {x y:Int}(th:0≤x)(Dy:x≤4294967295)(Ya:0≤y)(Dx:y≤4294967295)(w:World):
 Calls Tryz.prog 164 #[ah x,ah y] w fun e w'=>e= .returned (.tuple #[ah (pZ x*pZ y),ah (pZ x*uL y+uL x*pZ y),ah (uL x*uL y),ah 0])∧w=w':=by
 have ax:0≤pZ x∧pZ x<65536:=by unfold pZ;omega
 have ay:0≤pZ y∧pZ y<65536:=by unfold pZ;omega
 have bx:0≤uL x∧uL x<65536:=by unfold uL;omega
 have bY:0≤uL y∧uL y<65536:=by unfold uL;omega
 have fx:=xG (pZ x) ao;have gx:=xG (uL x) ao;have fy:=xG (pZ y) ao;have gy:=xG (uL y) ao;obtain⟨r1,i1,e1,k1,l1⟩:=Nr fx gx fy gy ao ao ao ao;obtain⟨r2,i2,e2,k2,l2⟩:=Nr fx gx fy (abA gy) ao ao ao ao;have m1:=kQ _ _ ax ay;have m2:=kQ _ _ bx bY;have m3:=kQ _ _ ax bY;have m4:=kQ _ _ bx ay;rw[Int.mul_neg,Int.sub_neg]at k2;exact Lv (pa:=fun n=>floatOfInt .f64 (pZ n)) (pb:=fun n=>floatOfInt .f64 (uL n)) w m1 m2 m3 m4 th Dy Ya Dx
  (fun n h0 h1 w=>OY h0 ao w) (fun w=>LC _ _ w)
  (fun w=>run_complex_mul (P:=Tryz.prog) w _ _ _ _ _ r1 i1 e1) (fun w=>run_complex_mul (P:=Tryz.prog) w _ _ _ _ _ r2 i2 e2)
  (fun w=>run_convert_float_int (P:=Tryz.prog) w _ _ .f64 .i64 r1 _ bZ bZ (BR k1 ao))
  (fun w=>run_convert_float_int (P:=Tryz.prog) w _ _ .f64 .i64 r2 _ bZ bZ (BR k2 ao))
  (fun w=>run_convert_float_int (P:=Tryz.prog) w _ _ .f64 .i64 i1 _ bZ bZ (BR l1 ao))
theorem afj (x y:Int):pZ x*pZ y*4294967296+(pZ x*uL y+uL x*pZ y)*65536+uL x*uL y=x*y:=by
 have e1:x=pZ x*65536+uL x:=by unfold pZ uL;omega
 have e2:y=pZ y*65536+uL y:=by unfold pZ uL;omega
 generalize pZ x=a at *;generalize uL x=b at *;generalize pZ y=c at *;generalize uL y=d at *;subst e1 e2;have h1:a*65536*(c*65536)=a*c*4294967296:=by
  rw[Int.mul_assoc,Int.mul_left_comm 65536 c 65536,←Int.mul_assoc];rfl
 have h2:a*65536*d=a*d*65536:=by rw[Int.mul_assoc,Int.mul_comm 65536 d,←Int.mul_assoc]
 have h3:b*(c*65536)=b*c*65536:=by rw[Int.mul_assoc]
 have h4:(a*65536+b)*(c*65536+d)=a*65536*(c*65536)+a*65536*d+(b*(c*65536)+b*d):=by
  rw[Int.add_mul,Int.mul_add,Int.mul_add]
 rw[h4,h1,h2,h3,Int.add_mul];omega
theorem M9 {x y:Int}(th:0≤x)(Dy:x≤2147483647)(Ya:0≤y)(Dx:y≤2147483647)(w:World):
 Calls Tryz.prog 161 #[ah x,ah y] w fun e w'=>e= .returned (.tuple #[ah (x*y),ah 0])∧w=w':=by
 have HP:=fun w=>OZ th (by omega:x≤4294967295) Ya (by omega:y≤4294967295) w
 have ax:0≤pZ x∧pZ x<32768:=by unfold pZ;omega
 have ay:0≤pZ y∧pZ y<32768:=by unfold pZ;omega
 have bx:0≤uL x∧uL x<65536:=by unfold uL;omega
 have bY:0≤uL y∧uL y<65536:=by unfold uL;omega
 have m1:0≤pZ x*pZ y∧pZ x*pZ y≤1073676289:=by
  refine⟨Int.mul_nonneg ax.1 ay.1,?_⟩
  calc pZ x*pZ y≤32767*32767:=Int.mul_le_mul ao ao ay.1 ao
   _=1073676289:=aD
 have m2:=kQ _ _ bx bY;have m3:=kQ (pZ x) (uL y) ao bY;have m4:=kQ (uL x) (pZ y) bx ao;have he:=afj x y;rw[←he];clear he ax ay bx bY;have HP:=ae HP;have gen:∀A B C D:Int,0≤A∧A≤1073676289→0≤B∧B≤4294836225→0≤C∧C≤4294836225→0≤D∧D≤4294836225→
  (∀w,Calls Tryz.prog 164 #[ah x,ah y] w fun e w'=>e= .returned (.tuple #[ah A,ah (C+D),ah B,ah 0])∧w=w')→
  Calls Tryz.prog 161 #[ah x,ah y] w fun e w'=>e= .returned (.tuple #[ah (A*4294967296+(C+D)*65536+B),ah 0])∧w=w':=by
  intro A B C D m1 m2 m3 m4 HP2;have HP2:=ae HP2;have q1:IntKind.i64.wrap (A*4294967296)=A*4294967296:=by rw[IntKind.wrap_i64];omega
  have q2:IntKind.i64.wrap ((C+D)*65536)=(C+D)*65536:=by rw[IntKind.wrap_i64];omega
  clear HP
  go_enter Tryz.func161,Tryz.ntmps161
  go_upto_region 3 with(go_at_call 159;refine(tY _ _ _).mono ?_;rintro e w1 ⟨rfl,rfl⟩);go_upto_region 4 with(go_at_call 164;refine(HP2 _).mono ?_;rintro e w1 ⟨rfl,rfl⟩);go_wp2;go_ret2;exact⟨rfl,rfl⟩
 exact gen _ _ _ _ m1 m2 m3 m4 HP
def iy (w w':World):Prop:=∃q os,w'=Sort.grow (w.drewN q) os
theorem iy.refl (w:World):iy w w:=⟨0,#[],by rw[Sort.grow_empty];rfl⟩
theorem iy.trans {a b c:World}(h:iy a b)(k:iy b c):iy a c:=by
 obtain⟨q,os,rfl⟩:=h;obtain⟨q',Mf,rfl⟩:=k;exact⟨q+q',os ++ Mf,by show Sort.grow (Sort.grow ((a.drewN q).drewN q') os) Mf=_;rw[Sort.grow_grow,World.drewN_drewN]⟩
theorem iy.alloc {a b:World}(h:iy a b)(o:Obj):iy a (b.alloc o):=h.trans ⟨0,#[o],by rw[Sort.alloc_eq_grow];rfl⟩
theorem iy.drew {a b:World}(h:iy a b):iy a b.drew:=h.trans ⟨1,#[],by rw[Sort.grow_empty];rfl⟩
theorem iy.aA {a b:World}(h:iy a b):ag az a b:=by
 obtain⟨q,os,rfl⟩:=h;refine⟨rfl,rfl,rfl,?_,fun k hk _=>?_⟩
 ·rw[Sort.size_grow];exact Nat.le_add_right _ _
 ·exact Sort.heap_grow_old (a.drewN q) os hk
structure BJ (t b:Int):Prop where
 t0:0≤t
 t1:t≤2147483647
 b0:0<b
 b1:b≤2147483647
def yg (t b:Int):Array Value:=#[ah t,ah b]
theorem Ca {t b:Int}(h:BJ t b)(w:World):Calls Tryz.prog 154 #[.agg (yg t b)] w fun e w'=>e= .returned (.bool true)∧iy w w':=by
 obtain⟨h0,h1,h2,h3⟩:=h;have h4:0≤b:=ao
 go_enter Tryz.func154,Tryz.ntmps154
 go_upto_region 1 with fail;have HB:=Box.fresh w 245 (yg t b);have HO:=ae<|(iy.refl w).alloc (.cells (yg t b) 245);change Code.wp _ _ _ _ (w.alloc (.cells (yg t b) 245));generalize w.alloc (.cells (yg t b) 245)=W at *;generalize w.heap.size=g at *;have x0:aw W g 0 t:=HB.af rfl;have x1:aw W g 1 b:=HB.af rfl;have HB:=ae HB;go_wp2_with (go_at_call 159;refine(tY _ _ _).mono ?_;rintro e w1 ⟨rfl,rfl⟩);go_ret;exact⟨rfl,HO⟩
end
def uQ (x y:Int):Int:=if x<y then -1 else if y<x then 1 else 0
theorem Nl {t b t' b':Int}(h:BJ t b)(h':BJ t' b'):0≤t*b'∧t*b'≤4611686014132420609:=by
 obtain⟨a0,a1,a2,a3⟩:=h;obtain⟨c0,c1,c2,c3⟩:=h';refine⟨Int.mul_nonneg a0 ao,?_⟩
 calc t*b'≤2147483647*2147483647:=Int.mul_le_mul ao ao ao ao
  _=4611686014132420609:=aD
section
theorem Jx {t b t' b':Int}(h:BJ t b)(h':BJ t' b')(w:World):Calls Tryz.prog 157 #[.agg (yg t b),.agg (yg t' b')] w fun e w'=>e= .returned (.tuple #[ah (uQ (t*b') (t'*b)),ah 0])∧iy w w':=by
 have M1:=ae<|fun w=>M9 (x:=t) (y:=b') h.t0 h.t1 (by have:=h'.b0;omega) h'.b1 w;have M2:=ae<|fun w=>M9 (x:=t') (y:=b) h'.t0 h'.t1 (by have:=h.b0;omega) h.b1 w;have HM:=ae<|And.intro (Nl h h') (Nl h' h);have HO:=ae<|((iy.refl w).alloc (.cells (yg t b) 245)).alloc (.cells (yg t' b') 245);have bU:=ae<|(Box.fresh w 245 (yg t b)).alloc (.cells (yg t' b') 245);have cO:Hid (Box ((w.alloc (.cells (yg t b) 245)).alloc (.cells (yg t' b') 245)) (w.heap.size+1) 245 (yg t' b')):=ae (by
  have:=Box.fresh (w.alloc (.cells (yg t b) 245)) 245 (yg t' b');rwa [show(w.alloc (.cells (yg t b) 245)).heap.size=w.heap.size+1 by simp]at this)
 go_enter Tryz.func157,Tryz.ntmps157
 go_upto_region 1 with fail;change Code.wp _ _ _ _ ((w.alloc (.cells (yg t b) 245)).alloc (.cells (yg t' b') 245));generalize(w.alloc (.cells (yg t b) 245)).alloc (.cells (yg t' b') 245)=W at *;generalize w.heap.size=g1 at *;have M3:(0≤t*b'∧t*b'≤4611686014132420609)∧(0≤t'*b∧t'*b≤4611686014132420609):=HM.out;obtain⟨⟨m1,m2⟩,m3,m4⟩:=M3;go_upto_region 3 with(first|(refine fH (yg t b) bU Tryz.underlying245 ?_)|(go_at_call 154;refine(Ca (by assumption) _).mono ?_;rintro e W1 ⟨rfl,aR⟩;have HO:=ae<|HO.trans aR;have bU:=ae<|aR.aA.aq bU id;have cO:=ae<|aR.aA.aq cO id;have y0:aw W1 (g1+1) 0 t':=cO.af rfl;have y1:aw W1 (g1+1) 1 b':=cO.af rfl;clear aR));have x0:aw W1 g1 0 t:=bU.af rfl;have x1:aw W1 g1 1 b:=bU.af rfl;have x2:aw W1 (g1+1) 0 t':=cO.af rfl;have x3:aw W1 (g1+1) 1 b':=cO.af rfl;clear HM;go_upto_region 4 with(go_at_call 161;refine(M1.out _).mono ?_;rintro e w1 ⟨rfl,rfl⟩);go_upto_region 5 with(go_at_call 161;refine(M2.out _).mono ?_;rintro e w1 ⟨rfl,rfl⟩);clear M1 M2
 by_cases l1:t*b'<t'*b
 ·have hc:uQ (t*b') (t'*b)= -1:=by unfold uQ;rw[if_pos l1]
  go_wp2;go_ret2
  (try rw[hc])
  exact⟨rfl,HO⟩
 ·by_cases l2:t'*b<t*b'
  ·have hc:uQ (t*b') (t'*b)=1:=by unfold uQ;rw[if_neg l1,if_pos l2]
   go_wp2;go_ret2
   (try rw[hc])
   exact⟨rfl,HO⟩
  ·have hc:uQ (t*b') (t'*b)=0:=by unfold uQ;rw[if_neg l1,if_neg l2]
   go_wp2;go_ret2
   (try rw[hc])
   exact⟨rfl,HO⟩
end
end Go.Proofs.YtchofaecncibjaaGreat
