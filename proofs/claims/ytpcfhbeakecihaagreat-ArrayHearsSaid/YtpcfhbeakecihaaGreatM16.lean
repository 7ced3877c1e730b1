/- Lemmas. -/
import Derived.Test.YtpcfhbeakecihaaGreatM2
import Derived.Test.YtpcfhbeakecihaaGreatM3
import Derived.Test.YtpcfhbeakecihaaGreatM10
import Derived.Test.YtpcfhbeakecihaaGreatM15
import Derived.Deep.CutRange
import Derived.Sort.Grow
set_option linter.all false
set_option maxHeartbeats 20000000
set_option maxRecDepth 100000
namespace Go.Proofs.YtpcfhbeakecihaaGreat
open Go.ChangeShapes Go.RowKit Go.WideShapes
theorem TB {b:Nat}{n:Int}(h:FI b n):FI (Op.negFloat .f64 b) (-n):=by
 have e:Op.negFloat .f64 b=b ^^^ 2 ^ 63:=rfl;have hs:Ieee.double.signWeight=2 ^ 63:=aE;have h1:(b ^^^ 2 ^ 63) % 2 ^ 63=b % 2 ^ 63:=by
  rw[Nat.xor_mod_two_pow,Nat.mod_self,Nat.xor_zero]
 have h2:(b ^^^ 2 ^ 63) / 2 ^ 63 % 2=1 - b / 2 ^ 63 % 2:=by
  rw[Nat.xor_div_two_pow,Nat.div_self aE];have:=Nat.xor_mod_two_pow (a:=b / 2 ^ 63) (b:=1) (n:=1);rw[Nat.pow_one]at this;rw[this];rcases Nat.mod_two_eq_zero_or_one (b / 2 ^ 63)with h|h<;>rw[h]<;>decide
 obtain⟨s,m,k,hr,hv⟩:=h;rw[e];refine⟨!s,m,k,?_,?_⟩
 ·unfold Ieee.Format.read at hr ⊢;simp only[hs,h1,h2]at hr ⊢;have QL:((1 - b / 2 ^ 63 % 2==1):Bool)= !(b / 2 ^ 63 % 2==1):=by
   rcases Nat.mod_two_eq_zero_or_one (b / 2 ^ 63)with h|h<;>rw[h]<;>rfl
  rw[QL]
  split at hr
  ·rename_i h3
   rw[if_pos h3];injection hr with e1 e2 e3;rw[e1,e2,e3]
  ·rename_i h3
   rw[if_neg h3]
   split at hr
   ·rename_i h4
    rw[if_pos h4];injection hr with e1 e2 e3;rw[e1,e2,e3]
   ·rename_i h4
    exfalso
    split at hr<;>cases hr
 ·rw[Int.neg_mul,←hv]
  cases s<;>simp
theorem F3 {a b c d:Nat}{x y u v:Int}(ha:FI a x)(hb:FI b y)(hc:FI c u)(hd:FI d v)(h1:x.natAbs<65536)(h2:y.natAbs<65536)(h3:u.natAbs<65536)(h4:v.natAbs<65536):
 ∃re im,cMulBits a b c d=some (re,im)∧FI re (x*u - y*v)∧FI im (x*v+y*u):=by
 have hm:∀p q:Int,p.natAbs<65536→q.natAbs<65536→(p*q).natAbs<4294967296:=fun p q hp hq=>by
  rw[Int.natAbs_mul]
  calc p.natAbs*q.natAbs≤65535*65535:=Nat.mul_le_mul aj aj
   _<4294967296:=aE
 have m1:=hm x u h1 h3;have m2:=hm y v h2 h4;have m3:=hm x v h1 h4;have m4:=hm y u h2 h3;obtain⟨r1,e1,f1⟩:=zt ha hc aj;obtain⟨r2,e2,f2⟩:=zt hb hd aj;obtain⟨r3,e3,f3⟩:=Tv f1 f2 aj;obtain⟨r4,e4,f4⟩:=zt ha hd aj;obtain⟨r5,e5,f5⟩:=zt hb hc aj;obtain⟨r6,e6,f6⟩:=TV f4 f5 aj;refine⟨r3,r6,?_,f3,f6⟩;unfold cMulBits;rw[e1,e2,e4,e5]
 show((floatBits .sub .f64 r1 r2).bind fun re=>(floatBits .add .f64 r4 r5).bind fun im=>some (re,im))=_
 rw[e3,e6];rfl
def l7 (n:Int):Int:=n / 65536
def qt (n:Int):Int:=n % 65536
section
theorem nJ{P:Prop}(h:P:=by
 rw[ei,ez];clear ei ez
 go_enter Tryz.func149,Tryz.ntmps149
 go_wp2;go_ret;exact⟨rfl,rfl⟩):P:=h
theorem qg (n m:Int)(w:World):Calls Tryz.prog 149 #[ah n,ah m] w fun e w'=>e= .returned (.bool (decide (0≤n)&&decide (n≤m)))∧w=w':=by
 by_cases h1:0≤n
 ·have ei:decide (0≤n)=true:=by simp[h1]
  by_cases h2:n≤m
  ·have ez:decide (n≤m)=true:=by simp[h2]
   exact nJ
  ·have ez:decide (n≤m)=false:=by simp[h2]
   exact nJ
 ·have ei:decide (0≤n)=false:=by simp[h1]
  rw[ei];clear ei
  go_enter Tryz.func149,Tryz.ntmps149
  go_wp2;go_ret;exact⟨rfl,rfl⟩
def ptW (n:Int):Value:=.complex .f64 (floatOfInt .f64 (l7 n)) (floatOfInt .f64 (qt n))
theorem Ir {n:Int}(h0:0≤n)(h1:n<4294967296)(w:World):Calls Tryz.prog 156 #[ah n] w fun e w'=>e= .returned (ptW n)∧w=w':=by
 have hand:bits .and .i64 n 65535=qt n:=bits_mask .i64 63 aE (fun n h0 h1=>by rw[IntKind.wrap_i64];omega) 16 aE n h0 aj
 go_enter Tryz.func156,Tryz.ntmps156
 go_wp2;go_ret;exact⟨rfl,rfl⟩
theorem Ew (a b:Nat)(w:World):Calls Tryz.prog 157 #[.complex .f64 a b] w fun e w'=>e= .returned (.complex .f64 a (Op.negFloat .f64 b))∧w=w':=by
 have Ku:Op.unary .neg (.float .f64 b)=pure (.float .f64 (Op.negFloat .f64 b)):=rfl
 go_enter Tryz.func157,Tryz.ntmps157
 go_wp2;go_ret;exact⟨rfl,rfl⟩
theorem iG (u v:Int)(h1:0≤u∧u<65536)(h2:0≤v∧v<65536):0≤u*v∧u*v≤4294836225:=by
 refine⟨Int.mul_nonneg h1.1 h2.1,?_⟩
 calc u*v≤65535*65535:=Int.mul_le_mul aj aj h2.1 aj
  _=4294836225:=aE
theorem Ac {fn:Func}{t u v x:Tmp}(h:fn.results=#[.tmp t,.tmp u,.tmp v,.tmp x])(tmps:Array Value)(P:Program)(w:World):
 (results fn tmps).run P w= .ok (.tuple #[tmps.getD t undef,tmps.getD u undef,tmps.getD v undef,tmps.getD x undef]) w:=by
 simp[results,h]
theorem Eo {x y A B C D:Int}{pa pb:Int→Nat}{d' r1 i1 r2 i2:Nat}(w:World)(m1:0≤A∧A≤4294836225)(m2:0≤B∧B≤4294836225)(m3:0≤C∧C≤4294836225)(m4:0≤D∧D≤4294836225)
 (AU:0≤x) (E3:x≤4294967295) (QG:0≤y) (VV:y≤4294967295)
 (px:∀n,0≤n→n≤4294967295→∀w,Calls Tryz.prog 156 #[ah n] w fun e w'=>e= .returned (.complex .f64 (pa n) (pb n))∧w=w')
 (mir:∀w,Calls Tryz.prog 157 #[.complex .f64 (pa y) (pb y)] w fun e w'=>e= .returned (.complex .f64 (pa y) d')∧w=w')
 (u1:∀w,(binOp .mul 258 (.complex .f64 (pa x) (pb x)) (.complex .f64 (pa y) (pb y))).run Tryz.prog w= .ok (.complex .f64 r1 i1) w)
 (u2:∀w,(binOp .mul 258 (.complex .f64 (pa x) (pb x)) (.complex .f64 (pa y) d')).run Tryz.prog w= .ok (.complex .f64 r2 i2) w)
 (c1:∀w,(convert 261 3 (.float .f64 r1)).run Tryz.prog w= .ok (ah (A - B)) w)
 (c2:∀w,(convert 261 3 (.float .f64 r2)).run Tryz.prog w= .ok (ah (A+B)) w)
 (c3:∀w,(convert 261 3 (.float .f64 i1)).run Tryz.prog w= .ok (ah (C+D)) w):
 Calls Tryz.prog 154 #[ah x,ah y] w fun e w'=>e= .returned (.tuple #[ah A,ah (C+D),ah B,ah 0])∧w=w':=by
 have px:=ae px;have mir:=ae mir;have U1:=ae u1;have U2:=ae u2;have C1:=ae c1;have C2:=ae c2;have C3:=ae c3;clear u1 u2 c1 c2 c3
 go_enter Tryz.func154,Tryz.ntmps154
 go_upto_region 3 with(go_at_call 149;refine(qg _ _ _).mono ?_;rintro e w1 ⟨rfl,rfl⟩);have u1:=U1.out;have u2:=U2.out;have c1:=C1.out;have c2:=C2.out;have c3:=C3.out;clear U1 U2 C1 C2 C3;go_upto_region 5 with(first|(go_at_call 156;refine(px.out _ (by assumption) (by assumption) _).mono ?_;rintro e w1 ⟨rfl,rfl⟩)|(go_at_call 157;refine(mir.out _).mono ?_;rintro e w1 ⟨rfl,rfl⟩));have q1:IntKind.i64.wrap ((A+B)+(A - B))=2*A:=by rw[IntKind.wrap_i64];omega
 have q2:IntKind.i64.wrap ((A+B) - (A - B))=2*B:=by rw[IntKind.wrap_i64];omega
 have q3:Int.tdiv (2*A) 2=A:=by rw[Int.tdiv_eq_ediv_of_nonneg aj];omega
 have q4:Int.tdiv (2*B) 2=B:=by rw[Int.tdiv_eq_ediv_of_nonneg aj];omega
 go_wp2
 (try simp only[Exit.inBlock,Exit.then])
 refine bodyPost_ret (Ac rfl _ _ _) rfl ?_;exact⟨rfl,rfl⟩
theorem Iu {x y:Int}(AU:0≤x)(E3:x≤4294967295)(QG:0≤y)(VV:y≤4294967295)(w:World):
 Calls Tryz.prog 154 #[ah x,ah y] w fun e w'=>e= .returned (.tuple #[ah (l7 x*l7 y),ah (l7 x*qt y+qt x*l7 y),ah (qt x*qt y),ah 0])∧w=w':=by
 have ax:0≤l7 x∧l7 x<65536:=by unfold l7;omega
 have ay:0≤l7 y∧l7 y<65536:=by unfold l7;omega
 have bx:0≤qt x∧qt x<65536:=by unfold qt;omega
 have bY:0≤qt y∧qt y<65536:=by unfold qt;omega
 have fx:=sQ (l7 x) aj;have gx:=sQ (qt x) aj;have fy:=sQ (l7 y) aj;have gy:=sQ (qt y) aj;obtain⟨r1,i1,e1,k1,l1⟩:=F3 fx gx fy gy aj aj aj aj;obtain⟨r2,i2,e2,k2,l2⟩:=F3 fx gx fy (TB gy) aj aj aj aj;have m1:=iG _ _ ax ay;have m2:=iG _ _ bx bY;have m3:=iG _ _ ax bY;have m4:=iG _ _ bx ay;rw[Int.mul_neg,Int.sub_neg]at k2;exact Eo (pa:=fun n=>floatOfInt .f64 (l7 n)) (pb:=fun n=>floatOfInt .f64 (qt n)) w m1 m2 m3 m4 AU E3 QG VV
  (fun n h0 h1 w=>Ir h0 aj w) (fun w=>Ew _ _ w)
  (fun w=>run_complex_mul (P:=Tryz.prog) w _ _ _ _ _ r1 i1 e1) (fun w=>run_complex_mul (P:=Tryz.prog) w _ _ _ _ _ r2 i2 e2)
  (fun w=>run_convert_float_int (P:=Tryz.prog) w _ _ .f64 .i64 r1 _ aS aS (vF k1 aj))
  (fun w=>run_convert_float_int (P:=Tryz.prog) w _ _ .f64 .i64 r2 _ aS aS (vF k2 aj))
  (fun w=>run_convert_float_int (P:=Tryz.prog) w _ _ .f64 .i64 i1 _ aS aS (vF l1 aj))
theorem aaT (x y:Int):l7 x*l7 y*4294967296+(l7 x*qt y+qt x*l7 y)*65536+qt x*qt y=x*y:=by
 have e1:x=l7 x*65536+qt x:=by unfold l7 qt;omega
 have e2:y=l7 y*65536+qt y:=by unfold l7 qt;omega
 generalize l7 x=a at *;generalize qt x=b at *;generalize l7 y=c at *;generalize qt y=d at *;subst e1 e2;have h1:a*65536*(c*65536)=a*c*4294967296:=by
  rw[Int.mul_assoc,Int.mul_left_comm 65536 c 65536,←Int.mul_assoc];rfl
 have h2:a*65536*d=a*d*65536:=by rw[Int.mul_assoc,Int.mul_comm 65536 d,←Int.mul_assoc]
 have h3:b*(c*65536)=b*c*65536:=by rw[Int.mul_assoc]
 have h4:(a*65536+b)*(c*65536+d)=a*65536*(c*65536)+a*65536*d+(b*(c*65536)+b*d):=by
  rw[Int.add_mul,Int.mul_add,Int.mul_add]
 rw[h4,h1,h2,h3,Int.add_mul];omega
theorem FV {x y:Int}(AU:0≤x)(E3:x≤2147483647)(QG:0≤y)(VV:y≤2147483647)(w:World):
 Calls Tryz.prog 151 #[ah x,ah y] w fun e w'=>e= .returned (.tuple #[ah (x*y),ah 0])∧w=w':=by
 have HP:=fun w=>Iu AU (by omega:x≤4294967295) QG (by omega:y≤4294967295) w
 have ax:0≤l7 x∧l7 x<32768:=by unfold l7;omega
 have ay:0≤l7 y∧l7 y<32768:=by unfold l7;omega
 have bx:0≤qt x∧qt x<65536:=by unfold qt;omega
 have bY:0≤qt y∧qt y<65536:=by unfold qt;omega
 have m1:0≤l7 x*l7 y∧l7 x*l7 y≤1073676289:=by
  refine⟨Int.mul_nonneg ax.1 ay.1,?_⟩
  calc l7 x*l7 y≤32767*32767:=Int.mul_le_mul aj aj ay.1 aj
   _=1073676289:=aE
 have m2:=iG _ _ bx bY;have m3:=iG (l7 x) (qt y) aj bY;have m4:=iG (qt x) (l7 y) bx aj;have he:=aaT x y;rw[←he];clear he ax ay bx bY;have HP:=ae HP;have gen:∀A B C D:Int,0≤A∧A≤1073676289→0≤B∧B≤4294836225→0≤C∧C≤4294836225→0≤D∧D≤4294836225→
  (∀w,Calls Tryz.prog 154 #[ah x,ah y] w fun e w'=>e= .returned (.tuple #[ah A,ah (C+D),ah B,ah 0])∧w=w')→
  Calls Tryz.prog 151 #[ah x,ah y] w fun e w'=>e= .returned (.tuple #[ah (A*4294967296+(C+D)*65536+B),ah 0])∧w=w':=by
  intro A B C D m1 m2 m3 m4 Nb;have Nb:=ae Nb;have q1:IntKind.i64.wrap (A*4294967296)=A*4294967296:=by rw[IntKind.wrap_i64];omega
  have q2:IntKind.i64.wrap ((C+D)*65536)=(C+D)*65536:=by rw[IntKind.wrap_i64];omega
  clear HP
  go_enter Tryz.func151,Tryz.ntmps151
  go_upto_region 3 with(go_at_call 149;refine(qg _ _ _).mono ?_;rintro e w1 ⟨rfl,rfl⟩);go_upto_region 4 with(go_at_call 154;refine(Nb _).mono ?_;rintro e w1 ⟨rfl,rfl⟩);go_wp2;go_ret2;exact⟨rfl,rfl⟩
 exact gen _ _ _ _ m1 m2 m3 m4 HP
def fG (w w':World):Prop:=∃q os,w'=Sort.grow (w.drewN q) os
theorem fG.refl (w:World):fG w w:=⟨0,#[],by rw[Sort.grow_empty];rfl⟩
theorem fG.trans {a b c:World}(h:fG a b)(k:fG b c):fG a c:=by
 obtain⟨q,os,rfl⟩:=h;obtain⟨q',EX,rfl⟩:=k;exact⟨q+q',os ++ EX,by show Sort.grow (Sort.grow ((a.drewN q).drewN q') os) EX=_;rw[Sort.grow_grow,World.drewN_drewN]⟩
theorem fG.alloc {a b:World}(h:fG a b)(o:Obj):fG a (b.alloc o):=h.trans ⟨0,#[o],by rw[Sort.alloc_eq_grow];rfl⟩
theorem fG.drew {a b:World}(h:fG a b):fG a b.drew:=h.trans ⟨1,#[],by rw[Sort.grow_empty];rfl⟩
theorem fG.ar {a b:World}(h:fG a b):af au a b:=by
 obtain⟨q,os,rfl⟩:=h;refine⟨rfl,rfl,rfl,?_,fun k hk _=>?_⟩
 ·rw[Sort.size_grow];exact Nat.le_add_right _ _
 ·exact Sort.heap_grow_old (a.drewN q) os hk
structure vz (t b:Int):Prop where
 t0:0≤t
 t1:t≤2147483647
 b0:0<b
 b1:b≤2147483647
def s8 (t b:Int):Array Value:=#[ah t,ah b]
theorem wa {t b:Int}(h:vz t b)(w:World):Calls Tryz.prog 142 #[.agg (s8 t b)] w fun e w'=>e= .returned (.bool true)∧fG w w':=by
 obtain⟨h0,h1,h2,h3⟩:=h;have h4:0≤b:=aj
 go_enter Tryz.func142,Tryz.ntmps142
 go_upto_region 1 with fail;have HB:=Box.fresh w 239 (s8 t b);have HO:=ae<|(fG.refl w).alloc (.cells (s8 t b) 239);change Code.wp _ _ _ _ (w.alloc (.cells (s8 t b) 239));generalize w.alloc (.cells (s8 t b) 239)=W at *;generalize w.heap.size=g at *;have x0:aF W g 0 t:=HB.ag rfl;have x1:aF W g 1 b:=HB.ag rfl;have HB:=ae HB;go_wp2_with (go_at_call 149;refine(qg _ _ _).mono ?_;rintro e w1 ⟨rfl,rfl⟩);go_ret;exact⟨rfl,HO⟩
end
def qV (x y:Int):Int:=if x<y then -1 else if y<x then 1 else 0
theorem F1 {t b t' b':Int}(h:vz t b)(h':vz t' b'):0≤t*b'∧t*b'≤4611686014132420609:=by
 obtain⟨a0,a1,a2,a3⟩:=h;obtain⟨c0,c1,c2,c3⟩:=h';refine⟨Int.mul_nonneg a0 aj,?_⟩
 calc t*b'≤2147483647*2147483647:=Int.mul_le_mul aj aj aj aj
  _=4611686014132420609:=aE
section
theorem CW {t b t' b':Int}(h:vz t b)(h':vz t' b')(w:World):Calls Tryz.prog 145 #[.agg (s8 t b),.agg (s8 t' b')] w fun e w'=>e= .returned (.tuple #[ah (qV (t*b') (t'*b)),ah 0])∧fG w w':=by
 have M1:=ae<|fun w=>FV (x:=t) (y:=b') h.t0 h.t1 (by have:=h'.b0;omega) h'.b1 w;have M2:=ae<|fun w=>FV (x:=t') (y:=b) h'.t0 h'.t1 (by have:=h.b0;omega) h.b1 w;have HM:=ae<|And.intro (F1 h h') (F1 h' h);have HO:=ae<|((fG.refl w).alloc (.cells (s8 t b) 239)).alloc (.cells (s8 t' b') 239);have b8:=ae<|(Box.fresh w 239 (s8 t b)).alloc (.cells (s8 t' b') 239);have dG:Hid (Box ((w.alloc (.cells (s8 t b) 239)).alloc (.cells (s8 t' b') 239)) (w.heap.size+1) 239 (s8 t' b')):=ae (by
  have:=Box.fresh (w.alloc (.cells (s8 t b) 239)) 239 (s8 t' b');rwa [show(w.alloc (.cells (s8 t b) 239)).heap.size=w.heap.size+1 by simp]at this)
 go_enter Tryz.func145,Tryz.ntmps145
 go_upto_region 1 with fail;change Code.wp _ _ _ _ ((w.alloc (.cells (s8 t b) 239)).alloc (.cells (s8 t' b') 239));generalize(w.alloc (.cells (s8 t b) 239)).alloc (.cells (s8 t' b') 239)=W at *;generalize w.heap.size=g1 at *;have M3:(0≤t*b'∧t*b'≤4611686014132420609)∧(0≤t'*b∧t'*b≤4611686014132420609):=HM.out;obtain⟨⟨m1,m2⟩,m3,m4⟩:=M3;go_upto_region 3 with(first|(refine iy (s8 t b) b8 Tryz.underlying239 ?_)|(go_at_call 142;refine(wa (by assumption) _).mono ?_;rintro e W1 ⟨rfl,aK⟩;have HO:=ae<|HO.trans aK;have b8:=ae<|aK.ar.ak b8 id;have dG:=ae<|aK.ar.ak dG id;have y0:aF W1 (g1+1) 0 t':=dG.ag rfl;have y1:aF W1 (g1+1) 1 b':=dG.ag rfl;clear aK));have x0:aF W1 g1 0 t:=b8.ag rfl;have x1:aF W1 g1 1 b:=b8.ag rfl;have x2:aF W1 (g1+1) 0 t':=dG.ag rfl;have x3:aF W1 (g1+1) 1 b':=dG.ag rfl;clear HM;go_upto_region 4 with(go_at_call 151;refine(M1.out _).mono ?_;rintro e w1 ⟨rfl,rfl⟩);go_upto_region 5 with(go_at_call 151;refine(M2.out _).mono ?_;rintro e w1 ⟨rfl,rfl⟩);clear M1 M2
 by_cases l1:t*b'<t'*b
 ·have hc:qV (t*b') (t'*b)= -1:=by unfold qV;rw[if_pos l1]
  go_wp2;go_ret2
  (try rw[hc])
  exact⟨rfl,HO⟩
 ·by_cases l2:t'*b<t*b'
  ·have hc:qV (t*b') (t'*b)=1:=by unfold qV;rw[if_neg l1,if_pos l2]
   go_wp2;go_ret2
   (try rw[hc])
   exact⟨rfl,HO⟩
  ·have hc:qV (t*b') (t'*b)=0:=by unfold qV;rw[if_neg l1,if_neg l2]
   go_wp2;go_ret2
   (try rw[hc])
   exact⟨rfl,HO⟩
end
end Go.Proofs.YtpcfhbeakecihaaGreat
