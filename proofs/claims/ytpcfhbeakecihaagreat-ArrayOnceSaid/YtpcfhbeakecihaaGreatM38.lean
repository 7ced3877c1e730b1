/- Lemmas. -/
import Derived.Test.YtpcfhbeakecihaaGreatM2
import Derived.Test.YtpcfhbeakecihaaGreatM5
import Derived.Test.YtpcfhbeakecihaaGreatM12
import Derived.BigQuiet
import Derived.Deep.CutRange
set_option linter.all false
set_option maxHeartbeats 20000000
set_option maxRecDepth 100000
namespace Go.Proofs.YtpcfhbeakecihaaGreat
open Go.RowKit
theorem eY (n:Int)(h₀:0≤n)(h₁:n<2 ^ 64):IntKind.u64.wrap n=n:=by rw[IntKind.wrap_u64];omega
theorem fw{P:Prop}(h:P:=by
 have h1:x / 2 ^ i<2 ^ 64:=Nat.lt_of_le_of_lt (Nat.div_le_self _ _) hx;have h:=(bits_nat .u64 64 av eY (x / 2 ^ i) 1 h1 av).1;rw[show((x:Int) / 2 ^ i)=((x / 2 ^ i:Nat):Int)from by push_cast;rfl];rw[show(1:Int)=((1:Nat):Int)from rfl,h,Nat.and_one_is_mod,Nat.testBit_eq_decide_div_mod_eq];rcases Nat.mod_two_eq_zero_or_one (x / 2 ^ i)with e|e<;>rw[e]<;>decide):P:=h
theorem Gx (x i:Nat)(hx:x<18446744073709551616):(bits .and .u64 ((x:Int) / 2 ^ i) 1 != 0)=x.testBit i:=by
 exact fw
theorem Bn (x i:Nat)(hx:x<18446744073709551616)(hi:i<64):bits .or .u64 x (2 ^ i)=((x ||| 2 ^ i:Nat):Int):=by
 have h:=(bits_nat .u64 64 av eY x (2 ^ i) hx (Nat.pow_lt_pow_right av hi)).2;rw[←h]
 push_cast
 rfl
def gJ (l:List Nat):Nat:=l.foldl (fun a x=>a ||| 2 ^ x) 0
theorem o1:∀(l:List Nat) (a:Nat),(∀x∈l,x<64)→a<2 ^ 64→l.foldl (fun a x=>a ||| 2 ^ x) a<2 ^ 64
 | [],a,_,h=>h
 |x :: l,a,hl,h=>o1 l _ (fun y hy=>hl y (List.mem_cons_of_mem _ hy)) (Nat.or_lt_two_pow h (Nat.pow_lt_pow_right av (hl x List.mem_cons_self)))
theorem qZ (l:List Nat)(k:Nat)(hk:k<l.length):gJ (l.take (k+1))=gJ (l.take k) ||| 2 ^ l.getD k 0:=by
 unfold gJ;rw[List.take_add_one,List.getElem?_eq_getElem hk,List.foldl_append];simp[hk]
def Ew (l:List Nat)(W:World)(acc i:Value)(wr:World):Prop:=∃k:Nat,k≤l.length∧i=ah k∧acc= .int .u64 (gJ (l.take k):Nat)∧W=wr
section
theorem wy (l:List Nat)(g:Nat)(w:World)(hl:∀x∈l,x<64)(Ao:l.length≤20)(hb:Box w g 3 (l.map fun x=>Value.int .i64 (x:Nat)).toArray):
 Calls Tryz.prog 120 #[cS g l.length l.length] w fun e w'=>e= .returned (.int .u64 (gJ l:Nat))∧w=w':=by
 have HC:=aH (∀k,k<l.length→aF w g k (l.getD k 0:Nat)) (fun k hk=>hb.ag (by simp[hk]));have cT:=aH (∀k,k<l.length→l.getD k 0<64) (fun k hk=>hl _ (by simp[hk]));have PK:=aH (∀k,gJ (l.take k)<18446744073709551616) (fun k=>o1 _ 0 (fun x hx=>hl x (List.mem_of_mem_take hx)) av);have Mu:=ae (show gJ (l.take l.length)=gJ l by rw[List.take_length]);have Io:=ae<|qZ l;clear hb hl
 go_enter Tryz.func120,Tryz.ntmps120
 go_wp2_with fail
 go_loopw [3,8] (fun acc i wr=>Ew l w acc i wr) (fun _ i _=>l.length - (intOf i).toNat)
 case atStart=>exact⟨0,eK _,rfl,rfl,rfl⟩
 case round=>
  obtain⟨k,hk,rfl,rfl,rfl⟩:=hrel
  by_cases aO:k<l.length
  ·have nY:(k:Int)<l.length:=ai;have hc:=HC.out k aO;have JV:=cT.out k aO;have za:=Io.out k aO;have Og:=PK.out k;have P5:=Bn (gJ (l.take k)) (l.getD k 0) Og JV;generalize l.getD k 0=x at *;have I4:IntKind.u64.wrap (2 ^ x)=2 ^ x:=eY _ (by have:(0:Int)≤((2 ^ x:Nat):Int):=Int.natCast_nonneg _;simpa using this) (by
    have:(2:Nat) ^ x<2 ^ 64:=Nat.pow_lt_pow_right av JV;have h2:((2 ^ x:Nat):Int)<((2 ^ 64:Nat):Int):=ai;simpa using h2)
   have MO:(2:Int) ^ x % 18446744073709551616=2 ^ x:=by rw[←IntKind.wrap_u64];exact I4
   have Pc:=ae za;clear za;generalize gJ (l.take k)=acc at *;have yX:IntKind.i64.wrap ((k:Int)+1)=((k+1:Nat):Int):=by rw[IntKind.wrap_i64];omega
   go_wp2_with fail;exact⟨⟨k+1,aO,by push_cast;rfl,by rw[Pc.out],rfl⟩,by simp[intOf];omega⟩
  ·have N0:k=l.length:=ai;subst N0;rw[Mu.out];go_wp2_with fail;go_ret;exact⟨rfl,rfl⟩
theorem bF (w:World)(l:List Nat)(N:Nat)(cs:Array Value)(hl:∀x∈l,x<64)(hN:gJ l=N)(hcs:cs=(l.map fun x=>Value.int .i64 (x:Nat)).toArray)(Ao:l.length≤20:=by decide):
 Calls Tryz.prog 120 #[cS w.heap.size l.length l.length] (w.alloc (.cells cs 3)) fun e w'=>e= .returned (.int .u64 (N:Nat))∧af aA (w.alloc (.cells cs 3)) w':=by
 subst hcs hN;refine(wy l w.heap.size _ hl Ao (Box.fresh w 3 _)).mono ?_;rintro e w' ⟨rfl,rfl⟩;exact⟨rfl,af.ak _ _⟩
def jG:Array Value:=#[.int .u64 0,.int .u64 116,.int .u64 1140,.int .u64 1120,.int .u64 160,.int .u64 1908,.int .u64 884,.int .u64 160,.int .u64 96,.int .u64 1150,.int .u64 1120,.int .u64 32,.int .u64 1312,.int .u64 830,.int .u64 32]
theorem qF:jG.all (·.oneCell')=true:=by simp[jG,Value.oneCell']
theorem tg (w:World):Calls Tryz.prog 95 #[] w fun e w'=>e= .returned (.agg jG)∧af aA w w':=by
 have HB:=ae<|Box.fresh w 173 #[.int .u64 0,.int .u64 0,.int .u64 0,.int .u64 0,.int .u64 0,.int .u64 0,.int .u64 0,.int .u64 0,.int .u64 0,.int .u64 0,.int .u64 0,.int .u64 0,.int .u64 0,.int .u64 0,.int .u64 0];have HO:=ae<|(af.ak aA w).alloc (.cells #[.int .u64 0,.int .u64 0,.int .u64 0,.int .u64 0,.int .u64 0,.int .u64 0,.int .u64 0,.int .u64 0,.int .u64 0,.int .u64 0,.int .u64 0,.int .u64 0,.int .u64 0,.int .u64 0,.int .u64 0] 173)
 go_enter Tryz.func95,Tryz.ntmps95
 go_upto_region 1 with fail;change Code.wp _ _ _ _ (w.alloc (.cells #[.int .u64 0,.int .u64 0,.int .u64 0,.int .u64 0,.int .u64 0,.int .u64 0,.int .u64 0,.int .u64 0,.int .u64 0,.int .u64 0,.int .u64 0,.int .u64 0,.int .u64 0,.int .u64 0,.int .u64 0] 173));obtain⟨nb,GX⟩:∃nb,nb=w.heap.size:=⟨_,rfl⟩;have Au:=aH (w.heap.size≤nb) (Nat.le_of_eq GX.symm);rw[←GX]at HB ⊢;clear GX;generalize w.alloc (.cells #[.int .u64 0,.int .u64 0,.int .u64 0,.int .u64 0,.int .u64 0,.int .u64 0,.int .u64 0,.int .u64 0,.int .u64 0,.int .u64 0,.int .u64 0,.int .u64 0,.int .u64 0,.int .u64 0,.int .u64 0] 173)=W at *;go_wp2_with fail;refine(bF W [2,4,5,6] 116 #[ah 2,ah 4,ah 5,ah 6] av av rfl).mono ?_;rintro e W1 ⟨rfl,ho⟩
 replace HB:=ae<|((af.ak aA W).alloc _).trans ho |>.az HB id
 replace HO:=ae<|(HO.alloc _).trans ho
 clear ho;go_wp2_with fail;refine(bF W1 [2,4,5,6,10] 1140 #[ah 2,ah 4,ah 5,ah 6,ah 10] av av rfl).mono ?_;rintro e W2 ⟨rfl,ho⟩
 replace HB:=ae<|((af.ak aA W1).alloc _).trans ho |>.az HB id
 replace HO:=ae<|(HO.alloc _).trans ho
 clear ho;go_wp2_with fail;refine(bF W2 [5,6,10] 1120 #[ah 5,ah 6,ah 10] av av rfl).mono ?_;rintro e W3 ⟨rfl,ho⟩
 replace HB:=ae<|((af.ak aA W2).alloc _).trans ho |>.az HB id
 replace HO:=ae<|(HO.alloc _).trans ho
 clear ho;go_wp2_with fail;refine(bF W3 [5,7] 160 #[ah 5,ah 7] av av rfl).mono ?_;rintro e W4 ⟨rfl,ho⟩
 replace HB:=ae<|((af.ak aA W3).alloc _).trans ho |>.az HB id
 replace HO:=ae<|(HO.alloc _).trans ho
 clear ho;go_wp2_with fail;refine(bF W4 [2,4,5,6,8,9,10] 1908 #[ah 2,ah 4,ah 5,ah 6,ah 8,ah 9,ah 10] av av rfl).mono ?_;rintro e W5 ⟨rfl,ho⟩
 replace HB:=ae<|((af.ak aA W4).alloc _).trans ho |>.az HB id
 replace HO:=ae<|(HO.alloc _).trans ho
 clear ho;go_wp2_with fail;refine(bF W5 [2,4,5,6,8,9] 884 #[ah 2,ah 4,ah 5,ah 6,ah 8,ah 9] av av rfl).mono ?_;rintro e W6 ⟨rfl,ho⟩
 replace HB:=ae<|((af.ak aA W5).alloc _).trans ho |>.az HB id
 replace HO:=ae<|(HO.alloc _).trans ho
 clear ho;go_wp2_with fail;refine(bF W6 [5,7] 160 #[ah 5,ah 7] av av rfl).mono ?_;rintro e W7 ⟨rfl,ho⟩
 replace HB:=ae<|((af.ak aA W6).alloc _).trans ho |>.az HB id
 replace HO:=ae<|(HO.alloc _).trans ho
 clear ho;go_wp2_with fail;refine(bF W7 [5,6] 96 #[ah 5,ah 6] av av rfl).mono ?_;rintro e W8 ⟨rfl,ho⟩
 replace HB:=ae<|((af.ak aA W7).alloc _).trans ho |>.az HB id
 replace HO:=ae<|(HO.alloc _).trans ho
 clear ho;go_wp2_with fail;refine(bF W8 [1,2,3,4,5,6,10] 1150 #[ah 1,ah 2,ah 3,ah 4,ah 5,ah 6,ah 10] av av rfl).mono ?_;rintro e W9 ⟨rfl,ho⟩
 replace HB:=ae<|((af.ak aA W8).alloc _).trans ho |>.az HB id
 replace HO:=ae<|(HO.alloc _).trans ho
 clear ho;go_wp2_with fail;refine(bF W9 [5,6,10] 1120 #[ah 5,ah 6,ah 10] av av rfl).mono ?_;rintro e Lc ⟨rfl,ho⟩
 replace HB:=ae<|((af.ak aA W9).alloc _).trans ho |>.az HB id
 replace HO:=ae<|(HO.alloc _).trans ho
 clear ho;go_wp2_with fail;refine(bF Lc [5] 32 #[ah 5] av av rfl).mono ?_;rintro e Lb ⟨rfl,ho⟩
 replace HB:=ae<|((af.ak aA Lc).alloc _).trans ho |>.az HB id
 replace HO:=ae<|(HO.alloc _).trans ho
 clear ho;go_wp2_with fail;refine(bF Lb [5,8,10] 1312 #[ah 5,ah 8,ah 10] av av rfl).mono ?_;rintro e La ⟨rfl,ho⟩
 replace HB:=ae<|((af.ak aA Lb).alloc _).trans ho |>.az HB id
 replace HO:=ae<|(HO.alloc _).trans ho
 clear ho;go_wp2_with fail;refine(bF La [1,2,3,4,5,8,9] 830 #[ah 1,ah 2,ah 3,ah 4,ah 5,ah 8,ah 9] av av rfl).mono ?_;rintro e K9 ⟨rfl,ho⟩
 replace HB:=ae<|((af.ak aA La).alloc _).trans ho |>.az HB id
 replace HO:=ae<|(HO.alloc _).trans ho
 clear ho;go_wp2_with fail;refine(bF K9 [5] 32 #[ah 5] av av rfl).mono ?_;rintro e QZ ⟨rfl,ho⟩
 replace HB:=ae<|((af.ak aA K9).alloc _).trans ho |>.az HB id
 replace HO:=ae<|(HO.alloc _).trans ho
 clear ho;go_wp2_with (refine pT jG HB qF ?_)
 (try simp only[Exit.inBlock,Exit.then])
 refine bodyPost_ret (results_cell_row rfl _ _ nb _ jG (0,0) _ rfl (HB.aK _) Tryz.underlying173 rfl bJ) rfl ?_;exact⟨rfl,HO.aK (.inr Au) _⟩
def p9 (k:Int):Nat:=[0,116,1140,1120,160,1908,884,160,96,1150,1120,32,1312,830,32].getD k.toNat 0
theorem yq (k:Int)(hk:¬(1≤k∧k≤14))(w:World):Calls Tryz.prog 61 #[ah k] w fun e w'=>e= .returned (.int .u64 0)∧w=w':=by
 by_cases h1:k<1
 ·clear hk
  go_enter Tryz.func61,Tryz.ntmps61
  go_wp2_with fail;go_ret;exact⟨rfl,rfl⟩
 ·have h2:14<k:=ai;clear hk
  go_enter Tryz.func61,Tryz.ntmps61
  go_wp2_with fail;go_ret;exact⟨rfl,rfl⟩
theorem vY (k:Int)(hk:1≤k∧k≤14)(w:World):Calls Tryz.prog 61 #[ah k] w fun e w'=>e= .returned (.int .u64 (p9 k:Nat))∧af aA w w':=by
 have h1:¬k<1:=ai;have h2:¬14<k:=ai;have P1:=fun w=>iB (P:=Tryz.prog) w 173 117 15 jG .i64 k (.int .u64 (p9 k:Nat)) Tryz.underlying173 bJ bJ ai ai (by
  obtain⟨q,rfl⟩:=Int.eq_ofNat_of_zero_le (show 0≤k by omega);rcases(show q=1∨q=2∨q=3∨q=4∨q=5∨q=6∨q=7∨q=8∨q=9∨q=10∨q=11∨q=12∨q=13∨q=14 by omega)with rfl|rfl|rfl|rfl|rfl|rfl|rfl|rfl|rfl|rfl|rfl|rfl|rfl|rfl<;>rfl)
 have HN:=ae<|tg w;clear hk;generalize p9 k=N at *
 go_enter Tryz.func61,Tryz.ntmps61
 go_wp2_with (go_at_call 95;refine HN.mono ?_;rintro e W1 ⟨rfl,ho⟩);go_ret;exact⟨rfl,ho⟩
def Jm (f:Nat):Int:=[0,3,3,1099511627776,1099511627776,31,4,1099511627776,16].getD f 0
def okF (m:ec)(len:Nat)(f:Nat):Bool:=if f=9 then true else if f=10 then decide ((len:Int)≤64)else decide (0≤m.f f)&&decide (m.f f≤Jm f)
def rA (m:ec)(len:Nat)(f:Nat):Bool:=if f=9 then !m.g else if f=10 then((len:Int)==0)else(m.f f==0)
theorem bm{P:Prop}(h:P:=by
 go_enter Tryz.func96,Tryz.ntmps96
 go_wp2_with fail;go_ret2;exact⟨rfl,rfl⟩):P:=h
theorem uV (p:Nat)(w:World):Calls Tryz.prog 96 #[aI p,ah 1] w fun e w'=>e= .returned (.tuple #[.pointer (some ⟨p,1,none⟩),ah 3])∧w=w':=by
 exact bm
theorem uU (p:Nat)(w:World):Calls Tryz.prog 96 #[aI p,ah 2] w fun e w'=>e= .returned (.tuple #[.pointer (some ⟨p,2,none⟩),ah 3])∧w=w':=by
 exact bm
theorem uT (p:Nat)(w:World):Calls Tryz.prog 96 #[aI p,ah 3] w fun e w'=>e= .returned (.tuple #[.pointer (some ⟨p,3,none⟩),ah 1099511627776])∧w=w':=by
 exact bm
theorem uS (p:Nat)(w:World):Calls Tryz.prog 96 #[aI p,ah 4] w fun e w'=>e= .returned (.tuple #[.pointer (some ⟨p,4,none⟩),ah 1099511627776])∧w=w':=by
 exact bm
theorem uR (p:Nat)(w:World):Calls Tryz.prog 96 #[aI p,ah 5] w fun e w'=>e= .returned (.tuple #[.pointer (some ⟨p,5,none⟩),ah 31])∧w=w':=by
 exact bm
theorem uQ (p:Nat)(w:World):Calls Tryz.prog 96 #[aI p,ah 6] w fun e w'=>e= .returned (.tuple #[.pointer (some ⟨p,6,none⟩),ah 4])∧w=w':=by
 exact bm
theorem uP (p:Nat)(w:World):Calls Tryz.prog 96 #[aI p,ah 7] w fun e w'=>e= .returned (.tuple #[.pointer (some ⟨p,7,none⟩),ah 1099511627776])∧w=w':=by
 exact bm
theorem bn{P:Prop}(h:P:=by
 go_quiet (fail)
 go_wp2;go_ret2;exact⟨by rw[HD.out,Bool.false_and];rfl,nq,rfl⟩):P:=h
theorem bo{P:Prop}(h:P:=by
 go_quiet (fail)
 go_wp2;go_ret2;exact⟨by rw[HD.out,Bool.true_and];rfl,nq,rfl⟩):P:=h
theorem yF (p:Nat)(v:Int)(w:World)(hx:aF w p 1 v):Calls Tryz.prog 62 #[aI p,ah 1] w fun e w'=>e= .returned (.tuple #[.bool (decide (0≤v)&&decide (v≤3)),.bool (v==0)])∧∃n,w'=w.drewN n:=by
 by_cases h0:0≤v
 ·have hd:decide (0≤v)=true:=decide_eq_true h0;have HD:=ae hd
  go_enter Tryz.func62,Tryz.ntmps62
  go_upto_region 10 with(go_at_call 96;refine(uV p _).mono ?_;rintro e W1 ⟨rfl,rfl⟩);exact bo
 ·have hd:decide (0≤v)=false:=decide_eq_false h0;have HD:=ae hd
  go_enter Tryz.func62,Tryz.ntmps62
  go_upto_region 10 with(go_at_call 96;refine(uV p _).mono ?_;rintro e W1 ⟨rfl,rfl⟩);exact bn
theorem yE (p:Nat)(v:Int)(w:World)(hx:aF w p 2 v):Calls Tryz.prog 62 #[aI p,ah 2] w fun e w'=>e= .returned (.tuple #[.bool (decide (0≤v)&&decide (v≤3)),.bool (v==0)])∧∃n,w'=w.drewN n:=by
 by_cases h0:0≤v
 ·have hd:decide (0≤v)=true:=decide_eq_true h0;have HD:=ae hd
  go_enter Tryz.func62,Tryz.ntmps62
  go_upto_region 10 with(go_at_call 96;refine(uU p _).mono ?_;rintro e W1 ⟨rfl,rfl⟩);exact bo
 ·have hd:decide (0≤v)=false:=decide_eq_false h0;have HD:=ae hd
  go_enter Tryz.func62,Tryz.ntmps62
  go_upto_region 10 with(go_at_call 96;refine(uU p _).mono ?_;rintro e W1 ⟨rfl,rfl⟩);exact bn
theorem yD (p:Nat)(v:Int)(w:World)(hx:aF w p 3 v):Calls Tryz.prog 62 #[aI p,ah 3] w fun e w'=>e= .returned (.tuple #[.bool (decide (0≤v)&&decide (v≤1099511627776)),.bool (v==0)])∧∃n,w'=w.drewN n:=by
 by_cases h0:0≤v
 ·have hd:decide (0≤v)=true:=decide_eq_true h0;have HD:=ae hd
  go_enter Tryz.func62,Tryz.ntmps62
  go_upto_region 10 with(go_at_call 96;refine(uT p _).mono ?_;rintro e W1 ⟨rfl,rfl⟩);exact bo
 ·have hd:decide (0≤v)=false:=decide_eq_false h0;have HD:=ae hd
  go_enter Tryz.func62,Tryz.ntmps62
  go_upto_region 10 with(go_at_call 96;refine(uT p _).mono ?_;rintro e W1 ⟨rfl,rfl⟩);exact bn
theorem yC (p:Nat)(v:Int)(w:World)(hx:aF w p 4 v):Calls Tryz.prog 62 #[aI p,ah 4] w fun e w'=>e= .returned (.tuple #[.bool (decide (0≤v)&&decide (v≤1099511627776)),.bool (v==0)])∧∃n,w'=w.drewN n:=by
 by_cases h0:0≤v
 ·have hd:decide (0≤v)=true:=decide_eq_true h0;have HD:=ae hd
  go_enter Tryz.func62,Tryz.ntmps62
  go_upto_region 10 with(go_at_call 96;refine(uS p _).mono ?_;rintro e W1 ⟨rfl,rfl⟩);exact bo
 ·have hd:decide (0≤v)=false:=decide_eq_false h0;have HD:=ae hd
  go_enter Tryz.func62,Tryz.ntmps62
  go_upto_region 10 with(go_at_call 96;refine(uS p _).mono ?_;rintro e W1 ⟨rfl,rfl⟩);exact bn
theorem yB (p:Nat)(v:Int)(w:World)(hx:aF w p 5 v):Calls Tryz.prog 62 #[aI p,ah 5] w fun e w'=>e= .returned (.tuple #[.bool (decide (0≤v)&&decide (v≤31)),.bool (v==0)])∧∃n,w'=w.drewN n:=by
 by_cases h0:0≤v
 ·have hd:decide (0≤v)=true:=decide_eq_true h0;have HD:=ae hd
  go_enter Tryz.func62,Tryz.ntmps62
  go_upto_region 10 with(go_at_call 96;refine(uR p _).mono ?_;rintro e W1 ⟨rfl,rfl⟩);exact bo
 ·have hd:decide (0≤v)=false:=decide_eq_false h0;have HD:=ae hd
  go_enter Tryz.func62,Tryz.ntmps62
  go_upto_region 10 with(go_at_call 96;refine(uR p _).mono ?_;rintro e W1 ⟨rfl,rfl⟩);exact bn
theorem yA (p:Nat)(v:Int)(w:World)(hx:aF w p 6 v):Calls Tryz.prog 62 #[aI p,ah 6] w fun e w'=>e= .returned (.tuple #[.bool (decide (0≤v)&&decide (v≤4)),.bool (v==0)])∧∃n,w'=w.drewN n:=by
 by_cases h0:0≤v
 ·have hd:decide (0≤v)=true:=decide_eq_true h0;have HD:=ae hd
  go_enter Tryz.func62,Tryz.ntmps62
  go_upto_region 10 with(go_at_call 96;refine(uQ p _).mono ?_;rintro e W1 ⟨rfl,rfl⟩);exact bo
 ·have hd:decide (0≤v)=false:=decide_eq_false h0;have HD:=ae hd
  go_enter Tryz.func62,Tryz.ntmps62
  go_upto_region 10 with(go_at_call 96;refine(uQ p _).mono ?_;rintro e W1 ⟨rfl,rfl⟩);exact bn
theorem yz (p:Nat)(v:Int)(w:World)(hx:aF w p 7 v):Calls Tryz.prog 62 #[aI p,ah 7] w fun e w'=>e= .returned (.tuple #[.bool (decide (0≤v)&&decide (v≤1099511627776)),.bool (v==0)])∧∃n,w'=w.drewN n:=by
 by_cases h0:0≤v
 ·have hd:decide (0≤v)=true:=decide_eq_true h0;have HD:=ae hd
  go_enter Tryz.func62,Tryz.ntmps62
  go_upto_region 10 with(go_at_call 96;refine(uP p _).mono ?_;rintro e W1 ⟨rfl,rfl⟩);exact bo
 ·have hd:decide (0≤v)=false:=decide_eq_false h0;have HD:=ae hd
  go_enter Tryz.func62,Tryz.ntmps62
  go_upto_region 10 with(go_at_call 96;refine(uP p _).mono ?_;rintro e W1 ⟨rfl,rfl⟩);exact bn
theorem yy (p:Nat)(v:Int)(w:World)(hx:aF w p 8 v):Calls Tryz.prog 62 #[aI p,ah 8] w fun e w'=>e= .returned (.tuple #[.bool (decide (0≤v)&&decide (v≤16)),.bool (v==0)])∧∃n,w'=w.drewN n:=by
 by_cases h0:0≤v
 ·have hd:decide (0≤v)=true:=decide_eq_true h0;have HD:=ae hd
  go_enter Tryz.func62,Tryz.ntmps62
  go_wp2_with fail;go_ret2;exact⟨by first|rfl|(rw[HD.out,Bool.true_and];rfl),0,rfl⟩
 ·have hd:decide (0≤v)=false:=decide_eq_false h0;have HD:=ae hd
  go_enter Tryz.func62,Tryz.ntmps62
  go_wp2_with fail;go_ret2;exact⟨by first|rfl|(rw[HD.out,Bool.false_and];rfl),0,rfl⟩
theorem yx (p:Nat)(g:Bool)(w:World)(hx:ba w p 9 (.bool g)):Calls Tryz.prog 62 #[aI p,ah 9] w fun e w'=>e= .returned (.tuple #[.bool true,.bool (!g)])∧∃n,w'=w.drewN n:=by
 go_enter Tryz.func62,Tryz.ntmps62
 go_upto_region 6 with fail
 go_quiet (fail)
 go_wp2;go_ret2;exact⟨rfl,nq,rfl⟩
theorem wj (p:Nat)(A:Option Addr)(n c:Nat)(w:World)(hx:ba w p 10 (.slice A n c)):Calls Tryz.prog 62 #[aI p,ah 10] w fun e w'=>e= .returned (.tuple #[.bool (decide ((n:Int)≤64)),.bool ((n:Int)==0)])∧∃n,w'=w.drewN n:=by
 go_enter Tryz.func62,Tryz.ntmps62
 go_upto_region 8 with fail
 go_quiet (fail)
 go_wp2;go_ret2;exact⟨rfl,nq,rfl⟩
theorem tC (f:Nat)(p:Nat)(m:ec)(A:Option Addr)(n c:Nat)(w:World)(h1:1≤f)(C5:f≤10)(hb:Box w p 37 (bc m (.slice A n c))):
 Calls Tryz.prog 62 #[aI p,ah f] w fun e w'=>e= .returned (.tuple #[.bool (okF m n f),.bool (rA m n f)])∧∃n,w'=w.drewN n:=by
 rcases(show f=1∨f=2∨f=3∨f=4∨f=5∨f=6∨f=7∨f=8∨f=9∨f=10 by omega)with rfl|rfl|rfl|rfl|rfl|rfl|rfl|rfl|rfl|rfl
 ·exact yF p (m.f 1) w (hb.ag rfl)
 ·exact yE p (m.f 2) w (hb.ag rfl)
 ·exact yD p (m.f 3) w (hb.ag rfl)
 ·exact yC p (m.f 4) w (hb.ag rfl)
 ·exact yB p (m.f 5) w (hb.ag rfl)
 ·exact yA p (m.f 6) w (hb.ag rfl)
 ·exact yz p (m.f 7) w (hb.ag rfl)
 ·exact yy p (m.f 8) w (hb.ag rfl)
 ·exact yx p m.g w (hb.ag rfl)
 ·exact wj p A n c w (hb.ag rfl)
def lW (m:ec)(n f:Nat):Bool:=okF m n f&&((p9 (m.f 0)).testBit f||rA m n f)
def nW (m:ec)(n:Nat):Bool:=decide (1≤m.f 0∧m.f 0≤14)&&(List.range 10).all fun i=>lW m n (i+1)
theorem tj {m:ec}{n:Nat}(h:¬(1≤m.f 0∧m.f 0≤14)):nW m n=false:=by unfold nW;rw[decide_eq_false h];rfl
theorem yh {m:ec}{n f:Nat}(h1:1≤f)(h2:f≤10)(h:lW m n f=false):nW m n=false:=by
 unfold nW;rw[Bool.and_eq_false_iff]
 right
 rw[List.all_eq_false];exact⟨f - 1,List.mem_range.2 ai,by rw[show f - 1+1=f by omega,h];decide⟩
theorem vS {m:ec}{n:Nat}(hk:1≤m.f 0∧m.f 0≤14)(h:∀f,1≤f→f<11→lW m n f=true):nW m n=true:=by
 unfold nW;rw[decide_eq_true hk,Bool.true_and,List.all_eq_true];exact fun i hi=>h (i+1) ai (by have:=List.mem_range.1 hi;omega)
theorem ye (k:Int)(hk:1≤k∧k≤14):0<p9 k∧p9 k<2048:=by
 obtain⟨q,rfl⟩:=Int.eq_ofNat_of_zero_le (show 0≤k by omega);rcases(show q=1∨q=2∨q=3∨q=4∨q=5∨q=6∨q=7∨q=8∨q=9∨q=10∨q=11∨q=12∨q=13∨q=14 by omega)with rfl|rfl|rfl|rfl|rfl|rfl|rfl|rfl|rfl|rfl|rfl|rfl|rfl|rfl<;>decide
theorem yI (x i:Nat)(hx:x<18446744073709551616):bits .and .u64 ((x:Int) / 2 ^ i) 1=if x.testBit i=true then 1 else 0:=by
 exact fw
def Et (m:ec)(n:Nat)(d:Value)(p:Nat)(w:World)(i:Value)(wr:World):Prop:=
 ∃k:Nat,1≤k∧k≤11∧i=ah k∧(∀f,1≤f→f<k→lW m n f=true)∧Box wr p 37 (bc m d)∧af aA w wr
theorem fC{P:Prop}(h:P:=by
 go_wp2_with fail;refine⟨⟨k+1,ai,ai,by push_cast;rfl,fun f h1 h2=>?_,ME.drewN q,Iy.drewN q⟩,by simp[intOf];omega⟩
 by_cases e:f=k
 ·subst e;rw[Mq.out];rfl
 ·exact HG f h1 ai):P:=h
theorem gj{P:Prop}(h:P:=by
 go_wp2_with fail;go_ret;exact⟨by rw[yh Ai aO (by rw[Mq.out];rfl)];rfl,Iy.drewN q⟩):P:=h
theorem th (m:ec)(A:Option Addr)(n c:Nat)(w:World):Calls Tryz.prog 32 #[.agg (bc m (.slice A n c))] w fun e w'=>e= .returned (.bool (nW m n))∧af aA w w':=by
 have HB:=ae<|Box.fresh w 37 (bc m (.slice A n c));have HO:=ae<|(af.ak aA w).alloc (.cells (bc m (.slice A n c)) 37)
 go_enter Tryz.func32,Tryz.ntmps32
 go_upto_region 1 with fail;change Code.wp _ _ _ _ (w.alloc (.cells (bc m (.slice A n c)) 37));generalize w.alloc (.cells (bc m (.slice A n c)) 37)=W at *;generalize w.heap.size=p at *;have x0:aF W p 0 (m.f 0):=HB.ag rfl
 by_cases hk:1≤m.f 0∧m.f 0≤14
 ·have HK:=ae hk;have HF:=ae<|vY (m.f 0) hk W;have hw:=ye (m.f 0) hk;clear hk;obtain⟨N,hN⟩:∃N,N=p9 (m.f 0):=⟨_,rfl⟩;rw[←hN]at HF hw;have FX:=ae hN;have wF:((N:Int)==0)=false:=by simp;omega
  have HW:=ae hw;clear hN hw;go_upto_region 4 with(go_at_call 61;refine HF.mono ?_;rintro e W1 ⟨rfl,a8⟩);have cQ:=ae<|a8.az HB id;have bw:=ae<|HO.trans a8;clear a8 x0 HF HB HO wF;go_wp2_with fail
  go_loopw [4] (fun i wr=>Et m n (.slice A n c) p w i wr) (fun i _=>11 - (intOf i).toNat)
  case atStart=>exact⟨1,dT _,av,rfl,fun f h1 h2=>by omega,cQ,bw⟩
  case round=>
   obtain⟨k,Ai,Ja,rfl,hg,hb,ho⟩:=hrel;have HG:=ae hg;have ME:=ae hb;have Iy:=ae ho;clear hg hb ho
   by_cases aO:k≤10
   ·have nY:(k:Int)≤10:=ai;have Mx:=ae<|tC k p m A n c wr Ai aO ME;have Mq:=ae (show lW m n k=(okF m n k&&(N.testBit k||rA m n k)) by unfold lW;rw[FX.out]);have KJ:=yI N k (by have:=HW.out;omega);have yX:IntKind.i64.wrap ((k:Int)+1)=((k+1:Nat):Int):=by rw[IntKind.wrap_i64];omega
    have P0:k<64:=ai;generalize okF m n k=ok at *;generalize rA m n k=z at *;generalize N.testBit k=t at *;go_upto_region 8 with(go_at_call 62;refine Mx.mono ?_;rintro e W2 ⟨rfl,q,rfl⟩);clear Mx
    cases ok with
    |false=>
     exact gj
    |true=>
     cases t with
     |true=>
      rw[if_pos rfl]at KJ;exact fC
     |false=>
      rw[if_neg av]at KJ
      cases z with
      |true=>
       exact fC
      |false=>
       exact gj
   ·have Ef:k=11:=ai;subst Ef;have hr:=vS HK HG;have HR:=ae hr;clear hr aO Ai Ja;go_wp2_with fail;go_ret;exact⟨by rw[HR.out];rfl,Iy⟩
 ·have HF:=ae<|yq (m.f 0) hk W;have HR:=ae<|tj (n:=n) hk;clear hk;go_wp2_with (go_at_call 61;refine HF.mono ?_;rintro e W1 ⟨rfl,rfl⟩);go_ret;exact⟨by rw[HR.out];rfl,HO⟩
end
end Go.Proofs.YtpcfhbeakecihaaGreat
