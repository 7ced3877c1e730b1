/- Lemmas. -/
import Derived.Test.YtchofaecncibjaaGreatM2
import Derived.Test.YtchofaecncibjaaGreatM5
import Derived.Test.YtchofaecncibjaaGreatM12
import Derived.BigQuiet
import Derived.Deep.CutRange
set_option linter.all false
set_option maxHeartbeats 20000000
set_option maxRecDepth 100000
namespace Go.Proofs.YtchofaecncibjaaGreat
open Go.RowKit
theorem pS (n:Int)(h₀:0≤n)(h₁:n<2 ^ 64):IntKind.u64.wrap n=n:=by rw[IntKind.wrap_u64];omega
theorem abV (x i:Nat)(hx:x<18446744073709551616)(hi:i<64):bits .or .u64 x (2 ^ i)=((x ||| 2 ^ i:Nat):Int):=by
 have h:=(bits_nat .u64 64 aD pS x (2 ^ i) hx (Nat.pow_lt_pow_right aD hi)).2;rw[←h]
 push_cast
 rfl
def tL (l:List Nat):Nat:=l.foldl (fun a x=>a ||| 2 ^ x) 0
theorem IU:∀(l:List Nat) (a:Nat),(∀x∈l,x<64)→a<2 ^ 64→l.foldl (fun a x=>a ||| 2 ^ x) a<2 ^ 64
 | [],a,_,h=>h
 |x :: l,a,hl,h=>IU l _ (fun y hy=>hl y (List.mem_cons_of_mem _ hy)) (Nat.or_lt_two_pow h (Nat.pow_lt_pow_right aD (hl x List.mem_cons_self)))
theorem Ma (l:List Nat)(k:Nat)(hk:k<l.length):tL (l.take (k+1))=tL (l.take k) ||| 2 ^ l.getD k 0:=by
 unfold tL;rw[List.take_add_one,List.getElem?_eq_getElem hk,List.foldl_append];simp[hk]
def aeA (l:List Nat)(W:World)(acc i:Value)(wr:World):Prop:=∃k:Nat,k≤l.length∧i=ah k∧acc= .int .u64 (tL (l.take k):Nat)∧W=wr
section
theorem Um (l:List Nat)(g:Nat)(w:World)(hl:∀x∈l,x<64)(ES:l.length≤20)(hb:Box w g 3 (l.map fun x=>Value.int .i64 (x:Nat)).toArray):
 Calls Tryz.prog 140 #[aU g l.length l.length] w fun e w'=>e= .returned (.int .u64 (tL l:Nat))∧w=w':=by
 have HC:=aB (∀k,k<l.length→aw w g k (l.getD k 0:Nat)) (fun k hk=>hb.af (by simp[hk]));have bL:=aB (∀k,k<l.length→l.getD k 0<64) (fun k hk=>hl _ (by simp[hk]));have Vx:=aB (∀k,tL (l.take k)<18446744073709551616) (fun k=>IU _ 0 (fun x hx=>hl x (List.mem_of_mem_take hx)) aD);have HFU:=ae (show tL (l.take l.length)=tL l by rw[List.take_length]);have oE:=ae<|Ma l;clear hb hl
 go_enter Tryz.func140,Tryz.ntmps140
 go_wp2_with fail
 go_loopw [3,8] (fun acc i wr=>aeA l w acc i wr) (fun _ i _=>l.length - (intOf i).toNat)
 case atStart=>exact⟨0,dT _,rfl,rfl,rfl⟩
 case round=>
  obtain⟨k,hk,rfl,rfl,rfl⟩:=hrel
  by_cases aY:k<l.length
  ·have Dd:(k:Int)<l.length:=ao;have hc:=HC.out k aY;have hxl:=bL.out k aY;have kG:=oE.out k aY;have QT:=Vx.out k;have agU:=abV (tL (l.take k)) (l.getD k 0) QT hxl;generalize l.getD k 0=x at *;have ae3:IntKind.u64.wrap (2 ^ x)=2 ^ x:=pS _ (by have:(0:Int)≤((2 ^ x:Nat):Int):=Int.natCast_nonneg _;simpa using this) (by
    have:(2:Nat) ^ x<2 ^ 64:=Nat.pow_lt_pow_right aD hxl;have h2:((2 ^ x:Nat):Int)<((2 ^ 64:Nat):Int):=ao;simpa using h2)
   have agn:(2:Int) ^ x % 18446744073709551616=2 ^ x:=by rw[←IntKind.wrap_u64];exact ae3
   have HSt:=ae kG;clear kG;generalize tL (l.take k)=acc at *;have Qd:IntKind.i64.wrap ((k:Int)+1)=((k+1:Nat):Int):=by rw[IntKind.wrap_i64];omega
   go_wp2_with fail;exact⟨⟨k+1,aY,by push_cast;rfl,by rw[HSt.out],rfl⟩,by simp[intOf];omega⟩
  ·have hk':k=l.length:=ao;subst hk';rw[HFU.out];go_wp2_with fail;go_ret;exact⟨rfl,rfl⟩
theorem fz (w:World)(l:List Nat)(N:Nat)(cs:Array Value)(hl:∀x∈l,x<64)(hN:tL l=N)(hcs:cs=(l.map fun x=>Value.int .i64 (x:Nat)).toArray)(ES:l.length≤20:=by decide):
 Calls Tryz.prog 140 #[aU w.heap.size l.length l.length] (w.alloc (.cells cs 3)) fun e w'=>e= .returned (.int .u64 (N:Nat))∧ag az (w.alloc (.cells cs 3)) w':=by
 subst hcs hN;refine(Um l w.heap.size _ hl ES (Box.fresh w 3 _)).mono ?_;rintro e w' ⟨rfl,rfl⟩;exact⟨rfl,ag.aj _ _⟩
def yQ:Array Value:=#[.int .u64 0,.int .u64 116,.int .u64 1140,.int .u64 1120,.int .u64 160,.int .u64 1908,.int .u64 884,.int .u64 160,.int .u64 96,.int .u64 1150,.int .u64 1120,.int .u64 32,.int .u64 1312,.int .u64 830,.int .u64 32]
theorem Lz:yQ.all (·.oneCell')=true:=by simp[yQ,Value.oneCell']
theorem O9 (w:World):Calls Tryz.prog 117 #[] w fun e w'=>e= .returned (.agg yQ)∧ag az w w':=by
 have HB:=ae<|Box.fresh w 206 #[.int .u64 0,.int .u64 0,.int .u64 0,.int .u64 0,.int .u64 0,.int .u64 0,.int .u64 0,.int .u64 0,.int .u64 0,.int .u64 0,.int .u64 0,.int .u64 0,.int .u64 0,.int .u64 0,.int .u64 0];have HO:=ae<|(ag.aj az w).alloc (.cells #[.int .u64 0,.int .u64 0,.int .u64 0,.int .u64 0,.int .u64 0,.int .u64 0,.int .u64 0,.int .u64 0,.int .u64 0,.int .u64 0,.int .u64 0,.int .u64 0,.int .u64 0,.int .u64 0,.int .u64 0] 206)
 go_enter Tryz.func117,Tryz.ntmps117
 go_upto_region 1 with fail;change Code.wp _ _ _ _ (w.alloc (.cells #[.int .u64 0,.int .u64 0,.int .u64 0,.int .u64 0,.int .u64 0,.int .u64 0,.int .u64 0,.int .u64 0,.int .u64 0,.int .u64 0,.int .u64 0,.int .u64 0,.int .u64 0,.int .u64 0,.int .u64 0] 206));obtain⟨nb,EM⟩:∃nb,nb=w.heap.size:=⟨_,rfl⟩;have Bg:=aB (w.heap.size≤nb) (Nat.le_of_eq EM.symm);rw[←EM]at HB ⊢;clear EM;generalize w.alloc (.cells #[.int .u64 0,.int .u64 0,.int .u64 0,.int .u64 0,.int .u64 0,.int .u64 0,.int .u64 0,.int .u64 0,.int .u64 0,.int .u64 0,.int .u64 0,.int .u64 0,.int .u64 0,.int .u64 0,.int .u64 0] 206)=W at *;go_wp2_with fail;refine(fz W [2,4,5,6] 116 #[ah 2,ah 4,ah 5,ah 6] aD aD rfl).mono ?_;rintro e W1 ⟨rfl,ho⟩
 replace HB:=ae<|((ag.aj az W).alloc _).trans ho |>.aq HB id
 replace HO:=ae<|(HO.alloc _).trans ho
 clear ho;go_wp2_with fail;refine(fz W1 [2,4,5,6,10] 1140 #[ah 2,ah 4,ah 5,ah 6,ah 10] aD aD rfl).mono ?_;rintro e W2 ⟨rfl,ho⟩
 replace HB:=ae<|((ag.aj az W1).alloc _).trans ho |>.aq HB id
 replace HO:=ae<|(HO.alloc _).trans ho
 clear ho;go_wp2_with fail;refine(fz W2 [5,6,10] 1120 #[ah 5,ah 6,ah 10] aD aD rfl).mono ?_;rintro e W3 ⟨rfl,ho⟩
 replace HB:=ae<|((ag.aj az W2).alloc _).trans ho |>.aq HB id
 replace HO:=ae<|(HO.alloc _).trans ho
 clear ho;go_wp2_with fail;refine(fz W3 [5,7] 160 #[ah 5,ah 7] aD aD rfl).mono ?_;rintro e W4 ⟨rfl,ho⟩
 replace HB:=ae<|((ag.aj az W3).alloc _).trans ho |>.aq HB id
 replace HO:=ae<|(HO.alloc _).trans ho
 clear ho;go_wp2_with fail;refine(fz W4 [2,4,5,6,8,9,10] 1908 #[ah 2,ah 4,ah 5,ah 6,ah 8,ah 9,ah 10] aD aD rfl).mono ?_;rintro e W5 ⟨rfl,ho⟩
 replace HB:=ae<|((ag.aj az W4).alloc _).trans ho |>.aq HB id
 replace HO:=ae<|(HO.alloc _).trans ho
 clear ho;go_wp2_with fail;refine(fz W5 [2,4,5,6,8,9] 884 #[ah 2,ah 4,ah 5,ah 6,ah 8,ah 9] aD aD rfl).mono ?_;rintro e W6 ⟨rfl,ho⟩
 replace HB:=ae<|((ag.aj az W5).alloc _).trans ho |>.aq HB id
 replace HO:=ae<|(HO.alloc _).trans ho
 clear ho;go_wp2_with fail;refine(fz W6 [5,7] 160 #[ah 5,ah 7] aD aD rfl).mono ?_;rintro e W7 ⟨rfl,ho⟩
 replace HB:=ae<|((ag.aj az W6).alloc _).trans ho |>.aq HB id
 replace HO:=ae<|(HO.alloc _).trans ho
 clear ho;go_wp2_with fail;refine(fz W7 [5,6] 96 #[ah 5,ah 6] aD aD rfl).mono ?_;rintro e W8 ⟨rfl,ho⟩
 replace HB:=ae<|((ag.aj az W7).alloc _).trans ho |>.aq HB id
 replace HO:=ae<|(HO.alloc _).trans ho
 clear ho;go_wp2_with fail;refine(fz W8 [1,2,3,4,5,6,10] 1150 #[ah 1,ah 2,ah 3,ah 4,ah 5,ah 6,ah 10] aD aD rfl).mono ?_;rintro e W9 ⟨rfl,ho⟩
 replace HB:=ae<|((ag.aj az W8).alloc _).trans ho |>.aq HB id
 replace HO:=ae<|(HO.alloc _).trans ho
 clear ho;go_wp2_with fail;refine(fz W9 [5,6,10] 1120 #[ah 5,ah 6,ah 10] aD aD rfl).mono ?_;rintro e ga ⟨rfl,ho⟩
 replace HB:=ae<|((ag.aj az W9).alloc _).trans ho |>.aq HB id
 replace HO:=ae<|(HO.alloc _).trans ho
 clear ho;go_wp2_with fail;refine(fz ga [5] 32 #[ah 5] aD aD rfl).mono ?_;rintro e Bd ⟨rfl,ho⟩
 replace HB:=ae<|((ag.aj az ga).alloc _).trans ho |>.aq HB id
 replace HO:=ae<|(HO.alloc _).trans ho
 clear ho;go_wp2_with fail;refine(fz Bd [5,8,10] 1312 #[ah 5,ah 8,ah 10] aD aD rfl).mono ?_;rintro e W12 ⟨rfl,ho⟩
 replace HB:=ae<|((ag.aj az Bd).alloc _).trans ho |>.aq HB id
 replace HO:=ae<|(HO.alloc _).trans ho
 clear ho;go_wp2_with fail;refine(fz W12 [1,2,3,4,5,8,9] 830 #[ah 1,ah 2,ah 3,ah 4,ah 5,ah 8,ah 9] aD aD rfl).mono ?_;rintro e W13 ⟨rfl,ho⟩
 replace HB:=ae<|((ag.aj az W12).alloc _).trans ho |>.aq HB id
 replace HO:=ae<|(HO.alloc _).trans ho
 clear ho;go_wp2_with fail;refine(fz W13 [5] 32 #[ah 5] aD aD rfl).mono ?_;rintro e W14 ⟨rfl,ho⟩
 replace HB:=ae<|((ag.aj az W13).alloc _).trans ho |>.aq HB id
 replace HO:=ae<|(HO.alloc _).trans ho
 clear ho;go_wp2_with (refine fJ yQ HB Lz ?_)
 (try simp only[Exit.inBlock,Exit.then])
 refine bodyPost_ret (results_cell_row rfl _ _ nb _ yQ (0,0) _ rfl (HB.au _) Tryz.underlying206 rfl bZ) rfl ?_;exact⟨rfl,HO.au (.inr Bg) _⟩
def oO (k:Int):Nat:=[0,116,1140,1120,160,1908,884,160,96,1150,1120,32,1312,830,32].getD k.toNat 0
theorem Xr (k:Int)(hk:¬(1≤k∧k≤14))(w:World):Calls Tryz.prog 86 #[ah k] w fun e w'=>e= .returned (.int .u64 0)∧w=w':=by
 by_cases h1:k<1
 ·clear hk
  go_enter Tryz.func86,Tryz.ntmps86
  go_wp2_with fail;go_ret;exact⟨rfl,rfl⟩
 ·have h2:14<k:=ao;clear hk
  go_enter Tryz.func86,Tryz.ntmps86
  go_wp2_with fail;go_ret;exact⟨rfl,rfl⟩
theorem TZ (k:Int)(hk:1≤k∧k≤14)(w:World):Calls Tryz.prog 86 #[ah k] w fun e w'=>e= .returned (.int .u64 (oO k:Nat))∧ag az w w':=by
 have h1:¬k<1:=ao;have h2:¬14<k:=ao;have aaw:=fun w=>jb (P:=Tryz.prog) w 206 155 15 yQ .i64 k (.int .u64 (oO k:Nat)) Tryz.underlying206 bZ bZ ao ao (by
  obtain⟨q,rfl⟩:=Int.eq_ofNat_of_zero_le (show 0≤k by omega);rcases(show q=1∨q=2∨q=3∨q=4∨q=5∨q=6∨q=7∨q=8∨q=9∨q=10∨q=11∨q=12∨q=13∨q=14 by omega)with rfl|rfl|rfl|rfl|rfl|rfl|rfl|rfl|rfl|rfl|rfl|rfl|rfl|rfl<;>rfl)
 have HN:=ae<|O9 w;clear hk;generalize oO k=N at *
 go_enter Tryz.func86,Tryz.ntmps86
 go_wp2_with (go_at_call 117;refine HN.mono ?_;rintro e W1 ⟨rfl,ho⟩);go_ret;exact⟨rfl,ho⟩
def RB (f:Nat):Int:=[0,3,3,1099511627776,1099511627776,31,4,1099511627776,16].getD f 0
def okF (m:di)(len:Nat)(f:Nat):Bool:=if f=9 then true else if f=10 then decide ((len:Int)≤64)else decide (0≤m.f f)&&decide (m.f f≤RB f)
def Hc (m:di)(len:Nat)(f:Nat):Bool:=if f=9 then !m.g else if f=10 then((len:Int)==0)else(m.f f==0)
theorem eI{P:Prop}(h:P:=by
 go_enter Tryz.func118,Tryz.ntmps118
 go_wp2_with fail;go_ret2;exact⟨rfl,rfl⟩):P:=h
theorem SH (p:Nat)(w:World):Calls Tryz.prog 118 #[aO p,ah 1] w fun e w'=>e= .returned (.tuple #[.pointer (some ⟨p,1,none⟩),ah 3])∧w=w':=by
 exact eI
theorem SG (p:Nat)(w:World):Calls Tryz.prog 118 #[aO p,ah 2] w fun e w'=>e= .returned (.tuple #[.pointer (some ⟨p,2,none⟩),ah 3])∧w=w':=by
 exact eI
theorem SF (p:Nat)(w:World):Calls Tryz.prog 118 #[aO p,ah 3] w fun e w'=>e= .returned (.tuple #[.pointer (some ⟨p,3,none⟩),ah 1099511627776])∧w=w':=by
 exact eI
theorem SE (p:Nat)(w:World):Calls Tryz.prog 118 #[aO p,ah 4] w fun e w'=>e= .returned (.tuple #[.pointer (some ⟨p,4,none⟩),ah 1099511627776])∧w=w':=by
 exact eI
theorem SD (p:Nat)(w:World):Calls Tryz.prog 118 #[aO p,ah 5] w fun e w'=>e= .returned (.tuple #[.pointer (some ⟨p,5,none⟩),ah 31])∧w=w':=by
 exact eI
theorem SC (p:Nat)(w:World):Calls Tryz.prog 118 #[aO p,ah 6] w fun e w'=>e= .returned (.tuple #[.pointer (some ⟨p,6,none⟩),ah 4])∧w=w':=by
 exact eI
theorem SB (p:Nat)(w:World):Calls Tryz.prog 118 #[aO p,ah 7] w fun e w'=>e= .returned (.tuple #[.pointer (some ⟨p,7,none⟩),ah 1099511627776])∧w=w':=by
 exact eI
theorem eH{P:Prop}(h:P:=by
 go_quiet (fail)
 go_wp2;go_ret2;exact⟨by rw[HD.out,Bool.false_and];rfl,nq,rfl⟩):P:=h
theorem eJ{P:Prop}(h:P:=by
 go_quiet (fail)
 go_wp2;go_ret2;exact⟨by rw[HD.out,Bool.true_and];rfl,nq,rfl⟩):P:=h
theorem XL (p:Nat)(v:Int)(w:World)(hx:aw w p 1 v):Calls Tryz.prog 87 #[aO p,ah 1] w fun e w'=>e= .returned (.tuple #[.bool (decide (0≤v)&&decide (v≤3)),.bool (v==0)])∧∃n,w'=w.drewN n:=by
 by_cases h0:0≤v
 ·have hd:decide (0≤v)=true:=decide_eq_true h0;have HD:=ae hd
  go_enter Tryz.func87,Tryz.ntmps87
  go_upto_region 10 with(go_at_call 118;refine(SH p _).mono ?_;rintro e W1 ⟨rfl,rfl⟩);exact eJ
 ·have hd:decide (0≤v)=false:=decide_eq_false h0;have HD:=ae hd
  go_enter Tryz.func87,Tryz.ntmps87
  go_upto_region 10 with(go_at_call 118;refine(SH p _).mono ?_;rintro e W1 ⟨rfl,rfl⟩);exact eH
theorem XK (p:Nat)(v:Int)(w:World)(hx:aw w p 2 v):Calls Tryz.prog 87 #[aO p,ah 2] w fun e w'=>e= .returned (.tuple #[.bool (decide (0≤v)&&decide (v≤3)),.bool (v==0)])∧∃n,w'=w.drewN n:=by
 by_cases h0:0≤v
 ·have hd:decide (0≤v)=true:=decide_eq_true h0;have HD:=ae hd
  go_enter Tryz.func87,Tryz.ntmps87
  go_upto_region 10 with(go_at_call 118;refine(SG p _).mono ?_;rintro e W1 ⟨rfl,rfl⟩);exact eJ
 ·have hd:decide (0≤v)=false:=decide_eq_false h0;have HD:=ae hd
  go_enter Tryz.func87,Tryz.ntmps87
  go_upto_region 10 with(go_at_call 118;refine(SG p _).mono ?_;rintro e W1 ⟨rfl,rfl⟩);exact eH
theorem XJ (p:Nat)(v:Int)(w:World)(hx:aw w p 3 v):Calls Tryz.prog 87 #[aO p,ah 3] w fun e w'=>e= .returned (.tuple #[.bool (decide (0≤v)&&decide (v≤1099511627776)),.bool (v==0)])∧∃n,w'=w.drewN n:=by
 by_cases h0:0≤v
 ·have hd:decide (0≤v)=true:=decide_eq_true h0;have HD:=ae hd
  go_enter Tryz.func87,Tryz.ntmps87
  go_upto_region 10 with(go_at_call 118;refine(SF p _).mono ?_;rintro e W1 ⟨rfl,rfl⟩);exact eJ
 ·have hd:decide (0≤v)=false:=decide_eq_false h0;have HD:=ae hd
  go_enter Tryz.func87,Tryz.ntmps87
  go_upto_region 10 with(go_at_call 118;refine(SF p _).mono ?_;rintro e W1 ⟨rfl,rfl⟩);exact eH
theorem XI (p:Nat)(v:Int)(w:World)(hx:aw w p 4 v):Calls Tryz.prog 87 #[aO p,ah 4] w fun e w'=>e= .returned (.tuple #[.bool (decide (0≤v)&&decide (v≤1099511627776)),.bool (v==0)])∧∃n,w'=w.drewN n:=by
 by_cases h0:0≤v
 ·have hd:decide (0≤v)=true:=decide_eq_true h0;have HD:=ae hd
  go_enter Tryz.func87,Tryz.ntmps87
  go_upto_region 10 with(go_at_call 118;refine(SE p _).mono ?_;rintro e W1 ⟨rfl,rfl⟩);exact eJ
 ·have hd:decide (0≤v)=false:=decide_eq_false h0;have HD:=ae hd
  go_enter Tryz.func87,Tryz.ntmps87
  go_upto_region 10 with(go_at_call 118;refine(SE p _).mono ?_;rintro e W1 ⟨rfl,rfl⟩);exact eH
theorem XH (p:Nat)(v:Int)(w:World)(hx:aw w p 5 v):Calls Tryz.prog 87 #[aO p,ah 5] w fun e w'=>e= .returned (.tuple #[.bool (decide (0≤v)&&decide (v≤31)),.bool (v==0)])∧∃n,w'=w.drewN n:=by
 by_cases h0:0≤v
 ·have hd:decide (0≤v)=true:=decide_eq_true h0;have HD:=ae hd
  go_enter Tryz.func87,Tryz.ntmps87
  go_upto_region 10 with(go_at_call 118;refine(SD p _).mono ?_;rintro e W1 ⟨rfl,rfl⟩);exact eJ
 ·have hd:decide (0≤v)=false:=decide_eq_false h0;have HD:=ae hd
  go_enter Tryz.func87,Tryz.ntmps87
  go_upto_region 10 with(go_at_call 118;refine(SD p _).mono ?_;rintro e W1 ⟨rfl,rfl⟩);exact eH
theorem XG (p:Nat)(v:Int)(w:World)(hx:aw w p 6 v):Calls Tryz.prog 87 #[aO p,ah 6] w fun e w'=>e= .returned (.tuple #[.bool (decide (0≤v)&&decide (v≤4)),.bool (v==0)])∧∃n,w'=w.drewN n:=by
 by_cases h0:0≤v
 ·have hd:decide (0≤v)=true:=decide_eq_true h0;have HD:=ae hd
  go_enter Tryz.func87,Tryz.ntmps87
  go_upto_region 10 with(go_at_call 118;refine(SC p _).mono ?_;rintro e W1 ⟨rfl,rfl⟩);exact eJ
 ·have hd:decide (0≤v)=false:=decide_eq_false h0;have HD:=ae hd
  go_enter Tryz.func87,Tryz.ntmps87
  go_upto_region 10 with(go_at_call 118;refine(SC p _).mono ?_;rintro e W1 ⟨rfl,rfl⟩);exact eH
theorem XF (p:Nat)(v:Int)(w:World)(hx:aw w p 7 v):Calls Tryz.prog 87 #[aO p,ah 7] w fun e w'=>e= .returned (.tuple #[.bool (decide (0≤v)&&decide (v≤1099511627776)),.bool (v==0)])∧∃n,w'=w.drewN n:=by
 by_cases h0:0≤v
 ·have hd:decide (0≤v)=true:=decide_eq_true h0;have HD:=ae hd
  go_enter Tryz.func87,Tryz.ntmps87
  go_upto_region 10 with(go_at_call 118;refine(SB p _).mono ?_;rintro e W1 ⟨rfl,rfl⟩);exact eJ
 ·have hd:decide (0≤v)=false:=decide_eq_false h0;have HD:=ae hd
  go_enter Tryz.func87,Tryz.ntmps87
  go_upto_region 10 with(go_at_call 118;refine(SB p _).mono ?_;rintro e W1 ⟨rfl,rfl⟩);exact eH
theorem XE (p:Nat)(v:Int)(w:World)(hx:aw w p 8 v):Calls Tryz.prog 87 #[aO p,ah 8] w fun e w'=>e= .returned (.tuple #[.bool (decide (0≤v)&&decide (v≤16)),.bool (v==0)])∧∃n,w'=w.drewN n:=by
 by_cases h0:0≤v
 ·have hd:decide (0≤v)=true:=decide_eq_true h0;have HD:=ae hd
  go_enter Tryz.func87,Tryz.ntmps87
  go_wp2_with fail;go_ret2;exact⟨by first|rfl|(rw[HD.out,Bool.true_and];rfl),0,rfl⟩
 ·have hd:decide (0≤v)=false:=decide_eq_false h0;have HD:=ae hd
  go_enter Tryz.func87,Tryz.ntmps87
  go_wp2_with fail;go_ret2;exact⟨by first|rfl|(rw[HD.out,Bool.false_and];rfl),0,rfl⟩
theorem XD (p:Nat)(g:Bool)(w:World)(hx:aE w p 9 (.bool g)):Calls Tryz.prog 87 #[aO p,ah 9] w fun e w'=>e= .returned (.tuple #[.bool true,.bool (!g)])∧∃n,w'=w.drewN n:=by
 go_enter Tryz.func87,Tryz.ntmps87
 go_upto_region 6 with fail
 go_quiet (fail)
 go_wp2;go_ret2;exact⟨rfl,nq,rfl⟩
theorem Ub (p:Nat)(A:Option Addr)(n c:Nat)(w:World)(hx:aE w p 10 (.slice A n c)):Calls Tryz.prog 87 #[aO p,ah 10] w fun e w'=>e= .returned (.tuple #[.bool (decide ((n:Int)≤64)),.bool ((n:Int)==0)])∧∃n,w'=w.drewN n:=by
 go_enter Tryz.func87,Tryz.ntmps87
 go_upto_region 8 with fail
 go_quiet (fail)
 go_wp2;go_ret2;exact⟨rfl,nq,rfl⟩
theorem PJ (f:Nat)(p:Nat)(m:di)(A:Option Addr)(n c:Nat)(w:World)(h1:1≤f)(h10:f≤10)(hb:Box w p 37 (aP m (.slice A n c))):
 Calls Tryz.prog 87 #[aO p,ah f] w fun e w'=>e= .returned (.tuple #[.bool (okF m n f),.bool (Hc m n f)])∧∃n,w'=w.drewN n:=by
 rcases(show f=1∨f=2∨f=3∨f=4∨f=5∨f=6∨f=7∨f=8∨f=9∨f=10 by omega)with rfl|rfl|rfl|rfl|rfl|rfl|rfl|rfl|rfl|rfl
 ·exact XL p (m.f 1) w (hb.af rfl)
 ·exact XK p (m.f 2) w (hb.af rfl)
 ·exact XJ p (m.f 3) w (hb.af rfl)
 ·exact XI p (m.f 4) w (hb.af rfl)
 ·exact XH p (m.f 5) w (hb.af rfl)
 ·exact XG p (m.f 6) w (hb.af rfl)
 ·exact XF p (m.f 7) w (hb.af rfl)
 ·exact XE p (m.f 8) w (hb.af rfl)
 ·exact XD p m.g w (hb.af rfl)
 ·exact Ub p A n c w (hb.af rfl)
def iH (m:di)(n f:Nat):Bool:=okF m n f&&((oO (m.f 0)).testBit f||Hc m n f)
def eF (m:di)(n:Nat):Bool:=decide (1≤m.f 0∧m.f 0≤14)&&(List.range 10).all fun i=>iH m n (i+1)
theorem Eb {m:di}{n:Nat}(h:¬(1≤m.f 0∧m.f 0≤14)):eF m n=false:=by unfold eF;rw[decide_eq_false h];rfl
theorem uq {m:di}{n f:Nat}(h1:1≤f)(h2:f≤10)(h:iH m n f=false):eF m n=false:=by
 unfold eF;rw[Bool.and_eq_false_iff]
 right
 rw[List.all_eq_false];exact⟨f - 1,List.mem_range.2 ao,by rw[show f - 1+1=f by omega,h];decide⟩
theorem Iy {m:di}{n:Nat}(hk:1≤m.f 0∧m.f 0≤14)(h:∀f,1≤f→f<11→iH m n f=true):eF m n=true:=by
 unfold eF;rw[decide_eq_true hk,Bool.true_and,List.all_eq_true];exact fun i hi=>h (i+1) ao (by have:=List.mem_range.1 hi;omega)
theorem Xc (k:Int)(hk:1≤k∧k≤14):0<oO k∧oO k<2048:=by
 obtain⟨q,rfl⟩:=Int.eq_ofNat_of_zero_le (show 0≤k by omega);rcases(show q=1∨q=2∨q=3∨q=4∨q=5∨q=6∨q=7∨q=8∨q=9∨q=10∨q=11∨q=12∨q=13∨q=14 by omega)with rfl|rfl|rfl|rfl|rfl|rfl|rfl|rfl|rfl|rfl|rfl|rfl|rfl|rfl<;>decide
theorem XT (x i:Nat)(hx:x<18446744073709551616):bits .and .u64 ((x:Int) / 2 ^ i) 1=if x.testBit i=true then 1 else 0:=by
 have h1:x / 2 ^ i<2 ^ 64:=Nat.lt_of_le_of_lt (Nat.div_le_self _ _) hx;have h:=(bits_nat .u64 64 aD pS (x / 2 ^ i) 1 h1 aD).1;rw[show((x:Int) / 2 ^ i)=((x / 2 ^ i:Nat):Int)from by push_cast;rfl];rw[show(1:Int)=((1:Nat):Int)from rfl,h,Nat.and_one_is_mod,Nat.testBit_eq_decide_div_mod_eq];rcases Nat.mod_two_eq_zero_or_one (x / 2 ^ i)with e|e<;>rw[e]<;>decide
def aem (m:di)(n:Nat)(d:Value)(p:Nat)(w:World)(i:Value)(wr:World):Prop:=
 ∃k:Nat,1≤k∧k≤11∧i=ah k∧(∀f,1≤f→f<k→iH m n f=true)∧Box wr p 37 (aP m d)∧ag az w wr
theorem qM{P:Prop}(h:P:=by
 go_wp2_with fail;refine⟨⟨k+1,ao,ao,by push_cast;rfl,fun f h1 h2=>?_,HBR.drewN q,HOR.drewN q⟩,by simp[intOf];omega⟩
 by_cases e:f=k
 ·subst e;rw[HGK.out];rfl
 ·exact HG f h1 ao):P:=h
theorem sG{P:Prop}(h:P:=by
 go_wp2_with fail;go_ret;exact⟨by rw[uq C0 aY (by rw[HGK.out];rfl)];rfl,HOR.drewN q⟩):P:=h
theorem kR (m:di)(A:Option Addr)(n c:Nat)(w:World):Calls Tryz.prog 49 #[.agg (aP m (.slice A n c))] w fun e w'=>e= .returned (.bool (eF m n))∧ag az w w':=by
 have HB:=ae<|Box.fresh w 37 (aP m (.slice A n c));have HO:=ae<|(ag.aj az w).alloc (.cells (aP m (.slice A n c)) 37)
 go_enter Tryz.func49,Tryz.ntmps49
 go_upto_region 1 with fail;change Code.wp _ _ _ _ (w.alloc (.cells (aP m (.slice A n c)) 37));generalize w.alloc (.cells (aP m (.slice A n c)) 37)=W at *;generalize w.heap.size=p at *;have x0:aw W p 0 (m.f 0):=HB.af rfl
 by_cases hk:1≤m.f 0∧m.f 0≤14
 ·have HK:=ae hk;have HF:=ae<|TZ (m.f 0) hk W;have hw:=Xc (m.f 0) hk;clear hk;obtain⟨N,hN⟩:∃N,N=oO (m.f 0):=⟨_,rfl⟩;rw[←hN]at HF hw;have kD:=ae hN;have wJ:((N:Int)==0)=false:=by simp;omega
  have HW:=ae hw;clear hN hw;go_upto_region 4 with(go_at_call 86;refine HF.mono ?_;rintro e W1 ⟨rfl,aR⟩);have bU:=ae<|aR.aq HB id;have aX:=ae<|HO.trans aR;clear aR x0 HF HB HO wJ;go_wp2_with fail
  go_loopw [4] (fun i wr=>aem m n (.slice A n c) p w i wr) (fun i _=>11 - (intOf i).toNat)
  case atStart=>exact⟨1,dm _,aD,rfl,fun f h1 h2=>by omega,bU,aX⟩
  case round=>
   obtain⟨k,C0,afe,rfl,hg,hb,ho⟩:=hrel;have HG:=ae hg;have HBR:=ae hb;have HOR:=ae ho;clear hg hb ho
   by_cases aY:k≤10
   ·have Dd:(k:Int)≤10:=ao;have HFA:=ae<|PJ k p m A n c wr C0 aY HBR;have HGK:=ae (show iH m n k=(okF m n k&&(N.testBit k||Hc m n k)) by unfold iH;rw[kD.out]);have hbv:=XT N k (by have:=HW.out;omega);have Qd:IntKind.i64.wrap ((k:Int)+1)=((k+1:Nat):Int):=by rw[IntKind.wrap_i64];omega
    have agM:k<64:=ao;generalize okF m n k=ok at *;generalize Hc m n k=z at *;generalize N.testBit k=t at *;go_upto_region 8 with(go_at_call 87;refine HFA.mono ?_;rintro e W2 ⟨rfl,q,rfl⟩);clear HFA
    cases ok with
    |false=>
     exact sG
    |true=>
     cases t with
     |true=>
      rw[if_pos rfl]at hbv;exact qM
     |false=>
      rw[if_neg aD]at hbv
      cases z with
      |true=>
       exact qM
      |false=>
       exact sG
   ·have adY:k=11:=ao;subst adY;have hr:=Iy HK HG;have HR:=ae hr;clear hr aY C0 afe;go_wp2_with fail;go_ret;exact⟨by rw[HR.out];rfl,HOR⟩
 ·have HF:=ae<|Xr (m.f 0) hk W;have HR:=ae<|Eb (n:=n) hk;clear hk;go_wp2_with (go_at_call 86;refine HF.mono ?_;rintro e W1 ⟨rfl,rfl⟩);go_ret;exact⟨by rw[HR.out];rfl,HO⟩
end
end Go.Proofs.YtchofaecncibjaaGreat
