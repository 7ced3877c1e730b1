/- Lemmas. -/
import Derived.Test.YtchofaecncibjaaGreatM5
import Derived.Test.YtchofaecncibjaaGreatM21
import Derived.Handy
set_option linter.all false
set_option maxHeartbeats 20000000
set_option maxRecDepth 100000
namespace Go.Proofs.YtchofaecncibjaaGreat
open Go.ChangeShapes Go.RowKit Go.WideShapes
def one (L:List Int):Nat→List Int:=fun i=>if i=0 then L else[]
theorem AL (L:List Int)(b:Int):dh (one L) b=one (L.erase b):=by
 funext i
 unfold dh one
 split<;>rfl
theorem Ea (L:List Int)(b:Int):bD (one L) 0 b=one (b :: L):=by
 funext i
 unfold bD aI one
 split
 ·rename_i e;subst e;rfl
 ·rfl
theorem WZ {L:List Int}{b:Int}(h:b∉L):∀i,b∉one L i:=fun i hi=>by
 unfold one at hi
 split at hi
 ·exact h hi
 ·cases hi
theorem jV.nodup {w:World}{g eb m:Nat}{S:Nat→List Int}(h:jV w g eb m S)(i:Nat):(S i).Nodup:=by
 obtain⟨N,E,_,hr,_⟩:=h;exact hr.nodup i
theorem jV.kA {w:World}{g eb m:Nat}{S:Nat→List Int}(h:jV w g eb m S){i:Nat}{b:Int}(hb:b∈S i):0≤b∧b<64:=by
 obtain⟨N,E,_,hr,_⟩:=h;exact hr.kA hb
theorem jV.Qc {w:World}{g eb m:Nat}{S:Nat→List Int}(h:jV w g eb m S):g<w.heap.size∧eb<w.heap.size:=by
 obtain⟨N,E,hm,_⟩:=h;exact⟨hm.1.lt,hm.2.lt⟩
theorem jV.off {w:World}{g eb m:Nat}{S:Nat→List Int}(h:jV w g eb m S){p:Nat}{t:TypeId}{cs:Array Value}(hb:Box w p t cs)(h1:t≠193)(h2:t≠195):p≠g∧p≠eb:=by
 obtain⟨N,E,hm,_⟩:=h;exact⟨hb.off hm.1 h1,hb.off hm.2 h2⟩
structure oy (w:World)(p g eb cap:Nat)(L:List Int):Prop where
 aq:Box w p 228 #[aO g,ah cap]
 sp:jV w g eb 1 (one L)
 c1:1≤cap
 Mr:cap≤16
theorem oy.aA {w w':World}{p g eb cap:Nat}{L:List Int}{F:Nat→Prop}(h:oy w p g eb cap L)(ho:ag F w w')(h1:¬F p)(h2:¬F g)(h3:¬F eb):oy w' p g eb cap L:=
 ⟨ho.aq h.aq h1,h.sp.aA ho h2 h3,h.c1,h.Mr⟩
theorem oy.step {w w':World}{p g eb cap:Nat}{L L':List Int}(h:oy w p g eb cap L)(ho:ag (uZ g eb) w w')(hs:jV w' g eb 1 (one L')):oy w' p g eb cap L':=by
 obtain⟨h1,h2⟩:=h.sp.off h.aq aD aD;exact⟨ho.aq h.aq (fun e=>e.elim h1 h2),hs,h.c1,h.Mr⟩
def dw (cap:Nat)(L:List Int)(b:Int):List Int×Int×Bool:=
 if b∈L then(b :: L.erase b,0,false)else if L.length<cap then(b :: L,0,false)else(b :: L.erase (eB L),eB L,true)
section
variable {p g eb cap:Nat}{L:List Int}
theorem ql{P:Prop}(h:P:=by
 clear h hb
 go_enter Tryz.func213,Tryz.ntmps213
 go_wp2_with (go_at_call 146;refine HC.mono ?_;rintro e W1 ⟨rfl,rfl⟩);go_ret;exact⟨rfl,rfl⟩):P:=h
theorem AO (b:Int)(w:World)(h:oy w p g eb cap L):
 Calls Tryz.prog 213 #[aO p,ah b] w fun e w'=>e= .returned (.bool (decide (b∈L)))∧w=w':=by
 have hp:aE w p 0 (aO g):=h.aq.af rfl
 by_cases hb:b∈L
 ·have HC:=ae<|BD (i:=0) w h.sp hb;rw[decide_eq_true hb];exact ql
 ·have HC:=ae<|MH w h.sp (WZ hb);rw[decide_eq_false hb];exact ql
theorem Ng (w:World)(h:oy w p g eb cap L):Calls Tryz.prog 214 #[aO p] w fun e w'=>e= .returned (ah L.length)∧w=w':=by
 have hp:aE w p 0 (aO g):=h.aq.af rfl;have HC:=ae<|pL 0 w h.sp aD;clear h
 go_enter Tryz.func214,Tryz.ntmps214
 go_wp2_with (go_at_call 193;refine HC.mono ?_;rintro e W1 ⟨rfl,rfl⟩);go_ret;exact⟨rfl,rfl⟩
theorem Xo (w:World)(h:oy w p g eb cap L):Calls Tryz.prog 212 #[aO p] w fun e w'=>∃v,e= .returned v∧aF 3 w' w.heap.size v L∧ag az w w':=by
 have hp:aE w p 0 (aO g):=h.aq.af rfl;have HC:=ae<|AU (i:=0) w h.sp aD;clear h
 go_enter Tryz.func212,Tryz.ntmps212
 go_wp2_with (go_at_call 128;refine HC.mono ?_;rintro e W1 ⟨v,rfl,h1,h2⟩);go_ret;exact⟨v,rfl,h1,h2⟩
theorem LM {b:Int}(w:World)(h:oy w p g eb cap L)(hb:b∉L):Calls Tryz.prog 216 #[aO p,ah b] w fun e w'=>e= .returned (.bool false)∧w=w':=by
 have HC:=AO b w h;rw[decide_eq_false hb]at HC;have HC:=ae HC;clear h hb
 go_enter Tryz.func216,Tryz.ntmps216
 go_wp2_with (go_at_call 213;refine HC.mono ?_;rintro e W1 ⟨rfl,rfl⟩);go_ret;exact⟨rfl,rfl⟩
theorem Nf {n:Nat}(w:World)(h:oy w p g eb cap L)(hb:(n:Int)∈L):Calls Tryz.prog 216 #[aO p,ah n] w fun e w'=>e= .returned (.bool true)∧oy w' p g eb cap (n :: L.erase n)∧ag (uZ g eb) w w':=by
 have HC:=AO (n:Int) w h;rw[decide_eq_true hb]at HC;have HC:=ae HC;have hn:n<64:=by have:=(h.sp.kA (i:=0) hb).2;omega
 have HF:=kq (i:=0) w h.sp aD hn;rw[AL,Ea]at HF;have HF:=ae HF;have hp:aE w p 0 (aO g):=h.aq.af rfl;have H:=ae h;clear h hb
 go_enter Tryz.func216,Tryz.ntmps216
 go_wp2_with (first|(go_at_call 213;refine HC.mono ?_;rintro e W1 ⟨rfl,rfl⟩)|(go_at_call 105;refine HF.mono ?_;rintro e W1 ⟨rfl,h1,h2⟩));go_ret;exact⟨rfl,H.step h2 h1,h2⟩
theorem Xl {n:Nat}(w:World)(h:oy w p g eb cap L)(hb:(n:Int)∈L):Calls Tryz.prog 215 #[aO p,ah n] w fun e w'=>e= .returned (.bool true)∧oy w' p g eb cap (L.erase n)∧ag (uZ g eb) w w':=by
 have HC:=AO (n:Int) w h;rw[decide_eq_true hb]at HC;have HC:=ae HC;have HF:=kP (i:=0) w h.sp hb;rw[AL]at HF;have HF:=ae HF;have hp:aE w p 0 (aO g):=h.aq.af rfl;have H:=ae h;clear h hb
 go_enter Tryz.func215,Tryz.ntmps215
 go_wp2_with (first|(go_at_call 213;refine HC.mono ?_;rintro e W1 ⟨rfl,rfl⟩)|(go_at_call 130;refine HF.mono ?_;rintro e W1 ⟨rfl,h1,h2⟩));go_ret;exact⟨rfl,H.step h2 h1,h2⟩
end
section
variable {p g eb cap:Nat}{L:List Int}
def xz (p g eb cap:Nat)(L:List Int)(b:Int)(w:World)(e:Ending)(w':World):Prop:=
 e= .returned (.tuple #[ah (dw cap L b).2.1,.bool (dw cap L b).2.2,ah 0])∧oy w' p g eb cap (dw cap L b).1∧ag (uZ g eb) w w'
theorem LN {n:Nat}(w:World)(h:oy w p g eb cap L)(hb:(n:Int)∈L):Calls Tryz.prog 211 #[aO p,ah n] w (xz p g eb cap L n w):=by
 have HU:=ae<|Nf w h hb;have HA:=aB (dw cap L n=((n:Int) :: L.erase n,0,false)) (if_pos hb);clear h hb
 go_enter Tryz.func211,Tryz.ntmps211
 go_wp2_with (go_at_call 216;refine HU.mono ?_;rintro e W1 ⟨rfl,h1,h2⟩)
 go_ret3
 unfold xz;rw[HA.out];exact⟨rfl,h1,h2⟩
theorem Jq {n:Nat}(w:World)(h:oy w p g eb cap L)(hn:n<64)(hl:L.length≤cap)(hb:(n:Int)∉L):Calls Tryz.prog 211 #[aO p,ah n] w (xz p g eb cap L n w):=by
 have HU:=ae<|LM w h hb;have HF:=kq (i:=0) w h.sp aD hn;rw[AL,Ea,List.erase_of_not_mem hb]at HF;have HF:=ae HF;have hp:aE w p 0 (aO g):=h.aq.af rfl;have H:=ae h;have vB:=h.c1;have acZ:=h.Mr;have HB:=ae hb;clear h hb
 go_enter Tryz.func211,Tryz.ntmps211
 go_upto_region 8 with(first|(go_at_call 216;refine HU.mono ?_;rintro e W1 ⟨rfl,rfl⟩)|(go_at_call 105;refine HF.mono ?_;rintro e W1 ⟨rfl,h1,h2⟩));have zJ:=ae<|H.step h2 h1;have aX:=ae h2;clear h1 h2 HU HF H hp;have F7:oy W1.drew p g eb cap (n :: L):=(zJ.aA ((ag.aj az W1).drew) id id id);have jL:=ae F7;have hp:aE W1 p 0 (aO g):=zJ.aq.af rfl;have EL:aw W1 p 1 cap:=zJ.aq.af rfl;have hle:=Ng W1.drew F7;rw[List.length_cons]at hle;have Gd:=ae hle;have bf:=ae aX.drew;clear hle F7 aX zJ
 by_cases aY:L.length<cap
 ·have HA:=ae (show dw cap L n=((n:Int) :: L,0,false) by unfold dw;rw[if_neg HB.out,if_pos aY]);have hli:((L.length+1:Nat):Int)≤cap:=ao;generalize L.length+1=k at *;clear aY hl;refine oa (fun w':World=>w'=W1.drew) 6 ?_ ?_
  ·rfl
  intro aH;refine bX [0,2,3,4,5] ?_;refine cM 1 fun K hK=>?_
  go_simp;refine Gd.mono ?_;rintro e W9 ⟨rfl,rfl⟩;refine jS hK ?_ fun aH=>?_
  ·rfl
  clear hK;refine cG ?_;clear aH Gd EL;go_wp2
  go_ret3
  unfold xz;rw[HA.out];exact⟨rfl,jL,bf⟩
 ·have hne:L≠[]:=by rintro rfl;simp at aY;omega
  have Kv:one (n :: L) 0≠[]:=by simp[one]
  have mF:=o7 0 W1.drew jL.sp aD;rw[if_neg Kv,show one ((n:Int) :: L) 0=(n:Int) :: L from rfl,ff,if_neg hne]at mF;have HA:=ae (show dw cap L n=((n:Int) :: L.erase (eB L),eB L,true) by unfold dw;rw[if_neg HB.out,if_neg aY]);have hvm:eB L∈L:=Xj (fun e=>by
   have uV:=fun x hx=>(jL.sp.kA (i:=0) (b:=x) hx).1
   have h3:=uV (eB ((n:Int) :: L));rw[ff,if_neg hne,e]at h3;have:L.getLast hne∈L:=List.getLast_mem hne;have h4:=uV (L.getLast hne) (List.mem_cons_of_mem _ this);have h5:eB L=L.getLast hne:=by unfold eB;rw[List.getLastD_eq_getLast?,List.getLast?_eq_some_getLast hne];rfl
   omega)
  have uM:=jL.sp.kA (i:=0) (List.mem_cons_of_mem _ hvm);have hvn:eB L≠n:=fun e=>HB (e▸hvm)
  have her:((n:Int) :: L).erase (eB L)=(n:Int) :: L.erase (eB L):=List.erase_cons_tail (by simpa using fun e=>hvn e.symm);have pY:eB L∈one (n :: L) 0:=List.mem_cons_of_mem _ hvm;generalize eB L=v at *;obtain⟨v,rfl⟩:=Int.eq_ofNat_of_zero_le uM.1;have Qw:=kP (i:=0) W1.drew jL.sp pY;rw[AL,her]at Qw;have Qw:=ae Qw;have mF:=ae mF;have hli:¬((L.length+1:Nat):Int)≤cap:=ao;generalize L.length+1=k at *;clear aY hl hne Kv hvm uM hvn her pY;refine oa (fun w':World=>w'=W1.drew) 6 ?_ ?_
  ·rfl
  intro aH;refine bX [0,2,3,4,5] ?_;refine cM 1 fun K hK=>?_
  go_simp;refine Gd.mono ?_;rintro e W9 ⟨rfl,rfl⟩;refine jS hK ?_ fun aH=>?_
  ·rfl
  clear hK;refine cG ?_;clear aH Gd EL;have JL:aE W1.drew p 0 (aO g):=hp;clear hp;generalize W1.drew=W2 at *;go_wp2_with (first|(go_at_call 129;refine mF.mono ?_;rintro e W3 ⟨rfl,rfl⟩)|(go_at_call 130;refine Qw.mono ?_;rintro e W4 ⟨rfl,h3,h4⟩))
  go_ret3
  unfold xz;rw[HA.out];exact⟨rfl,jL.step h4 h3,bf.trans h4⟩
theorem M6:one []=fun _=>[]:=by
 funext i
 unfold one
 split<;>rfl
theorem Xn {cap:Nat}(w:World)(h1:1≤cap)(ZW:cap≤16):
 Calls Tryz.prog 102 #[ah cap] w fun e w'=>∃p g eb,e= .returned (aO p)∧oy w' p g eb cap []∧w.heap.size≤p∧w.heap.size≤g∧w.heap.size≤eb∧ag az w w':=by
 have HN:=aB (Calls Tryz.prog 68 #[ah 1] w (NA 1 w)) (AM (m:=1) w aD aD);have h2:(cap:Int)≤16:=ao
 by_cases hc:cap≤1
 ·have Yj:(cap:Int)≤1:=ao;have e1:=ae (show(1:Int)=cap by omega)
  go_enter Tryz.func102,Tryz.ntmps102
  go_wp2_with (go_at_call 68;refine HN.mono ?_;rintro e W1 ⟨g,eb,rfl,h3,h4,h5,h6⟩);go_ret;refine⟨W1.heap.size,g,eb,rfl,⟨?_,by rw[M6];exact h3.keep ((ag.aj az W1).alloc _),h1,ZW⟩,h6.size,h4,h5,h6.alloc _⟩;rw[←e1.out];exact Box.fresh _ _ _
 ·have Yj:¬(cap:Int)≤1:=ao;have Bb:(1:Int)≤cap:=ao
  go_enter Tryz.func102,Tryz.ntmps102
  go_wp2_with (go_at_call 68;refine HN.mono ?_;rintro e W1 ⟨g,eb,rfl,h3,h4,h5,h6⟩);go_ret;exact⟨W1.heap.size,g,eb,rfl,⟨Box.fresh _ _ _,by rw[M6];exact h3.keep ((ag.aj az W1).alloc _),h1,ZW⟩,h6.size,h4,h5,h6.alloc _⟩
end
structure mN (t:TypeId)(x:Value)(name:String)(f:Nat):Prop where
 m:∀w,(method 384 t x name).run Tryz.prog w= .ok (f,x) w
 e:∀args w,(callFunc f args).run Tryz.prog w= .ok (.enter f args) w
structure OFn where
 has:Nat
 use:Nat
 add:Nat
 rem:Nat
 all:Nat
 len:Nat
structure eY (σ:Type) where
 all:σ→List Int
 use:σ→Int→σ
 add:σ→Int→σ×Int×Bool
 rem:σ→Int→σ
 eE:σ→Nat
 takes:Int→Prop
def bN:Nat:=1000000000
structure VV {σ:Type}(sp:eY σ)(t:TypeId)(x:Value)(fn:OFn)(F:Nat→Prop)(R:σ→World→Prop):Prop where
 Ry : mN t x "Has" fn.has
 Rw : mN t x "Use" fn.use
 RA : mN t x "Add" fn.add
 Rx : mN t x "Remove" fn.rem
 Rz : mN t x "All" fn.all
 ptr:∃p,x=aO p∧F p
 aA:∀{s w w'} {S:Nat→Prop},R s w→ag S w w'→(∀k,F k→¬S k)→R s w'
 lt:∀{s w},R s w→∀k,F k→k<w.heap.size
 has:∀{s w} (b:Int),R s w→Calls Tryz.prog fn.has #[x,ah b] w fun e w'=>e= .returned (.bool (decide (b∈sp.all s)))∧ag az w w'
 all:∀{s w},R s w→Calls Tryz.prog fn.all #[x] w fun e w'=>∃v,e= .returned v∧aF 3 w' w.heap.size v (sp.all s)∧ag az w w'
 use:∀{s w} {b:Int},R s w→b∈sp.all s→sp.eE s<bN→Calls Tryz.prog fn.use #[x,ah b] w fun e w'=>e= .returned (.bool true)∧R (sp.use s b) w'∧ag F w w'
 add:∀{s w} {b:Int},R s w→0≤b→b<64→sp.takes b→sp.eE s<bN→
  Calls Tryz.prog fn.add #[x,ah b] w fun e w'=>e= .returned (.tuple #[ah (sp.add s b).2.1,.bool (sp.add s b).2.2,ah 0])∧R (sp.add s b).1 w'∧ag F w w'
 rem:∀{s w} {b:Int},R s w→b∈sp.all s→Calls Tryz.prog fn.rem #[x,ah b] w fun e w'=>e= .returned (.bool true)∧R (sp.rem s b) w'∧ag F w w'
 kA:∀{s w} {b:Int},R s w→b∈sp.all s→0≤b∧b<64
 nodup:∀{s w},R s w→(sp.all s).Nodup
 GO:∀{s w} {b:Int},R s w→0≤b→b<64→sp.takes b→
  ((sp.add s b).2.2=false∧(sp.add s b).2.1=0∧∀y,y∈sp.all (sp.add s b).1↔y=b∨y∈sp.all s)∨
  ((sp.add s b).2.2=true∧(sp.add s b).2.1∈sp.all s∧b∉sp.all s∧∀y,y∈sp.all (sp.add s b).1↔y=b∨(y∈sp.all s∧y≠(sp.add s b).2.1))
 Rh:∀{s w} {b:Int},R s w→b∈sp.all s→∀y,y∈sp.all (sp.use s b)↔y∈sp.all s
 Kn:∀{s w} {b:Int},R s w→b∈sp.all s→∀y,y∈sp.all (sp.rem s b)↔y∈sp.all s∧y≠b
 VS:∀s b,sp.eE (sp.use s b)≤sp.eE s+1
 VT:∀s b,sp.eE (sp.add s b).1≤sp.eE s+1
 KA:∀s b,sp.eE (sp.rem s b)≤sp.eE s
def YS (cap:Nat):eY (List Int):=⟨fun L=>L,fun L b=>b :: L.erase b,dw cap,fun L b=>L.erase b,fun _=>0,fun _=>True⟩
def zQ:OFn:=⟨213,216,211,215,212,214⟩
def C6 (p g eb:Nat):Nat→Prop:=fun k=>k=p∨k=g∨k=eb
def aaf (p g eb cap:Nat)(L:List Int)(w:World):Prop:=oy w p g eb cap L∧L.length≤cap
theorem xM {L:List Int}(h:L≠[]):eB L∈L:=by
 cases L with
 |nil=>exact absurd rfl h
 |cons a L=>
  clear h
  induction L generalizing a with
  |nil=>exact List.mem_cons_self ..
  |cons c L ih=>
   rw[ff,if_neg (by simp)];exact List.mem_cons_of_mem _ (ih c)
theorem LO {cap:Nat}{L:List Int}{b:Int}(hn:L.Nodup)(h1:1≤cap):
 ((dw cap L b).2.2=false∧(dw cap L b).2.1=0∧∀y,y∈(dw cap L b).1↔y=b∨y∈L)∨
 ((dw cap L b).2.2=true∧(dw cap L b).2.1∈L∧b∉L∧∀y,y∈(dw cap L b).1↔y=b∨(y∈L∧y≠(dw cap L b).2.1)):=by
 unfold dw
 by_cases hb:b∈L
 ·rw[if_pos hb];refine .inl ⟨rfl,rfl,fun y=>?_⟩;rw[List.mem_cons,hn.mem_erase_iff];exact⟨fun h=>h.imp id fun h=>h.2,fun h=>by
   by_cases e:y=b
   ·exact .inl e
   ·exact .inr ⟨e,h.resolve_left e⟩⟩
 ·rw[if_neg hb]
  split
  ·exact .inl ⟨rfl,rfl,fun y=>List.mem_cons⟩
  ·rename_i h2
   have hne:L≠[]:=by rintro rfl;simp at h2;omega
   refine .inr ⟨rfl,xM hne,hb,fun y=>?_⟩;rw[List.mem_cons,hn.mem_erase_iff];exact⟨fun h=>h.imp id fun h=>⟨h.2,h.1⟩,fun h=>h.imp id fun h=>⟨h.2,h.1⟩⟩
theorem LP {cap:Nat}{L:List Int}{b:Int}(h1:1≤cap)(h:L.length≤cap):(dw cap L b).1.length≤cap:=by
 unfold dw
 split
 ·rename_i hb
  have:=List.length_pos_of_mem hb
  show(b :: L.erase b).length≤cap
  rw[List.length_cons,List.length_erase_of_mem hb];omega
 ·split
  ·rename_i h2
   show(b :: L).length≤cap
   rw[List.length_cons];omega
  ·rename_i h2
   show(b :: L.erase (eB L)).length≤cap
   rw[List.length_cons,List.length_erase]
   split
   ·omega
   ·rename_i h3
    exfalso
    apply h3;have h4:L≠[]:=by rintro rfl;simp at h2;omega
    cases L with
    |nil=>exact absurd rfl h4
    |cons a L=>
     have:∀(L:List Int) (a:Int),eB (a :: L)∈a :: L:=fun L=>by
      induction L with
      |nil=>intro a;exact List.mem_cons_self ..
      |cons c L ih=>
       intro a;rw[ff,if_neg (by simp)];exact List.mem_cons_of_mem _ (ih c)
     simpa using this L a
theorem uZ.UU {p g eb k:Nat}(h:uZ g eb k):C6 p g eb k:=.inr h
theorem o6 (p : Nat) : mN 186 (aO p) "Has" zQ.has ∧ mN 186 (aO p) "Use" zQ.use ∧ mN 186 (aO p) "Add" zQ.add ∧
 mN 186 (aO p) "Remove" zQ.rem ∧ mN 186 (aO p) "All" zQ.all ∧ mN 186 (aO p) "Len" zQ.len :=
 ⟨⟨fun w=>by kernel_rfl,fun a w=>by kernel_rfl⟩,⟨fun w=>by kernel_rfl,fun a w=>by kernel_rfl⟩,⟨fun w=>by kernel_rfl,fun a w=>by kernel_rfl⟩,
  ⟨fun w=>by kernel_rfl,fun a w=>by kernel_rfl⟩,⟨fun w=>by kernel_rfl,fun a w=>by kernel_rfl⟩,⟨fun w=>by kernel_rfl,fun a w=>by kernel_rfl⟩⟩
theorem Xm (p g eb cap:Nat):VV (YS cap) 186 (aO p) zQ (C6 p g eb) (aaf p g eb cap) where
 Ry:=(o6 p).1
 Rw:=(o6 p).2.1
 RA:=(o6 p).2.2.1
 Rx:=(o6 p).2.2.2.1
 Rz:=(o6 p).2.2.2.2.1
 ptr:=⟨p,rfl,.inl rfl⟩
 aA:=fun h ho hF=>⟨h.1.aA ho (hF p (.inl rfl)) (hF g (.inr (.inl rfl))) (hF eb (.inr (.inr rfl))),h.2⟩
 lt:=fun h k hk=>by
  rcases hk with rfl|rfl|rfl
  ·exact h.1.aq.lt
  ·exact h.1.sp.Qc.1
  ·exact h.1.sp.Qc.2
 has:=fun b h=>(AO b _ h.1).mono fun e w' ⟨h1,h2⟩=>⟨h1,h2▸ag.aj _ _⟩
 all:=fun h=>Xo _ h.1
 use:=fun {s w b} h hb _=>by
  obtain⟨n,rfl⟩:=Int.eq_ofNat_of_zero_le (h.1.sp.kA (i:=0) hb).1;refine(Nf w h.1 hb).mono fun e w' ⟨h1,h2,h3⟩=>⟨h1,⟨h2,?_⟩,h3.mono fun k hk=>.inl hk.UU⟩
  have hb:(n:Int)∈s:=hb;have:=List.length_pos_of_mem hb;have:=h.2
  show((n:Int) :: s.erase n).length≤cap
  rw[List.length_cons,List.length_erase_of_mem hb];omega
 add:=fun {s w b} h h0 h1 _ _=>by
  obtain⟨n,rfl⟩:=Int.eq_ofNat_of_zero_le h0;have hl:=LP (b:=(n:Int)) h.1.c1 h.2
  by_cases hb:(n:Int)∈s
  ·exact(LN w h.1 hb).mono fun e w' ⟨h2,h3,h4⟩=>⟨h2,⟨h3,hl⟩,h4.mono fun k hk=>.inl hk.UU⟩
  ·exact(Jq w h.1 ao h.2 hb).mono fun e w' ⟨h2,h3,h4⟩=>⟨h2,⟨h3,hl⟩,h4.mono fun k hk=>.inl hk.UU⟩
 rem:=fun {s w b} h hb=>by
  obtain⟨n,rfl⟩:=Int.eq_ofNat_of_zero_le (h.1.sp.kA (i:=0) hb).1;refine(Xl w h.1 hb).mono fun e w' ⟨h1,h2,h3⟩=>⟨h1,⟨h2,?_⟩,h3.mono fun k hk=>.inl hk.UU⟩
  have hb:(n:Int)∈s:=hb;have:=h.2
  show(s.erase n).length≤cap
  rw[List.length_erase_of_mem hb];omega
 kA:=fun h hb=>h.1.sp.kA (i:=0) hb
 nodup:=fun h=>h.1.sp.nodup 0
 GO:=fun h _ _ _=>LO (h.1.sp.nodup 0) h.1.c1
 Rh:=fun {s w b} h hb y=>by
  have hb:b∈s:=hb
  show y∈b :: s.erase b↔y∈s
  rw[List.mem_cons,(show s.Nodup from h.1.sp.nodup 0).mem_erase_iff];exact⟨fun h=>h.elim (fun e=>e▸hb) fun h=>h.2,fun h=>by
   by_cases e:y=b
   ·exact .inl e
   ·exact .inr ⟨e,h⟩⟩
 Kn:=fun {s w b} h hb y=>by
  show y∈s.erase b↔y∈s∧y≠b
  rw[(show s.Nodup from h.1.sp.nodup 0).mem_erase_iff];exact⟨fun h=>⟨h.2,h.1⟩,fun h=>⟨h.2,h.1⟩⟩
 VS:=fun _ _=>Nat.le_succ _
 VT:=fun _ _=>Nat.le_succ _
 KA:=fun _ _=>Nat.le_refl _
structure aZ where
 σ:Type
 ι:Type
 sp:eY σ
 t:TypeId
 fn:OFn
 x:ι→Value
 F:ι→Nat→Prop
 R:ι→σ→World→Prop
 s0:σ
 oc:∀i,VV sp t (x i) fn (F i) (R i)
 nil:sp.all s0= []
def Rj (cap:Nat):aZ:=⟨List Int,Nat×Nat×Nat,YS cap,186,zQ,fun i=>aO i.1,fun i=>C6 i.1 i.2.1 i.2.2,fun i=>aaf i.1 i.2.1 i.2.2 cap,[],fun i=>Xm i.1 i.2.1 i.2.2 cap,rfl⟩
def ft (g:Nat)(cap lev dG:Nat→Int):Array Value:=Array.ofFn (n:=74) fun i=>if i.1=0 then aO g else if i.1<5 then ah (cap (i.1 - 1))else if i.1<69 then ah (lev (i.1 - 5))else ah (dG (i.1 - 69))
theorem Fe (g:Nat)(cap lev dG:Nat→Int):(ft g cap lev dG)[0]? =some (aO g):=by simp[ft]
theorem tP (g:Nat)(cap lev dG:Nat→Int){i:Nat}(hi:i<4):(ft g cap lev dG)[1+i]? =some (ah (cap i)):=by
 have h1:1+i<74:=ao;have h2:1+i≠0:=ao;have h3:1+i<5:=ao;have h4:1+i - 1=i:=ao;simp only[ft,Array.getElem?_ofFn,h1,dite_true,h2,if_false,h3,if_true,h4]
theorem tZ (g:Nat)(cap lev dG:Nat→Int){i:Nat}(hi:i<4)(v:Int)(ac6:Nat→Int)(hc:∀j,j<4→ac6 j=if j=i then v else cap j):(ft g cap lev dG).setIfInBounds (1+i) (ah v)=ft g ac6 lev dG:=by
 refine Array.ext (by simp[ft]) fun j h1 h2=>?_
 have hj:j<74:=by simpa [ft] using h2
 rw[Array.getElem_setIfInBounds (by simpa [ft] using hj)];simp only[ft,Array.getElem_ofFn]
 by_cases e:1+i=j
 ·subst e;rw[if_pos rfl,if_neg ao,if_pos ao,hc (1+i - 1) ao,if_pos ao]
 ·rw[if_neg e]
  by_cases e0:j=0
  ·rw[if_pos e0,if_pos e0]
  ·rw[if_neg e0,if_neg e0]
   by_cases e5:j<5
   ·rw[if_pos e5,if_pos e5,hc (j - 1) ao,if_neg ao]
   ·rw[if_neg e5,if_neg e5]
def lP (k0 k1 k2:Int)(t:Nat):Nat→Int:=fun i=>if i=1∧1≤t then k0 else if i=2∧2≤t then k1 else if i=3∧3≤t then k2 else 0
def ad9 (k0 k1 k2:Int)(w:World)(e:Ending)(w':World):Prop:=
 ∃u g eb,e= .returned (.tuple #[aO u,ah 0])∧Box w' u 135 (ft g (lP k0 k1 k2 3) (fun _=>0) (fun _=>0))∧jV w' g eb 1 (fun _=>[])∧w.heap.size≤u∧w.heap.size≤g∧w.heap.size≤eb∧g<u∧eb<u∧ag az w w'
def aft (k0 k1 k2:Int)(u g:Nat)(W:World)(i:Value)(wr:World):Prop:=
 ∃t:Nat,t≤3∧i=ah t∧Box wr u 135 (ft g (lP k0 k1 k2 t) (fun _=>0) (fun _=>0))∧ag (ar u) W wr
section
theorem Wk (k0 k1 k2:Int)(h0:1≤k0∧k0≤16)(h1:1≤k1∧k1≤16)(h2:1≤k2∧k2≤16)(w:World):
 Calls Tryz.prog 33 #[.agg #[ah k0,ah k1,ah k2]] w (ad9 k0 k1 k2 w):=by
 go_enter Tryz.func33,Tryz.ntmps33
 go_upto_region 1 with fail;have aX:=ae<|(ag.aj az w).alloc (.cells #[ah k0,ah k1,ah k2] 22);have bU:=ae<|Box.fresh w 22 #[ah k0,ah k1,ah k2];generalize w.alloc (.cells #[ah k0,ah k1,ah k2] 22)=W1 at *;obtain⟨cb,fL⟩:∃cb,cb=w.heap.size:=⟨_,rfl⟩;rw[←fL]at bU ⊢;have Db:=ae fL;clear fL;have HN:=ae<|AM (m:=1) W1 aD aD;go_upto_region 2 with(go_at_call 68;refine HN.mono ?_;rintro e W2 ⟨g,eb,rfl,kC,hg2,Qk,bp⟩);have ez:Tryz.zeroCells135.setIfInBounds 0 (aO g)=ft g (fun _=>0) (fun _=>0) (fun _=>0):=by kernel_rfl
 rw[ez];clear ez;have Vc:=Box.fresh W2 135 (ft g (fun _=>0) (fun _=>0) (fun _=>0));have cB:ag az W2 (W2.alloc (.cells (ft g (fun _=>0) (fun _=>0) (fun _=>0)) 135)):=(ag.aj _ _).alloc _;have dM:=ae Vc;have AF:=ae<|kC.aA cB (fun h=>h.elim) (fun h=>h.elim);have bn:=ae<|(aX.trans bp).trans cB;have ME:=ae<|cB.aq (bp.aq bU id) id;have HL:=aB (W1.heap.size≤g∧W1.heap.size≤eb∧g<W2.heap.size∧eb<W2.heap.size) (⟨hg2,Qk,kC.Qc⟩);have zJ:=aB (cb<W1.heap.size) (bU.lt);have Bi:=aB (w.heap.size≤W1.heap.size∧W1.heap.size≤W2.heap.size) (⟨aX.size,bp.size⟩);change Code.wp _ _ _ _ (W2.alloc (.cells (ft g (fun _=>0) (fun _=>0) (fun _=>0)) 135));clear Vc cB kC hg2 Qk bp HN bU aX;generalize W2.alloc (.cells (ft g (fun _=>0) (fun _=>0) (fun _=>0)) 135)=W3 at *;generalize W2.heap.size=u at *;have x0:aw W3 cb 0 k0:=ME.af rfl;have x1:aw W3 cb 1 k1:=ME.af rfl;have x2:aw W3 cb 2 k2:=ME.af rfl;go_wp2_with fail;clear x0 x1 x2
 go_loopw [12] (fun i wr=>aft k0 k1 k2 u g W3 i wr) (fun i _=>3 - (intOf i).toNat)
 case atStart=>
  refine⟨0,ao,rfl,?_,ag.aj _ _⟩;have e:lP k0 k1 k2 0=fun _=>0:=by funext i;simp[lP]
  rw[e];exact dM
 case round=>
  obtain⟨t,ht,rfl,hb,ho⟩:=hrel;have HB:=ae hb;have HO:=ae ho;clear hb ho;rcases(show t=0∨t=1∨t=2∨t=3 by omega)with rfl|rfl|rfl|rfl
  ·have wJ:¬k0<1:=ao;have sS:¬16<k0:=ao;have aaw:=fun w=>jb (P:=Tryz.prog) w 22 3 3 #[ah k0,ah k1,ah k2] .i64 0 (ah k0) Tryz.underlying22 bZ bZ aD aD rfl
   have hc:aw wr u 2 (lP k0 k1 k2 0 1):=HB.af (tP g (lP k0 k1 k2 0) (fun _=>0) (fun _=>0) (i:=1) aD);have hf:wr.frozen? ⟨u,2,none⟩=false:=HB.free _;go_wp2_with fail;have dX:Box (wr.setCell ⟨u,2,none⟩ (ah k0)) u 135 (ft g (lP k0 k1 k2 1) (fun _=>0) (fun _=>0)):=by
    have h:=HB.store (1+1) (ah k0);rw[tZ g (lP k0 k1 k2 0) (fun _=>0) (fun _=>0) (i:=1) aD k0 (lP k0 k1 k2 1) (fun j hj=>by
     rcases(show j=0∨j=1∨j=2∨j=3 by omega)with rfl|rfl|rfl|rfl<;>simp[lP])]at h
    exact h
   refine⟨⟨1,aD,rfl,dX,HO.setCell (p:=⟨u,2,none⟩) (.inl rfl) _⟩,?_⟩;decide
  ·have wJ:¬k1<1:=ao;have sS:¬16<k1:=ao;have aaw:=fun w=>jb (P:=Tryz.prog) w 22 3 3 #[ah k0,ah k1,ah k2] .i64 1 (ah k1) Tryz.underlying22 bZ bZ aD aD rfl
   have hc:aw wr u 3 (lP k0 k1 k2 1 2):=HB.af (tP g (lP k0 k1 k2 1) (fun _=>0) (fun _=>0) (i:=2) aD);have hf:wr.frozen? ⟨u,3,none⟩=false:=HB.free _;go_wp2_with fail;have dX:Box (wr.setCell ⟨u,3,none⟩ (ah k1)) u 135 (ft g (lP k0 k1 k2 2) (fun _=>0) (fun _=>0)):=by
    have h:=HB.store (1+2) (ah k1);rw[tZ g (lP k0 k1 k2 1) (fun _=>0) (fun _=>0) (i:=2) aD k1 (lP k0 k1 k2 2) (fun j hj=>by
     rcases(show j=0∨j=1∨j=2∨j=3 by omega)with rfl|rfl|rfl|rfl<;>simp[lP])]at h
    exact h
   refine⟨⟨2,aD,rfl,dX,HO.setCell (p:=⟨u,3,none⟩) (.inl rfl) _⟩,?_⟩;decide
  ·have wJ:¬k2<1:=ao;have sS:¬16<k2:=ao;have aaw:=fun w=>jb (P:=Tryz.prog) w 22 3 3 #[ah k0,ah k1,ah k2] .i64 2 (ah k2) Tryz.underlying22 bZ bZ aD aD rfl
   have hc:aw wr u 4 (lP k0 k1 k2 2 3):=HB.af (tP g (lP k0 k1 k2 2) (fun _=>0) (fun _=>0) (i:=3) aD);have hf:wr.frozen? ⟨u,4,none⟩=false:=HB.free _;go_wp2_with fail;have dX:Box (wr.setCell ⟨u,4,none⟩ (ah k2)) u 135 (ft g (lP k0 k1 k2 3) (fun _=>0) (fun _=>0)):=by
    have h:=HB.store (1+3) (ah k2);rw[tZ g (lP k0 k1 k2 2) (fun _=>0) (fun _=>0) (i:=3) aD k2 (lP k0 k1 k2 3) (fun j hj=>by
     rcases(show j=0∨j=1∨j=2∨j=3 by omega)with rfl|rfl|rfl|rfl<;>simp[lP])]at h
    exact h
   refine⟨⟨3,aD,rfl,dX,HO.setCell (p:=⟨u,4,none⟩) (.inl rfl) _⟩,?_⟩;decide
  ·go_wp2_with fail;go_ret2;have hw:=bn.out;refine⟨u,g,eb,rfl,HB,AF.aA HO (fun h=>?_) (fun h=>?_),?_,?_,?_,HL.2.2.1,HL.2.2.2,bn.aC HO fun k hk=>?_⟩
   ·have h1:g=u:=h;have:=HL.2.2.1;omega
   ·have h1:eb=u:=h;have:=HL.2.2.2;omega
   ·have:=Bi.out;omega
   ·have:=Bi.out;have:=HL.out;omega
   ·have:=Bi.out;have:=HL.out;omega
   ·have h1:k=u:=hk;have:=Bi.out;exact .inr ao
end
theorem oT (g:Nat)(cap lev dG:Nat→Int){i:Nat}(hi:i<64):(ft g cap lev dG)[5+i]? =some (ah (lev i)):=by
 have h1:5+i<74:=ao;simp only[ft,Array.getElem?_ofFn,h1,dite_true];rw[if_neg ao,if_neg ao,if_pos ao,show 5+i - 5=i by omega]
theorem oU (g:Nat)(cap lev dG:Nat→Int){i:Nat}(hi:i<5):(ft g cap lev dG)[69+i]? =some (ah (dG i)):=by
 have h1:69+i<74:=ao;simp only[ft,Array.getElem?_ofFn,h1,dite_true];rw[if_neg ao,if_neg ao,if_neg ao,show 69+i - 69=i by omega]
theorem I0 (g:Nat)(cap lev dG:Nat→Int){i:Nat}(hi:i<64)(v:Int):(ft g cap lev dG).setIfInBounds (5+i) (ah v)=ft g cap (aI lev i v) dG:=by
 refine Array.ext (by simp[ft]) fun j h1 h2=>?_
 have hj:j<74:=by simpa [ft] using h2
 rw[Array.getElem_setIfInBounds (by simpa [ft] using hj)];simp only[ft,Array.getElem_ofFn,aI]
 by_cases e:5+i=j
 ·subst e;rw[if_pos rfl,if_neg ao,if_neg ao,if_pos ao,if_pos ao]
 ·rw[if_neg e]
  by_cases e5:5≤j∧j<69
  ·rw[if_neg ao,if_neg ao,if_pos ao,if_neg ao,if_neg ao,if_pos ao,if_neg ao]
  ·by_cases e0:j=0
   ·rw[if_pos e0,if_pos e0]
   ·rw[if_neg e0,if_neg e0]
    by_cases e6:j<5
    ·rw[if_pos e6,if_pos e6]
    ·rw[if_neg e6,if_neg e6,if_neg ao,if_neg ao]
theorem zX (g:Nat)(cap lev dG:Nat→Int){i:Nat}(hi:i<5)(v:Int):(ft g cap lev dG).setIfInBounds (69+i) (ah v)=ft g cap lev (aI dG i v):=by
 refine Array.ext (by simp[ft]) fun j h1 h2=>?_
 have hj:j<74:=by simpa [ft] using h2
 rw[Array.getElem_setIfInBounds (by simpa [ft] using hj)];simp only[ft,Array.getElem_ofFn,aI]
 by_cases e:69+i=j
 ·subst e;rw[if_pos rfl,if_neg ao,if_neg ao,if_neg ao,if_pos ao]
 ·rw[if_neg e]
  by_cases e0:j=0
  ·rw[if_pos e0,if_pos e0]
  ·rw[if_neg e0,if_neg e0]
   by_cases e6:j<5
   ·rw[if_pos e6,if_pos e6]
   ·rw[if_neg e6,if_neg e6]
    by_cases e7:j<69
    ·rw[if_pos e7,if_pos e7]
    ·rw[if_neg e7,if_neg e7,if_neg ao]
section
variable {w:World}{p g:Nat}{cap lev dG:Nat→Int}
theorem Ft {n o l:Nat}(hb:Box w p 135 (ft g cap lev dG))(hn:n<64)(ho:lev n=(o:Int))(cA:o<5)(hl:l<5)(hc:∀i,i<5→-1000≤dG i∧dG i≤1000):
 Calls Tryz.prog 106 #[aO p,ah n,ah l] w fun e w'=>e= .returned (.tuple #[])∧Box w' p 135 (ft g cap (aI lev n l) (aI (aI dG o (dG o - 1)) l (aI dG o (dG o - 1) l+1)))∧ag (ar p) w w':=by
 have HB:=ae hb;have HL:=ae ho;have HN:=aB (n<64∧o<5∧l<5) (⟨hn,cA,hl⟩);have HC:=ae hc;have wJ:(0:Int)≤(n:Int):=Int.natCast_nonneg n;have sS:(n:Int)<64:=ao;have wI:(0:Int)≤(o:Int):=Int.natCast_nonneg o;have hq1:(o:Int)<5:=ao;have hl0:(0:Int)≤(l:Int):=Int.natCast_nonneg l;have ZJ:(l:Int)<5:=ao;clear hb ho hn cA hl hc
 go_enter Tryz.func106,Tryz.ntmps106
 go_upto_region 0 with fail;have vB:=HC.out o HN.2.1;have k1:aw w.drew p (5+n) o:=by rw[←HL.out];exact HB.af (oT _ _ _ _ HN.1)
 have k2:aw w.drew p (69+o) (dG o):=HB.af (oU _ _ _ _ HN.2.1);obtain⟨x,hx⟩:∃x,x=dG o:=⟨_,rfl⟩;have HX:=ae hx;rw[←hx]at k2 vB;clear hx;refine dU (fun w':World=>aw w' p (5+n) o∧aw w' p (69+o) x) 14 fun aH=>?_
 refine bX [0,1,2,3,4,5,6,7,8,9,10,11,12,13] ?_;refine cG ?_;have f2:w.drew.frozen? ⟨p,69+o,none⟩=false:=HB.free _;go_upto_region 1 with fail;change Code.wp _ _ _ _ (w.drew.setCell ⟨p,69+o,none⟩ (ah (x - 1)));have bU:=aB (Box (w.drew.setCell ⟨p,69+o,none⟩ (ah (x - 1))) p 135 (ft g cap lev (aI dG o (x - 1)))) (zX g cap lev dG HN.2.1 (x - 1)▸(show Box w.drew p 135 (ft g cap lev dG)from HB).store (69+o) (ah (x - 1)));have aX:=ae<|((ag.aj (ar p) w).drew).setCell (p:=⟨p,69+o,none⟩) (.inl (show ar p p from rfl)) (ah (x - 1));clear k1 k2 f2 aH HB;generalize w.drew.setCell ⟨p,69+o,none⟩ (ah (x - 1))=W1 at *;have k1:aw W1 p (5+n) o:=by rw[←HL.out];exact bU.af (oT _ _ _ _ HN.1)
 have f1:W1.frozen? ⟨p,5+n,none⟩=false:=bU.free _;go_upto_region 2 with fail;have cO:=aB (Box (W1.setCell ⟨p,5+n,none⟩ (ah l)) p 135 (ft g cap (aI lev n l) (aI dG o (x - 1)))) (I0 g cap lev (aI dG o (x - 1)) HN.1 (l:Int)▸bU.store (5+n) (ah l));have bf:=ae<|aX.setCell (p:=⟨p,5+n,none⟩) (.inl (show ar p p from rfl)) (ah l);change Code.wp _ _ _ _ (W1.setCell ⟨p,5+n,none⟩ (ah l));clear k1 f1 bU aX;generalize W1.setCell ⟨p,5+n,none⟩ (ah l)=W2 at *;obtain⟨y,hy⟩:∃y,y=aI dG o (x - 1) l:=⟨_,rfl⟩;have Dx: -1001≤y∧y≤1000:=by
  rw[hy];unfold aI
  split
  ·omega
  ·have:=HC.out l HN.2.2;omega
 have k1:aw W2.drew p (69+l) y:=by rw[hy];exact cO.af (oU _ _ _ _ HN.2.2)
 have HY:=ae hy;clear hy;refine oa (fun w':World=>aw w' p (69+l) y) 9 ?_ ?_
 ·exact k1
 intro aH;refine bX [0,1,2,3,4,5,6,7,8] ?_;refine cG ?_;have f1:W2.drew.frozen? ⟨p,69+l,none⟩=false:=cO.free _;go_wp2;refine bodyPost_end (results_none rfl _ _ _) rfl ?_;refine⟨rfl,?_,bf.drew.setCell (p:=⟨p,69+l,none⟩) (.inl (show ar p p from rfl)) _⟩;have:=(show Box W2.drew p 135 _ from cO).store (69+l) (ah (y+1));rw[zX _ _ _ _ HN.2.2,HY.out,HX.out]at this;rw[HY.out,HX.out];exact this
end
structure Aq (w:World)(p g eb:Nat)(cp lev dG:Nat→Int)(L:List Int):Prop where
 aq:Box w p 135 (ft g cp lev dG)
 sp:jV w g eb 1 (fun i=>if i=0 then L else[])
 pg:p≠g
 pe:p≠eb
structure Ao (lev dG:Nat→Int)(S:US):Prop where
 lev:∀i,i<64→lev i=S.v i
 c0:dG 0= -(S.L.length:Int)
 dG:∀l:Nat,1≤l→l≤4→dG l=gg S l
def kF (w:World)(p g eb:Nat)(cp:Nat→Int)(S:US):Prop:=∃lev dG,Aq w p g eb cp lev dG S.L∧Ao lev dG S∧jQ S
section
variable {w w':World}{p g eb:Nat}{cp lev dG:Nat→Int}{L:List Int}{S:US}{F:Nat→Prop}
theorem Aq.aA (h:Aq w p g eb cp lev dG L)(ho:ag F w w')(h1:¬F p)(h2:¬F g)(h3:¬F eb):Aq w' p g eb cp lev dG L:=⟨ho.aq h.aq h1,h.sp.aA ho h2 h3,h.pg,h.pe⟩
theorem Aq.keep (h:Aq w p g eb cp lev dG L)(ho:ag az w w'):Aq w' p g eb cp lev dG L:=h.aA ho id id id
theorem kF.aA (h:kF w p g eb cp S)(ho:ag F w w')(h1:¬F p)(h2:¬F g)(h3:¬F eb):kF w' p g eb cp S:=by
 obtain⟨lev,dG,h4,h5,h6⟩:=h;exact⟨lev,dG,h4.aA ho h1 h2 h3,h5,h6⟩
theorem kF.keep (h:kF w p g eb cp S)(ho:ag az w w'):kF w' p g eb cp S:=h.aA ho id id id
def s8 (p g eb:Nat):Nat→Prop:=fun k=>k=p∨k=g∨k=eb
theorem Aq.lt (h:Aq w p g eb cp lev dG L):∀k,s8 p g eb k→k<w.heap.size:=fun k hk=>by
 rcases hk with rfl|rfl|rfl
 ·exact h.aq.lt
 ·exact h.sp.Qc.1
 ·exact h.sp.Qc.2
theorem Tf (S:US)(l:Int):gg S l≤S.L.length:=List.length_filter_le ..
theorem sr{P:Prop}(h:P:=by
 exact List.mem_map.2 ⟨x.toNat,List.mem_range.2 ao,by show((x.toNat:Nat):Int)=x;omega⟩):P:=h
theorem jQ.len (h:jQ S):S.L.length≤64:=by
 have h1:∀{L L':List Int},L.Nodup→(∀x∈L,x∈L')→L.length≤L'.length:=by
  intro L
  induction L with
  |nil=>intro L' _ _;exact dT _
  |cons a L ih=>
   intro L' hn h;rw[List.nodup_cons]at hn;have ha:=h a (List.mem_cons_self ..);have h2:=ih (L':=L'.erase a) hn.2 fun x hx=>(List.mem_erase_of_ne (show x≠a from fun e=>hn.1 (by rw[←e];exact hx))).2 (h x (List.mem_cons_of_mem _ hx))
   rw[List.length_erase_of_mem ha]at h2;have:=List.length_pos_of_mem ha;rw[List.length_cons];omega
 have h2:=h1 (L':=(List.range 64).map Int.ofNat) h.nodup fun x hx=>by
  have:=h.kA x hx;exact sr
 simpa using h2
theorem Ao.bnd (h:Ao lev dG S)(hI:jQ S):∀i,i<5→-1000≤dG i∧dG i≤1000:=fun i hi=>by
 have AD:=hI.len
 by_cases e:i=0
 ·subst e;rw[h.c0];omega
 ·rw[h.dG i ao ao];have:=Tf S i;omega
end
def ad4 (S:US)(l:Int)(W:World)(i:Value)(wr:World):Prop:=∃k:Nat,k<S.L.length∧i=ah k∧(∀j,k<j→j<S.L.length→S.v (S.L.getD j 0)≠l)∧∃m,W.drewN m=wr
section
variable {w:World}{p g eb:Nat}{cp:Nat→Int}{S:US}
theorem Oo {n:Nat}(h:kF w p g eb cp S)(hn:n<64):Calls Tryz.prog 88 #[aO p,ah n] w fun e w'=>e= .returned (ah (S.v n))∧w=w':=by
 obtain⟨lev,dG,hr,ht,hi⟩:=h;have k1:aw w p (5+n) (S.v n):=by rw[←ht.lev n hn];exact hr.aq.af (oT _ _ _ _ hn)
 have wJ:(0:Int)≤(n:Int):=Int.natCast_nonneg n;have sS:(n:Int)<64:=ao;clear hr ht hi hn
 go_enter Tryz.func88,Tryz.ntmps88
 go_wp2;go_ret;exact⟨rfl,rfl⟩
theorem Wg {l:Nat}(h:kF w p g eb cp S)(h1:1≤l)(h3:l≤3)(hc:gg S l=0):
 Calls Tryz.prog 107 #[aO p,ah l] w fun e w'=>e= .returned (.tuple #[ah 0,.bool false])∧ag az w w':=by
 obtain⟨lev,dG,hr,ht,hi⟩:=h;have k1:aw w p (69+l) 0:=by
  have:=hr.aq.af (oU g cp lev dG (i:=l) ao);rw[ht.dG l h1 ao,hc]at this;exact this
 have hl0:(1:Int)≤(l:Int):=ao;have ZJ:(l:Int)<4:=ao;clear hr ht hi hc h1 h3
 go_enter Tryz.func107,Tryz.ntmps107
 go_wp2;go_ret2;exact⟨rfl,ag.aj _ _⟩
theorem Ih {l:Nat}(h:kF w p g eb cp S)(h1:1≤l)(h3:l≤3)(hc:0<gg S l):
 Calls Tryz.prog 107 #[aO p,ah l] w fun e w'=>e= .returned (.tuple #[ah (eB (iU S l)),.bool true])∧ag az w w':=by
 obtain⟨lev,dG,hr,ht,hi⟩:=h;have k1:aw w p (69+l) (gg S l):=by
  have:=hr.aq.af (oU g cp lev dG (i:=l) ao);rw[ht.dG l h1 ao]at this;exact this
 have k2:aE w p 0 (aO g):=hr.aq.af (Fe _ _ _ _);have hne:((gg S l:Int)==0)=false:=by simp;omega
 have hl0:(1:Int)≤(l:Int):=ao;have ZJ:(l:Int)<4:=ao;have Aw:=AU (i:=0) w hr.sp aD;rw[if_pos rfl]at Aw;have Aw:=ae Aw;have HR:=ae hr;have HT:=ae ht;have HI:=ae hi;obtain⟨AA,pY⟩:=oV hc;have RT:=aB (0<S.L.length) (List.length_pos_of_mem AA);have HEX:=aB (∃j,j<S.L.length∧S.v (S.L.getD j 0)=l) (by
  obtain⟨j,hj,e⟩:=List.mem_iff_getElem.1 AA;exact⟨j,hj,by rw[List.getD_eq_getElem?_getD,List.getElem?_eq_getElem hj,Option.getD_some,e];exact pY⟩)
 have G0:=ae hi.len;clear hr ht hi AA pY h1 h3 hc
 go_enter Tryz.func107,Tryz.ntmps107
 go_upto_region 4 with(go_at_call 128;refine Aw.mono ?_;rintro e W1 ⟨v,rfl,hv,ho⟩);have aX:=ae ho;have b5:=ae<|HR.keep ho;obtain⟨A,m,rfl,_,_⟩:=hv.shape;have HV:=ae hv;clear hv ho k1 k2 hne;have hlen:(1:Int)≤(S.L.length:Int):=by have:=RT.out;omega
 have agq:(S.L.length:Int)≤64:=by have:=G0.out;omega
 go_wp2
 go_loopw [7] (fun iv wr=>ad4 S l W1 iv wr) (fun iv _=>(intOf iv).toNat)
 case atStart=>exact⟨S.L.length - 1,by have:=RT.out;omega,by congr 1;have:=RT.out;omega,fun j h1 h2=>absurd h2 ao,0,rfl⟩
 case round=>
  obtain⟨k,hk,rfl,iQ,mm,rfl⟩:=hrel;have yr:=ae iQ;have HK:=ae hk;obtain⟨g2,o2,hA,kX⟩:=HV.at.af hk;subst hA;obtain⟨n,hn⟩:=Int.eq_ofNat_of_zero_le (HI.kA (S.L.getD k 0) (by rw[List.getD_eq_getElem?_getD,List.getElem?_eq_getElem hk,Option.getD_some];exact List.getElem_mem hk)).1;have yH:n<64:=by have:=(HI.kA (S.L.getD k 0) (by rw[List.getD_eq_getElem?_getD,List.getElem?_eq_getElem hk,Option.getD_some];exact List.getElem_mem hk)).2;omega
  rw[hn]at kX;have HN:=ae hn;have k1:aw (W1.drewN mm).drew g2 (o2+k) n:=kX;have k2:aw (W1.drewN mm).drew p (5+n) (S.v n):=by rw[←HT.lev n yH];exact b5.aq.af (oT _ _ _ _ yH)
  have EO:(0:Int)≤(k:Int):=Int.natCast_nonneg k;have C0:(k:Int)<(S.L.length:Int):=ao;have wJ:(0:Int)≤(n:Int):=Int.natCast_nonneg n;have sS:(n:Int)<64:=ao;clear iQ hk hn;go_upto_region 6 with fail;refine dU (fun w':World=>aw w' g2 (o2+k) n∧aw w' p (5+n) (S.v n)) 10 fun aH=>?_
  refine bX [0,1,2,3,4,5,6,7,8,9] ?_;refine cG ?_
  by_cases he:S.v n=l
  ·have heb:(S.v n==(l:Int))=true:=by simpa using he
   have HE:=ae he;clear he aH k2;go_wp2;go_ret2;have nJ:eB (iU S l)=(n:Int):=by
    rw[←HN.out];exact Fu HK (by rw[HN.out];exact HE) yr
   exact⟨by rw[nJ];rfl,(aX.drewN _).drew⟩
  ·have heb:(S.v n==(l:Int))=false:=by simpa using he
   have HE:=ae he;have hkp:0<k:=by
    rcases Nat.eq_zero_or_pos k with e|e
    ·subst e
     exfalso
     obtain⟨j,h1,h2⟩:=HEX.out
     by_cases e0:j=0
     ·subst e0;rw[HN.out]at h2;exact HE h2
     ·exact yr j ao h1 h2
    ·exact e
   have agL:(1:Int)≤(k:Int):=ao;clear he aH k2;go_wp2
   go_roundw
   case rel=>exact⟨k - 1,by have:=HK.out;omega,by congr 1;omega,fun j h1 h2=>by
    by_cases e:j=k
    ·subst e;rw[HN.out];exact HE
    ·exact yr j ao h2,mm+1,rfl⟩
   case measure=>simp[intOf];omega
end
theorem mu{P:Prop}(h:P:=by rw[h 1 ao ao];decide):P:=h
theorem xC {cap:Nat→Int}{S:US}{b:Int}{l:Nat}(h:∀j,1≤j→j<l→sW cap S b j=false)(h1:1≤l)(h3:l≤3)(hm:sW cap S b l=true):ek cap S b=l:=by
 unfold ek;rcases(show l=1∨l=2∨l=3 by omega)with rfl|rfl|rfl
 ·rw[if_pos hm]
 ·rw[if_neg mu,if_pos hm]
 ·rw[if_neg mu,if_neg (by rw[h 2 ao ao];decide),if_pos hm]
theorem Oq {cap:Nat→Int}{S:US}{b:Int}(h:∀j,1≤j→j<4→sW cap S b j=false):ek cap S b=4:=by
 unfold ek;rw[if_neg mu,if_neg (by rw[h 2 ao ao];decide),if_neg (by rw[h 3 ao ao];decide)]
def zU (cp:Nat→Int)(S:US)(b:Int)(w:World)(i:Value)(wr:World):Prop:=∃l:Nat,1≤l∧l≤4∧i=ah l∧(∀j,1≤j→j<l→sW cp S b j=false)∧ag az w wr
theorem zU.step {cp:Nat→Int}{S:US}{b:Int}{l:Nat}(h:∀j,1≤j→j<l→sW cp S b j=false)(hm:sW cp S b l=false):∀j,1≤j→j<l+1→sW cp S b j=false:=fun j h1 h2=>by
 by_cases e:j=l
 ·rw[e];exact hm
 ·exact h j h1 ao
section
variable {w:World}{p g eb:Nat}{cp:Nat→Int}{S:US}
theorem mf{P:Prop}(h:P:=by
 subst hl;clear h1 h4;go_wp2;go_ret;exact⟨by rw[Bq.out,Oq yr.out];rfl,HO⟩):P:=h
theorem gN{P:Prop}(h:P:=by have:=oL.out;omega):P:=h
theorem Te {n:Nat}(h:kF w p g eb cp S)(hn:n<64):
 Calls Tryz.prog 104 #[aO p,ah n] w fun e w'=>e= .returned (ah (ek cp S n))∧ag az w w':=by
 have H:=ae h;have HN:=ae hn;have wJ:(0:Int)≤(n:Int):=Int.natCast_nonneg n;have sS:(n:Int)<64:=ao;obtain⟨res,nJ⟩:∃r,r=ek cp S n:=⟨_,rfl⟩;rw[←nJ];have Bq:=ae nJ;clear nJ h hn
 go_enter Tryz.func104,Tryz.ntmps104
 go_wp2
 go_loopw [5] (fun iv wr=>zU cp S n w iv wr) (fun iv _=>4 - (intOf iv).toNat)
 case atStart=>exact⟨1,dm _,ao,rfl,fun j h1 h2=>absurd h2 ao,ag.aj _ _⟩
 case round=>
  obtain⟨l,h1,h4,rfl,iQ,ho⟩:=hrel;have yr:=ae iQ;have HO:=ae ho;have HL:=aB (1≤l∧l≤4) (⟨h1,h4⟩);have HR:=ae<|H.keep ho;clear iQ ho
  by_cases hl:l=4
  ·exact mf
  ·have hl0:(1:Int)≤(l:Int):=ao;have ZJ:(l:Int)<4:=ao;have oL:=ae (show l≤3 by omega);have agK:(0:Int)≤(l:Int):=ao;have hl5:(l:Int)<5:=ao;obtain⟨lev,dG,hr,ht,hi⟩:=id HR;have k0:aw wr p (5+n) (S.v n):=by rw[←ht.lev n HN.out];exact hr.aq.af (oT _ _ _ _ HN)
   have HM:=aB (sW cp S n l=if(n:Int)∈S.L then P7 S n l else decide ((gg S l:Int)<cp l)) (rfl);clear h1 h4 hl
   by_cases hm:(n:Int)∈S.L
   ·have De:=hi.lev _ hm;have ye:(S.v n==0)=false:=by simp;omega
    have uS:=ae hm
    by_cases hc:gg S l=0
    ·have HY:=ae<|Wg (cp:=cp) HR (l:=l) HL.1 oL hc;have HMF:=ae (show sW cp S n l=false by rw[HM.out,if_pos hm,Ti hc]);clear hr ht hi hm hc De;generalize S.v n=sv at *;go_upto_region 8 with(go_at_call 107;refine HY.mono ?_;rintro e W1 ⟨rfl,aR⟩);go_wp2
     go_roundw
     case rel=>exact⟨l+1,ao,by have:=oL.out;omega,by push_cast;rfl,zU.step yr HMF,HO.trans aR⟩
     case measure=>simp[intOf];omega
    ·have hc:0<gg S l:=Nat.pos_of_ne_zero hc;have HY:=ae<|Ih (cp:=cp) HR (l:=l) HL.1 oL hc;have hue:=abq hi.nodup hm hc;have HUE:=ae hue;have hyl:=(oV hc).1;have UQ:=ae fun(W:World) (hC:kF W p g eb cp S)=>by
      obtain⟨lev,dG,hr,_,_⟩:=hC;have h9:=Uo (i:=0) (a:=(n:Int)) (y:=eB (iU S l)) W hr.sp (by rw[if_pos rfl];exact hm) (by rw[if_pos rfl];exact hyl);rw[if_pos rfl]at h9;exact h9
     clear hr ht hi hc De hue hyl hm;generalize S.v n=sv at *;generalize hyy:eB (iU S l)=y at *;have Vn:=ae hyy;clear hyy;go_upto_region 8 with(go_at_call 107;refine HY.mono ?_;rintro e W1 ⟨rfl,aR⟩);have aX:=ae<|HO.trans aR;have HH:=ae<|UQ W1 (HR.keep aR);have k2:aE W1 p 0 (aO g):=by
      obtain⟨lev,dG,hr,_,_⟩:=HR.keep aR;exact hr.aq.af (Fe _ _ _ _)
     clear aR k0 ye
     by_cases he:y=(n:Int)
     ·have heb:(y==(n:Int))=true:=by simpa using he
      have HE:=ae he;clear he;go_wp2;go_ret;exact⟨by rw[Bq.out,xC yr.out HL.1 oL.out (by rw[HM.out,if_pos uS.out,HUE.out,decide_eq_true HE.out,Bool.true_or])];rfl,aX⟩
     ·have heb:(y==(n:Int))=false:=by simpa using he
      have HE:=ae he;clear he
      cases hah:decide ((n:Int)∈List.takeWhile (fun x=>decide (x≠y)) S.L)with
      |true=>
       rw[hah]at HH;have Vz:=ae hah;clear hah;go_wp2_with (go_at_call 126;refine HH.mono ?_;rintro e W2 ⟨rfl,rfl⟩);go_ret;exact⟨by rw[Bq.out,xC yr.out HL.1 oL.out (by rw[HM.out,if_pos uS.out,HUE.out,decide_eq_false HE.out,Bool.false_or];exact Vz.out)];rfl,aX⟩
      |false=>
       rw[hah]at HH;have Vz:=ae hah;clear hah;go_wp2_with (go_at_call 126;refine HH.mono ?_;rintro e W2 ⟨rfl,rfl⟩)
       go_roundw
       case rel=>exact⟨l+1,ao,by have:=oL.out;omega,by push_cast;rfl,zU.step yr (by rw[HM.out,if_pos uS.out,HUE.out,decide_eq_false HE.out,Bool.false_or];exact Vz),aX⟩
       case measure=>simp[intOf];omega
   ·have hv:=hi.out _ hm;rw[hv]at k0;have k1:aw wr.drew p (69+l) (gg S l):=by
     have:=hr.aq.af (oU g cp lev dG (i:=l) gN);rw[ht.dG l HL.1 HL.2]at this;exact this
    have k2:aw wr.drew p (1+l) (cp l):=hr.aq.af (tP _ _ _ _ gN);have uS:=ae hm;clear hr ht hi hm hv;go_upto_region 5 with fail;refine dU (fun w':World=>aw w' p (69+l) (gg S l)∧aw w' p (1+l) (cp l)) 12 fun aH=>?_
    refine bX [0,1,2,3,4,5,6,7,8,9,10,11] ?_;refine cG ?_
    by_cases hc:(gg S l:Int)<cp l
    ·have HCC:=ae hc;have hcd:decide ((gg S l:Int)<cp l)=true:=decide_eq_true hc;clear aH k0 k1 k2;go_wp2;go_ret;exact⟨by rw[Bq.out,xC yr.out HL.1 oL.out (by rw[HM.out,if_neg uS.out,decide_eq_true HCC.out])];rfl,HO.drew⟩
    ·have HCC:=ae hc;have hcd:decide ((gg S l:Int)<cp l)=false:=decide_eq_false hc;clear aH k0 k1 k2 hc;go_wp2
     go_roundw
     case rel=>exact⟨l+1,ao,by have:=oL.out;omega,by push_cast;rfl,zU.step yr (by rw[HM.out,if_neg uS.out,decide_eq_false HCC.out]),HO.drew⟩
     case measure=>simp[intOf];omega
end
def yI (v:Int→Int)(l:Int)(L:List Int):Int:=((L.filter fun x=>decide (v x=l)).length:Int)
def ind (p:Prop)[Decidable p]:Int:=if p then 1 else 0
theorem jN (v:Int→Int)(l b:Int)(L:List Int):yI v l (b :: L)=ind (v b=l)+yI v l L:=by
 unfold yI ind
 by_cases e:v b=l
 ·rw[List.filter_cons_of_pos cT,if_pos e,List.length_cons];omega
 ·rw[List.filter_cons_of_neg cT,if_neg e];omega
theorem xR {v:Int→Int}{l b l':Int}:∀{L:List Int},b∉L→yI (aT v b l') l L=yI v l L
 | [],_=>rfl
 |a :: L,h=>by
  have h1:a≠b:=fun e=>h (e▸List.mem_cons_self ..)
  rw[jN,jN,xR fun e=>h (List.mem_cons_of_mem _ e)];unfold aT;rw[if_neg h1]
theorem wm {v:Int→Int}{l b:Int}:∀{L:List Int},b∈L→yI v l (L.erase b)+ind (v b=l)=yI v l L
 | [],h=>by cases h
 |a :: L,h=>by
  by_cases e:a=b
  ·subst e;rw[List.erase_cons_head,jN];omega
  ·rw[List.erase_cons_tail cT,jN,jN];have:=wm (v:=v) (l:=l) (L:=L) (b:=b) (by
    rcases List.mem_cons.1 h with h|h
    ·exact absurd h.symm e
    ·exact h)
   omega
theorem Np {v:Int→Int}{l b l':Int}:∀{L:List Int},L.Nodup→b∈L→yI (aT v b l') l L+ind (v b=l)=yI v l L+ind (l'=l)
 | [],_,h=>by cases h
 |a :: L,hn,h=>by
  rw[List.nodup_cons]at hn;rw[jN,jN]
  by_cases e:a=b
  ·subst e;rw[xR hn.1];have:aT v a l' a=l':=if_pos rfl;rw[this];omega
  ·have h2:=Np (v:=v) (l:=l) (l':=l') hn.2 (by
    rcases List.mem_cons.1 h with h|h
    ·exact absurd h.symm e
    ·exact h)
   have:aT v b l' a=v a:=if_neg e;rw[this];omega
theorem yM (S:US)(l:Int):(gg S l:Int)=yI S.v l S.L:=rfl
theorem MR (dG:Nat→Int)(o l' l:Nat):aI (aI dG o (dG o - 1)) l' (aI dG o (dG o - 1) l'+1) l=dG l - ind (o=l)+ind (l'=l):=by
 unfold aI ind
 by_cases e1:l=l'
 ·subst e1
  by_cases e2:l=o
  ·subst e2;simp
  ·simp[e2,Ne.symm e2]
 ·by_cases e2:l=o
  ·subst e2;simp[e1,Ne.symm e1];try omega
  ·simp[e1,e2,Ne.symm e1,Ne.symm e2]
theorem Ao.set {lev dG:Nat→Int}{S S':US}{n o l':Nat}(h:Ao lev dG S)(hn:n<64)(ho:S.v n=(o:Int))(hv:S'.v=aT S.v n l')
 (h0:(S'.L.length:Int)=S.L.length+ind (o=0) - ind (l'=0)) (hc:∀l:Nat,1≤l→l≤4→(gg S' l:Int)=gg S l - ind (o=l)+ind (l'=l)):
 Ao (aI lev n l') (aI (aI dG o (dG o - 1)) l' (aI dG o (dG o - 1) l'+1)) S' where
 lev:=fun i hi=>by
  rw[hv];unfold aI aT
  by_cases e:i=n
  ·subst e;rw[if_pos rfl,if_pos rfl]
  ·rw[if_neg e,if_neg ao];exact h.lev i hi
 c0:=by rw[MR,h.c0,h0];omega
 dG:=fun l h1 h4=>by rw[MR,h.dG l h1 h4,hc l h1 h4]
theorem tV {a b:Nat}:ind ((a:Int)=(b:Int))=ind (a=b):=by
 unfold ind
 by_cases e:a=b
 ·subst e;rw[if_pos rfl,if_pos rfl]
 ·rw[if_neg e,if_neg ao]
theorem vU {p:Prop}[Decidable p](h:¬p):ind p=0:=if_neg h
theorem Ni {p:Prop}[Decidable p](h:p):ind p=1:=if_pos h
def He (eb:Nat)(w:World):Nat:=match w.cell? ⟨eb,2,none⟩with
 |some (.int _ n)=>n.toNat
 |_=>0
theorem Im {w:World}{g eb:Nat}{L:List Int}(h:jV w g eb 1 (fun i=>if i=0 then L else[])):He eb w=L.length:=by
 obtain⟨N,E,hm,hr,_⟩:=h;have hc:=hm.end_ (b:=0) (j:=2) aD aD;rw[hr.ends 0 aD]at hc;have hc:aw w eb 2 ((L.length:Nat):Int):=hc;unfold He;rw[hc];exact Int.toNat_natCast _
theorem Ir (L:List Int)(n:Int):dh (fun i=>if i=0 then L else[]) n=fun i=>if i=0 then L.erase n else[]:=by
 funext i
 show(if i=0 then L else[]).erase n=if i=0 then L.erase n else[]
 by_cases e:i=0
 ·rw[if_pos e,if_pos e]
 ·rw[if_neg e,if_neg e];rfl
theorem LV (L:List Int)(n:Int):bD (fun i=>if i=0 then L else[]) 0 n=fun i=>if i=0 then n :: L else[]:=by
 funext i
 show(if i=0 then n :: (if 0=0 then L else[])else(if i=0 then L else[]))=if i=0 then n :: L else[]
 by_cases e:i=0
 ·subst e;rw[if_pos rfl,if_pos rfl,if_pos rfl]
 ·rw[if_neg e,if_neg e,if_neg e]
def Ze (p g eb:Nat)(cp:Nat→Int)(R:US)(w:World)(wr:World):Prop:=∃(f:Nat) (S:US),kF wr p g eb cp S∧fM f S=R∧S.L.length≤f∧ag (s8 p g eb) w wr
section
variable {w:World}{p g eb:Nat}{cp:Nat→Int}{S:US}
theorem On (h:kF w p g eb cp S):
 Calls Tryz.prog 108 #[aO p] w fun e w'=>e= .returned (.tuple #[])∧kF w' p g eb cp (vS S)∧ag (s8 p g eb) w w':=by
 have H:=ae h;obtain⟨R,hR⟩:∃R,R=vS S:=⟨_,rfl⟩;rw[←hR];have tw:=ae hR;clear hR h
 go_enter Tryz.func108,Tryz.ntmps108
 go_wp2
 go_loopw [] (fun wr=>Ze p g eb cp R w wr) (fun wr=>He eb wr)
 case atStart=>exact⟨_,S,H,tw.symm,dm _,ag.aj _ _⟩
 case round=>
  obtain⟨f,S1,hu,hf,hl,ho⟩:=hrel;have HU:=ae hu;have HF:=ae hf;have HL:=ae hl;have HO:=ae ho;obtain⟨lev,dG,hr,ht,hi⟩:=hu;have k2:aE wr p 0 (aO g):=hr.aq.af (Fe _ _ _ _);have mF:=o7 0 wr hr.sp aD;rw[if_pos rfl]at mF;have nA:=ae<|Im hr.sp
  by_cases hne:S1.L= []
  ·rw[if_pos hne]at mF;have mF:=ae mF;have HE:=ae hne;clear hr ht hi hf hl ho hne;go_upto_region 1 with(go_at_call 129;refine mF.mono ?_;rintro e W1 ⟨rfl,rfl⟩);go_wp2;refine bodyPost_ret (results_none rfl _ _ _) rfl ?_;have kG:fM f S1=S1:=by
    cases f with
    |zero=>rfl
    |succ f=>rw[fM,if_neg (fun e=>e.1 HE.out)]
   exact⟨rfl,by rw[←HF.out,kG];exact HU,HO⟩
  ·rw[if_neg hne]at mF;have mF:=ae mF;have hm:=SS hne;obtain⟨n,hn⟩:=Int.eq_ofNat_of_zero_le (hi.kA _ hm).1;have yH:n<64:=by have:=(hi.kA _ hm).2;omega
   rw[hn]at mF hm;have HN:=ae hn;have HM:=ae hm;have Di:=ae yH;have HE:=ae hne;have HR:=ae hr;have HT:=ae ht;have HI:=ae hi;have wJ:(0:Int)≤(n:Int):=Int.natCast_nonneg n;have sS:(n:Int)<64:=ao;clear hf hl ho hne hn hm hi;go_upto_region 1 with(go_at_call 129;refine mF.mono ?_;rintro e W1 ⟨rfl,rfl⟩);have k1:aw wr p (5+n) (S1.v n):=by rw[←ht.lev n yH];exact hr.aq.af (oT _ _ _ _ yH)
   clear hr ht yH
   by_cases h4:S1.v n=4
   ·have H4:=ae h4;rw[h4]at k1;have VZ:=kP (i:=0) (n:=n) wr HR.sp (by rw[if_pos rfl];exact HM);rw[Ir]at VZ;have VZ:=ae VZ;clear h4;go_upto_region 3 with(go_at_call 130;refine VZ.mono ?_;rintro e W1 ⟨rfl,pA,aR⟩);have b5:=aB (Aq W1 p g eb cp lev dG (S1.L.erase n)) (⟨aR.aq HR.aq (fun e=>e.elim HR.pg HR.pe),pA,HR.pg,HR.pe⟩);have aX:=ae<|HO.trans (aR.mono (S':=s8 p g eb) fun k hk=>.inl (.inr hk));have oE:=ae<|Ft (n:=n) (o:=4) (l:=0) b5.aq Di (by rw[HT.lev n Di.out,H4.out];rfl) aD aD (HT.bnd HI);clear pA aR k1 k2;go_wp2_with (go_at_call 106;refine oE.mono ?_;rintro e W2 ⟨rfl,dX,bp⟩);have hT2:Ao (aI lev n 0) (aI (aI dG 4 (dG 4 - 1)) 0 (aI dG 4 (dG 4 - 1) 0+1)) ⟨S1.L.erase n,aT S1.v n 0⟩:=
     HT.set (o:=4) (l':=0) Di H4 rfl (by
      have:=List.length_pos_of_mem HM
      show((S1.L.erase n).length:Int)=_
      rw[List.length_erase_of_mem HM.out,vU aD,Ni rfl];omega) fun l h1 h5=>by
      rw[yM,yM]
      show yI (aT S1.v n 0) l (S1.L.erase n)=_
      rw[xR (fun e=>(HI.nodup.mem_erase_iff.1 e).1 rfl)];have h6:=wm (v:=S1.v) (l:=(l:Int)) HM;rw[H4.out,show((4:Int)=((4:Nat):Int))from rfl,tV]at h6;rw[vU (show¬(0=l) by omega)];omega
    have hpr:fM f S1=fM (f - 1) ⟨S1.L.erase n,aT S1.v n 0⟩:=by
     have h5:=HL.out;have h6:=List.length_pos_of_mem HM;obtain⟨f',rfl⟩:∃f',f=f'+1:=⟨f - 1,ao⟩;rw[fM,HN.out,if_pos ⟨HE.out,H4.out⟩];rfl
    have hI2:jQ ⟨S1.L.erase n,aT S1.v n 0⟩:=by
     have:=nX 1 S1 HI;rw[fM,HN.out,if_pos ⟨HE.out,H4.out⟩]at this;exact this
    have hR2:Aq W2 p g eb cp (aI lev n 0) (aI (aI dG 4 (dG 4 - 1)) 0 (aI dG 4 (dG 4 - 1) 0+1)) (S1.L.erase n):=⟨dX,b5.sp.aA bp (fun e=>b5.pg (show g=p from e).symm) (fun e=>b5.pe (show eb=p from e).symm),b5.pg,b5.pe⟩;have hlen:(S1.L.erase n).length+1=S1.L.length:=by rw[List.length_erase_of_mem HM.out];have:=List.length_pos_of_mem HM.out;omega
    have vy:=Im hR2.sp;have Qu:=ae (show He eb W2<He eb wr by rw[vy,nA.out];omega);have UN:=aB (Ze p g eb cp R w W2) (⟨f - 1,⟨S1.L.erase n,aT S1.v n 0⟩,⟨_,_,hR2,hT2,hI2⟩,by rw[←hpr];exact HF,by have:=HL.out;show(S1.L.erase n).length≤f - 1;omega,aX.trans (bp.mono (S':=s8 p g eb) fun k hk=>.inl (.inl hk))⟩);clear hT2 hpr hI2 hR2 hlen vy dX bp
    go_roundw
    case rel=>exact UN
    case measure=>exact Qu
   ·have h4b:(S1.v n != 4)=true:=by rw[bne_iff_ne];exact h4
    have H4:=ae h4;clear h4;go_wp2;refine bodyPost_ret (results_none rfl _ _ _) rfl ?_;have kG:fM f S1=S1:=by
     cases f with
     |zero=>rfl
     |succ f=>rw[fM,HN.out,if_neg (fun e=>H4.out e.2)]
    exact⟨rfl,by rw[←HF.out,kG];exact HU,HO⟩
end
def JI (m:Int×Nat):List Value:=[ah m.1,ah m.2,ah (m.2+1:Int)]
theorem SM:(Tryz.prog.info? 100).map (fun i=>(i.zero,i.size,i.bytes))=some (some (.agg #[ah 0,ah 0,ah 0]),3,24):=by kernel_rfl
def gD (w:World)(base:Nat)(v:Value)(m:List (Int×Nat)):Prop:=w.ownsRow base 100 3 v m.length (m.flatMap JI)
def Za (p g eb:Nat)(cp:Nat→Int)(R:US×List (Int×Nat))(w:World)(sv iv:Value)(wr:World):Prop:=
 ∃(f l:Nat) (S:US) (m:List (Int×Nat)),1≤l∧l≤4∧5≤f+l∧m.length<l∧iv=ah l∧gD wr w.heap.size sv m∧kF wr p g eb cp S∧eX cp f S l m=R∧ag (s8 p g eb) w wr
def ac7 (p g eb:Nat)(cp:Nat→Int)(S:US)(n:Nat)(w:World)(e:Ending)(w':World):Prop:=
 ∃v,e= .returned (.tuple #[ah (ek cp S n),v,ah 0])∧gD w' w.heap.size v (gV cp S n).2.2∧kF w' p g eb cp (gV cp S n).1∧ag (s8 p g eb) w w'
theorem kF.put {W W1 W2:World}{p g eb:Nat}{cp lev dG:Nat→Int}{S:US}{n l:Nat}(ht:Ao lev dG S)(hi:jQ S)(hn:n<64)(h1:1≤l)(h4:l≤4){o:Nat}(ho:S.v n=(o:Int)):
 Ao (aI lev n l) (aI (aI dG o (dG o - 1)) l (aI dG o (dG o - 1) l+1)) (oN S n l):=by
 refine ht.set hn ho rfl ?_ fun k k1 k4=>?_
 ·show(((n:Int) :: S.L.erase n).length:Int)=_
  rw[List.length_cons,vU (show¬l=0 by omega)]
  by_cases hm:(n:Int)∈S.L
  ·have:=List.length_pos_of_mem hm;have:=hi.lev _ hm;rw[List.length_erase_of_mem hm,vU ao];omega
  ·have:=hi.out _ hm;rw[List.erase_of_not_mem hm,Ni ao];omega
 ·rw[yM,yM]
  show yI (aT S.v n l) k ((n:Int) :: S.L.erase n)=_
  rw[jN,xR (fun e=>(hi.nodup.mem_erase_iff.1 e).1 rfl),show aT S.v (n:Int) (l:Int) (n:Int)=l from if_pos rfl,tV]
  by_cases hm:(n:Int)∈S.L
  ·have h6:=wm (v:=S.v) (l:=(k:Int)) hm;rw[ho,tV]at h6;omega
  ·have:=hi.out _ hm;rw[List.erase_of_not_mem hm,vU (show¬o=k by omega)];omega
theorem Ao.sink {lev dG:Nat→Int}{S:US}{n l:Nat}(ht:Ao lev dG S)(hi:jQ S)(hn:n<64)(h1:1≤l)(h3:l≤3)(ho:S.v n=(l:Int))(hm:(n:Int)∈S.L):
 Ao (aI lev n ((l+1:Nat):Int)) (aI (aI dG l (dG l - 1)) (l+1) (aI dG l (dG l - 1) (l+1)+1)) (yD S n ((l+1:Nat):Int)):=by
 refine ht.set hn ho rfl ?_ fun k k1 k4=>?_
 ·show(S.L.length:Int)=_
  rw[vU (show¬l=0 by omega),vU (show¬l+1=0 by omega)];omega
 ·rw[yM,yM]
  show yI (aT S.v n ((l+1:Nat):Int)) k S.L=_
  have h6:=Np (v:=S.v) (l:=(k:Int)) (l':=((l+1:Nat):Int)) hi.nodup hm;rw[ho,tV,tV]at h6;omega
section
variable {w:World}{p g eb:Nat}{cp:Nat→Int}{S:US}
theorem sA{P:Prop}(h:P:=by
 have HPN:=ae<|On (kF.keep HU ((ag.aj az wr).drew));go_upto_region 15 with(go_at_call 108;refine HPN.mono ?_;rintro e W5 ⟨rfl,hu5,cA⟩);have HUW:=aB (∀k,s8 p g eb k→k<w.heap.size) (by
  obtain⟨_,_,hr,_,_⟩:=H.out;exact hr.lt)
 have UJ:=ae hu5;have bM:=ae<|(HO.drew).trans cA;have vD:=aB (gD W5 w.heap.size (.slice A5 m.length c5) m) (bk (bk YD ((ag.aj az wr).drew) fun _ _=>id) cA fun k hk e=>by
  have h5:=(World.ownsRow.lt YD k hk).1;have h6:=HUW.out k e;omega)
 clear hu5 cA;go_wp2
 go_ret3
 have hRm:R=(S1,m):=by rw[←HS.out,KM.out]
 refine⟨.slice A5 m.length c5,by rw[YE.out];rfl,?_,?_,bM⟩
 ·show gD _ _ _ (eX cp 4 (oN S n (ek cp S n)) (ek cp S n) []).2
  rw[←YE.out,←tw.out,hRm];exact vD
 ·show kF _ _ _ _ _ (vS (eX cp 4 (oN S n (ek cp S n)) (ek cp S n) []).1)
  rw[←YE.out,←tw.out,hRm];exact UJ):P:=h
theorem gL{P:Prop}(h:P:=by have:=Qz.out;omega):P:=h
theorem Wj {n:Nat}(h:kF w p g eb cp S)(hn:n<64)(ZP:∀l,1≤l→l≤3→0≤cp l):
 Calls Tryz.prog 73 #[aO p,ah n] w (ac7 p g eb cp S n w):=by
 have H:=ae h;have HN:=ae hn;have HCP:=ae ZP;have HX:=ae<|Te h hn;have wJ:(0:Int)≤(n:Int):=Int.natCast_nonneg n;have sS:(n:Int)<64:=ao;obtain⟨l0,hl0⟩:∃l,l=ek cp S n:=⟨_,rfl⟩;have YE:=ae hl0;have Qz:=ae (show 1≤l0∧l0≤4 by rw[hl0];exact ux cp S n);rw[←hl0]at HX;clear h hn ZP hl0
 go_enter Tryz.func73,Tryz.ntmps73
 go_upto_region 6 with(go_at_call 104;refine HX.mono ?_;rintro e W1 ⟨rfl,aR⟩);obtain⟨lev,dG,Ml,Mk,C4⟩:=H.keep aR;have b5:=ae Ml;have NR:=ae Mk;have lL:=ae C4;have aX:=ae aR;have k2:aE W1 p 0 (aO g):=Ml.aq.af (Fe _ _ _ _);have Ge:=kq (i:=0) (n:=n) W1 Ml.sp aD HN;rw[Ir,LV]at Ge;have Ge:=ae Ge;clear Ml Mk C4 aR HX;go_upto_region 7 with(go_at_call 105;refine Ge.mono ?_;rintro e W2 ⟨rfl,kC,bp⟩);have iw:=aB (Aq W2 p g eb cp lev dG ((n:Int) :: S.L.erase n)) (⟨bp.aq b5.aq (fun e=>e.elim b5.pg b5.pe),kC,b5.pg,b5.pe⟩);have bf:=ae<|(aX.mono (S':=s8 p g eb) fun _ h=>h.elim).trans (bp.mono (S':=s8 p g eb) fun k hk=>.inl (.inr hk));have CP:0≤S.v n∧S.v n≤4:=by
  by_cases hm:(n:Int)∈S.L
  ·have:=lL.lev _ hm;omega
  ·have:=lL.out.out _ hm;omega
 obtain⟨o,ho⟩:=Int.eq_ofNat_of_zero_le CP.1;have oE:=ae<|Ft (n:=n) (o:=o) (l:=l0) iw.aq HN (by rw[NR.lev n HN.out,ho]) ao gL (NR.bnd lL);have Q8:=ae ho;clear kC bp k2 CP ho Ge;go_upto_region 8 with(go_at_call 106;refine oE.mono ?_;rintro e W3 ⟨rfl,Vc,cB⟩);have Qr:=aB (kF W3 p g eb cp (oN S n l0)) (⟨_,_,⟨Vc,iw.sp.aA cB (fun e=>iw.pg (show g=p from e).symm) (fun e=>iw.pe (show eb=p from e).symm),iw.pg,iw.pe⟩,kF.put (W:=W3) (W1:=W3) (W2:=W3) (p:=p) (g:=g) (eb:=eb) (cp:=cp) NR lL HN Qz.1 Qz.2 Q8,BQ lL wJ sS gL gL⟩);have bn:=ae<|bf.trans (cB.mono (S':=s8 p g eb) fun k hk=>.inl (.inl hk));obtain⟨R,hR⟩:∃R,R=eX cp 4 (oN S n l0) l0 []:=⟨_,rfl⟩;have tw:=ae hR;clear Vc cB hR oE iw bf b5 aX;go_wp2
 go_loopw [5,7] (fun sv iv wr=>Za p g eb cp R w sv iv wr) (fun _ iv _=>4 - (intOf iv).toNat)
 case atStart=>exact⟨4,l0,_,[],Qz.1,Qz.2,by have:=Qz.out;omega,Qz.1,rfl,World.ownsRow_nil _ _ _ _,Qr,tw.symm,bn⟩
 case round=>
  obtain⟨f,l,S1,m,h1,h4,hf,J4,rfl,U6,hu,hs,ho⟩:=hrel;have HL:=aB (1≤l∧l≤4∧5≤f+l∧m.length<l) (⟨h1,h4,hf,J4⟩);have YD:=ae U6;have HU:=ae hu;have HS:=ae hs;have HO:=ae ho;obtain⟨A5,c5,rfl,_,_⟩:=cz U6;obtain⟨aeU,afp,hr,ht,hi⟩:=hu;have HR:=ae hr;have HT:=ae ht;have HI:=ae hi;clear U6 hs ho hf J4
  by_cases hl4:l=4
  ·have KM:=ae (show eX cp f S1 l m=(S1,m) by
    cases f with
    |zero=>rfl
    |succ f=>rw[eX,if_neg (fun e=>by omega)])
   subst hl4;have hd:decide (((4:Nat):Int)<4)=false:=aD;clear h1 h4 hr ht hi;have aY:(4:Int)<5:=aD;go_upto_region 9 with fail;have k0:True:=trivial;refine oa (fun _:World=>True) 16 ?_ ?_
   ·exact trivial
   intro aH;refine yd [0,1,2,3,4,5,6,7,8,9,10,11,12,13,14,15] ?_;refine cG ?_;clear aH;exact sA
  ·have vA:l≤3:=ao;have oL:=ae vA;have agI:(0:Int)≤(l:Int):=ao;have ae8:(l:Int)<4:=ao;have agH:(l:Int)<5:=ao;have hd:decide ((l:Int)<4)=true:=decide_eq_true ae8;have k1:aw wr.drew p (69+l) (gg S1 l):=by
    have:=hr.aq.af (oU g cp aeU afp (i:=l) ao);rw[ht.dG l h1 h4]at this;exact this
   have k2:aw wr.drew p (1+l) (cp l):=hr.aq.af (tP _ _ _ _ ao);clear h1 h4 hl4 vA hr ht hi;go_upto_region 9 with fail;refine dU (fun w':World=>aw w' p (69+l) (gg S1 l)∧aw w' p (1+l) (cp l)) 16 fun aH=>?_
   refine bX [0,1,2,3,4,5,6,7,8,9,10,11,12,13,14,15] ?_;refine cG ?_
   by_cases hc:cp l<(gg S1 l:Int)
   ·have hcd:decide (cp l<(gg S1 l:Int))=true:=decide_eq_true hc;have HC:=ae hc;have afm:=HCP.out l HL.1 oL;have HY:=ae<|Ih (cp:=cp) (kF.keep HU ((ag.aj az wr).drew)) (l:=l) HL.1 oL ao;obtain⟨Dx,NC⟩:=oV (S:=S1) (l:=(l:Int)) ao;obtain⟨y,hy⟩:=Int.eq_ofNat_of_zero_le (HI.kA _ Dx).1;have acv:y<64:=by have:=(HI.kA _ Dx).2;omega
    rw[hy]at Dx NC HY;have Vn:=aB (eB (iU S1 l)=y∧(y:Int)∈S1.L∧S1.v y=l∧y<64) (⟨hy,Dx,NC,acv⟩);clear aH k1 k2 hc hy Dx NC acv afm;go_upto_region 12 with(go_at_call 107;refine HY.mono ?_;rintro e W4 ⟨rfl,cI⟩);have jc:=ae<|(HR.keep ((ag.aj az wr).drew)).keep cI;have bK:=ae<|(HO.drew).da cI;have yi:=aB (gD W4 w.heap.size (.slice A5 m.length c5) m) (bk YD (((ag.aj az wr).drew).trans cI) fun _ _=>id);have oE:=Ft (n:=y) (o:=l) (l:=l+1) jc.aq Vn.2.2.2 (by rw[HT.lev y Vn.2.2.2,Vn.2.2.1]) gN gN (HT.bnd HI);rw[show((l+1:Nat):Int)=(l:Int)+1 by push_cast;rfl]at oE;have oE:=ae oE;clear cI HY;go_upto_region 13 with(go_at_call 106;refine oE.mono ?_;rintro e W5 ⟨rfl,Ym,cA⟩);have hmw:∀k,aK (.slice A5 m.length c5) k→w.heap.size≤k:=fun k hk=>(World.ownsRow.lt yi k hk).1
    have HUW:=aB (∀k,s8 p g eb k→k<w.heap.size) (by
     obtain⟨_,_,hr,_,_⟩:=H.out;exact hr.lt)
    have vD:=aB (gD W5 w.heap.size (.slice A5 m.length c5) m) (bk yi cA fun k hk e=>by
     have h5:=hmw k hk;have h6:=HUW.out k (.inl (show k=p from e));omega)
    have hT5:=HT.sink HI Vn.2.2.2 HL.1 oL Vn.2.2.1 Vn.2.1;rw[show((l+1:Nat):Int)=(l:Int)+1 by push_cast;rfl]at hT5;have UJ:=aB (kF W5 p g eb cp (yD S1 y ((l:Int)+1))) (⟨_,_,⟨Ym,jc.sp.aA cA (fun e=>jc.pg (show g=p from e).symm) (fun e=>jc.pe (show eb=p from e).symm),jc.pg,jc.pe⟩,hT5,BP HI Vn.2.1 ao ao⟩);have bM:=ae<|bK.trans (cA.mono (S':=s8 p g eb) fun k hk=>.inl (.inl hk));have oK:=aB (w.heap.size≤W5.heap.size) (bM.size);have yw:=aB (m.length+1≤5) (by have:=HL.out;omega);have Hj:eX cp f S1 l m=eX cp (f - 1) (yD S1 y ((l:Int)+1)) (l+1) (m ++ [((y:Int),l)]):=by
     have:=HL.out;have:=oL.out;obtain⟨f',rfl⟩:∃f',f=f'+1:=⟨f - 1,ao⟩;rw[eX,if_pos ⟨ao,HC.out⟩,Vn.1];rfl
    have HSK:=ae Hj;clear Ym cA hT5 Hj oE yi hmw;go_wp2_with (at_builtin;refine ef _ rfl (.tmp 65) (.tmp 71) 95 100 rfl SM rfl aD Tryz.underlying95 w.heap.size (.slice A5 m.length c5) m.length _ (JI ((y:Int),l)) rfl (World.ownsRow.alloc vD _) ⟨W5.heap.size,0,none⟩ rfl rfl (cV W5 (JI ((y:Int),l)) _) (by simp[JI,Value.oneCell']) (by unfold maxLen;have:=yw.out;omega) (by have:=yw.out;omega) (by rw[World.size_alloc];have:=oK.out;omega) ?_;intro v6 W6 h6 bT _;have JQ:=ae h6;have cZ:=ae bT;obtain⟨A6,c6,e6,_,_⟩:=cz h6;subst e6;clear h6 bT);have Qh:ag az W5 (W5.alloc (.cells (JI ((y:Int),l)).toArray 100)):=(ag.aj az W5).alloc _;have F1:∀k,s8 p g eb k→¬aK (.slice A5 m.length c5) k:=fun k hk e=>by
     have h5:=(World.ownsRow.lt vD k e).1;have h6:=HUW.out k hk;omega
    have Vv:=ae (show Za p g eb cp R w (.slice A6 (m.length+1) c6) (ah ((l:Int)+1)) W6 from
     ⟨f - 1,l+1,yD S1 y ((l:Int)+1),m ++ [((y:Int),l)],ao,by have:=oL.out;omega,by have:=HL.out;have:=oL.out;omega,by rw[List.length_append];have:=HL.out;simp;omega,by push_cast;rfl,
      by
       show World.ownsRow _ _ _ _ _ (m ++ [((y:Int),l)]).length ((m ++ [((y:Int),l)]).flatMap JI)
       rw[List.length_append,List.flatMap_append];simpa using JQ.out,
      (UJ.keep Qh).aA cZ (F1 p (.inl rfl)) (F1 g (.inr (.inl rfl))) (F1 eb (.inr (.inr rfl))),by rw[←HSK.out];exact HS,
      (bM.da Qh).aC cZ fun k hk=>.inr (World.ownsRow.lt vD k hk).1⟩)
    clear Qh F1
    go_roundw
    case rel=>exact Vv
    case measure=>simp[intOf];have:=oL.out;omega
   ·have hcd:decide (cp l<(gg S1 l:Int))=false:=decide_eq_false hc;have KM:=ae (show eX cp f S1 l m=(S1,m) by
     cases f with
     |zero=>rfl
     |succ f=>rw[eX,if_neg (fun e=>hc e.2)])
    clear aH k1 k2 hc;exact sA
end
end Go.Proofs.YtchofaecncibjaaGreat
