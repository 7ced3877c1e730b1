/- Lemmas. -/
import Derived.Test.YtpcfhbeakecihaaGreatM21
import Derived.Handy
set_option linter.all false
set_option maxHeartbeats 20000000
set_option maxRecDepth 100000
namespace Go.Proofs.YtpcfhbeakecihaaGreat
open Go.ChangeShapes Go.RowKit Go.WideShapes
def one (L:List Int):Nat→List Int:=fun i=>if i=0 then L else[]
theorem kn (L:List Int)(b:Int):bE (one L) b=one (L.erase b):=by
 funext i
 unfold bE one
 split<;>rfl
theorem mf (L:List Int)(b:Int):aG (one L) 0 b=one (b :: L):=by
 funext i
 unfold aG aW one
 split
 ·rename_i e;subst e;rfl
 ·rfl
theorem xZ {L:List Int}{b:Int}(h:b∉L):∀i,b∉one L i:=fun i hi=>by
 unfold one at hi
 split at hi
 ·exact h hi
 ·cases hi
theorem cU.nodup {w:World}{g eb m:Nat}{S:Nat→List Int}(h:cU w g eb m S)(i:Nat):(S i).Nodup:=by
 obtain⟨N,E,_,hr,_⟩:=h;exact hr.nodup i
theorem cU.gr {w:World}{g eb m:Nat}{S:Nat→List Int}(h:cU w g eb m S){i:Nat}{b:Int}(hb:b∈S i):0≤b∧b<64:=by
 obtain⟨N,E,_,hr,_⟩:=h;exact hr.gr hb
theorem cU.BN {w:World}{g eb m:Nat}{S:Nat→List Int}(h:cU w g eb m S):g<w.heap.size∧eb<w.heap.size:=by
 obtain⟨N,E,hm,_⟩:=h;exact⟨hm.1.lt,hm.2.lt⟩
theorem cU.off {w:World}{g eb m:Nat}{S:Nat→List Int}(h:cU w g eb m S){p:Nat}{t:TypeId}{cs:Array Value}(hb:Box w p t cs)(h1:t≠227)(h2:t≠229):p≠g∧p≠eb:=by
 obtain⟨N,E,hm,_⟩:=h;exact⟨hb.off hm.1 h1,hb.off hm.2 h2⟩
structure ed (w:World)(p g eb cap:Nat)(L:List Int):Prop where
 az:Box w p 206 #[aI g,ah cap]
 sp:cU w g eb 1 (one L)
 c1:1≤cap
 B2:cap≤16
theorem ed.ao {w w':World}{p g eb cap:Nat}{L:List Int}{F:Nat→Prop}(h:ed w p g eb cap L)(ho:af F w w')(h1:¬F p)(h2:¬F g)(h3:¬F eb):ed w' p g eb cap L:=
 ⟨ho.az h.az h1,h.sp.ao ho h2 h3,h.c1,h.B2⟩
theorem ed.step {w w':World}{p g eb cap:Nat}{L L':List Int}(h:ed w p g eb cap L)(ho:af (iu g eb) w w')(hs:cU w' g eb 1 (one L')):ed w' p g eb cap L':=by
 obtain⟨h1,h2⟩:=h.sp.off h.az av av;exact⟨ho.az h.az (fun e=>e.elim h1 h2),hs,h.c1,h.B2⟩
def bH (cap:Nat)(L:List Int)(b:Int):List Int×Int×Bool:=
 if b∈L then(b :: L.erase b,0,false)else if L.length<cap then(b :: L,0,false)else(b :: L.erase (ez L),ez L,true)
section
variable {p g eb cap:Nat}{L:List Int}
theorem fP{P:Prop}(h:P:=by
 clear h hb
 go_enter Tryz.func214,Tryz.ntmps214
 go_wp2_with (go_at_call 190;refine HC.mono ?_;rintro e W1 ⟨rfl,rfl⟩);go_ret;exact⟨rfl,rfl⟩):P:=h
theorem jm (b:Int)(w:World)(h:ed w p g eb cap L):
 Calls Tryz.prog 214 #[aI p,ah b] w fun e w'=>e= .returned (.bool (decide (b∈L)))∧w=w':=by
 have hp:ba w p 0 (aI g):=h.az.ag rfl
 by_cases hb:b∈L
 ·have HC:=ae<|oq (i:=0) w h.sp hb;rw[decide_eq_true hb];exact fP
 ·have HC:=ae<|rC w h.sp (xZ hb);rw[decide_eq_false hb];exact fP
theorem yn (w:World)(h:ed w p g eb cap L):Calls Tryz.prog 215 #[aI p] w fun e w'=>e= .returned (ah L.length)∧w=w':=by
 have hp:ba w p 0 (aI g):=h.az.ag rfl;have HC:=ae<|eS 0 w h.sp av;clear h
 go_enter Tryz.func215,Tryz.ntmps215
 go_wp2_with (go_at_call 185;refine HC.mono ?_;rintro e W1 ⟨rfl,rfl⟩);go_ret;exact⟨rfl,rfl⟩
theorem yp (w:World)(h:ed w p g eb cap L):Calls Tryz.prog 213 #[aI p] w fun e w'=>∃v,e= .returned v∧aC 3 w' w.heap.size v L∧af aA w w':=by
 have hp:ba w p 0 (aI g):=h.az.ag rfl;have HC:=ae<|nt (i:=0) w h.sp av;clear h
 go_enter Tryz.func213,Tryz.ntmps213
 go_wp2_with (go_at_call 189;refine HC.mono ?_;rintro e W1 ⟨v,rfl,h1,h2⟩);go_ret;exact⟨v,rfl,h1,h2⟩
theorem fz{P:Prop}(h:P:=by
 go_wp2_with (go_at_call 214;refine HC.mono ?_;rintro e W1 ⟨rfl,rfl⟩);go_ret;exact⟨rfl,rfl⟩):P:=h
theorem qJ {b:Int}(w:World)(h:ed w p g eb cap L)(hb:b∉L):Calls Tryz.prog 217 #[aI p,ah b] w fun e w'=>e= .returned (.bool false)∧w=w':=by
 have HC:=jm b w h;rw[decide_eq_false hb]at HC;have HC:=ae HC;clear h hb
 go_enter Tryz.func217,Tryz.ntmps217
 exact fz
theorem rV {n:Nat}(w:World)(h:ed w p g eb cap L)(hb:(n:Int)∈L):Calls Tryz.prog 217 #[aI p,ah n] w fun e w'=>e= .returned (.bool true)∧ed w' p g eb cap (n :: L.erase n)∧af (iu g eb) w w':=by
 have HC:=jm (n:Int) w h;rw[decide_eq_true hb]at HC;have HC:=ae HC;have hn:n<64:=by have:=(h.sp.gr (i:=0) hb).2;omega
 have HF:=di (i:=0) w h.sp av hn;rw[kn,mf]at HF;have HF:=ae HF;have hp:ba w p 0 (aI g):=h.az.ag rfl;have H:=ae h;clear h hb
 go_enter Tryz.func217,Tryz.ntmps217
 go_wp2_with (first|(go_at_call 214;refine HC.mono ?_;rintro e W1 ⟨rfl,rfl⟩)|(go_at_call 188;refine HF.mono ?_;rintro e W1 ⟨rfl,h1,h2⟩));go_ret;exact⟨rfl,H.step h2 h1,h2⟩
theorem BD {b:Int}(w:World)(h:ed w p g eb cap L)(hb:b∉L):Calls Tryz.prog 216 #[aI p,ah b] w fun e w'=>e= .returned (.bool false)∧w=w':=by
 have HC:=jm b w h;rw[decide_eq_false hb]at HC;have HC:=ae HC;clear h hb
 go_enter Tryz.func216,Tryz.ntmps216
 exact fz
theorem yk {n:Nat}(w:World)(h:ed w p g eb cap L)(hb:(n:Int)∈L):Calls Tryz.prog 216 #[aI p,ah n] w fun e w'=>e= .returned (.bool true)∧ed w' p g eb cap (L.erase n)∧af (iu g eb) w w':=by
 have HC:=jm (n:Int) w h;rw[decide_eq_true hb]at HC;have HC:=ae HC;have HF:=dQ (i:=0) w h.sp hb;rw[kn]at HF;have HF:=ae HF;have hp:ba w p 0 (aI g):=h.az.ag rfl;have H:=ae h;clear h hb
 go_enter Tryz.func216,Tryz.ntmps216
 go_wp2_with (first|(go_at_call 214;refine HC.mono ?_;rintro e W1 ⟨rfl,rfl⟩)|(go_at_call 187;refine HF.mono ?_;rintro e W1 ⟨rfl,h1,h2⟩));go_ret;exact⟨rfl,H.step h2 h1,h2⟩
end
section
variable {p g eb cap:Nat}{L:List Int}
def jn (p g eb cap:Nat)(L:List Int)(b:Int)(w:World)(e:Ending)(w':World):Prop:=
 e= .returned (.tuple #[ah (bH cap L b).2.1,.bool (bH cap L b).2.2,ah 0])∧ed w' p g eb cap (bH cap L b).1∧af (iu g eb) w w'
theorem qK {n:Nat}(w:World)(h:ed w p g eb cap L)(hb:(n:Int)∈L):Calls Tryz.prog 212 #[aI p,ah n] w (jn p g eb cap L n w):=by
 have HU:=ae<|rV w h hb;have HA:=aH (bH cap L n=((n:Int) :: L.erase n,0,false)) (if_pos hb);clear h hb
 go_enter Tryz.func212,Tryz.ntmps212
 go_wp2_with (go_at_call 217;refine HU.mono ?_;rintro e W1 ⟨rfl,h1,h2⟩)
 go_ret3
 unfold jn;rw[HA.out];exact⟨rfl,h1,h2⟩
theorem pB {n:Nat}(w:World)(h:ed w p g eb cap L)(hn:n<64)(hl:L.length≤cap)(hb:(n:Int)∉L):Calls Tryz.prog 212 #[aI p,ah n] w (jn p g eb cap L n w):=by
 have HU:=ae<|qJ w h hb;have HF:=di (i:=0) w h.sp av hn;rw[kn,mf,List.erase_of_not_mem hb]at HF;have HF:=ae HF;have hp:ba w p 0 (aI g):=h.az.ag rfl;have H:=ae h;have zf:=h.c1;have P4:=h.B2;have HB:=ae hb;clear h hb
 go_enter Tryz.func212,Tryz.ntmps212
 go_upto_region 8 with(first|(go_at_call 217;refine HU.mono ?_;rintro e W1 ⟨rfl,rfl⟩)|(go_at_call 188;refine HF.mono ?_;rintro e W1 ⟨rfl,h1,h2⟩));have Ax:=ae<|H.step h2 h1;have bw:=ae h2;clear h1 h2 HU HF H hp;have xc:ed W1.drew p g eb cap (n :: L):=(Ax.ao ((af.ak aA W1).drew) id id id);have zn:=ae xc;have hp:ba W1 p 0 (aI g):=Ax.az.ag rfl;have Ki:aF W1 p 1 cap:=Ax.az.ag rfl;have hle:=yn W1.drew xc;rw[List.length_cons]at hle;have xj:=ae hle;have bR:=ae bw.drew;clear hle xc bw Ax
 by_cases aO:L.length<cap
 ·have HA:=ae (show bH cap L n=((n:Int) :: L,0,false) by unfold bH;rw[if_neg HB.out,if_pos aO]);have NV:((L.length+1:Nat):Int)≤cap:=ai;generalize L.length+1=k at *;clear aO hl;refine kb (fun w':World=>w'=W1.drew) 6 ?_ ?_
  ·rfl
  intro aX;refine eZ [0,2,3,4,5] ?_;refine lh 1 fun K hK=>?_
  go_simp;refine xj.mono ?_;rintro e W9 ⟨rfl,rfl⟩;refine lj hK ?_ fun aX=>?_
  ·rfl
  clear hK;refine jz ?_;clear aX xj Ki;go_wp2
  go_ret3
  unfold jn;rw[HA.out];exact⟨rfl,zn,bR⟩
 ·have hne:L≠[]:=by rintro rfl;simp at aO;omega
  have AE:one (n :: L) 0≠[]:=by simp[one]
  have lv:=gU 0 W1.drew zn.sp av;rw[if_neg AE,show one ((n:Int) :: L) 0=(n:Int) :: L from rfl,ch,if_neg hne]at lv;have HA:=ae (show bH cap L n=((n:Int) :: L.erase (ez L),ez L,true) by unfold bH;rw[if_neg HB.out,if_neg aO]);have E6:ez L∈L:=yj (fun e=>by
   have w7:=fun x hx=>(zn.sp.gr (i:=0) (b:=x) hx).1
   have h3:=w7 (ez ((n:Int) :: L));rw[ch,if_neg hne,e]at h3;have:L.getLast hne∈L:=List.getLast_mem hne;have h4:=w7 (L.getLast hne) (List.mem_cons_of_mem _ this);have h5:ez L=L.getLast hne:=by unfold ez;rw[List.getLastD_eq_getLast?,List.getLast?_eq_some_getLast hne];rfl
   omega)
  have CJ:=zn.sp.gr (i:=0) (List.mem_cons_of_mem _ E6);have J0:ez L≠n:=fun e=>HB (e▸E6)
  have KE:((n:Int) :: L).erase (ez L)=(n:Int) :: L.erase (ez L):=List.erase_cons_tail (by simpa using fun e=>J0 e.symm);have nN:ez L∈one (n :: L) 0:=List.mem_cons_of_mem _ E6;generalize ez L=v at *;obtain⟨v,rfl⟩:=Int.eq_ofNat_of_zero_le CJ.1;have tV:=dQ (i:=0) W1.drew zn.sp nN;rw[kn,KE]at tV;have tV:=ae tV;have lv:=ae lv;have NV:¬((L.length+1:Nat):Int)≤cap:=ai;generalize L.length+1=k at *;clear aO hl hne AE E6 CJ J0 KE nN;refine kb (fun w':World=>w'=W1.drew) 6 ?_ ?_
  ·rfl
  intro aX;refine eZ [0,2,3,4,5] ?_;refine lh 1 fun K hK=>?_
  go_simp;refine xj.mono ?_;rintro e W9 ⟨rfl,rfl⟩;refine lj hK ?_ fun aX=>?_
  ·rfl
  clear hK;refine jz ?_;clear aX xj Ki;have Qx:ba W1.drew p 0 (aI g):=hp;clear hp;generalize W1.drew=W2 at *;go_wp2_with (first|(go_at_call 192;refine lv.mono ?_;rintro e W3 ⟨rfl,rfl⟩)|(go_at_call 187;refine tV.mono ?_;rintro e W4 ⟨rfl,h3,h4⟩))
  go_ret3
  unfold jn;rw[HA.out];exact⟨rfl,zn.step h4 h3,bR.trans h4⟩
theorem rQ:one []=fun _=>[]:=by
 funext i
 unfold one
 split<;>rfl
theorem ym {cap:Nat}(w:World)(h1:1≤cap)(FF:cap≤16):
 Calls Tryz.prog 84 #[ah cap] w fun e w'=>∃p g eb,e= .returned (aI p)∧ed w' p g eb cap []∧w.heap.size≤p∧w.heap.size≤g∧w.heap.size≤eb∧af aA w w':=by
 have HN:=aH (Calls Tryz.prog 112 #[ah 1] w (sc 1 w)) (nk (m:=1) w av av);have h2:(cap:Int)≤16:=ai
 by_cases hc:cap≤1
 ·have Fw:(cap:Int)≤1:=ai;have e1:=ae (show(1:Int)=cap by omega)
  go_enter Tryz.func84,Tryz.ntmps84
  go_wp2_with (go_at_call 112;refine HN.mono ?_;rintro e W1 ⟨g,eb,rfl,h3,h4,h5,h6⟩);go_ret;refine⟨W1.heap.size,g,eb,rfl,⟨?_,by rw[rQ];exact h3.keep ((af.ak aA W1).alloc _),h1,FF⟩,h6.size,h4,h5,h6.alloc _⟩;rw[←e1.out];exact Box.fresh _ _ _
 ·have Fw:¬(cap:Int)≤1:=ai;have rp:(1:Int)≤cap:=ai
  go_enter Tryz.func84,Tryz.ntmps84
  go_wp2_with (go_at_call 112;refine HN.mono ?_;rintro e W1 ⟨g,eb,rfl,h3,h4,h5,h6⟩);go_ret;exact⟨W1.heap.size,g,eb,rfl,⟨Box.fresh _ _ _,by rw[rQ];exact h3.keep ((af.ak aA W1).alloc _),h1,FF⟩,h6.size,h4,h5,h6.alloc _⟩
end
structure ee (t:TypeId)(x:Value)(name:String)(f:Nat):Prop where
 m:∀w,(method 387 t x name).run Tryz.prog w= .ok (f,x) w
 e:∀args w,(callFunc f args).run Tryz.prog w= .ok (.enter f args) w
structure C9 where
 has:Nat
 use:Nat
 add:Nat
 rem:Nat
 all:Nat
 len:Nat
structure oz (σ:Type) where
 all:σ→List Int
 use:σ→Int→σ
 add:σ→Int→σ×Int×Bool
 rem:σ→Int→σ
 sk:σ→Nat
 takes:Int→Prop
def jH:Nat:=1000000000
structure xz {σ:Type}(sp:oz σ)(t:TypeId)(x:Value)(fn:C9)(F:Nat→Prop)(R:σ→World→Prop):Prop where
 uB : ee t x "Has" fn.has
 uz : ee t x "Use" fn.use
 uD : ee t x "Add" fn.add
 uA : ee t x "Remove" fn.rem
 uC : ee t x "All" fn.all
 ptr:∃p,x=aI p∧F p
 ao:∀{s w w'} {S:Nat→Prop},R s w→af S w w'→(∀k,F k→¬S k)→R s w'
 lt:∀{s w},R s w→∀k,F k→k<w.heap.size
 has:∀{s w} (b:Int),R s w→Calls Tryz.prog fn.has #[x,ah b] w fun e w'=>e= .returned (.bool (decide (b∈sp.all s)))∧af aA w w'
 all:∀{s w},R s w→Calls Tryz.prog fn.all #[x] w fun e w'=>∃v,e= .returned v∧aC 3 w' w.heap.size v (sp.all s)∧af aA w w'
 use:∀{s w} {b:Int},R s w→b∈sp.all s→sp.sk s<jH→Calls Tryz.prog fn.use #[x,ah b] w fun e w'=>e= .returned (.bool true)∧R (sp.use s b) w'∧af F w w'
 add:∀{s w} {b:Int},R s w→0≤b→b<64→sp.takes b→sp.sk s<jH→
  Calls Tryz.prog fn.add #[x,ah b] w fun e w'=>e= .returned (.tuple #[ah (sp.add s b).2.1,.bool (sp.add s b).2.2,ah 0])∧R (sp.add s b).1 w'∧af F w w'
 rem:∀{s w} {b:Int},R s w→b∈sp.all s→Calls Tryz.prog fn.rem #[x,ah b] w fun e w'=>e= .returned (.bool true)∧R (sp.rem s b) w'∧af F w w'
 gr:∀{s w} {b:Int},R s w→b∈sp.all s→0≤b∧b<64
 nodup:∀{s w},R s w→(sp.all s).Nodup
 xx:∀{s w} {b:Int},R s w→0≤b→b<64→sp.takes b→
  ((sp.add s b).2.2=false∧(sp.add s b).2.1=0∧∀y,y∈sp.all (sp.add s b).1↔y=b∨y∈sp.all s)∨
  ((sp.add s b).2.2=true∧(sp.add s b).2.1∈sp.all s∧b∉sp.all s∧∀y,y∈sp.all (sp.add s b).1↔y=b∨(y∈sp.all s∧y≠(sp.add s b).2.1))
 xn:∀{s w} {b:Int},R s w→b∈sp.all s→∀y,y∈sp.all (sp.use s b)↔y∈sp.all s
 su:∀{s w} {b:Int},R s w→b∈sp.all s→∀y,y∈sp.all (sp.rem s b)↔y∈sp.all s∧y≠b
 AQ:∀s b,sp.sk (sp.use s b)≤sp.sk s+1
 AU:∀s b,sp.sk (sp.add s b).1≤sp.sk s+1
 AR:∀s b,sp.sk (sp.rem s b)≤sp.sk s
def zr (cap:Nat):oz (List Int):=⟨fun L=>L,fun L b=>b :: L.erase b,bH cap,fun L b=>L.erase b,fun _=>0,fun _=>True⟩
def jZ:C9:=⟨214,217,212,216,213,215⟩
def lr (p g eb:Nat):Nat→Prop:=fun k=>k=p∨k=g∨k=eb
def AA (p g eb cap:Nat)(L:List Int)(w:World):Prop:=ed w p g eb cap L∧L.length≤cap
theorem oQ {L:List Int}(h:L≠[]):ez L∈L:=by
 cases L with
 |nil=>exact absurd rfl h
 |cons a L=>
  clear h
  induction L generalizing a with
  |nil=>exact List.mem_cons_self ..
  |cons c L ih=>
   rw[ch,if_neg (by simp)];exact List.mem_cons_of_mem _ (ih c)
theorem qL {cap:Nat}{L:List Int}{b:Int}(hn:L.Nodup)(h1:1≤cap):
 ((bH cap L b).2.2=false∧(bH cap L b).2.1=0∧∀y,y∈(bH cap L b).1↔y=b∨y∈L)∨
 ((bH cap L b).2.2=true∧(bH cap L b).2.1∈L∧b∉L∧∀y,y∈(bH cap L b).1↔y=b∨(y∈L∧y≠(bH cap L b).2.1)):=by
 unfold bH
 by_cases hb:b∈L
 ·rw[if_pos hb];refine .inl ⟨rfl,rfl,fun y=>?_⟩;rw[List.mem_cons,hn.mem_erase_iff];exact⟨fun h=>h.imp id fun h=>h.2,fun h=>by
   by_cases e:y=b
   ·exact .inl e
   ·exact .inr ⟨e,h.resolve_left e⟩⟩
 ·rw[if_neg hb]
  split
  ·exact .inl ⟨rfl,rfl,fun y=>List.mem_cons⟩
  ·rename_i h2
   have hne:L≠[]:=by rintro rfl;simp at h2;omega
   refine .inr ⟨rfl,oQ hne,hb,fun y=>?_⟩;rw[List.mem_cons,hn.mem_erase_iff];exact⟨fun h=>h.imp id fun h=>⟨h.2,h.1⟩,fun h=>h.imp id fun h=>⟨h.2,h.1⟩⟩
theorem qM {cap:Nat}{L:List Int}{b:Int}(h1:1≤cap)(h:L.length≤cap):(bH cap L b).1.length≤cap:=by
 unfold bH
 split
 ·rename_i hb
  have:=List.length_pos_of_mem hb
  show(b :: L.erase b).length≤cap
  rw[List.length_cons,List.length_erase_of_mem hb];omega
 ·split
  ·rename_i h2
   show(b :: L).length≤cap
   rw[List.length_cons];omega
  ·rename_i h2
   show(b :: L.erase (ez L)).length≤cap
   rw[List.length_cons,List.length_erase]
   split
   ·omega
   ·rename_i h3
    exfalso
    apply h3;have h4:L≠[]:=by rintro rfl;simp at h2;omega
    cases L with
    |nil=>exact absurd rfl h4
    |cons a L=>
     have:∀(L:List Int) (a:Int),ez (a :: L)∈a :: L:=fun L=>by
      induction L with
      |nil=>intro a;exact List.mem_cons_self ..
      |cons c L ih=>
       intro a;rw[ch,if_neg (by simp)];exact List.mem_cons_of_mem _ (ih c)
     simpa using this L a
theorem iu.wW {p g eb k:Nat}(h:iu g eb k):lr p g eb k:=.inr h
theorem gT (p : Nat) : ee 157 (aI p) "Has" jZ.has ∧ ee 157 (aI p) "Use" jZ.use ∧ ee 157 (aI p) "Add" jZ.add ∧
 ee 157 (aI p) "Remove" jZ.rem ∧ ee 157 (aI p) "All" jZ.all ∧ ee 157 (aI p) "Len" jZ.len :=
 ⟨⟨fun w=>by kernel_rfl,fun a w=>by kernel_rfl⟩,⟨fun w=>by kernel_rfl,fun a w=>by kernel_rfl⟩,⟨fun w=>by kernel_rfl,fun a w=>by kernel_rfl⟩,
  ⟨fun w=>by kernel_rfl,fun a w=>by kernel_rfl⟩,⟨fun w=>by kernel_rfl,fun a w=>by kernel_rfl⟩,⟨fun w=>by kernel_rfl,fun a w=>by kernel_rfl⟩⟩
theorem yl (p g eb cap:Nat):xz (zr cap) 157 (aI p) jZ (lr p g eb) (AA p g eb cap) where
 uB:=(gT p).1
 uz:=(gT p).2.1
 uD:=(gT p).2.2.1
 uA:=(gT p).2.2.2.1
 uC:=(gT p).2.2.2.2.1
 ptr:=⟨p,rfl,.inl rfl⟩
 ao:=fun h ho hF=>⟨h.1.ao ho (hF p (.inl rfl)) (hF g (.inr (.inl rfl))) (hF eb (.inr (.inr rfl))),h.2⟩
 lt:=fun h k hk=>by
  rcases hk with rfl|rfl|rfl
  ·exact h.1.az.lt
  ·exact h.1.sp.BN.1
  ·exact h.1.sp.BN.2
 has:=fun b h=>(jm b _ h.1).mono fun e w' ⟨h1,h2⟩=>⟨h1,h2▸af.ak _ _⟩
 all:=fun h=>yp _ h.1
 use:=fun {s w b} h hb _=>by
  obtain⟨n,rfl⟩:=Int.eq_ofNat_of_zero_le (h.1.sp.gr (i:=0) hb).1;refine(rV w h.1 hb).mono fun e w' ⟨h1,h2,h3⟩=>⟨h1,⟨h2,?_⟩,h3.mono fun k hk=>.inl hk.wW⟩
  have hb:(n:Int)∈s:=hb;have:=List.length_pos_of_mem hb;have:=h.2
  show((n:Int) :: s.erase n).length≤cap
  rw[List.length_cons,List.length_erase_of_mem hb];omega
 add:=fun {s w b} h h0 h1 _ _=>by
  obtain⟨n,rfl⟩:=Int.eq_ofNat_of_zero_le h0;have hl:=qM (b:=(n:Int)) h.1.c1 h.2
  by_cases hb:(n:Int)∈s
  ·exact(qK w h.1 hb).mono fun e w' ⟨h2,h3,h4⟩=>⟨h2,⟨h3,hl⟩,h4.mono fun k hk=>.inl hk.wW⟩
  ·exact(pB w h.1 ai h.2 hb).mono fun e w' ⟨h2,h3,h4⟩=>⟨h2,⟨h3,hl⟩,h4.mono fun k hk=>.inl hk.wW⟩
 rem:=fun {s w b} h hb=>by
  obtain⟨n,rfl⟩:=Int.eq_ofNat_of_zero_le (h.1.sp.gr (i:=0) hb).1;refine(yk w h.1 hb).mono fun e w' ⟨h1,h2,h3⟩=>⟨h1,⟨h2,?_⟩,h3.mono fun k hk=>.inl hk.wW⟩
  have hb:(n:Int)∈s:=hb;have:=h.2
  show(s.erase n).length≤cap
  rw[List.length_erase_of_mem hb];omega
 gr:=fun h hb=>h.1.sp.gr (i:=0) hb
 nodup:=fun h=>h.1.sp.nodup 0
 xx:=fun h _ _ _=>qL (h.1.sp.nodup 0) h.1.c1
 xn:=fun {s w b} h hb y=>by
  have hb:b∈s:=hb
  show y∈b :: s.erase b↔y∈s
  rw[List.mem_cons,(show s.Nodup from h.1.sp.nodup 0).mem_erase_iff];exact⟨fun h=>h.elim (fun e=>e▸hb) fun h=>h.2,fun h=>by
   by_cases e:y=b
   ·exact .inl e
   ·exact .inr ⟨e,h⟩⟩
 su:=fun {s w b} h hb y=>by
  show y∈s.erase b↔y∈s∧y≠b
  rw[(show s.Nodup from h.1.sp.nodup 0).mem_erase_iff];exact⟨fun h=>⟨h.2,h.1⟩,fun h=>⟨h.2,h.1⟩⟩
 AQ:=fun _ _=>Nat.le_succ _
 AU:=fun _ _=>Nat.le_succ _
 AR:=fun _ _=>Nat.le_refl _
structure aZ where
 σ:Type
 ι:Type
 sp:oz σ
 t:TypeId
 fn:C9
 x:ι→Value
 F:ι→Nat→Prop
 R:ι→σ→World→Prop
 s0:σ
 oc:∀i,xz sp t (x i) fn (F i) (R i)
 nil:sp.all s0= []
def lB (cap:Nat):aZ:=⟨List Int,Nat×Nat×Nat,zr cap,157,jZ,fun i=>aI i.1,fun i=>lr i.1 i.2.1 i.2.2,fun i=>AA i.1 i.2.1 i.2.2 cap,[],fun i=>yl i.1 i.2.1 i.2.2 cap,rfl⟩
def ly (g:Nat)(cap wB zg:Nat→Int):Array Value:=Array.ofFn (n:=74) fun i=>if i.1=0 then aI g else if i.1<5 then ah (cap (i.1 - 1))else if i.1<69 then ah (wB (i.1 - 5))else ah (zg (i.1 - 69))
theorem JI (g:Nat)(cap wB zg:Nat→Int):(ly g cap wB zg)[0]? =some (aI g):=by simp[ly]
theorem EA (g:Nat)(cap wB zg:Nat→Int){i:Nat}(hi:i<4):(ly g cap wB zg)[1+i]? =some (ah (cap i)):=by
 have h1:1+i<74:=ai;have h2:1+i≠0:=ai;have h3:1+i<5:=ai;have h4:1+i - 1=i:=ai;simp only[ly,Array.getElem?_ofFn,h1,dite_true,h2,if_false,h3,if_true,h4]
theorem zL (g:Nat)(cap wB zg:Nat→Int){i:Nat}(hi:i<4)(v:Int)(DS:Nat→Int)(hc:∀j,j<4→DS j=if j=i then v else cap j):(ly g cap wB zg).setIfInBounds (1+i) (ah v)=ly g DS wB zg:=by
 refine Array.ext (by simp[ly]) fun j h1 h2=>?_
 have hj:j<74:=by simpa [ly] using h2
 rw[Array.getElem_setIfInBounds (by simpa [ly] using hj)];simp only[ly,Array.getElem_ofFn]
 by_cases e:1+i=j
 ·subst e;rw[if_pos rfl,if_neg ai,if_pos ai,hc (1+i - 1) ai,if_pos ai]
 ·rw[if_neg e]
  by_cases e0:j=0
  ·rw[if_pos e0,if_pos e0]
  ·rw[if_neg e0,if_neg e0]
   by_cases e5:j<5
   ·rw[if_pos e5,if_pos e5,hc (j - 1) ai,if_neg ai]
   ·rw[if_neg e5,if_neg e5]
def P6 (k0 k1 k2:Int)(t:Nat):Nat→Int:=fun i=>if i=1∧1≤t then k0 else if i=2∧2≤t then k1 else if i=3∧3≤t then k2 else 0
theorem wS {P:Program}{ops:Array Oper}{rest:List Oper}{o:Oper}{a:Act}{w:World}{Q:Exit→Act→World→Prop}(jX:o.guard=none)(t:TypeId)(parts:Array (Nat×Operand))(ho:o.op= .build t parts)
 (pv:List (Nat×Value)) (cells:Array Value) (hf:(parts.map fun(i,x)=>(i,a.eval x)).toList=pv) (hb:P.built t pv=some cells) (h:wpList P ops Q rest (a.put o.dst (.agg cells)) w):wpList P ops Q (o :: rest) a w:=
 wpList_plain jX fun K hK=>Go.wp_build t parts ho (by rw[hf,hb];rfl) (by rw[hf,hb];exact hK _ _ h)
section
end
end Go.Proofs.YtpcfhbeakecihaaGreat
