/- Lemmas. -/
import Derived.Test.YtpcfhbeakecihaaGreatM20
import Derived.Handy
set_option linter.all false
set_option maxHeartbeats 20000000
set_option maxRecDepth 100000
namespace Go.Proofs.YtpcfhbeakecihaaGreat
open Go.ChangeShapes Go.RowKit Go.WideShapes
def one (L:List Int):Nat→List Int:=fun i=>if i=0 then L else[]
theorem uP (L:List Int)(b:Int):cu (one L) b=one (L.erase b):=by
 funext i
 unfold cu one
 split<;>rfl
theorem yi (L:List Int)(b:Int):bm (one L) 0 b=one (b :: L):=by
 funext i
 unfold bm ba one
 split
 ·rename_i e;subst e;rfl
 ·rfl
theorem Pu {L:List Int}{b:Int}(h:b∉L):∀i,b∉one L i:=fun i hi=>by
 unfold one at hi
 split at hi
 ·exact h hi
 ·cases hi
theorem iA.nodup {w:World}{g eb m:Nat}{S:Nat→List Int}(h:iA w g eb m S)(i:Nat):(S i).Nodup:=by
 obtain⟨N,E,_,hr,_⟩:=h;exact hr.nodup i
theorem iA.lC {w:World}{g eb m:Nat}{S:Nat→List Int}(h:iA w g eb m S){i:Nat}{b:Int}(hb:b∈S i):0≤b∧b<64:=by
 obtain⟨N,E,_,hr,_⟩:=h;exact hr.lC hb
theorem iA.UE {w:World}{g eb m:Nat}{S:Nat→List Int}(h:iA w g eb m S):g<w.heap.size∧eb<w.heap.size:=by
 obtain⟨N,E,hm,_⟩:=h;exact⟨hm.1.lt,hm.2.lt⟩
theorem iA.off {w:World}{g eb m:Nat}{S:Nat→List Int}(h:iA w g eb m S){p:Nat}{t:TypeId}{cs:Array Value}(hb:Box w p t cs)(h1:t≠227)(h2:t≠229):p≠g∧p≠eb:=by
 obtain⟨N,E,hm,_⟩:=h;exact⟨hb.off hm.1 h1,hb.off hm.2 h2⟩
structure kP (w:World)(p g eb cap:Nat)(L:List Int):Prop where
 ak:Box w p 206 #[aO g,ah cap]
 sp:iA w g eb 1 (one L)
 c1:1≤cap
 M9:cap≤16
theorem kP.ar {w w':World}{p g eb cap:Nat}{L:List Int}{F:Nat→Prop}(h:kP w p g eb cap L)(ho:af F w w')(h1:¬F p)(h2:¬F g)(h3:¬F eb):kP w' p g eb cap L:=
 ⟨ho.ak h.ak h1,h.sp.ar ho h2 h3,h.c1,h.M9⟩
theorem kP.step {w w':World}{p g eb cap:Nat}{L L':List Int}(h:kP w p g eb cap L)(ho:af (ra g eb) w w')(hs:iA w' g eb 1 (one L')):kP w' p g eb cap L':=by
 obtain⟨h1,h2⟩:=h.sp.off h.ak aE aE;exact⟨ho.ak h.ak (fun e=>e.elim h1 h2),hs,h.c1,h.M9⟩
def bZ (cap:Nat)(L:List Int)(b:Int):List Int×Int×Bool:=
 if b∈L then(b :: L.erase b,0,false)else if L.length<cap then(b :: L,0,false)else(b :: L.erase (gU L),gU L,true)
section
variable {p g eb cap:Nat}{L:List Int}
theorem ox{P:Prop}(h:P:=by
 clear h hb
 go_enter Tryz.func214,Tryz.ntmps214
 go_wp2_with (go_at_call 190;refine HC.mono ?_;rintro e W1 ⟨rfl,rfl⟩);go_ret;exact⟨rfl,rfl⟩):P:=h
theorem sG (b:Int)(w:World)(h:kP w p g eb cap L):
 Calls Tryz.prog 214 #[aO p,ah b] w fun e w'=>e= .returned (.bool (decide (b∈L)))∧w=w':=by
 have hp:aM w p 0 (aO g):=h.ak.ag rfl
 by_cases hb:b∈L
 ·have HC:=ae<|BF (i:=0) w h.sp hb;rw[decide_eq_true hb];exact ox
 ·have HC:=ae<|Fv w h.sp (Pu hb);rw[decide_eq_false hb];exact ox
theorem PK (w:World)(h:kP w p g eb cap L):Calls Tryz.prog 215 #[aO p] w fun e w'=>e= .returned (ah L.length)∧w=w':=by
 have hp:aM w p 0 (aO g):=h.ak.ag rfl;have HC:=ae<|my 0 w h.sp aE;clear h
 go_enter Tryz.func215,Tryz.ntmps215
 go_wp2_with (go_at_call 185;refine HC.mono ?_;rintro e W1 ⟨rfl,rfl⟩);go_ret;exact⟨rfl,rfl⟩
theorem PL (w:World)(h:kP w p g eb cap L):Calls Tryz.prog 213 #[aO p] w fun e w'=>∃v,e= .returned v∧aA 3 w' w.heap.size v L∧af au w w':=by
 have hp:aM w p 0 (aO g):=h.ak.ag rfl;have HC:=ae<|zS (i:=0) w h.sp aE;clear h
 go_enter Tryz.func213,Tryz.ntmps213
 go_wp2_with (go_at_call 189;refine HC.mono ?_;rintro e W1 ⟨v,rfl,h1,h2⟩);go_ret;exact⟨v,rfl,h1,h2⟩
theorem Ey {b:Int}(w:World)(h:kP w p g eb cap L)(hb:b∉L):Calls Tryz.prog 217 #[aO p,ah b] w fun e w'=>e= .returned (.bool false)∧w=w':=by
 have HC:=sG b w h;rw[decide_eq_false hb]at HC;have HC:=ae HC;clear h hb
 go_enter Tryz.func217,Tryz.ntmps217
 go_wp2_with (go_at_call 214;refine HC.mono ?_;rintro e W1 ⟨rfl,rfl⟩);go_ret;exact⟨rfl,rfl⟩
theorem FX {n:Nat}(w:World)(h:kP w p g eb cap L)(hb:(n:Int)∈L):Calls Tryz.prog 217 #[aO p,ah n] w fun e w'=>e= .returned (.bool true)∧kP w' p g eb cap (n :: L.erase n)∧af (ra g eb) w w':=by
 have HC:=sG (n:Int) w h;rw[decide_eq_true hb]at HC;have HC:=ae HC;have hn:n<64:=by have:=(h.sp.lC (i:=0) hb).2;omega
 have HF:=iW (i:=0) w h.sp aE hn;rw[uP,yi]at HF;have HF:=ae HF;have hp:aM w p 0 (aO g):=h.ak.ag rfl;have H:=ae h;clear h hb
 go_enter Tryz.func217,Tryz.ntmps217
 go_wp2_with (first|(go_at_call 214;refine HC.mono ?_;rintro e W1 ⟨rfl,rfl⟩)|(go_at_call 188;refine HF.mono ?_;rintro e W1 ⟨rfl,h1,h2⟩));go_ret;exact⟨rfl,H.step h2 h1,h2⟩
theorem PH {n:Nat}(w:World)(h:kP w p g eb cap L)(hb:(n:Int)∈L):Calls Tryz.prog 216 #[aO p,ah n] w fun e w'=>e= .returned (.bool true)∧kP w' p g eb cap (L.erase n)∧af (ra g eb) w w':=by
 have HC:=sG (n:Int) w h;rw[decide_eq_true hb]at HC;have HC:=ae HC;have HF:=ku (i:=0) w h.sp hb;rw[uP]at HF;have HF:=ae HF;have hp:aM w p 0 (aO g):=h.ak.ag rfl;have H:=ae h;clear h hb
 go_enter Tryz.func216,Tryz.ntmps216
 go_wp2_with (first|(go_at_call 214;refine HC.mono ?_;rintro e W1 ⟨rfl,rfl⟩)|(go_at_call 187;refine HF.mono ?_;rintro e W1 ⟨rfl,h1,h2⟩));go_ret;exact⟨rfl,H.step h2 h1,h2⟩
end
section
variable {p g eb cap:Nat}{L:List Int}
def sL (p g eb cap:Nat)(L:List Int)(b:Int)(w:World)(e:Ending)(w':World):Prop:=
 e= .returned (.tuple #[ah (bZ cap L b).2.1,.bool (bZ cap L b).2.2,ah 0])∧kP w' p g eb cap (bZ cap L b).1∧af (ra g eb) w w'
theorem Ez {n:Nat}(w:World)(h:kP w p g eb cap L)(hb:(n:Int)∈L):Calls Tryz.prog 212 #[aO p,ah n] w (sL p g eb cap L n w):=by
 have HU:=ae<|FX w h hb;have HA:=aq (bZ cap L n=((n:Int) :: L.erase n,0,false)) (if_pos hb);clear h hb
 go_enter Tryz.func212,Tryz.ntmps212
 go_wp2_with (go_at_call 217;refine HU.mono ?_;rintro e W1 ⟨rfl,h1,h2⟩)
 go_ret3
 unfold sL;rw[HA.out];exact⟨rfl,h1,h2⟩
theorem CO {n:Nat}(w:World)(h:kP w p g eb cap L)(hn:n<64)(hl:L.length≤cap)(hb:(n:Int)∉L):Calls Tryz.prog 212 #[aO p,ah n] w (sL p g eb cap L n w):=by
 have HU:=ae<|Ey w h hb;have HF:=iW (i:=0) w h.sp aE hn;rw[uP,yi,List.erase_of_not_mem hb]at HF;have HF:=ae HF;have hp:aM w p 0 (aO g):=h.ak.ag rfl;have H:=ae h;have uE:=h.c1;have Yc:=h.M9;have HB:=ae hb;clear h hb
 go_enter Tryz.func212,Tryz.ntmps212
 go_upto_region 8 with(first|(go_at_call 217;refine HU.mono ?_;rintro e W1 ⟨rfl,rfl⟩)|(go_at_call 188;refine HF.mono ?_;rintro e W1 ⟨rfl,h1,h2⟩));have Sw:=ae<|H.step h2 h1;have bc:=ae h2;clear h1 h2 HU HF H hp;have NK:kP W1.drew p g eb cap (n :: L):=(Sw.ar ((af.ai au W1).drew) id id id);have Ki:=ae NK;have hp:aM W1 p 0 (aO g):=Sw.ak.ag rfl;have Jw:aF W1 p 1 cap:=Sw.ak.ag rfl;have hle:=PK W1.drew NK;rw[List.length_cons]at hle;have Ke:=ae hle;have bu:=ae bc.drew;clear hle NK bc Sw
 by_cases aY:L.length<cap
 ·have HA:=ae (show bZ cap L n=((n:Int) :: L,0,false) by unfold bZ;rw[if_neg HB.out,if_pos aY]);have hli:((L.length+1:Nat):Int)≤cap:=aj;generalize L.length+1=k at *;clear aY hl;refine gg (fun w':World=>w'=W1.drew) 6 ?_ ?_
  ·rfl
  intro aC;refine bE [0,2,3,4,5] ?_;refine cX 1 fun K hK=>?_
  go_simp;refine Ke.mono ?_;rintro e W9 ⟨rfl,rfl⟩;refine dy hK ?_ fun aC=>?_
  ·rfl
  clear hK;refine dE ?_;clear aC Ke Jw;go_wp2
  go_ret3
  unfold sL;rw[HA.out];exact⟨rfl,Ki,bu⟩
 ·have hne:L≠[]:=by rintro rfl;simp at aY;omega
  have Kv:one (n :: L) 0≠[]:=by simp[one]
  have lD:=p9 0 W1.drew Ki.sp aE;rw[if_neg Kv,show one ((n:Int) :: L) 0=(n:Int) :: L from rfl,eO,if_neg hne]at lD;have HA:=ae (show bZ cap L n=((n:Int) :: L.erase (gU L),gU L,true) by unfold bZ;rw[if_neg HB.out,if_neg aY]);have Z8:gU L∈L:=PG (fun e=>by
   have Jv:=fun x hx=>(Ki.sp.lC (i:=0) (b:=x) hx).1
   have h3:=Jv (gU ((n:Int) :: L));rw[eO,if_neg hne,e]at h3;have:L.getLast hne∈L:=List.getLast_mem hne;have h4:=Jv (L.getLast hne) (List.mem_cons_of_mem _ this);have h5:gU L=L.getLast hne:=by unfold gU;rw[List.getLastD_eq_getLast?,List.getLast?_eq_some_getLast hne];rfl
   omega)
  have Dc:=Ki.sp.lC (i:=0) (List.mem_cons_of_mem _ Z8);have Z7:gU L≠n:=fun e=>HB (e▸Z8)
  have her:((n:Int) :: L).erase (gU L)=(n:Int) :: L.erase (gU L):=List.erase_cons_tail (by simpa using fun e=>Z7 e.symm);have wV:gU L∈one (n :: L) 0:=List.mem_cons_of_mem _ Z8;generalize gU L=v at *;obtain⟨v,rfl⟩:=Int.eq_ofNat_of_zero_le Dc.1;have JH:=ku (i:=0) W1.drew Ki.sp wV;rw[uP,her]at JH;have JH:=ae JH;have lD:=ae lD;have hli:¬((L.length+1:Nat):Int)≤cap:=aj;generalize L.length+1=k at *;clear aY hl hne Kv Z8 Dc Z7 her wV;refine gg (fun w':World=>w'=W1.drew) 6 ?_ ?_
  ·rfl
  intro aC;refine bE [0,2,3,4,5] ?_;refine cX 1 fun K hK=>?_
  go_simp;refine Ke.mono ?_;rintro e W9 ⟨rfl,rfl⟩;refine dy hK ?_ fun aC=>?_
  ·rfl
  clear hK;refine dE ?_;clear aC Ke Jw;have Ge:aM W1.drew p 0 (aO g):=hp;clear hp;generalize W1.drew=W2 at *;go_wp2_with (first|(go_at_call 192;refine lD.mono ?_;rintro e W3 ⟨rfl,rfl⟩)|(go_at_call 187;refine JH.mono ?_;rintro e W4 ⟨rfl,h3,h4⟩))
  go_ret3
  unfold sL;rw[HA.out];exact⟨rfl,Ki.step h4 h3,bu.trans h4⟩
theorem FQ:one []=fun _=>[]:=by
 funext i
 unfold one
 split<;>rfl
theorem PJ {cap:Nat}(w:World)(h1:1≤cap)(Sf:cap≤16):
 Calls Tryz.prog 84 #[ah cap] w fun e w'=>∃p g eb,e= .returned (aO p)∧kP w' p g eb cap []∧w.heap.size≤p∧w.heap.size≤g∧w.heap.size≤eb∧af au w w':=by
 have HN:=aq (Calls Tryz.prog 112 #[ah 1] w (F9 1 w)) (zK (m:=1) w aE aE);have h2:(cap:Int)≤16:=aj
 by_cases hc:cap≤1
 ·have hc3:(cap:Int)≤1:=aj;have e1:=ae (show(1:Int)=cap by omega)
  go_enter Tryz.func84,Tryz.ntmps84
  go_wp2_with (go_at_call 112;refine HN.mono ?_;rintro e W1 ⟨g,eb,rfl,h3,h4,h5,h6⟩);go_ret;refine⟨W1.heap.size,g,eb,rfl,⟨?_,by rw[FQ];exact h3.keep ((af.ai au W1).alloc _),h1,Sf⟩,h6.size,h4,h5,h6.alloc _⟩;rw[←e1.out];exact Box.fresh _ _ _
 ·have hc3:¬(cap:Int)≤1:=aj;have De:(1:Int)≤cap:=aj
  go_enter Tryz.func84,Tryz.ntmps84
  go_wp2_with (go_at_call 112;refine HN.mono ?_;rintro e W1 ⟨g,eb,rfl,h3,h4,h5,h6⟩);go_ret;exact⟨W1.heap.size,g,eb,rfl,⟨Box.fresh _ _ _,by rw[FQ];exact h3.keep ((af.ai au W1).alloc _),h1,Sf⟩,h6.size,h4,h5,h6.alloc _⟩
end
structure kQ (t:TypeId)(x:Value)(name:String)(f:Nat):Prop where
 m:∀w,(method 387 t x name).run Tryz.prog w= .ok (f,x) w
 e:∀args w,(callFunc f args).run Tryz.prog w= .ok (.enter f args) w
structure WW where
 has:Nat
 use:Nat
 add:Nat
 rem:Nat
 all:Nat
 len:Nat
structure pQ (σ:Type) where
 all:σ→List Int
 use:σ→Int→σ
 add:σ→Int→σ×Int×Bool
 rem:σ→Int→σ
 jf:σ→Nat
 takes:Int→Prop
def da:Nat:=1000000000
structure OC {σ:Type}(sp:pQ σ)(t:TypeId)(x:Value)(fn:WW)(F:Nat→Prop)(R:σ→World→Prop):Prop where
 KB : kQ t x "Has" fn.has
 Kz : kQ t x "Use" fn.use
 KD : kQ t x "Add" fn.add
 KA : kQ t x "Remove" fn.rem
 KC : kQ t x "All" fn.all
 ptr:∃p,x=aO p∧F p
 ar:∀{s w w'} {S:Nat→Prop},R s w→af S w w'→(∀k,F k→¬S k)→R s w'
 lt:∀{s w},R s w→∀k,F k→k<w.heap.size
 has:∀{s w} (b:Int),R s w→Calls Tryz.prog fn.has #[x,ah b] w fun e w'=>e= .returned (.bool (decide (b∈sp.all s)))∧af au w w'
 all:∀{s w},R s w→Calls Tryz.prog fn.all #[x] w fun e w'=>∃v,e= .returned v∧aA 3 w' w.heap.size v (sp.all s)∧af au w w'
 use:∀{s w} {b:Int},R s w→b∈sp.all s→sp.jf s<da→Calls Tryz.prog fn.use #[x,ah b] w fun e w'=>e= .returned (.bool true)∧R (sp.use s b) w'∧af F w w'
 add:∀{s w} {b:Int},R s w→0≤b→b<64→sp.takes b→sp.jf s<da→
  Calls Tryz.prog fn.add #[x,ah b] w fun e w'=>e= .returned (.tuple #[ah (sp.add s b).2.1,.bool (sp.add s b).2.2,ah 0])∧R (sp.add s b).1 w'∧af F w w'
 rem:∀{s w} {b:Int},R s w→b∈sp.all s→Calls Tryz.prog fn.rem #[x,ah b] w fun e w'=>e= .returned (.bool true)∧R (sp.rem s b) w'∧af F w w'
 lC:∀{s w} {b:Int},R s w→b∈sp.all s→0≤b∧b<64
 nodup:∀{s w},R s w→(sp.all s).Nodup
 KF:∀{s w} {b:Int},R s w→0≤b→b<64→sp.takes b→
  ((sp.add s b).2.2=false∧(sp.add s b).2.1=0∧∀y,y∈sp.all (sp.add s b).1↔y=b∨y∈sp.all s)∨
  ((sp.add s b).2.2=true∧(sp.add s b).2.1∈sp.all s∧b∉sp.all s∧∀y,y∈sp.all (sp.add s b).1↔y=b∨(y∈sp.all s∧y≠(sp.add s b).2.1))
 N7:∀{s w} {b:Int},R s w→b∈sp.all s→∀y,y∈sp.all (sp.use s b)↔y∈sp.all s
 Gz:∀{s w} {b:Int},R s w→b∈sp.all s→∀y,y∈sp.all (sp.rem s b)↔y∈sp.all s∧y≠b
 KE:∀s b,sp.jf (sp.use s b)≤sp.jf s+1
 Ox:∀s b,sp.jf (sp.add s b).1≤sp.jf s+1
 Ow:∀s b,sp.jf (sp.rem s b)≤sp.jf s
def Rb (cap:Nat):pQ (List Int):=⟨fun L=>L,fun L b=>b :: L.erase b,bZ cap,fun L b=>L.erase b,fun _=>0,fun _=>True⟩
def uc:WW:=⟨214,217,212,216,213,215⟩
def wY (p g eb:Nat):Nat→Prop:=fun k=>k=p∨k=g∨k=eb
def SI (p g eb cap:Nat)(L:List Int)(w:World):Prop:=kP w p g eb cap L∧L.length≤cap
theorem B7 {L:List Int}(h:L≠[]):gU L∈L:=by
 cases L with
 |nil=>exact absurd rfl h
 |cons a L=>
  clear h
  induction L generalizing a with
  |nil=>exact List.mem_cons_self ..
  |cons c L ih=>
   rw[eO,if_neg (by simp)];exact List.mem_cons_of_mem _ (ih c)
theorem EA {cap:Nat}{L:List Int}{b:Int}(hn:L.Nodup)(h1:1≤cap):
 ((bZ cap L b).2.2=false∧(bZ cap L b).2.1=0∧∀y,y∈(bZ cap L b).1↔y=b∨y∈L)∨
 ((bZ cap L b).2.2=true∧(bZ cap L b).2.1∈L∧b∉L∧∀y,y∈(bZ cap L b).1↔y=b∨(y∈L∧y≠(bZ cap L b).2.1)):=by
 unfold bZ
 by_cases hb:b∈L
 ·rw[if_pos hb];refine .inl ⟨rfl,rfl,fun y=>?_⟩;rw[List.mem_cons,hn.mem_erase_iff];exact⟨fun h=>h.imp id fun h=>h.2,fun h=>by
   by_cases e:y=b
   ·exact .inl e
   ·exact .inr ⟨e,h.resolve_left e⟩⟩
 ·rw[if_neg hb]
  split
  ·exact .inl ⟨rfl,rfl,fun y=>List.mem_cons⟩
  ·rename_i h2
   have hne:L≠[]:=by rintro rfl;simp at h2;omega
   refine .inr ⟨rfl,B7 hne,hb,fun y=>?_⟩;rw[List.mem_cons,hn.mem_erase_iff];exact⟨fun h=>h.imp id fun h=>⟨h.2,h.1⟩,fun h=>h.imp id fun h=>⟨h.2,h.1⟩⟩
theorem EB {cap:Nat}{L:List Int}{b:Int}(h1:1≤cap)(h:L.length≤cap):(bZ cap L b).1.length≤cap:=by
 unfold bZ
 split
 ·rename_i hb
  have:=List.length_pos_of_mem hb
  show(b :: L.erase b).length≤cap
  rw[List.length_cons,List.length_erase_of_mem hb];omega
 ·split
  ·rename_i h2
   show(b :: L).length≤cap
   rw[List.length_cons];omega
  ·rename_i h2
   show(b :: L.erase (gU L)).length≤cap
   rw[List.length_cons,List.length_erase]
   split
   ·omega
   ·rename_i h3
    exfalso
    apply h3;have h4:L≠[]:=by rintro rfl;simp at h2;omega
    cases L with
    |nil=>exact absurd rfl h4
    |cons a L=>
     have:∀(L:List Int) (a:Int),gU (a :: L)∈a :: L:=fun L=>by
      induction L with
      |nil=>intro a;exact List.mem_cons_self ..
      |cons c L ih=>
       intro a;rw[eO,if_neg (by simp)];exact List.mem_cons_of_mem _ (ih c)
     simpa using this L a
theorem ra.Nt {p g eb k:Nat}(h:ra g eb k):wY p g eb k:=.inr h
theorem p8 (p : Nat) : kQ 157 (aO p) "Has" uc.has ∧ kQ 157 (aO p) "Use" uc.use ∧ kQ 157 (aO p) "Add" uc.add ∧
 kQ 157 (aO p) "Remove" uc.rem ∧ kQ 157 (aO p) "All" uc.all ∧ kQ 157 (aO p) "Len" uc.len :=
 ⟨⟨fun w=>by kernel_rfl,fun a w=>by kernel_rfl⟩,⟨fun w=>by kernel_rfl,fun a w=>by kernel_rfl⟩,⟨fun w=>by kernel_rfl,fun a w=>by kernel_rfl⟩,
  ⟨fun w=>by kernel_rfl,fun a w=>by kernel_rfl⟩,⟨fun w=>by kernel_rfl,fun a w=>by kernel_rfl⟩,⟨fun w=>by kernel_rfl,fun a w=>by kernel_rfl⟩⟩
theorem PI (p g eb cap:Nat):OC (Rb cap) 157 (aO p) uc (wY p g eb) (SI p g eb cap) where
 KB:=(p8 p).1
 Kz:=(p8 p).2.1
 KD:=(p8 p).2.2.1
 KA:=(p8 p).2.2.2.1
 KC:=(p8 p).2.2.2.2.1
 ptr:=⟨p,rfl,.inl rfl⟩
 ar:=fun h ho hF=>⟨h.1.ar ho (hF p (.inl rfl)) (hF g (.inr (.inl rfl))) (hF eb (.inr (.inr rfl))),h.2⟩
 lt:=fun h k hk=>by
  rcases hk with rfl|rfl|rfl
  ·exact h.1.ak.lt
  ·exact h.1.sp.UE.1
  ·exact h.1.sp.UE.2
 has:=fun b h=>(sG b _ h.1).mono fun e w' ⟨h1,h2⟩=>⟨h1,h2▸af.ai _ _⟩
 all:=fun h=>PL _ h.1
 use:=fun {s w b} h hb _=>by
  obtain⟨n,rfl⟩:=Int.eq_ofNat_of_zero_le (h.1.sp.lC (i:=0) hb).1;refine(FX w h.1 hb).mono fun e w' ⟨h1,h2,h3⟩=>⟨h1,⟨h2,?_⟩,h3.mono fun k hk=>.inl hk.Nt⟩
  have hb:(n:Int)∈s:=hb;have:=List.length_pos_of_mem hb;have:=h.2
  show((n:Int) :: s.erase n).length≤cap
  rw[List.length_cons,List.length_erase_of_mem hb];omega
 add:=fun {s w b} h h0 h1 _ _=>by
  obtain⟨n,rfl⟩:=Int.eq_ofNat_of_zero_le h0;have hl:=EB (b:=(n:Int)) h.1.c1 h.2
  by_cases hb:(n:Int)∈s
  ·exact(Ez w h.1 hb).mono fun e w' ⟨h2,h3,h4⟩=>⟨h2,⟨h3,hl⟩,h4.mono fun k hk=>.inl hk.Nt⟩
  ·exact(CO w h.1 aj h.2 hb).mono fun e w' ⟨h2,h3,h4⟩=>⟨h2,⟨h3,hl⟩,h4.mono fun k hk=>.inl hk.Nt⟩
 rem:=fun {s w b} h hb=>by
  obtain⟨n,rfl⟩:=Int.eq_ofNat_of_zero_le (h.1.sp.lC (i:=0) hb).1;refine(PH w h.1 hb).mono fun e w' ⟨h1,h2,h3⟩=>⟨h1,⟨h2,?_⟩,h3.mono fun k hk=>.inl hk.Nt⟩
  have hb:(n:Int)∈s:=hb;have:=h.2
  show(s.erase n).length≤cap
  rw[List.length_erase_of_mem hb];omega
 lC:=fun h hb=>h.1.sp.lC (i:=0) hb
 nodup:=fun h=>h.1.sp.nodup 0
 KF:=fun h _ _ _=>EA (h.1.sp.nodup 0) h.1.c1
 N7:=fun {s w b} h hb y=>by
  have hb:b∈s:=hb
  show y∈b :: s.erase b↔y∈s
  rw[List.mem_cons,(show s.Nodup from h.1.sp.nodup 0).mem_erase_iff];exact⟨fun h=>h.elim (fun e=>e▸hb) fun h=>h.2,fun h=>by
   by_cases e:y=b
   ·exact .inl e
   ·exact .inr ⟨e,h⟩⟩
 Gz:=fun {s w b} h hb y=>by
  show y∈s.erase b↔y∈s∧y≠b
  rw[(show s.Nodup from h.1.sp.nodup 0).mem_erase_iff];exact⟨fun h=>⟨h.2,h.1⟩,fun h=>⟨h.2,h.1⟩⟩
 KE:=fun _ _=>Nat.le_succ _
 Ox:=fun _ _=>Nat.le_succ _
 Ow:=fun _ _=>Nat.le_refl _
structure bj where
 σ:Type
 ι:Type
 sp:pQ σ
 t:TypeId
 fn:WW
 x:ι→Value
 F:ι→Nat→Prop
 R:ι→σ→World→Prop
 s0:σ
 oc:∀i,OC sp t (x i) fn (F i) (R i)
 nil:sp.all s0= []
def ux (cap:Nat):bj:=⟨List Int,Nat×Nat×Nat,Rb cap,157,uc,fun i=>aO i.1,fun i=>wY i.1 i.2.1 i.2.2,fun i=>SI i.1 i.2.1 i.2.2 cap,[],fun i=>PI i.1 i.2.1 i.2.2 cap,rfl⟩
theorem Calls.ex {P:Program}{f:FuncId}{args:Array Value}{w:World}{R:Ending→World→Prop}(h:Calls P f args w R):∃e w',R e w':=by
 obtain⟨e,w',_,hR,_⟩:=h [];exact⟨e,w',hR⟩
def aej (K:bj)(s:K.σ):Prop:=∃i w,K.R i s w
theorem aej.use {K:bj}{s:K.σ}{b:Int}(h:aej K s)(hb:b∈K.sp.all s)(ha:K.sp.jf s<da):aej K (K.sp.use s b):=by
 obtain⟨i,w,hR⟩:=h;obtain⟨_,w',_,h2,_⟩:=Calls.ex ((K.oc i).use hR hb ha);exact⟨i,w',h2⟩
theorem aej.rem {K:bj}{s:K.σ}{b:Int}(h:aej K s)(hb:b∈K.sp.all s):aej K (K.sp.rem s b):=by
 obtain⟨i,w,hR⟩:=h;obtain⟨_,w',_,h2,_⟩:=Calls.ex ((K.oc i).rem hR hb);exact⟨i,w',h2⟩
theorem aej.add {K:bj}{s:K.σ}{b:Int}(h:aej K s)(h0:0≤b)(h1:b<64)(ht:K.sp.takes b)(ha:K.sp.jf s<da):aej K (K.sp.add s b).1:=by
 obtain⟨i,w,hR⟩:=h;obtain⟨_,w',_,h2,_⟩:=Calls.ex ((K.oc i).add hR h0 h1 ht ha);exact⟨i,w',h2⟩
section
end
end Go.Proofs.YtpcfhbeakecihaaGreat
