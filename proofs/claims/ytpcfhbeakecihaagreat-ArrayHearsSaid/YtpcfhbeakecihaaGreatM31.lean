/- Lemmas. -/
import Derived.Test.YtpcfhbeakecihaaGreatM12
import Derived.Test.YtpcfhbeakecihaaGreatM24
import Derived.Test.YtpcfhbeakecihaaGreatM30
set_option linter.all false
set_option maxHeartbeats 20000000
set_option maxRecDepth 100000
namespace Go.Proofs.YtpcfhbeakecihaaGreat
section
open Go.ChangeShapes Go.RowKit Go.Shelf Go.WideShapes
theorem gS (l:gO)(i k:Nat):gP l i k<0↔(l.getD k default).1*(l.getD i default).2<(l.getD i default).1*(l.getD k default).2:=by
 unfold gP qV
 split
 ·simp_all
 ·split<;>simp_all
theorem oG{P:Prop}(h:P:=by
 rw[show e*b*d=e*d*b by rw[Int.mul_assoc,Int.mul_comm b d,←Int.mul_assoc],show a*f*d=a*d*f by rw[Int.mul_assoc,Int.mul_comm f d,←Int.mul_assoc]];omega):P:=h
theorem um {a b c d e f:Int}(hb:0<b)(hd:0<d)(hf:0<f)(h1:c*b<a*d)(h2:e*d<c*f):e*b<a*f:=by
 have h3:e*d*b<c*f*b:=Int.mul_lt_mul_of_pos_right h2 hb;have h4:c*b*f<a*d*f:=Int.mul_lt_mul_of_pos_right h1 hf;have h5:c*f*b=c*b*f:=by rw[Int.mul_assoc,Int.mul_comm f b,←Int.mul_assoc]
 have h6:(e*b)*d<(a*f)*d:=by
  exact oG
 exact Int.lt_of_mul_lt_mul_right h6 (Int.le_of_lt hd)
theorem eI {a b c d e f:Int}(hb:0<b)(hd:0<d)(hf:0<f)(h1:a*d≤c*b)(h2:c*f≤e*d):a*f≤e*b:=by
 have h3:c*f*b≤e*d*b:=Int.mul_le_mul_of_nonneg_right h2 (Int.le_of_lt hb);have h4:a*d*f≤c*b*f:=Int.mul_le_mul_of_nonneg_right h1 (Int.le_of_lt hf);have h5:c*f*b=c*b*f:=by rw[Int.mul_assoc,Int.mul_comm f b,←Int.mul_assoc]
 have h6:(a*f)*d≤(e*b)*d:=by
  exact oG
 exact Int.le_of_mul_le_mul_right h6 hd
theorem P2 {l:gO}{m:Nat}(hm:l.length=m+1)(bN:iE l):Sort.SWO (ltOf fun(i k:Fin (m+1))=>gP l i.val k.val) where
 irrefl:=fun x=>by
  unfold ltOf;rw[decide_eq_false];rw[gS];omega
 trans:=fun x y z h1 h2=>by
  unfold ltOf at *;rw[decide_eq_true_eq]at *;rw[gS]at *;exact um (bN _ aj).b0 (bN y.val aj).b0 (bN _ aj).b0 h1 h2
 ntrans:=fun x y z h1 h2=>by
  unfold ltOf at *;rw[decide_eq_false_iff_not]at *;rw[gS]at *;have:=eI (bN x.val aj).b0 (bN y.val aj).b0 (bN z.val aj).b0 (Int.not_lt.1 h1) (Int.not_lt.1 h2);omega
theorem uk {l:gO}(bN:iE l):(a8 l).Perm (List.range l.length):=by
 cases h:l.length with
 |zero=>rw[iY h];exact List.Perm.nil
 |succ m=>
  rw[iZ h];have hp:=(Sort.insertionSort_holds (P2 h bN) (Array.ofFn fun i=>i) 0 (m+1) (fH _) (by simp)).1;obtain⟨h1,_,h3⟩:=hp;generalize Sort.insertionSort (ltOf fun(i k:Fin (m+1))=>gP l i.val k.val) (Array.ofFn fun i=>i) 0 (m+1)=A at *;have e1:A.extract 0 (m+1)=A:=by
   apply Array.extract_eq_self_of_le;rw[h1];simp
  have e2:(Array.ofFn (n:=m+1) fun i=>i).extract 0 (m+1)=Array.ofFn fun i=>i:=by
   apply Array.extract_eq_self_of_le;simp
  rw[e1,e2]at h3;refine(h3.map Fin.val).trans (List.Perm.of_eq ?_);apply List.ext_getElem
  ·simp
  ·intro i h5 h6;simp only[List.getElem_map,Array.getElem_toList,Array.getElem_ofFn,List.getElem_range]
theorem ik {l:gO}(bN:iE l):(a8 l).Nodup:=(uk bN).nodup_iff.2 List.nodup_range
theorem Lr {c:aQ}(hP:dp c):(∀r x,0≤fJ c.h (fm c) r x)∧∀x,x<3→mi (fJ c.h (fm c)) x c.h.length≤fm c x:=
 Qo hP.hs (fun x hx=>by have:=hP.pc x hx;show 0≤c.f (9+x);omega) (ik (tM hP.hs))
def bg (c:aQ)(k:Nat)(hP:dp c)(hk:k<3):bj:=
 if c.f 5=2 then mq c k else if c.f (6+k)=2 then UC (dH c k) (ic hP hk)else ux (c.f (9+k)).toNat
theorem ZM {c:aQ}{k:Nat}(hP:dp c)(hk:k<3):(bg c k hP hk).Made c (k+1):=by
 unfold bg
 by_cases h1:c.f 5=2
 ·rw[if_pos h1];exact Iv hP hk h1 fun r _=>(Lr hP).1 r k
 ·rw[if_neg h1]
  by_cases h2:c.f (6+k)=2
  ·rw[if_pos h2];exact PC hP hk h1 h2
  ·rw[if_neg h2];exact p7 hP hk h1 h2
end
section
open Go.ChangeShapes Go.RowKit Go.WideShapes
theorem Cg {O:Nat→Nat→Int}{t:Nat}{S:Nat→List Int}:∀n,(∀r,r<n→((S r).length:Int)≤O r t)→((b9 S n).length:Int)≤mi O t n
 |0,_=>by simp[b9,mi]
 |n+1,h=>by
  rw[fD,List.length_append];have h1:=Cg n (fun r hr=>h r aj);have h2:=h n aj;unfold mi;omega
section
variable {c:aQ}{k:Nat}{hP:dp c}{hk:k<3}
theorem qa (P:bj→Prop)(p1:c.f 5=2→P (mq c k))(p2:c.f 5≠2→c.f (6+k)=2→P (UC (dH c k) (ic hP hk)))(p3:c.f 5≠2→c.f (6+k)≠2→P (ux (c.f (9+k)).toNat)):P (bg c k hP hk):=by
 unfold bg
 by_cases h1:c.f 5=2
 ·rw[if_pos h1];exact p1 h1
 ·rw[if_neg h1]
  by_cases h2:c.f (6+k)=2
  ·rw[if_pos h2];exact p2 h1 h2
  ·rw[if_neg h2];exact p3 h1 h2
theorem PR {i:(bg c k hP hk).ι}{s:(bg c k hP hk).σ}{w:World}(h:(bg c k hP hk).R i s w):(((bg c k hP hk).sp.all s).length:Int)≤c.f (9+k):=by
 have hc:=hP.pc k hk;refine qa (hP:=hP) (hk:=hk) (fun K=>∀(i:K.ι) (s:K.σ) (w:World),K.R i s w→((K.sp.all s).length:Int)≤c.f (9+k)) (fun h1 i s w h=>?_) (fun h1 h2 i s w h=>?_) (fun h1 h2 i s w h=>?_) i s w h
 ·have h2:sq (c.f 2) (fm c) c.h (fJ c.h (fm c)) k i s w:=h;have h3:=Cg c.h.length h2.i.most;have h4:=(Lr hP).2 k hk;exact Int.le_trans h3 h4
 ·have h3:mqR i.1 i.2.1 i.2.2 (dH c k) s w:=h;have h4:=h3.2.len
  show((aI (dH c k) s).length:Int)≤_
  have h5:(dH c k).cap=(c.f (9+k)).toNat:=rfl;omega
 ·have h3:SI i.1 i.2.1 i.2.2 (c.f (9+k)).toNat s w:=h;have h4:=h3.2
  show((List.length (α:=Int) s:Nat):Int)≤_
  omega
theorem ZO:(bg c k hP hk).sp.jf (bg c k hP hk).s0=0:=
 qa (hP:=hP) (hk:=hk) (fun K=>K.sp.jf K.s0=0) (fun _=>rfl) (fun _ _=>rfl) (fun _ _=>rfl)
def cg (c:aQ)(k:Nat)(b level:Int):Bool:=decide (0≤b)&&decide (b<c.f 2)&&(if c.f 5=2 then decide (0<bK c.h (fJ c.h (fm c)) b k)else(decide (c.f 5≠1)||decide (level=((k+1:Nat):Int))))
theorem xX {b level:Int}(h:cg c k b level=true):(bg c k hP hk).sp.takes b:=by
 unfold cg at h;simp only[Bool.and_eq_true]at h;unfold bg
 by_cases h1:c.f 5=2
 ·rw[if_pos h1];rw[if_pos h1]at h;have h2:0<bK c.h (fJ c.h (fm c)) b k:=of_decide_eq_true h.2;exact h2
 ·rw[if_neg h1]
  by_cases h2:c.f (6+k)=2
  ·rw[if_pos h2];trivial
  ·rw[if_neg h2];trivial
end
section
theorem Ep {c:aQ}{k:Nat}{i:(mq c k).ι}{w:World}{cb mb:Nat}{hv:Value}{s:(mq c k).σ}{D:Int→Option ll}(b level:Int)(h:bH (mq c k) i w cb mb c hv (k+1) s D)(hp:c.f 5=2):
 Calls Tryz.prog 98 #[aO cb,ah b,ah level] w fun e w'=>e= .returned (.bool (decide (0≤b)&&decide (b<c.f 2)&&decide (0<bK c.h (fJ c.h (fm c)) b k)))∧af au w w':=by
 have hx5:aF w cb 5 (c.f 5):=h.ak.ag (xQ _ _ _ _ _ _ aE);rw[hp]at hx5;have aci:aM w cb 18 (.iface 149 (aO (pM.p i))):=h.ak.ag (xO _ _ _ _ _ _);have HT:=kx b h;have hR:sq (c.f 2) (fm c) c.h (fJ c.h (fm c)) k i s w:=h.ord;have HP:=qF b w hR.b;rw[hR.t]at HP;have HP:=ae HP;generalize(decide (0≤b)&&decide (b<c.f 2))=kk at *;generalize(decide (0<bK c.h (fJ c.h (fm c)) b k))=t at *;have HT:=ae HT;clear h hR hp;generalize pM.p i=p at *
 cases kk with
 |false=>
  go_enter Tryz.func98,Tryz.ntmps98
  go_wp2_with (go_at_call 121;refine HT.mono ?_;rintro e w1 ⟨rfl,rfl⟩);go_ret;exact⟨rfl,af.ai _ _⟩
 |true=>
  have hta:∀w,(Instr.typeAssert (.iface 149 (aO p)) 102 149 true).run Tryz.prog w= .ok (.tuple #[aO p,.bool true]) w:=fun w=>by kernel_rfl
  go_enter Tryz.func98,Tryz.ntmps98
  go_wp2_with (first|(go_at_call 121;refine HT.mono ?_;rintro e w1 ⟨rfl,rfl⟩)|(go_at_call 122;refine HP.mono ?_;rintro e w1 ⟨rfl,aK⟩));go_ret;exact⟨rfl,aK.ar⟩
theorem oe{P:Prop}(h:P:=by
 refine(yA b level h h1).mono fun e w' ⟨h2,h3⟩=>⟨?_,h3▸af.ai _ _⟩
 rw[h2];unfold cg;rw[if_neg h1];rfl):P:=h
theorem tz {c:aQ}{k:Nat}{hP:dp c}{hk:k<3}{i:(bg c k hP hk).ι}{w:World}{cb mb:Nat}{hv:Value}{s:(bg c k hP hk).σ}{D:Int→Option ll}(b level:Int)(h:bH (bg c k hP hk) i w cb mb c hv (k+1) s D):
 Calls Tryz.prog 98 #[aO cb,ah b,ah level] w fun e w'=>e= .returned (.bool (cg c k b level))∧af au w w':=by
 refine qa (hP:=hP) (hk:=hk) (fun K=>∀(i:K.ι) (s:K.σ),bH K i w cb mb c hv (k+1) s D→Calls Tryz.prog 98 #[aO cb,ah b,ah level] w fun e w'=>e= .returned (.bool (cg c k b level))∧af au w w') (fun h1 i s h=>?_) (fun h1 h2 i s h=>?_) (fun h1 h2 i s h=>?_) i s h
 ·unfold cg;rw[if_pos h1];exact Ep b level h h1
 ·exact oe
 ·exact oe
end
structure PM where
 m:dI
 d:List Int
def GD:List TypeId:=[227,229,206,203,199,191,233,100]
def bj.Typ (K:bj):Prop:=∀(i:K.ι) (s:K.σ) (w:World),K.R i s w→∀k,K.F i k→∀t cs,Box w k t cs→t∈GD
theorem iA.boxes {w:World}{g eb m:Nat}{S:Nat→List Int}(h:iA w g eb m S):(∃cs,Box w g 227 cs)∧∃cs,Box w eb 229 cs:=by
 obtain⟨N,E,hm,_⟩:=h;exact⟨⟨_,hm.1⟩,_,hm.2⟩
theorem iA.Ns {w:World}{g eb m:Nat}{S:Nat→List Int}(h:iA w g eb m S){k:Nat}(hk:k=g∨k=eb){t:TypeId}{cs:Array Value}(hb:Box w k t cs):t=227∨t=229:=by
 obtain⟨⟨c1,h1⟩,c2,h2⟩:=h.boxes;rcases hk with e|e
 ·rw[e]at hb;exact .inl (hb.same h1).1
 ·rw[e]at hb;exact .inr (hb.same h2).1
theorem iA.Uy {w:World}{g eb m:Nat}{S:Nat→List Int}(h:iA w g eb m S){k:Nat}(hk:k=g∨k=eb){t:TypeId}{cs:Array Value}(hb:Box w k t cs):t∈GD:=by
 rcases h.Ns hk hb with e|e<;>rw[e]<;>decide
theorem aal {c:aQ}{k:Nat}(hP:dp c)(hk:k<3):(bg c k hP hk).Typ:=by
 refine qa (P:=bj.Typ) (fun _=>?_) (fun _ _=>?_) (fun _ _=>?_)
 ·intro i s w h j hj t cs hb;have h:sq (c.f 2) (fm c) c.h (fJ c.h (fm c)) k i s w:=h;rcases hj with e|e|e|e|e|⟨h0,o,e⟩
  ·rw[e]at hb;rw[(hb.same h.b.ak).1];decide
  ·exact h.b.sp.Uy (.inl e) hb
  ·exact h.b.sp.Uy (.inr e) hb
  ·rw[e]at hb;rw[(hb.same h.b.pl.ak).1];decide
  ·rw[e]at hb;rw[(hb.same h.b.pl.prt).1];decide
  ·obtain⟨cs',h2⟩:=h.b.pl.ht h0 j o e;rw[(hb.same h2).1];decide
 ·intro i s w h j hj t cs hb;have h:gZ w i.1 i.2.1 i.2.2 (dH c k) s∧uH (dH c k) s:=h;rcases hj with e|e|e
  ·rw[e]at hb;rw[(hb.same (show Box w i.1 203 _ from h.1.m)).1];decide
  ·exact h.1.sp.Uy (.inl e) hb
  ·exact h.1.sp.Uy (.inr e) hb
 ·intro i s w h j hj t cs hb;have h:kP w i.1 i.2.1 i.2.2 (c.f (9+k)).toNat s∧_:=h;rcases hj with e|e|e
  ·rw[e]at hb;rw[(hb.same h.1.ak).1];decide
  ·exact h.1.sp.Uy (.inl e) hb
  ·exact h.1.sp.Uy (.inr e) hb
structure ZN where
 B:Nat
 N:Nat→Prop
def KP (Z:ZN)(w:World)(k:Nat):Prop:=k<Z.B∨((∃cs,Box w k 5 cs)∧¬Z.N k)
def qR (Z:ZN)(w:World)(v:Value)(l:List Int):Prop:=cH w v l∧(0<l.length→∀k,aJ v k→KP Z w k)
def Wr (Z:ZN)(S:Nat→Prop)(w:World):Prop:=∀k,k<w.heap.size→S k→Z.B≤k∧(Z.N k∨∀cs,¬Box w k 5 cs)
variable {Z:ZN}{w w':World}{S S':Nat→Prop}{v:Value}{l:List Int}
theorem Wr.off {k:Nat}(hS:Wr Z S w)(hd:KP Z w k)(hk:k<w.heap.size):¬S k:=fun e=>by
 obtain⟨h1,h2⟩:=hS k hk e;rcases hd with h3|⟨⟨cs,h3⟩,h4⟩
 ·omega
 ·rcases h2 with h2|h2
  ·exact h4 h2
  ·exact h2 cs h3
theorem KP.ar {k:Nat}(hd:KP Z w k)(hk:k<w.heap.size)(ho:af S w w')(hS:Wr Z S w):KP Z w' k:=by
 have hn:=hS.off hd hk;rcases hd with h3|⟨⟨cs,h3⟩,h4⟩
 ·exact .inl h3
 ·exact .inr ⟨⟨cs,ho.ak h3 hn⟩,h4⟩
theorem qR.ar (h:qR Z w v l)(ho:af S w w')(hS:Wr Z S w):qR Z w' v l:=
 ⟨h.1.keep ho fun h0 k hk aY=>hS.off (h.2 h0 k hk) aY,fun h0 k hk=>(h.2 h0 k hk).ar (zz h.1 h0 k hk) ho hS⟩
theorem Wr.non:Wr Z au w:=fun _ _ h=>h.elim
theorem qR.keep (h:qR Z w v l)(ho:af au w w'):qR Z w' v l:=h.ar ho Wr.non
theorem qR.nil (Z:ZN)(w:World):qR Z w aT []:=⟨⟨none,0,rfl,dX _,fH _,Src.lJ w none⟩,fun h=>absurd h (Nat.lt_irrefl _)⟩
theorem qR.row (h:Row 5 w v (bytes l))(hl:l.length≤140737488355328)(hN:∀k,aJ v k→¬Z.N k):qR Z w v l:=
 ⟨h.sa hl,fun _ k hk=>.inr ⟨h.ak hk,hN k hk⟩⟩
theorem qR.shape (h:qR Z w v l):∃A c,v= .slice A l.length c:=by
 obtain⟨A,c,e,_⟩:=h.1;exact⟨A,c,e⟩
def bO (Z:ZN)(w:World)(base:Nat)(v:Value)(L:List PM):Prop:=
 ∃X:List (PM×Value),X.map Prod.fst=L∧w.ownsRow base 37 11 v X.length (X.flatMap fun p=>(bd p.1.m p.2).toList)∧∀p∈X,qR Z w p.2 p.1.d
theorem bO.nil (Z:ZN)(w:World)(base:Nat):bO Z w base aT []:=⟨[],rfl,World.ownsRow_nil _ _ _ _,fun _ h=>by cases h⟩
theorem bO.ar {base:Nat}{L:List PM}(h:bO Z w base v L)(ho:af S w w')(hS:Wr Z S w)(hn:∀k,aJ v k→¬S k):bO Z w' base v L:=by
 obtain⟨X,h1,h2,h3⟩:=h;exact⟨X,h1,fR h2 ho hn,fun p hp=>(h3 p hp).ar ho hS⟩
theorem bO.keep {base:Nat}{L:List PM}(h:bO Z w base v L)(ho:af au w w'):bO Z w' base v L:=h.ar ho Wr.non fun _ _=>id
theorem CL {base base':Nat}{e:TypeId}{size n:Nat}{xs:List Value}(h:w.ownsRow base e size v n xs)(hb:base'≤base):w.ownsRow base' e size v n xs:=by
 refine⟨h.1,?_⟩;rcases h.2 with h2|⟨g,cap,cur,h1,h2,h3⟩
 ·exact .inl h2
 ·exact .inr ⟨g,cap,cur,h1,Nat.le_trans hb h2,h3⟩
theorem bO.low {base base':Nat}{L:List PM}(h:bO Z w base v L)(hb:base'≤base):bO Z w base' v L:=by
 obtain⟨X,h1,h2,h3⟩:=h;exact⟨X,h1,CL h2 hb,h3⟩
theorem CM {base:Nat}{e:TypeId}{size n:Nat}{xs:List Value}(h:w.ownsRow base e size v n xs){k:Nat}(hk:aJ v k):base≤k∧∃cs,Box w k e cs:=by
 rcases h.2 with⟨rfl,_⟩|⟨g,cap,cur,rfl,hb,hg,_⟩
 ·exact(bo hk).elim
 ·have e:=aD.1 hk;subst e;exact⟨hb,cur,hg⟩
theorem bO.ak {base:Nat}{L:List PM}(h:bO Z w base v L){k:Nat}(hk:aJ v k):base≤k∧∃cs,Box w k 37 cs:=by
 obtain⟨X,_,h2,_⟩:=h;exact CM h2 hk
theorem bO.shape {base:Nat}{L:List PM}(h:bO Z w base v L):∃A c,v= .slice A L.length c∧L.length≤c∧c≤maxLen:=by
 obtain⟨X,h1,h2,_⟩:=h;obtain⟨A,c,e,h3,h4⟩:=iV h2;subst h1;rw[List.length_map];exact⟨A,c,e,h3,h4⟩
theorem bO.app {base:Nat}{v':Value}{X:List (PM×Value)}{L:List PM}(p:PM×Value)(h:w.ownsRow base 37 11 v (X.length+1) ((X.flatMap fun p=>(bd p.1.m p.2).toList) ++ (bd p.1.m p.2).toList))(hL:X.map Prod.fst=L)(hd:∀q∈X,qR Z w q.2 q.1.d)(hp:qR Z w p.2 p.1.d):
 bO Z w base v (L ++ [p.1]):=by
 refine⟨X ++ [p],by rw[List.map_append,hL];rfl,?_,fun q hq=>?_⟩
 ·rw[List.length_append,List.flatMap_append];simpa using h
 ·rcases List.mem_append.1 hq with h1|h1
  ·exact hd q h1
  ·rw[List.mem_singleton.1 h1];exact hp
end
section
open Go.Shelf
def fU (l:gO)(i k:Nat):Bool:=decide (gP l i k<0)||(decide (¬gP l k i<0)&&decide (i<k))
section
variable {α:Type}[Inhabited α]
theorem qs {lt lt':α→α→Bool}(x:α):∀(a j:Nat) (d:Array α),j<d.size→d[j]! =x→(∀p,p<j→lt x d[p]! =lt' x d[p]!)→Sort.insInner lt a j d=Sort.insInner lt' a j d
 |a,0,d,_,_,_=>by unfold Sort.insInner;rfl
 |a,j+1,d,hj,hd,h=>by
  unfold Sort.insInner;rw[hd,h j aj]
  split
  ·refine qs x a j _ (by rw[Sort.swp_size];omega) ?_ fun p hp=>?_
   ·rw[Sort.swp_get d (i:=j+1) (j:=j) aj aj j,if_pos rfl,hd]
   ·rw[Sort.swp_get d (i:=j+1) (j:=j) aj aj p,if_neg aj,if_neg aj];exact h p aj
  ·rfl
theorem rr {lt:α→α→Bool}(P:α→Prop)(a i:Nat):∀(j:Nat) (d:Array α),j≤i→i<d.size→(∀p,p≤i→P d[p]!)→
 (Sort.insInner lt a j d).size=d.size∧(∀p,p≤i→P (Sort.insInner lt a j d)[p]!)∧∀p,i<p→(Sort.insInner lt a j d)[p]! =d[p]!
 |0,d,_,_,h=>by unfold Sort.insInner;exact⟨rfl,h,fun _ _=>rfl⟩
 |j+1,d,hj,hi,h=>by
  unfold Sort.insInner
  split
  ·obtain⟨h1,h2,h3⟩:=rr P a i j (Sort.swp d (j+1) j) aj (by rw[Sort.swp_size];exact hi) fun p hp=>by
    rw[Sort.swp_get d (i:=j+1) (j:=j) aj aj p]
    split
    ·exact h _ aj
    ·split
     ·exact h _ aj
     ·exact h p hp
   refine⟨by rw[h1,Sort.swp_size],h2,fun p hp=>?_⟩;rw[h3 p hp,Sort.swp_get d (i:=j+1) (j:=j) aj aj p,if_neg aj,if_neg aj]
  ·exact⟨rfl,h,fun _ _=>rfl⟩
end
theorem iO {α:Type}[Inhabited α](lt:α→α→Bool)(a b i:Nat)(d:Array α):Sort.insOuter lt a b i d=if i<b then Sort.insOuter lt a b (i+1) (Sort.insInner lt a i d)else d:=by rw[Sort.insOuter]
theorem qq {m:Nat}{lt lt':Fin (m+1)→Fin (m+1)→Bool}(aY:∀x y,y.val<x.val→lt x y=lt' x y):∀(n i:Nat) (d:Array (Fin (m+1))),m+1 - i=n→d.size=m+1→(∀p,i≤p→p<m+1→(d[p]!).val=p)→(∀p,p<i→(d[p]!).val<i)→
 Sort.insOuter lt 0 (m+1) i d=Sort.insOuter lt' 0 (m+1) i d
 |0,i,d,hn,hs,h1,h2=>by
  rw[iO lt 0 (m+1) i d,iO lt' 0 (m+1) i d,if_neg aj,if_neg aj]
 |n+1,i,d,hn,hs,h1,h2=>by
  have hi:i<m+1:=aj;rw[iO lt 0 (m+1) i d,iO lt' 0 (m+1) i d,if_pos hi,if_pos hi];have e:=qs (lt:=lt) (lt':=lt') d[i]! 0 i d aj rfl fun p hp=>aY _ _ (by rw[h1 i (dX _) hi];exact h2 p hp)
  rw[e];obtain⟨g1,g2,g3⟩:=rr (lt:=lt') (fun x:Fin (m+1)=>x.val<i+1) 0 i i d (dX _) aj fun p hp=>by
   by_cases e:p=i
   ·subst e;rw[h1 p (dX _) hi];omega
   ·have:=h2 p aj;omega
  exact qq aY n (i+1) _ aj (by rw[g1,hs]) (fun p hp Ge=>by rw[g3 p aj];exact h1 p aj Ge) fun p hp=>g2 p aj
theorem Ag {l:gO}{m:Nat}(h:l.length=m+1):Sort.insertionSort (ltOf fun(i k:Fin (m+1))=>gP l i.val k.val) (Array.ofFn fun i=>i) 0 (m+1)=Sort.insertionSort (fun(i k:Fin (m+1))=>fU l i.val k.val) (Array.ofFn fun i=>i) 0 (m+1):=by
 unfold Sort.insertionSort;have hg:∀p,p<m+1→((Array.ofFn (n:=m+1) fun i=>i)[p]!).val=p:=fun p hp=>by
  rw[getElem!_pos _ p (by simp;exact hp)];simp only[Array.getElem_ofFn]
 refine qq (fun x y E0=>?_) _ _ _ rfl (by simp) (fun p hp Ge=>hg p Ge) fun p hp=>by rw[hg p aj];omega
 unfold ltOf fU;rw[decide_eq_false (show¬x.val<y.val by omega),Bool.and_false,Bool.or_false]
theorem tQ {l:gO}{m:Nat}(hm:l.length=m+1)(bN:iE l):Sort.SWO (fun(i k:Fin (m+1))=>fU l i.val k.val):=by
 have b0:∀x:Fin (m+1),0<(l.getD x.val default).2:=fun x=>(bN x.val aj).b0
 have key:∀x y:Fin (m+1),fU l x.val y.val=true↔((l.getD y.val default).1*(l.getD x.val default).2<(l.getD x.val default).1*(l.getD y.val default).2∨(¬(l.getD x.val default).1*(l.getD y.val default).2<(l.getD y.val default).1*(l.getD x.val default).2∧x.val<y.val)):=fun x y=>by
  unfold fU;simp only[Bool.or_eq_true,Bool.and_eq_true,decide_eq_true_eq,gS]
 refine⟨fun x=>?_,fun x y z h1 h2=>?_,fun x y z h1 h2=>?_⟩
 ·rw[Bool.eq_false_iff];intro h;rcases(key x x).1 h with h|h<;>omega
 ·have h1:=(key x y).1 h1;have h2:=(key y z).1 h2;refine(key x z).2 ?_;rcases h1 with h1|⟨h1,e1⟩<;>rcases h2 with h2|⟨h2,e2⟩
  ·exact .inl (um (b0 x) (b0 y) (b0 z) h1 h2)
  ·refine .inl (Int.not_le.1 fun h3=>?_);exact absurd (eI (b0 x) (b0 z) (b0 y) h3 (Int.not_lt.1 h2)) aj
  ·refine .inl (Int.not_le.1 fun h3=>?_);exact absurd (eI (b0 y) (b0 x) (b0 z) (Int.not_lt.1 h1) h3) aj
  ·exact .inr ⟨fun h3=>by
    have:=eI (b0 z) (b0 y) (b0 x) (Int.not_lt.1 h2) (Int.not_lt.1 h1);omega,aj⟩
 ·have n1:¬_:=fun h=>by rw[(key x y).2 h]at h1;cases h1
  have n2:¬_:=fun h=>by rw[(key y z).2 h]at h2;cases h2
  rw[Bool.eq_false_iff];intro h;have h3:=(key x z).1 h;have a1:=Int.not_lt.1 fun h=>n1 (.inl h)
  have a2:=Int.not_lt.1 fun h=>n2 (.inl h)
  have a3:=eI (b0 x) (b0 y) (b0 z) a1 a2;rcases h3 with h3|⟨h3,e3⟩
  ·omega
  ·by_cases c1:(l.getD x.val default).1*(l.getD y.val default).2<(l.getD y.val default).1*(l.getD x.val default).2
   ·refine h3 (Int.not_le.1 fun h4=>?_);exact absurd (eI (b0 y) (b0 z) (b0 x) a2 h4) aj
   ·by_cases c2:(l.getD y.val default).1*(l.getD z.val default).2<(l.getD z.val default).1*(l.getD y.val default).2
    ·refine h3 (Int.not_le.1 fun h4=>?_);exact absurd (eI (b0 z) (b0 x) (b0 y) h4 a1) aj
    ·have p1:¬x.val<y.val:=fun h=>n1 (.inr ⟨c1,h⟩)
     have p2:¬y.val<z.val:=fun h=>n2 (.inr ⟨c2,h⟩)
     omega
theorem xy {l:gO}(bN:iE l):∀i j,i<j→j<l.length→fU l ((a8 l).getD i 0) ((a8 l).getD j 0)=true:=by
 intro i j Dl hj
 cases h:l.length with
 |zero=>omega
 |succ m=>
  have hlen:=dW l;have Oh:=ik bN;have hsz:(Sort.insertionSort (fun(i k:Fin (m+1))=>fU l i.val k.val) (Array.ofFn fun i=>i) 0 (m+1)).size=m+1:=by
   have:=(Sort.insertionSort_holds (tQ h bN) (Array.ofFn fun i=>i) 0 (m+1) (fH _) (by simp)).1.1;rw[this];simp
  have hs:=(Sort.insertionSort_holds (tQ h bN) (Array.ofFn fun i=>i) 0 (m+1) (fH _) (by simp)).2 i j (fH _) Dl aj;rw[iZ h,Ag h]at hlen Oh ⊢;generalize Sort.insertionSort (fun(i k:Fin (m+1))=>fU l i.val k.val) (Array.ofFn fun i=>i) 0 (m+1)=A at *;have gi:∀p,p<m+1→(A.toList.map Fin.val).getD p 0=(A[p]!).val:=fun p hp=>by
   rw[List.getD_eq_getElem?_getD,List.getElem?_map,Array.getElem?_toList,Array.getElem?_eq_getElem aj,getElem!_pos A p aj];rfl
  rw[gi i aj,gi j aj];have hne:(A[i]!).val≠(A[j]!).val:=fun e=>by
   have h1:=List.pairwise_iff_getElem.1 Oh i j cM cM Dl;simp only[List.getElem_map,Array.getElem_toList]at h1;rw[getElem!_pos A i aj,getElem!_pos A j aj]at e;exact h1 e
  generalize(A[i]!)=x at *;generalize(A[j]!)=y at *;have b0:∀x:Fin (m+1),0<(l.getD x.val default).2:=fun x=>(bN x.val aj).b0
  unfold fU at *;simp only[Bool.or_eq_false_iff,Bool.and_eq_false_iff,decide_eq_false_iff_not,Bool.or_eq_true,Bool.and_eq_true,decide_eq_true_eq]at hs ⊢;obtain⟨h1,h2⟩:=hs
  by_cases c:gP l x.val y.val<0
  ·exact .inl c
  ·refine .inr ⟨h1,?_⟩;rcases h2 with h2|h2
   ·exact absurd c h2
   ·omega
end
def aN (c:Nat→Int)(m:Int):Nat→Int
 |0=>min m (c 0)
 |1=>min (m - min m (c 0)) (c 1)
 |2=>min (m - min m (c 0) - min (m - min m (c 0)) (c 1)) (c 2)
 |_=>m - min m (c 0) - min (m - min m (c 0)) (c 1) - min (m - min m (c 0) - min (m - min m (c 0)) (c 1)) (c 2)
theorem F7 {c:Nat→Int}(h:∀x,x<3→0≤c x)(t:Nat)(ht:t<4):aN c 0 t=0:=by
 have h0:=h 0 aj;have h1:=h 1 aj;have h2:=h 2 aj;rcases(show t=0∨t=1∨t=2∨t=3 by omega)with rfl|rfl|rfl|rfl<;>(simp only[aN];omega)
theorem Cp {c:Nat→Int}{m:Int}(hm:0≤m)(h:∀x,x<3→0≤c x):(∀t,t<3→0≤aN c m t∧aN c m t≤c t)∧0≤aN c m 3∧aN c m 3≤m∧∀t,t<4→aN c m t≤m:=by
 have h0:=h 0 aj;have h1:=h 1 aj;have h2:=h 2 aj;refine⟨fun t ht=>?_,?_,?_,fun t ht=>?_⟩
 ·rcases(show t=0∨t=1∨t=2 by omega)with rfl|rfl|rfl<;>(simp only[aN];omega)
 ·simp only[aN];omega
 ·simp only[aN];omega
 ·rcases(show t=0∨t=1∨t=2∨t=3 by omega)with rfl|rfl|rfl|rfl<;>(simp only[aN];omega)
theorem gG{P:Prop}(h:P:=by
 rcases(show u=0∨u=1∨u=2∨u=3 by omega)with rfl|rfl|rfl|rfl<;>(simp only[aN]at *;(first|rw[if_true]|rw[if_pos rfl]|rw[if_neg aE]);omega)):P:=h
theorem Qr {c:Nat→Int}{m:Int}(hm:0≤m)(h:∀x,x<3→0≤c x){t:Nat}(ht:t<4)(h1:∀u,u<t→c u - aN c m u=0)(h2:t<3→c t - aN c m t≠0):∀u,u<4→aN c (m+1) u=aN c m u+if u=t then 1 else 0:=by
 have c0:=h 0 aj;have c1:=h 1 aj;have c2:=h 2 aj;intro u hu;rcases(show t=0∨t=1∨t=2∨t=3 by omega)with rfl|rfl|rfl|rfl
 ·have g:=h2 aj;exact gG
 ·have g:=h2 aj;have g0:=h1 0 aj;exact gG
 ·have g:=h2 aj;have g0:=h1 0 aj;have g1:=h1 1 aj;exact gG
 ·have g0:=h1 0 aj;have g1:=h1 1 aj;have g2:=h1 2 aj;exact gG
theorem Ls (l:List aH)(s:tf)(i:Nat):fV l s i 3=dB i (dB i (dB i {s with left:=(l.getD i default).size} 0) 1) 2:=rfl
theorem Jj (l:List aH)(s:tf)(i:Nat){t:Nat}(ht:t<3):(iM l s i).c t=s.c t - aN s.c (l.getD i default).size t:=by
 rw[iI,Ls];rcases(show t=0∨t=1∨t=2 by omega)with rfl|rfl|rfl<;>simp[dB,aN]
theorem yI (l:List aH)(s:tf)(i r:Nat){t:Nat}(ht:t<4):(iM l s i).o r t=if r=i then aN s.c (l.getD i default).size t else s.o r t:=by
 rw[iI,Ls]
 by_cases e:r=i
 ·subst e;rcases(show t=0∨t=1∨t=2∨t=3 by omega)with rfl|rfl|rfl|rfl<;>simp[dB,aN]
 ·rcases(show t=0∨t=1∨t=2∨t=3 by omega)with rfl|rfl|rfl|rfl<;>simp[dB,e]
theorem tH {n:Nat}{O O':Nat→Nat→Int}(h:∀r t,r<n→t<4→O r t=O' r t):kY n O=kY n O':=by
 unfold kY
 congr 1
 funext i
 rw[h _ _ aj aj]
theorem Qk {l:gO}(bN:iE l){k b:Nat}(hk:k<l.length)(hb:b<l.length)(h1:b∉(a8 l).take k)(h2:∀j,j<l.length→j∉(a8 l).take k→j=b∨fU l b j=true):b=(a8 l).getD k 0:=by
 have hp:=uk bN;have hlen:=dW l;have Oh:=ik bN;have QS:b∈a8 l:=hp.mem_iff.2 (List.mem_range.2 hb);obtain⟨q,hq,eq⟩:=List.getElem_of_mem QS;have hqk:k≤q:=by
  rcases Nat.lt_or_ge q k with h|h
  ·exact absurd (by rw[←eq];exact List.mem_iff_getElem.2 ⟨q,by rw[List.length_take];omega,by rw[List.getElem_take]⟩) h1
  ·exact h
 have NF:k<(a8 l).length:=aj;have hkn:(a8 l)[k]∉(a8 l).take k:=fun hm=>by
  obtain⟨p,Ge,ep⟩:=List.getElem_of_mem hm;rw[List.getElem_take]at ep;have hpk:p<k:=by rw[List.length_take]at Ge;omega
  exact List.pairwise_iff_getElem.1 Oh p k aj NF hpk ep
 have hgk:(a8 l).getD k 0=(a8 l)[k]:=by simp[NF]
 rw[hgk];rcases Nat.lt_or_ge k q with h|h
 ·have hs:=xy bN k q h aj;rw[hgk,show(a8 l).getD q 0=b by simp[hq,eq]]at hs;have aY:(a8 l)[k]<l.length:=kv l _ (List.getElem_mem _);rcases h2 _ aY hkn with e|e
  ·exact e.symm
  ·exfalso
   unfold fU at hs e;simp only[Bool.or_eq_true,Bool.and_eq_true,decide_eq_true_eq,gS]at hs e;rcases hs with hs|hs<;>rcases e with e|e<;>omega
 ·obtain rfl:q=k:=aj;exact eq.symm
section
open Go.ChangeShapes Go.RowKit Go.WideShapes
def Zj (l:List aH)(b:Int)(w:World)(i:Value)(wr:World):Prop:=∃k:Nat,k≤l.length∧i=ah k∧(∀j,j<k→EZ (l.getD j default) b=false)∧∃m,w.drewN m=wr
section
theorem jA{P:Prop}(h:P:=by
 go_enter Tryz.func136,Tryz.ntmps136
 go_wp2;go_ret;exact⟨rfl,rfl⟩):P:=h
theorem Ad {a b c d:Int}(ha:0≤a∧a≤2147483647)(hb:0≤b∧b≤32)(hc:0≤c∧c≤2147483647)(hd:0≤d∧d≤32)(w:World):
 Calls Tryz.prog 136 #[ah a,ah b,ah c,ah d] w fun e w'=>e= .returned (ah (qV (a*d) (c*b)))∧w=w':=by
 have h1:0≤a*d:=Int.mul_nonneg ha.1 hd.1;have h2:a*d≤2147483647*32:=Int.mul_le_mul ha.2 hd.2 hd.1 aj;have h3:0≤c*b:=Int.mul_nonneg hc.1 hb.1;have h4:c*b≤2147483647*32:=Int.mul_le_mul hc.2 hb.2 hb.1 aj;have e1:wrap64 (a*d)=a*d:=by unfold wrap64;omega
 have e2:wrap64 (c*b)=c*b:=by unfold wrap64;omega
 unfold qV;clear ha hb hc hd h1 h2 h3 h4
 by_cases c1:a*d<c*b
 ·rw[if_pos c1];exact jA
 ·rw[if_neg c1]
  by_cases c2:c*b<a*d
  ·rw[if_pos c2];exact jA
  ·rw[if_neg c2];exact jA
theorem Jb (l:gO)(i k:Nat):fU l i k=(decide (0<qV ((l.getD i default).1*(l.getD k default).2) ((l.getD k default).1*(l.getD i default).2))||(decide (qV ((l.getD i default).1*(l.getD k default).2) ((l.getD k default).1*(l.getD i default).2)=0)&&decide (i<k))):=by
 rw[Bool.eq_iff_iff];unfold fU;simp only[Bool.or_eq_true,Bool.and_eq_true,decide_eq_true_eq,gS];generalize(l.getD i default).1*(l.getD k default).2=x;generalize(l.getD k default).1*(l.getD i default).2=y;unfold qV
 by_cases c1:x<y
 ·rw[if_pos c1];simp;omega
 ·rw[if_neg c1]
  by_cases c2:y<x
  ·rw[if_pos c2];simp[c2]
  ·rw[if_neg c2];simp[c1,c2]
theorem EJ {A:Option Addr}{n c:Nat}{blocks:Int}{l:List aH}{i k:Nat}(w:World)(h:aX w A n c l)(hP:cT blocks l)(hi:i<l.length)(hk:k<l.length):
 Calls Tryz.prog 124 #[.slice A n c,ah i,ah k] w fun e w'=>e= .returned (.bool (fU (bn l) i k))∧∃m,w.drewN m=w':=by
 obtain rfl:=h.len;have o1:=hP.1 i hi;have o2:=hP.1 k hk;unfold Aj at o1 o2;rw[Jb,qI l hi,qI l hk];dsimp only;obtain⟨g,o,rfl,hg,x0,x1,x2,x3⟩:=h.at_ i hi;obtain⟨g',o',e,hg',y0,y1,y2,y3⟩:=h.at_ k hk;injection e with e;injection e with e1 e2;subst e1 e2;have hii:(i:Int)<l.length:=aj;have xC:(k:Int)<l.length:=aj;have E6:=hP.2.2;generalize(l.getD i default).often=a at *;generalize(l.getD i default).size=b at *;generalize(l.getD k default).often=cc at *;generalize(l.getD k default).size=d at *;have HC:=ae<|fun m=>Ad (a:=a) (b:=b) (c:=cc) (d:=d) aj aj aj aj (w.drewN m);generalize qV (a*d) (cc*b)=z at *;clear h hP o1 o2 x0 x3 y0 y3 hi hk hg'
 go_enter Tryz.func124,Tryz.ntmps124
 go_upto_region 1 with fail
 go_quiet ((go_at_call 136;exact gl (HC _)))
 by_cases c1:0<z
 ·have c1b:decide (0<z)=true:=by simpa using c1
  go_wp2;go_ret;exact⟨rfl,_,rfl⟩
 ·have c1b:decide (0<z)=false:=by simpa using c1
  by_cases c2:z=0
  ·subst c2
   by_cases c3:i<k
   ·have c3i:(i:Int)<k:=aj;go_wp2;go_ret;exact⟨by simp[c3],_,rfl⟩
   ·have c3i:¬(i:Int)<k:=aj;go_wp2;go_ret;exact⟨by simp[c3],_,rfl⟩
  ·have c2b:(z==0)=false:=by simpa using c2
   go_wp2;go_ret;exact⟨by simp[c1,c2],_,rfl⟩
theorem ou{P:Prop}(h:P:=by
 have Fl:=aq (∀j,j<k+1→EZ (l.getD j default) b=false) (fun j hj=>by
  by_cases e:j=k
  ·rw[e,HKI.out];simp;omega
  ·exact HN j aj)
 go_wp2_with fail
 go_quiet (fail)
 go_wp2
 go_roundw
 case rel=>exact⟨k+1,cD,by go_num,Fl,_,rfl⟩
 case measure=>simp[intOf];have:=cD.out;omega):P:=h
theorem gR {A:Option Addr}{n c:Nat}{blocks:Int}{l:List aH}(b:Int)(w:World)(h:aX w A n c l)(hP:cT blocks l)(hb:0≤b∧b<64):
 Calls Tryz.prog 125 #[.slice A n c,ah b] w fun e w'=>e= .returned (ah (fl l b))∧∃m,w.drewN m=w':=by
 obtain rfl:=h.len;have H:=ae h;have HP:=ae hP;have E6:=hP.2.2;clear h hP
 go_enter Tryz.func125,Tryz.ntmps125
 go_upto_region 2 with fail
 go_loopw [5] (fun i wr=>Zj l b w i wr) (fun i _=>l.length - (intOf i).toNat)
 case atStart=>exact⟨0,fH _,rfl,fun j hj=>absurd hj aj,0,rfl⟩
 case round=>
  obtain⟨k,hk,rfl,pH,m,rfl⟩:=hrel;have HN:=ae pH;clear pH
  by_cases aY:k<l.length
  ·obtain⟨g,o,rfl,hgl,x0,x1,x2,x3⟩:=H.at_ k aY;have bN:=HP.1 k aY;unfold Aj at bN;have HKI:=aq (EZ (l.getD k default) b=(decide ((l.getD k default).fr≤b)&&decide (b<(l.getD k default).fr+(l.getD k default).size))) (rfl);have jk:(k:Int)<l.length:=aj;have cD:=ae aY;have HFD:=aq (fl l b=if EZ (l.getD k default) b=true then(k:Int)else fl l b) (by
    split
    ·rename_i h1
     unfold fl;rw[FK cD.out h1 HN.out,if_pos cD.out]
    ·rfl)
   clear x2 x3 hk aY;generalize(l.getD k default).fr=fr at *;generalize(l.getD k default).size=sz at *;have ew:IntKind.i64.wrap (b - fr)=b - fr:=by rw[IntKind.wrap_i64];omega
   by_cases c1:fr≤b
   ·have c1b:decide (fr≤b)=true:=by simpa using c1
    by_cases c2:b - fr<sz
    ·have c2b:decide (b - fr<sz)=true:=by simpa using c2
     go_wp2_with fail
     go_quiet (fail)
     go_wp2;go_ret;refine⟨?_,_,(World.drewN_drewN _ _ _).symm⟩;rw[HFD.out,if_pos (by rw[HKI.out];simp;omega)];rfl
    ·have c2b:decide (b - fr<sz)=false:=by simpa using c2
     exact ou
   ·have c1b:decide (fr≤b)=false:=by simpa using c1
    exact ou
  ·obtain rfl:k=l.length:=aj;clear aY hk;go_wp2;go_ret;exact⟨by rw[show fl l b= -1 from by unfold fl;rw[BV HN.out,if_neg aj]];rfl,_,rfl⟩
end
def wX (n:Nat)(f:Nat→Bool):Array Value:=Array.ofFn (n:=n) fun i=>.bool (f i.1)
theorem Ln (n:Nat)(f:Nat→Bool){i:Nat}(hi:i<n):(wX n f)[i]? =some (.bool (f i)):=by
 unfold wX;rw[Array.getElem?_ofFn,dif_pos hi]
theorem Qe (n:Nat)(f:Nat→Bool){i:Nat}(hi:i<n)(v:Bool):(wX n f).setIfInBounds i (.bool v)=wX n (fun x=>if x=i then v else f x):=by
 refine Array.ext (by simp[wX]) fun j h1 h2=>?_
 have hj:j<n:=by simpa [wX] using h2
 rw[Array.getElem_setIfInBounds (by simpa [wX] using hj)];simp only[wX,Array.getElem_ofFn]
 by_cases e:i=j
 ·subst e;simp
 ·rw[if_neg e,if_neg (fun h=>e h.symm)]
def lf4 (f:Nat→Int):List Value:=[ah (f 0),ah (f 1),ah (f 2),ah (f 3)]
theorem TJ (f:Nat→Int){t:Nat}(ht:t<4):(lf4 f)[t]? =some (ah (f t)):=by
 rcases(show t=0∨t=1∨t=2∨t=3 by omega)with rfl|rfl|rfl|rfl<;>rfl
theorem PN (f:Nat→Int){t:Nat}(ht:t<4)(v:Int):(lf4 f).set t (ah v)=lf4 (fun x=>if x=t then v else f x):=by
 rcases(show t=0∨t=1∨t=2∨t=3 by omega)with rfl|rfl|rfl|rfl<;>simp[lf4]
theorem tK {f g:Nat→Int}(h:∀t,t<4→f t=g t):lf4 f=lf4 g:=by
 unfold lf4;rw[h 0 aj,h 1 aj,h 2 aj,h 3 aj]
theorem vX {l:List aH}{q:Nat→Int}{ord:List Nat}(hn:ord.Nodup):∀k r,r∉ord.take k→∀t,t<4→(eN l q ord k).o r t=0
 |0,r,_,t,_=>rfl
 |k+1,r,hr,t,ht=>by
  by_cases hk:k<ord.length
  ·rw[mG l q ord hk,yI l _ _ r ht];rw[List.take_succ_eq_append_getElem hk]at hr;have h1:r∉ord.take k:=fun h=>hr (List.mem_append.2 (.inl h))
   have h2:r≠ord.getD k 0:=fun h=>hr (List.mem_append.2 (.inr (by simp[h,hk])))
   rw[if_neg h2];exact vX hn k r h1 t ht
  ·have e:eN l q ord (k+1)=eN l q ord k:=by unfold eN;rw[List.take_of_length_le aj,List.take_of_length_le aj]
   rw[e];exact vX hn k r (fun h=>hr (by rw[List.take_of_length_le aj]at h ⊢;exact h)) t ht
theorem CU {l:gO}(bN:iE l){i k j:Nat}(hi:i<l.length)(hk:k<l.length)(hj:j<l.length)(h1:fU l i k=true)(h2:fU l k j=true):fU l i j=true:=by
 cases h:l.length with
 |zero=>omega
 |succ m=>exact(tQ h bN).trans ⟨i,aj⟩ ⟨k,aj⟩ ⟨j,aj⟩ h1 h2
theorem CV {l:gO}{i k:Nat}(hne:i≠k)(h:fU l i k=false):fU l k i=true:=by
 unfold fU at *;simp only[Bool.or_eq_false_iff,Bool.and_eq_false_iff,decide_eq_false_iff_not,Bool.or_eq_true,Bool.and_eq_true,decide_eq_true_eq,gS]at *;omega
def Ter (a b c:Nat):Nat→Prop:=fun k=>k=a∨k=b∨k=c
structure Pq1 (l:List aH)(q:Nat→Int)(lb lc db ob:Nat)(k:Nat)(z:Int)(w wr:World):Prop where
 z0:1000 - 32*(k:Int)≤z
 z1:z≤1000
 lf:wr.ownsRow 0 3 1 (bp lb 4 lc) 4 (lf4 fun t=>if t<3 then(eN l q (a8 (bn l)) k).c t else z)
 dn:Box wr db 4 (wX l.length fun j=>decide (j∈(a8 (bn l)).take k))
 ot:Box wr ob 3 (kY l.length (eN l q (a8 (bn l)) k).o)
 o:af (Ter lb db ob) w wr
def T5 (l:List aH)(q:Nat→Int)(lb lc db ob:Nat)(w:World)(i:Value)(wr:World):Prop:=∃(k:Nat) (z:Int),k≤l.length∧i=ah k∧Pq1 l q lb lc db ob k z w wr
def Lt (l:List aH)(k:Nat)(w:World)(bv i:Value)(wr:World):Prop:=
 ∃p:Nat,p≤l.length∧i=ah p∧((bv=ah (-1)∧∀j,j<p→j∈(a8 (bn l)).take k)∨
  ∃b:Nat,bv=ah b∧b<p∧b∉(a8 (bn l)).take k∧∀j,j<p→j∉(a8 (bn l)).take k→j=b∨fU (bn l) b j=true)∧∃m,w.drewN m=wr
structure Pq3 (l:List aH)(s:tf)(b:Nat)(z:Int)(lb lc ob:Nat)(m:Nat)(w wr:World):Prop where
 lf:wr.ownsRow 0 3 1 (bp lb 4 lc) 4 (lf4 fun t=>(if t<3 then s.c t else z) - aN s.c m t)
 ot:Box wr ob 3 (kY l.length fun r t=>if r=b then aN s.c m t else s.o r t)
 o:af (Duo lb ob) w wr
def T4 (l:List aH)(s:tf)(b:Nat)(z:Int)(lb lc ob N:Nat)(w:World)(i:Value)(wr:World):Prop:=∃m:Nat,m≤N∧i=ah m∧Pq3 l s b z lb lc ob m w wr
def T3 (s:tf)(m:Nat)(w:World)(i:Value)(wr:World):Prop:=∃t:Nat,t≤3∧i=ah t∧(∀u,u<t→s.c u - aN s.c m u=0)∧wr=w
def Zl (l:List aH)(q:Nat→Int)(w:World)(e:Ending)(w':World):Prop:=
 ∃ob,e= .returned (bp ob (l.length*4) (l.length*4))∧Box w' ob 3 (kY l.length (fJ l q))∧w.heap.size≤ob∧af au w w'
theorem TR:(Tryz.prog.info? 4).map (fun i=>(i.zero,i.size,i.bytes))=some (some (.bool false),1,1):=by kernel_rfl
theorem PE (m:Nat):madeCells (Value.int .i64 0).cells (m*4*1)=kY m (fun _ _=>0):=by
 refine Array.ext (by simp[madeCells,kY]) fun j h1 h2=>?_
 simp[madeCells,kY,Value.cells,Nat.mod_one]
theorem PF (m:Nat):madeCells (Value.bool false).cells (m*1)=wX m (fun _=>false):=by
 refine Array.ext (by simp[madeCells,wX]) fun j h1 h2=>?_
 simp[madeCells,wX,Value.cells,Nat.mod_one]
theorem CG (m:Nat)(hm:m≤40)(w:World):(Instr.makeSlice 47 (ah (4*(m:Int))) (ah (4*(m:Int)))).run Tryz.prog w= .ok (bp w.heap.size (m*4) (m*4)) (w.alloc (.cells (kY m (fun _ _=>0)) 3)):=by
 obtain⟨i,hi,hz,hs,hb⟩:=info_parts gp;have:=run_make (P:=Tryz.prog) w 47 3 i _ Tryz.underlying47 hi hz .i64 .i64 (4*(m:Int)) (4*(m:Int)) aj (Int.le_refl _) (by rw[hb];omega) aj;rw[hs,show(4*(m:Int)).toNat=m*4 by omega]at this;rw[this,PE]
theorem CH (m:Nat)(hm:m≤40)(w:World):(Instr.makeSlice 217 (ah (m:Int)) (ah (m:Int))).run Tryz.prog w= .ok (bp w.heap.size m m) (w.alloc (.cells (wX m (fun _=>false)) 4)):=by
 obtain⟨i,hi,hz,hs,hb⟩:=info_parts TR;have:=run_make (P:=Tryz.prog) w 217 4 i _ Tryz.underlying217 hi hz .i64 .i64 (m:Int) (m:Int) aj (Int.le_refl _) (by rw[hb];omega) aj;rw[hs,show((m:Int)).toNat=m by omega]at this;rw[this,PF]
section
theorem Eb {A:Option Addr}{n c:Nat}{blocks:Int}{l:List aH}{q:Nat→Int}(w:World)(bL:aX w A n c l)(hP:cT blocks l)(hq:∀t,t<3→0≤q t∧q t≤16):
 Calls Tryz.prog 102 #[.slice A n c,.agg (eM q)] w (Zl l q w):=by
 obtain rfl:=bL.len;have H:=ae bL;have HP:=ae hP;have HQ:=ae hq;have Fk:=ae<|tM hP;have E6:=hP.2.2;have HN8:=ae E6;clear bL hP hq
 go_enter Tryz.func102,Tryz.ntmps102
 go_upto_region 1 with fail;have HB:=ae<|Box.fresh w 22 (eM q);have HO:=ae<|(af.ai au w).alloc (.cells (eM q) 22);change Code.wp _ _ _ _ (w.alloc (.cells (eM q) 22));generalize w.alloc (.cells (eM q) 22)=W at *;obtain⟨cb,jV⟩:∃cb,cb=w.heap.size:=⟨_,rfl⟩;rw[←jV]at HB ⊢;clear jV;have tc:=CG l.length aj W;go_upto_region 2 with fail;have bu:=ae<|HO.alloc (.cells (kY l.length (fun _ _=>0)) 3);have Di:=ae<|Box.fresh W 3 (kY l.length (fun _ _=>0));have dG:=ae<|HB.alloc (.cells (kY l.length (fun _ _=>0)) 3);have HWS:=aq (w.heap.size≤W.heap.size) (HO.size);change Code.wp _ _ _ _ (W.alloc (.cells (kY l.length (fun _ _=>0)) 3));generalize W.alloc (.cells (kY l.length (fun _ _=>0)) 3)=W2 at *;generalize W.heap.size=ob at *;clear tc;have tc:=CH l.length aj W2;go_upto_region 3 with fail;have bI:=ae<|bu.alloc (.cells (wX l.length (fun _=>false)) 4);have Yu:=ae<|Di.alloc (.cells (wX l.length (fun _=>false)) 4);have Tq:=ae<|Box.fresh W2 4 (wX l.length (fun _=>false));have hG:=ae<|dG.alloc (.cells (wX l.length (fun _=>false)) 4);have SC:=aq (ob<W2.heap.size) (Di.lt);change Code.wp _ _ _ _ (W2.alloc (.cells (wX l.length (fun _=>false)) 4));generalize W2.alloc (.cells (wX l.length (fun _=>false)) 4)=W3 at *;generalize W2.heap.size=db at *;clear tc HB dG HO bu Di;have x0:aF W3 cb 0 (q 0):=hG.ag rfl;have x1:aF W3 cb 1 (q 1):=hG.ag rfl;have x2:aF W3 cb 2 (q 2):=hG.ag rfl;have Fs:=aq (db<W3.heap.size) (Tq.lt);obtain⟨i0,hi0,uS,UK,yU⟩:=info_parts gp;have HI0:=ae hi0;have HZ0:=ae uS;have Yn:=ae UK;have YT:=ae yU;clear hi0 uS UK yU;have HCN:=ae<|iH W3 [ah (q 0),ah (q 1),ah (q 2),ah 1000] 3;go_upto_region 5 with(at_builtin;refine wpList_append_own_at _ rfl (.tmp 20) (.tmp 27) 47 rfl W3.heap.size 3 i0 _ 1 8 Tryz.underlying47 HI0 HZ0 Yn YT rfl aE aT 0 [] rfl (World.ownsRow_nil _ _ _ _) ⟨W3.heap.size,0,none⟩ 4 4 [ah (q 0),ah (q 1),ah (q 2),ah 1000] rfl rfl HCN aU eV aj (by rw[World.size_alloc];omega) ?_;intro v' w4 h2 h3 h4 h5;have H2:=ae h2;have H3:=ae h3;clear h2 h3 h4 h5);have ey:af au W3 w4:=((af.ai au W3).alloc _).aG ((af.ai _ _).grown (S:=au) H3 fun k hk=>(by cases hk)) fun _ hb=>hb.elim
 have h2:=H2.out;rw[List.nil_append]at h2;obtain⟨lb,lc,rfl,QQ,SR,_⟩:=s4 h2 aj;have Xs:=aq (w4.ownsRow 0 3 1 (bp lb 4 lc) 4 (lf4 fun t=>if t<3 then q t else 1000)) (by
  rcases h2 with⟨e1,⟨e2,_⟩|⟨g,cap,cur,e2,e3,e4⟩⟩
  ·cases e2
  ·exact⟨e1,.inr ⟨g,cap,cur,e2,fH _,e4⟩⟩)
 have Q3:=ae<|ey.ak Tq id;have HOT:=ae<|ey.ak Yu id;have HW4:=ae<|bI.trans ey;have l6:=aq (ob≠db∧lb≠ob∧lb≠db∧w.heap.size≤ob∧w.heap.size≤db∧w.heap.size≤lb) (by
  have h1:=HWS.out;have h2:=SC.out;have h3:=Fs.out;exact⟨aj,aj,aj,aj,aj,aj⟩)
 clear ey h2 QQ SR H2 H3 HCN x0 x1 x2 hG Tq Yu bI HWS SC Fs HI0 HZ0 Yn YT;go_upto_region 6 with fail
 go_loopw [8] (fun i wr=>T5 l q lb lc db ob w4 i wr) (fun i _=>l.length - (intOf i).toNat)
 case atStart=>exact⟨0,1000,fH _,rfl,aj,aj,Xs,Q3,HOT,af.ai _ _⟩
 case round=>
  clear Xs Q3 HOT;obtain⟨k,z,hk,rfl,hI⟩:=hrel;have HI:=ae hI;clear hI
  by_cases aY:k<l.length
  ·have jk:(k:Int)<l.length:=aj;have cD:=ae aY;clear aY hk;go_upto_region 10 with fail
   go_loopw [9,10] (fun bv i wx=>Lt l k wr bv i wx) (fun _ i _=>l.length - (intOf i).toNat)
   case atStart=>exact⟨0,fH _,rfl,.inl ⟨rfl,fun j hj=>absurd hj aj⟩,0,rfl⟩
   case round=>
    obtain⟨p,hp,rfl,WC,m,rfl⟩:=hrel;have VC:=ae WC;clear WC
    by_cases Oa:p<l.length
    ·have hpi:(p:Int)<l.length:=aj;have uZ:=ae Oa;have xd:aM (wr.drewN m) db p (.bool (decide (p∈(a8 (bn l)).take k))):=(HI.dn.drewN m).ag (Ln _ _ Oa);clear Oa hp
     by_cases mL:p∈(a8 (bn l)).take k
     ·rw[decide_eq_true mL]at xd;have Q3:=ae mL;clear mL;have Ng:=aq (Lt l k wr u9 (ah ((p:Int)+1)) (wr.drewN m)) (⟨p+1,uZ,by go_num,by
       rcases VC.out with⟨e,h⟩|⟨b,e,h1,h2,h3⟩
       ·exact .inl ⟨e,fun j hj=>by
         by_cases e2:j=p
         ·rw[e2];exact Q3
         ·exact h j aj⟩
       ·exact .inr ⟨b,e,aj,h2,fun j hj Jz=>by
         by_cases e2:j=p
         ·exact absurd (e2▸Q3.out) Jz
         ·exact h3 j aj Jz⟩,m,rfl⟩)
      go_wp2
      go_roundw
      case rel=>exact Ng
      case measure=>simp[intOf];have:=uZ.out;omega
     ·rw[decide_eq_false mL]at xd;have Q3:=ae mL;clear mL;rcases VC.out with⟨rfl,h⟩|⟨b,rfl,h1,h2,h3⟩
      ·have HH:=ae h;clear h VC;go_wp2
       go_roundw
       case rel=>exact⟨p+1,uZ,by go_num,.inr ⟨p,rfl,aj,Q3,fun j hj Jz=>by
        by_cases e2:j=p
        ·exact .inl e2
        ·exact absurd (HH j aj) Jz⟩,m,rfl⟩
       case measure=>simp[intOf];have:=uZ.out;omega
      ·have Fa:b<l.length:=by have:=uZ.out;omega
       have HDE:=ae (EJ (i:=p) (k:=b) (wr.drewN m) ((H.keep HW4).q7 (HI.o.drewN m) fun h0 j hj hS=>by
        have hh:=H.at_ 0 h0;obtain⟨g,o,e,hg,_⟩:=hh;rw[e]at hj;have e2:=aD.1 hj;have hne:=l6.out;rcases hS with hS|hS|hS<;>omega) HP uZ Fa)
       have b8:=ae h1;have dG:=ae h2;have hG:=ae h3;have sg:=ae Fa;have NU:=ae (show p≠b by omega);have yU:¬(b:Int)<0:=aj;clear h1 h2 h3 Fa VC
       cases UY:fU (bn l) p b with
       |true=>
        rw[UY]at HDE;have NX:=ae UY;clear UY;go_wp2_with (go_at_call 124;refine HDE.mono ?_;rintro e W5 ⟨rfl,m2,rfl⟩)
        go_roundw
        case rel=>
         iterate 24 apply Exists.intro
         refine⟨?_,rfl⟩;exact⟨p+1,uZ,by go_num,.inr ⟨p,rfl,aj,Q3,fun j hj Jz=>by
          by_cases e2:j=p
          ·exact .inl e2
          ·refine .inr ?_;have NH:j<(bn l).length:=by rw[bG];have:=uZ.out;omega
           rcases hG j aj Jz with e3|e3
           ·rw[e3];exact NX
           ·exact CU Fk (by rw[bG];exact uZ) (by rw[bG];exact sg) NH NX e3⟩,_,rfl⟩
        case measure=>simp[intOf];have:=uZ.out;omega
       |false=>
        rw[UY]at HDE;have NX:=ae UY;clear UY;go_wp2_with (go_at_call 124;refine HDE.mono ?_;rintro e W5 ⟨rfl,m2,rfl⟩)
        go_roundw
        case rel=>
         iterate 24 apply Exists.intro
         refine⟨?_,rfl⟩;exact⟨p+1,uZ,by go_num,.inr ⟨b,rfl,by have:=b8.out;omega,dG,fun j hj Jz=>by
          by_cases e2:j=p
          ·rw[e2];exact .inr (CV NU NX)
          ·exact hG j aj Jz⟩,_,rfl⟩
        case measure=>simp[intOf];have:=uZ.out;omega
    ·obtain rfl:p=l.length:=aj;clear Oa hp;have VD:∃b:Nat,u9=ah b∧b<l.length∧b=(a8 (bn l)).getD k 0∧b∉(a8 (bn l)).take k:=by
      have hlen:=bG l;rcases VC.out with⟨e,h⟩|⟨b,e,h1,h2,h3⟩
      ·exfalso
       have NF:k<(a8 (bn l)).length:=by rw[dW,hlen];exact cD
       have hx:=h (a8 (bn l))[k] (by rw[←hlen];exact kv _ _ (List.getElem_mem _));obtain⟨r,hr,er⟩:=List.getElem_of_mem hx;rw[List.getElem_take]at er;have hrk:r<k:=by rw[List.length_take]at hr;omega
       exact List.pairwise_iff_getElem.1 (ik Fk) r k aj NF hrk er
      ·exact⟨b,e,h1,Qk Fk (by rw[hlen];exact cD) (by rw[hlen];exact h1) h2 (fun j hj Jz=>h3 j (by rw[←hlen];exact hj) Jz),h2⟩
     obtain⟨b,rfl,Fa,hbe,JZ⟩:=VD;clear VC;go_upto_region 14 with fail;have abG:=ae<|(HI.dn.drewN m).store b (.bool true);have hdf:=(HI.dn.drewN m).free b;have NJ:aM (wr.drewN m) db b (.bool (decide (b∈(a8 (bn l)).take k))):=(HI.dn.drewN m).ag (Ln _ _ Fa);have M4:(b:Int)<l.length:=aj;have sg:=ae Fa;have VD:=ae hbe;have NZ:=ae JZ;have hne:=l6.out;have abz:=ae (show((wr.drewN m).setCell ⟨db,b,none⟩ (.bool true)).ownsRow 0 3 1 (bp lb 4 lc) 4 (lf4 fun t=>if t<3 then(eN l q (a8 (bn l)) k).c t else z)from
      fR (S:=az db) (show(wr.drewN m).ownsRow 0 3 1 (bp lb 4 lc) 4 _ from HI.lf) ((af.ai (az db) _).setCell (p:=⟨db,b,none⟩) (.inl (show az db db from rfl)) _) fun g hg e=>by
       have h1:=aD.1 hg;have h2:g=db:=e;omega)
     have abq:=ae<|(HI.ot.drewN m).q7 (p:=⟨db,b,none⟩) hne.1 (.bool true);have ek:=ae<|(HI.o.drewN m).setCell (p:=⟨db,b,none⟩) (.inl (.inr (.inl rfl))) (.bool true);clear JZ hbe Fa hne;go_upto_region 15 with fail;change Code.wp _ _ _ _ ((wr.drewN m).setCell ⟨db,b,none⟩ (.bool true));clear hdf NJ;generalize(wr.drewN m).setCell ⟨db,b,none⟩ (.bool true)=W5 at *;have hh:=(H.keep HW4).q7 ek fun h0 j hj hS=>by
      obtain⟨g,o,e,hg,_⟩:=H.at_ 0 h0;rw[e]at hj;have e2:=aD.1 hj;have hne:=l6.out;rcases hS with hS|hS|hS<;>omega
     have HH5:=ae hh;obtain⟨g,o,rfl,hg,_,xs,_⟩:=hh.at_ b sg;have HGN:=aq (¬Duo lb ob g) (fun hS=>by
      obtain⟨g',o',e,hg',_⟩:=H.at_ 0 (by have:=sg.out;omega);injection e with e;injection e with e;have hne:=l6.out;rcases hS with hS|hS<;>omega)
     have bN:=HP.1 b sg;unfold Aj at bN;have JP:=ae<|sX HP HQ (fun x hx=>by have:=kv (bn l) x hx;rwa [bG]at this) k;have HZO:=ae<|vX (q:=q) (l:=l) (ik Fk) k b NZ;have Vj:=ae<|mG l q (a8 (bn l)) (k:=k) (by rw[dW,bG];exact cD);rw[←VD.out]at Vj;have HAC:=ae<|fun(t:Nat) (ht:t<3)=>Jj l (eN l q (a8 (bn l)) k) b ht;have HAO:=ae<|fun(r t:Nat) (ht:t<4)=>yI l (eN l q (a8 (bn l)) k) b r ht;generalize hsz:(l.getD b default).size=sz at *;have HZZ:=aq (1000 - 32*(k:Int)≤z∧z≤1000) (⟨HI.z0,HI.z1⟩);generalize hps:eN l q (a8 (bn l)) k=s at *;obtain⟨N,rfl⟩:=Int.eq_ofNat_of_zero_le (show 0≤sz by omega);have abv:=ae (show N≤32 by omega);have acq:=abv.out;clear hh bN hsz hps hg HI;go_upto_region 16 with fail
     go_loopw [11] (fun i wx=>T4 l s b z lb lc ob N W5 i wx) (fun i _=>N - (intOf i).toNat)
     case atStart=>
      refine⟨0,fH _,rfl,?_,?_,af.ai _ _⟩
      ·have h1:=abz.out;rw[tK (fun t ht=>by rw[show((0:Nat):Int)=0 from rfl,F7 (fun x hx=>(JP.out x hx).1) t ht];omega) (g:=fun t=>if t<3 then s.c t else z)];exact h1
      ·have h1:=abq.out;rw[tH (O':=s.o) (fun r t hr ht=>by
        by_cases e:r=b
        ·rw[if_pos e,e,show((0:Nat):Int)=0 from rfl,F7 (fun x hx=>(JP.out x hx).1) t ht,HZO.out t ht]
        ·rw[if_neg e])]
       exact h1
     case round=>
      obtain⟨m3,Dd,rfl,hI3⟩:=hrel;have Gr:=ae hI3;clear hI3;have xs3:=Gr.o.cell xs HGN
      by_cases hml:m3<N
      ·have hmi:(m3:Int)<N:=aj;have HML:=ae hml;have N0:=ae<|Cp (m:=(m3:Int)) (c:=s.c) aj (fun x hx=>(JP x hx).1);clear hml Dd;go_upto_region 19 with fail
       go_loopw [12] (fun i wx=>T3 s m3 wr i wx) (fun i _=>3 - (intOf i).toNat)
       case atStart=>exact⟨0,aj,rfl,fun u hu=>absurd hu aj,rfl⟩
       case round=>
        obtain⟨t,ht,rfl,hz,rfl⟩:=hrel;have HZ:=ae hz;clear hz;have xv:=Gr.lf.cellAt t aj;rw[TJ _ (show t<4 by omega)]at xv
        by_cases Dc:(if t<3 then s.c t else z) - aN s.c m3 t=0
        ·have UI:t<3:=by
          rcases Nat.lt_or_ge t 3 with h|h
          ·exact h
          ·exfalso
           obtain rfl:t=3:=aj;rw[if_neg aj]at Dc;have h1:=N0.2.2.1;have h2:=HZZ.out;have:=cD.out;omega
         have JC:=aq (∀u,u<t+1→s.c u - aN s.c m3 u=0) (fun u hu=>by
          by_cases e:u=t
          ·rw[e];rw[if_pos UI]at Dc;exact Dc
          ·exact HZ u aj)
         rw[Dc]at xv;have hti:(t:Int)<4:=aj;have Sm:=ae UI;clear Dc UI ht;go_wp2
         go_roundw
         case rel=>exact⟨t+1,Sm,by go_num,JC,rfl⟩
         case measure=>simp[intOf];have:=Sm.out;omega
        ·have HSC:=ae<|Qr (m:=(m3:Int)) (c:=s.c) aj (fun x hx=>(JP x hx).1) (show t<4 by omega) HZ (fun h3=>by rw[if_pos h3]at Dc;exact Dc);have hti:(t:Int)<4:=aj;have Sm:=ae ht;have xf:=Gr.lf.frozenAt t;have yv:=Gr.ot.ag (vB l.length (fun r t=>if r=b then aN s.c m3 t else s.o r t) sg (show t<4 by omega));rw[if_pos rfl]at yv;have yf:=Gr.ot.free (b*4+t);have UH:0≤(if t<3 then s.c t else z)∧(if t<3 then s.c t else z)≤1000:=by
          split
          ·have:=JP.out t aj;omega
          ·have:=HZZ.out;have:=cD.out;omega
         have fS:0≤aN s.c m3 t∧aN s.c m3 t≤32:=by
          have h1:=N0.out;refine⟨?_,by have:=h1.2.2.2 t aj;omega⟩
          by_cases e:t<3
          ·exact(h1.1 t e).1
          ·obtain rfl:t=3:=aj;exact h1.2.1
         have eix:(4*(b:Int)+(t:Int)).toNat=b*4+t:=aj;have hix:4*(b:Int)+(t:Int)<l.length*4:=by have:=sg.out;omega
         have acz:0≤4*(b:Int)+(t:Int):=aj;have hne:=l6.2.1;have Kv:¬ob=lb:=fun e=>hne e.symm
         have J9:=ae<|Gr.ot.store (b*4+t) (ah (aN s.c m3 t+1));have HV0:=ae Dc;generalize uB:(if t<3 then s.c t else z) - aN s.c m3 t=v at *;generalize haa:aN s.c m3 t=av at *;have JD:=ae uB;have HAA:=ae haa;have hv1: -32≤v∧v≤1000:=aj;clear uB haa ht;have acj:(v==0)=false:=by simpa using Dc
         clear Dc UH;go_wp2
         go_roundw
         case rel=>
          refine⟨m3+1,HML,by go_num,?_,?_,?_⟩
          ·have h1:=(Gr.lf.stored t (ah (v - 1))).1;rw[PN _ (show t<4 by have:=Sm.out;omega),tK (g:=fun x=>(if x<3 then s.c x else z) - aN s.c ((m3+1:Nat):Int) x) (fun x hx=>by
            have h2:=HSC.out x hx;have h3:=JD.out;have h4:=HAA.out;rw[show((m3+1:Nat):Int)=(m3:Int)+1 by omega,h2]
            by_cases e:x=t
            ·subst e;rw[if_pos rfl,if_pos rfl,h4];omega
            ·rw[if_neg e,if_neg e];omega)]at h1
           exact fR (S:=az ob) h1 ((af.ai (az ob) _).setCell (p:=⟨ob,b*4+t,none⟩) (.inl (show az ob ob from rfl)) _) fun g hg e=>by
            have h5:=aD.1 hg;have h6:g=ob:=e;omega
          ·have h1:=(Gr.ot.q7 (p:=⟨lb,t,none⟩) Kv (ah (v - 1))).store (b*4+t) (ah (av+1));rw[zJ l.length _ sg.out (show t<4 by have:=Sm.out;omega),tH (O':=fun r x=>if r=b then aN s.c ((m3+1:Nat):Int) x else s.o r x) (fun r x hr hx=>by
            have h2:=HSC.out x hx;rw[show((m3+1:Nat):Int)=(m3:Int)+1 by omega,h2]
            by_cases e:r=b
            ·rw[if_pos e,if_pos e]
             by_cases e2:x=t
             ·rw[if_pos ⟨e,e2⟩,if_pos e2,e2,HAA.out]
             ·rw[if_neg (fun h=>e2 h.2),if_neg e2];omega
            ·rw[if_neg (fun h=>e h.1),if_neg e,if_neg e])]at h1
           exact h1
          ·exact(Gr.o.setCell (p:=⟨lb,t,none⟩) (.inl (.inl rfl)) _).setCell (p:=⟨ob,b*4+t,none⟩) (.inl (.inr rfl)) _
         case measure=>simp[intOf];have:=HML.out;omega
      ·obtain rfl:m3=N:=aj;clear hml Dd;go_wp2
       go_roundw
       case rel=>
        have U0:=Cp (m:=(m3:Int)) (c:=s.c) aj (fun x hx=>(JP x hx).1);have Nx:=HZZ.out;refine⟨k+1,z - aN s.c m3 3,cD,by go_num,?_,?_,?_,?_,?_,?_⟩
        ·have:=U0.2.2.1;omega
        ·have:=U0.2.1;omega
        ·rw[Vj.out];have h1:=Gr.lf;rw[tK (g:=fun t=>if t<3 then(iM l s b).c t else z - aN s.c m3 3) (fun t ht=>by
          by_cases e:t<3
          ·rw[if_pos e,if_pos e,HAC.out t e]
          ·obtain rfl:t=3:=aj;rw[if_neg e,if_neg e])]at h1
         exact h1
        ·have h1:=abG.out;rw[Qe _ _ sg.out]at h1;have hd:(wX l.length fun x=>if x=b then true else decide (x∈(a8 (bn l)).take k))=wX l.length fun x=>decide (x∈(a8 (bn l)).take (k+1)):=by
          congr 1
          funext x
          rw[List.take_succ_eq_append_getElem (by rw[dW,bG];exact cD.out)];have hb:(a8 (bn l))[k]'(by rw[dW,bG];exact cD)=b:=by
           rw[VD.out];simp[show k<(a8 (bn l)).length by rw[dW,bG];exact cD.out]
          rw[hb]
          by_cases e:x=b
          ·rw[if_pos e];simp[e]
          ·rw[if_neg e];simp[e]
         rw[hd]at h1;exact Gr.o.ak h1 fun e=>by
          have hne:=l6.out;rcases e with e|e<;>omega
        ·rw[Vj.out];have h1:=Gr.ot;rw[tH (O':=(iM l s b).o) (fun r t hr ht=>(HAO.out r t ht).symm)]at h1;exact h1
        ·exact ek.aG Gr.o fun j hj=>.inl (by
          rcases hj with e|e
          ·exact .inl e
          ·exact .inr (.inr e))
       case measure=>simp[intOf];have:=cD.out;omega
  ·obtain rfl:k=l.length:=aj;clear aY hk;go_wp2;go_ret;have hne:=l6.out;refine⟨ob,rfl,?_,hne.2.2.2.1,HW4.aG HI.o fun j hj=>.inr (by rcases hj with e|e|e<;>omega)⟩;have e:eN l q (a8 (bn l)) l.length=BL l q (a8 (bn l)):=by
    exact mZ
   have h1:=HI.ot;rw[e]at h1;exact h1
end
end
end Go.Proofs.YtpcfhbeakecihaaGreat
