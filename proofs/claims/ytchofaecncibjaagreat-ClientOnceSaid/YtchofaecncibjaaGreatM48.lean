/- Lemmas. -/
import Derived.Test.YtchofaecncibjaaGreatM40
set_option linter.all false
set_option maxHeartbeats 20000000
set_option maxRecDepth 100000
namespace Go.Proofs.YtchofaecncibjaaGreat
section
variable {K:aZ}{c:aM}{M:CM K.σ}{F:Int→Option Value}
def wX (c:aM)(S:Nat→kY)(ops:Nat)(F:Int→Option Value):Prop:=∀j,j<cN c→(S j).op≠0→F (S j).op=some (ah (j:Nat))∧1≤(S j).op∧(S j).op≤ops
theorem wX.start:wX c (fun _=>EH) 0 F:=fun j hj h=>absurd rfl h
def RD (c:aM)(S:Nat→kY)(ops:Nat)(E:List nP)(F:Int→Option Value):Prop:=
 (E= []∧wX c S ops F)∨∃e,E= [e]∧F e.op=some (ah e.slot)∧wX c S ops (wU F e.op)∧1≤e.op∧e.op≤ops
theorem wX.begin (hP:cK c)(h:wX c M.S M.ops F)(he:M.en= []){i b:Int}{wr:Bool}{d:List Int}(hc:dJ c M.S i wr b d.length=0):
 RD c (bB K.sp c (cN c) M i.toNat wr b d).S (M.ops+1) (bB K.sp c (cN c) M i.toNat wr b d).en (Ak F ((M.ops+1:Nat):Int) (ah i)):=by
 obtain⟨⟨j,rfl,hj⟩,_,_,h0⟩:=uC hP hc;rw[Int.toNat_natCast]at h0 ⊢;have e0:(bG K.sp c (cN c) M b).en= []:=by rw[xJ];exact he
 unfold bB
 by_cases hh:wr=false∧((bG K.sp c (cN c) M b).D b).isSome=true
 ·rw[if_pos hh];refine .inr ⟨⟨j,((M.ops+1:Nat):Int),false,0,((bG K.sp c (cN c) M b).D b).getD []⟩,?_,uI _ _ _,fun q hq wI=>?_,by show(1:Int)≤((M.ops+1:Nat):Int);omega,Int.le_refl _⟩
  ·show M.en ++ [_]= [_]
   rw[he];rfl
  ·have wI:((bG K.sp c (cN c) M b).S q).op≠0:=wI
   show wU (Ak F _ _) _ ((bG K.sp c (cN c) M b).S q).op=_∧1≤((bG K.sp c (cN c) M b).S q).op∧((bG K.sp c (cN c) M b).S q).op≤_
   rw[BW]at wI ⊢;obtain⟨h1,h2,h3⟩:=h q hq wI;refine⟨?_,h2,ao⟩;unfold wU;rw[if_neg (by show¬(M.S q).op=((M.ops+1:Nat):Int);omega),uu _ _ ao];exact h1
 ·rw[if_neg hh];refine .inl ⟨e0,fun q hq wI=>?_⟩
  show Ak F _ _ (aI M.S j _ q).op=_∧1≤(aI M.S j _ q).op∧(aI M.S j _ q).op≤_
  have wI:(aI M.S j _ q).op≠0:=wI;unfold aI at wI ⊢
  by_cases e:q=j
  ·rw[if_pos e];exact⟨by rw[e];exact uI _ _ _,by show(1:Int)≤((M.ops+1:Nat):Int);omega,Int.le_refl _⟩
  ·rw[if_neg e]at wI ⊢;obtain⟨h1,h2,h3⟩:=h q hq wI;exact⟨by rw[uu _ _ ao];exact h1,h2,ao⟩
theorem wX.aaC (h:wX c M.S M.ops F)(he:M.en= []){m:di}{d:List Int}:
 RD c (bd K.sp c (cN c) M m d).S M.ops (bd K.sp c (cN c) M m d).en F:=by
 have key:∀M':CM K.σ,M'.S=(kE M m d).S→M'.en=(kE M m d).en→eF m d.length=true→jP (cN c) M m=true→RD c M'.S M.ops M'.en F:=by
  intro M' hS hE hb ha;rw[hS,hE];unfold jP at ha;simp only[Bool.and_eq_true,decide_eq_true_eq]at ha;obtain⟨⟨⟨⟨_,s1⟩,o1⟩,o2⟩,w1⟩:=ha;obtain⟨k,hk⟩:∃k:Nat,m.f 2=k:=⟨(m.f 2).toNat,by have:=iE hb;omega⟩;have oJ:k<cN c:=ao;rw[hk,Int.toNat_natCast]at o2;obtain⟨h1,h2,h3⟩:=h k oJ gQ;rw[o2]at h1 h2 h3;refine .inr ⟨⟨m.f 2,m.f 4,decide (m.f 0=6),m.f 8,if m.f 0=6 then[]else d⟩,?_,by rw[hk];exact h1,fun q hq wI=>?_,h2,h3⟩
  ·show M.en ++ [_]= [_]
   rw[he];rfl
  ·show wU F (m.f 4) (aI M.S (m.f 2).toNat EH q).op=_∧1≤(aI M.S (m.f 2).toNat EH q).op∧(aI M.S (m.f 2).toNat EH q).op≤_
   have wI:(aI M.S (m.f 2).toNat EH q).op≠0:=wI;rw[hk,Int.toNat_natCast]at wI ⊢;unfold aI at wI ⊢
   by_cases e:q=k
   ·rw[if_pos e]at wI;exact absurd rfl wI
   ·rw[if_neg e]at wI ⊢;obtain⟨g1,g2,g3⟩:=h q hq wI;refine⟨?_,g2,g3⟩;unfold wU;rw[if_neg fun e9=>e (by rw[e9,h1]at g1;injection g1 with g1;injection g1 with _ g1;omega)];exact g1
 unfold bd
 split
 ·exact .inl ⟨he,h⟩
 rename_i hn
 have hb:eF m d.length=true:=by
  cases e:eF m d.length with
  |true=>rfl
  |false=>exact absurd (.inr e) hn
 split
 ·unfold fP
  split
  ·exact .inl ⟨he,h⟩
  ·exact .inl ⟨he,h⟩
 split
 ·exact .inl ⟨he,h⟩
 rename_i h9
 have ha:jP (cN c) M m=true:=by simpa using h9
 split
 ·exact key _ rfl rfl hb ha
 ·exact key _ (zl _ _) (wb _ _) hb ha
theorem wX.act (h:wX c M.S M.ops F)(he:M.en= []){a:iO}(h0:a.kind≠0):RD c (lI K c M a).S M.ops (lI K c M a).en F∧(lI K c M a).ops=M.ops:=by
 unfold lI;rw[if_neg h0]
 split
 ·exact⟨h.aaC he,Cs _ _⟩
 split
 ·exact⟨.inl ⟨he,h⟩,rfl⟩
 split
 ·exact⟨.inl ⟨he,h⟩,rfl⟩
 ·exact⟨.inl ⟨he,h⟩,rfl⟩
end
end Go.Proofs.YtchofaecncibjaaGreat
