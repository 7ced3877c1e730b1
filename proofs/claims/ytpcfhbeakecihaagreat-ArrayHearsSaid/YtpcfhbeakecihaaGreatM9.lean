/- Lemmas. -/
import Derived.Test.YtpcfhbeakecihaaGreatM6
import Derived.Deep.RegionLaw
set_option linter.all false
set_option maxHeartbeats 20000000
set_option maxRecDepth 100000
namespace Go.Proofs.YtpcfhbeakecihaaGreat
open Go.RowKit
def Src (w:World)(A:Option Addr)(xs:List Value):Prop:=∀j u,xs[j]? =some u→∃g o,A=some ⟨g,o,none⟩∧aM w g (o+j) u
theorem Src.lJ (w:World)(A:Option Addr):Src w A []:=fun j u h=>by simp at h
theorem Src.ar {S:Nat→Prop}{w w':World}{A:Option Addr}{xs:List Value}(h:Src w A xs)(ho:af S w w')(hn:∀g o,A=some ⟨g,o,none⟩→g<w.heap.size→¬S g):Src w' A xs:=by
 intro j u hj;obtain⟨g,o,rfl,hc⟩:=h j u hj;exact⟨g,o,rfl,ho.cell hc (hn g o rfl (World.block_lt_of_cell? w _ hc))⟩
theorem Src.at_ {w:World}{A:Option Addr}{xs:List Value}(h:Src w A xs){i:Nat}(hi:i<xs.length)(d:Value):∃g o,A=some ⟨g,o,none⟩∧aM w g (o+i) (xs.getD i d):=
 h i _ (by simp[hi])
theorem kg (w:World)(u:Value)(t:TypeId):Src (w.alloc (.cells #[u] t)) (some ⟨w.heap.size,0,none⟩) [u]:=by
 intro j u' hj
 match j,hj with
 |0,hj=>
  simp only[List.getElem?_cons_zero,Option.some.injEq]at hj;subst hj;exact⟨_,_,rfl,(Box.fresh w t _).ag rfl⟩
theorem af.free {S:Nat→Prop}{w w':World}(h:af S w w'){p:Addr}{v:Value}(hc:w.cell? p=some v)(hn:¬S p.block)(hf:w.frozen? p=false):w'.frozen? p=false:=
 (World.frozen?_of_block (h.block p.block (World.block_lt_of_cell? w p hc) hn)).trans hf
def Row (e:TypeId)(w:World)(v:Value)(xs:List Value):Prop:=
 (v=aT∧xs= [])∨
 ∃g cap cur,v=bp g xs.length cap∧Box w g e cur∧xs.length≤cap∧cap≤cur.size∧cap≤maxLen∧cur.toList.take xs.length=xs
section
variable {e:TypeId}{w w':World}{v:Value}{xs:List Value}{S:Nat→Prop}
theorem Row.lJ (e:TypeId)(w:World):Row e w aT []:=.inl ⟨rfl,rfl⟩
theorem aD {g o:Nat}{s:Option Nat}{n c:Nat}{k:Nat}:aJ (.slice (some ⟨g,o,s⟩) n c) k↔g=k:=by simp[aJ,Value.ownBlock]
theorem bo {n c k:Nat}:¬aJ (.slice none n c) k:=by simp[aJ,Value.ownBlock]
theorem Row.lt (h:Row e w v xs){k:Nat}(hk:aJ v k):k<w.heap.size:=by
 rcases h with⟨rfl,_⟩|⟨g,cap,cur,rfl,hb,_⟩
 ·exact(bo hk).elim
 ·rw[aD]at hk;subst hk;exact hb.lt
theorem Row.ak (h:Row e w v xs){k:Nat}(hk:aJ v k):∃cs,Box w k e cs:=by
 rcases h with⟨rfl,_⟩|⟨g,cap,cur,rfl,hb,_⟩
 ·exact(bo hk).elim
 ·rw[aD]at hk;subst hk;exact⟨_,hb⟩
theorem Row.ar (h:Row e w v xs)(ho:af S w w')(hn:∀k,aJ v k→¬S k):Row e w' v xs:=by
 rcases h with h|⟨g,cap,cur,rfl,hb,r⟩
 ·exact .inl h
 ·exact .inr ⟨g,cap,cur,rfl,ho.ak hb (hn g (aD.2 rfl)),r⟩
theorem Row.shape (h:Row e w v xs):∃A c,v= .slice A xs.length c∧xs.length≤c∧c≤maxLen:=by
 rcases h with⟨rfl,rfl⟩|⟨g,cap,cur,rfl,hb,h1,h2,h3,h4⟩
 ·exact⟨none,0,rfl,dX _,fH _⟩
 ·exact⟨_,cap,rfl,h1,h3⟩
theorem Row.cell (h:Row e w v xs){i:Nat}{u:Value}(hi:xs[i]? =some u):∃g c,v=bp g xs.length c∧aM w g i u∧w.frozen? ⟨g,i,none⟩=false:=by
 rcases h with⟨rfl,rfl⟩|⟨g,cap,cur,rfl,hb,h1,h2,h3,h4⟩
 ·simp at hi
 ·refine⟨g,cap,rfl,hb.ag ?_,hb.free _⟩;have aY:i<xs.length:=(List.getElem?_eq_some_iff.1 hi).1;have:(cur.toList.take xs.length)[i]? =some u:=by rw[h4];exact hi
  rw[List.getElem?_take,if_pos aY]at this;simpa using this
theorem Row.src (h:Row e w v xs):∃A c,v= .slice A xs.length c∧Src w A xs:=by
 obtain⟨A,c,hv,_⟩:=h.shape;refine⟨A,c,hv,fun j u hj=>?_⟩;obtain⟨g,c',MV,hc,_⟩:=h.cell hj;rw[hv]at MV;injection MV with e1;exact⟨g,0,e1,by rw[Nat.zero_add];exact hc⟩
theorem take_set (l:List Value)(n i:Nat)(u:Value)(hi:i<n):(l.set i u).take n=(l.take n).set i u:=by
 rw[List.take_set]
theorem Row.store (h:Row e w v xs){i:Nat}(hi:i<xs.length)(u:Value){g:Nat}(hg:aJ v g):Row e (w.setCell ⟨g,i,none⟩ u) v (xs.set i u):=by
 rcases h with⟨rfl,rfl⟩|⟨g',cap,cur,rfl,hb,h1,h2,h3,h4⟩
 ·simp at hi
 ·rw[aD]at hg;subst hg;refine .inr ⟨g',cap,_,by rw[List.length_set],hb.store i u,by rw[List.length_set];exact h1,by simpa using h2,h3,?_⟩;rw[List.length_set,Array.toList_setIfInBounds,take_set _ _ _ _ hi,h4]
theorem Row.cut (h:Row e w v xs){i:Nat}(hi:i<xs.length):∃g c,v=bp g xs.length c∧Row e w (bp g i i) (xs.take i):=by
 rcases h with⟨rfl,rfl⟩|⟨g',cap,cur,rfl,hb,h1,h2,h3,h4⟩
 ·simp at hi
 ·have hl:(xs.take i).length=i:=by rw[List.length_take];omega
  refine⟨g',cap,rfl,.inr ⟨g',i,cur,by rw[hl],hb,aj,aj,aj,?_⟩⟩;rw[hl,←h4,List.take_take]
  congr 1
  omega
end
section
variable {P:Program}(w:World)
theorem nP{P:Prop}(h:P:=by
 simp only[hs,Nat.mul_one,List.size_toArray,List.length_append,List.length_take,List.length_drop,Array.length_toList];omega):P:=h
theorem ad5{P:Prop}(h:P:=by rw[aD]at hk;omega):P:=h
theorem wJ (t ty e:TypeId){z:Value}{bytes:Nat}(ee:(P.info? e).map (fun i=>(i.zero,i.size,i.bytes))=some (some z,1,bytes))(Gc:z.cells.size=1)(ht:P.underlying t=some (.slice e))
 (v:Value) (xs:List Value) (hr:Row e w v xs) (A:Option Addr) (c:Nat) (news:List Value) (sw:Src w A news) (h1:∀u∈news,u.oneCell'=true)
 (hlen:xs.length+news.length≤maxLen) (ib:(xs.length+news.length)*bytes≤140737488355328):
 ∃v' w',(Builtin.append_ #[t,t] ty #[v,.slice A news.length c]).run P w= .ok v' w'∧Row e w' v' (xs ++ news)∧af (aJ v) w w'∧(∀k,aJ v' k→aJ v k∨w.heap.size≤k)∧Row e w' v xs:=by
 obtain⟨i,hi,hz,hs,iq⟩:=info_parts ee;have TK:xs.length+news.length≤9223372036854775807:=by simp only[maxLen]at hlen;omega
 have tm:∀a,A=some a→∀j u,news[j]? =some u→w.cell? (a.add j)=some u:=by
  intro a ha j u hj;obtain⟨g,o,hA,hc⟩:=sw j u hj;rw[ha]at hA;injection hA with hA;subst hA;rw[Addr.add_lit];exact hc
 have Re:news≠[]→∃a,A=some a:=by
  intro hne
  cases news with
  |nil=>exact(hne rfl).elim
  |cons x l=>obtain⟨g,o,hA,_⟩:=sw 0 x rfl;exact⟨_,hA⟩
 have fresh:∀(old:Nat),xs.length≤old→old<xs.length+news.length→∀S,
  Row e (w.drew.alloc (.cells (xs.toArray ++ news.toArray ++ Builtin.zeroCells z.cells (grownCap w (xs.length+news.length) old e - (xs.length+news.length))) e))
   (bp w.heap.size (xs.length+news.length) (grownCap w (xs.length+news.length) old e)) (xs ++ news)∧
  af S w (w.drew.alloc (.cells (xs.toArray ++ news.toArray ++ Builtin.zeroCells z.cells (grownCap w (xs.length+news.length) old e - (xs.length+news.length))) e)):=by
  intro old aK ho S;have hge:=grownCap_ge w (xs.length+news.length) old e;have hcm:grownCap w (xs.length+news.length) old e≤maxLen:=grownCap_le_maxLen w _ old e hlen;refine⟨.inr ⟨w.heap.size,_,_,by rw[List.length_append],Box.fresh w.drew e _,by rw[List.length_append];exact hge,?_,hcm,?_⟩,((af.ai S w).drew).alloc _⟩
  ·simp only[Array.size_append,List.size_toArray,size_zeroCells,Gc];omega
  ·simp only[Array.toList_append,List.append_assoc];rw[←List.append_assoc];exact List.take_left
 rcases hr with⟨rfl,rfl⟩|⟨g,cap,cur,rfl,hb,h2,h3,h4,h5⟩
 ·by_cases hm:news= []
  ·subst hm;refine⟨aT,w,?_,Row.lJ e w,af.ai _ _,fun k hk=>(bo hk).elim,Row.lJ e w⟩
   cases A<;>simp[Builtin.append_,run_underlying ht,sizeOf,typeInfo,hi,Builtin.lenOf,Builtin.firstCells,loadCells,loadCellsFrom]
  ·obtain⟨a,rfl⟩:=Re hm;have Ks:0<news.length:=List.length_pos_iff.2 hm;have hr:=run_append_nil (P:=P) w t ty e i z ht hi hz a news.length c news (by rw[hs,Nat.mul_one]) (tm a rfl) Ks (by have:=TK;simp at this;omega) (by rw[iq];have:=ib;simp at this;omega);obtain⟨f1,f2⟩:=fresh 0 (dX _) (by simpa using Ks) (aJ aT);simp only[List.length_nil,Nat.zero_add,List.nil_append,Array.empty_append]at f1 f2 ⊢;exact⟨_,_,hr,f1,f2,fun k hk=>.inr ad5,Row.lJ e _⟩
 ·by_cases ue:xs.length+news.length≤cap
  ·have ry:w.heap[g]? =some (.cells cur e (0,0)):=hb
   cases A with
   |none=>
    have hm:news= []:=by
     cases news with
     |nil=>rfl
     |cons x l=>obtain⟨g,o,hA,_⟩:=sw 0 x rfl;cases hA
    subst hm;refine⟨_,w,?_,by rw[List.append_nil];exact .inr ⟨g,cap,cur,rfl,hb,h2,h3,h4,h5⟩,af.ai _ _,fun k hk=>.inl hk,.inr ⟨g,cap,cur,rfl,hb,h2,h3,h4,h5⟩⟩;have:xs.length+0≤cap:=ue;simp[Builtin.append_,run_underlying ht,sizeOf,typeInfo,hi,Builtin.lenOf,Builtin.firstCells,h2,storeCells]
   |some a=>
    have hr:=run_append_room (P:=P) w t ty e i ht hi g xs.length cap cur ry a news.length c news (by rw[hs,Nat.mul_one]) (tm a rfl) h1 ue (by rw[hs,Nat.mul_one];omega);refine⟨_,_,hr,.inr ⟨g,cap,(cur.toList.take (xs.length*i.size) ++ news ++ cur.toList.drop (xs.length*i.size+news.length)).toArray,by rw[List.length_append],?_,by rw[List.length_append];exact ue,?_,h4,?_⟩,?_,fun k hk=>.inl (by rw[aD]at hk ⊢;exact hk),.inr ⟨g,cap,(cur.toList.take (xs.length*i.size) ++ news ++ cur.toList.drop (xs.length*i.size+news.length)).toArray,rfl,setRow_heap w g cur _ e _ ry,h2,?_,h4,?_⟩⟩
    ·exact setRow_heap w g cur _ e _ ry
    ·exact nP
    ·simp only[hs,Nat.mul_one];rw[h5,List.append_assoc,←List.append_assoc];exact List.take_left
    ·exact⟨rfl,rfl,rfl,by simp,fun k _ hk=>setRow_other w g k _ (fun e=>hk (aD.2 e.symm))⟩
    ·exact nP
    ·simp only[hs,Nat.mul_one];rw[h5,List.append_assoc];exact List.take_left
  ·have hne:news≠[]:=by rintro rfl;simp at ue;omega
   obtain⟨a,rfl⟩:=Re hne;have holds:∀j u,xs[j]? =some u→w.cell? ((⟨g,0,none⟩:Addr).add j)=some u:=by
    intro j u hj;obtain⟨g',c',MV,hc,_⟩:=Row.cell (e:=e) (w:=w) (.inr ⟨g,cap,cur,rfl,hb,h2,h3,h4,h5⟩) hj;injection MV with e1;injection e1 with e1;injection e1 with e1;subst e1;rw[Addr.add_lit,Nat.zero_add];exact hc
   have hr:=run_append_grow (P:=P) w t ty e i z ht hi hz ⟨g,0,none⟩ xs.length cap xs (by rw[hs,Nat.mul_one]) holds a news.length c news (by rw[hs,Nat.mul_one]) (tm a rfl) aj aj
    (by rw[iq];exact growslice_fits aj ib)
   obtain⟨f1,f2⟩:=fresh cap h2 aj (aJ (bp g xs.length cap));exact⟨_,_,hr,f1,f2,fun k hk=>.inr ad5,.inr ⟨g,cap,cur,rfl,Box.alloc (w:=w.drew) hb _,h2,h3,h4,h5⟩⟩
theorem rm {o:Oper}{a:Act}{K:Act→World→Prop}{Q:Exit→Act→World→Prop}(s x:Operand)(t e:TypeId)
 (ho:o.op= .call {callee:=.builtin .append,args:=#[s,x],argTypes:=#[t,t]}) {z:Value} {bytes:Nat}
 (ee:(P.info? e).map (fun i=>(i.zero,i.size,i.bytes))=some (some z,1,bytes)) (Gc:z.cells.size=1) (ht:P.underlying t=some (.slice e))
 (v:Value) (xs:List Value) (hs:a.eval s=v) (hr:Row e w v xs) (A:Option Addr) (n c:Nat) (news:List Value) (hx:a.eval x= .slice A n c) (hn:n=news.length) (sw:Src w A news)
 (h1:∀u∈news,u.oneCell'=true) (hlen:xs.length+news.length≤maxLen) (ib:(xs.length+news.length)*bytes≤140737488355328)
 (h:∀v' w',Row e w' v' (xs ++ news)→af (aJ v) w w'→(∀k,aJ v' k→aJ v k∨w.heap.size≤k)→Row e w' v xs→K (a.put o.dst v') w'):o.wp P a w K Q:=by
 subst hn;obtain⟨v',w',hr,h2,h3,h4,h5⟩:=wJ (P:=P) w t o.type e ee Gc ht v xs hr A c news sw h1 hlen ib;unfold Oper.wp execOp;simp only[ho,resolve,invoke,builtin,Sem.run_bind,Sem.run_pure,Result.andThen_ok,List.map_toArray,List.map_cons,List.map_nil,hs,hx,hr];exact h v' w' h2 h3 h4 h5
theorem bA {ops:Array Oper}{rest:List Oper}{o:Oper}{a:Act}{Q:Exit→Act→World→Prop}(qw:o.guard=none)(s x:Operand)(t e:TypeId)
 (ho:o.op= .call {callee:=.builtin .append,args:=#[s,x],argTypes:=#[t,t]}) {z:Value} {bytes:Nat}
 (ee:(P.info? e).map (fun i=>(i.zero,i.size,i.bytes))=some (some z,1,bytes)) (Gc:z.cells.size=1) (ht:P.underlying t=some (.slice e))
 (v:Value) (xs:List Value) (hs:a.eval s=v) (hr:Row e w v xs) (A:Option Addr) (n c:Nat) (news:List Value) (hx:a.eval x= .slice A n c) (hn:n=news.length) (sw:Src w A news)
 (h1:∀u∈news,u.oneCell'=true) (hlen:xs.length+news.length≤maxLen) (ib:(xs.length+news.length)*bytes≤140737488355328)
 (h:∀v' w',Row e w' v' (xs ++ news)→af (aJ v) w w'→(∀k,aJ v' k→aJ v k∨w.heap.size≤k)→Row e w' v xs→wpList P ops Q rest (a.put o.dst v') w'):wpList P ops Q (o :: rest) a w:=
 wpList_plain qw fun _ hK=>rm w s x t e ho ee Gc ht v xs hs hr A n c news hx hn sw h1 hlen ib fun v' w' h2 h3 h4 h5=>hK _ _ (h v' w' h2 h3 h4 h5)
theorem JS {ops:Array Oper}{o:Oper}{a:Act}{K:Act→World→Prop}{Q:Exit→Act→World→Prop}{E:Prop}(qw:o.guard=none)(s x:Operand)(t e:TypeId)
 (ho:o.op= .call {callee:=.builtin .append,args:=#[s,x],argTypes:=#[t,t]}) {z:Value} {bytes:Nat}
 (ee:(P.info? e).map (fun i=>(i.zero,i.size,i.bytes))=some (some z,1,bytes)) (Gc:z.cells.size=1) (ht:P.underlying t=some (.slice e))
 (v:Value) (xs:List Value) (hs:a.eval s=v) (hr:Row e w v xs) (A:Option Addr) (n c:Nat) (news:List Value) (hx:a.eval x= .slice A n c) (hn:n=news.length) (sw:Src w A news)
 (h1:∀u∈news,u.oneCell'=true) (hlen:xs.length+news.length≤maxLen) (ib:(xs.length+news.length)*bytes≤140737488355328)
 (h:∀v' w',Row e w' v' (xs ++ news)→af (aJ v) w w'→(∀k,aJ v' k→aJ v k∨w.heap.size≤k)→Row e w' v xs→K (a.put o.dst v') w'):
 if Region.wanted o (yielded ops a.tmps)=true then Oper.wp P o a w K Q else E:=by
 have hw:Region.wanted o (yielded ops a.tmps)=true:=by simp[Region.wanted,qw]
 rw[if_pos hw];exact rm w s x t e ho ee Gc ht v xs hs hr A n c news hx hn sw h1 hlen ib h
end
end Go.Proofs.YtpcfhbeakecihaaGreat
