/- Lemmas. -/
import Derived.Test.YtpcfhbeakecihaaGreatM1
import Derived.Test.YtpcfhbeakecihaaGreatM4
import Derived.Deep.Draws
import Derived.WalkSpells
set_option linter.all false
set_option maxHeartbeats 20000000
set_option maxRecDepth 100000
namespace Go.Proofs.YtpcfhbeakecihaaGreat
section
open Go.RowKit
def Box (w:World)(g:Nat)(t:TypeId)(cs:Array Value):Prop:=w.heap[g]? =some (.cells cs t (0,0))
section
variable {w w':World}{g:Nat}{t:TypeId}{cs:Array Value}
theorem Box.lt (h:Box w g t cs):g<w.heap.size:=(Array.getElem?_eq_some_iff.1 h).1
theorem Box.cell (h:Box w g t cs)(i:Nat):w.cell? ⟨g,i,none⟩=cs[i]? :=cell_of_row w g i cs t (0,0) h
theorem Box.ag (h:Box w g t cs){i:Nat}{v:Value}(hv:cs[i]? =some v):w.cell? ⟨g,i,none⟩=some v:=(h.cell i).trans hv
theorem Box.free (h:Box w g t cs)(i:Nat):w.frozen? ⟨g,i,none⟩=false:=by
 unfold Box at h;simp[World.frozen?,h]
theorem Box.fresh (w:World)(t:TypeId)(cs:Array Value):Box (w.alloc (.cells cs t)) w.heap.size t cs:=heap_alloc_new w _
theorem Box.drew (h:Box w g t cs):Box w.drew g t cs:=h
theorem Box.drewN (h:Box w g t cs)(n:Nat):Box (w.drewN n) g t cs:=h
theorem Box.alloc (h:Box w g t cs)(o:Obj):Box (w.alloc o) g t cs:=(Below.heap_alloc w o g h.lt).trans h
theorem Box.store (h:Box w g t cs)(i:Nat)(u:Value):Box (w.setCell ⟨g,i,none⟩ u) g t (cs.setIfInBounds i u):=by
 unfold Box at h ⊢;simp[World.setCell,Array.getElem?_modify,h]
theorem Box.jB (h:Box w g t cs){p:Addr}(hp:g≠p.block)(u:Value):Box (w.setCell p u) g t cs:=(Below.heap_setCell w p u g hp).trans h
theorem Box.same {t':TypeId}{cs':Array Value}(h:Box w g t cs)(h':Box w g t' cs'):t=t'∧cs=cs':=by
 unfold Box at h h';rw[h]at h';injection h' with h';injection h' with a b;exact⟨b,a⟩
theorem Box.off {t' g':Nat}{cs':Array Value}(h:Box w g t cs)(h':Box w g' t' cs')(hne:t≠t'):g≠g':=by
 rintro rfl;exact hne (h.same h').1
end
theorem dK {P:Program}{f:FuncId}{args:Array Value}{w:World}{n:Nat}{v:Value}
 (h:Calls P f args (w.drewN n) fun e w'=>e= .returned v∧w.drewN n=w'):Calls P f args (w.drewN n) fun e dS=>e= .returned v∧∃m,dS=w.drewN m:=
 h.mono fun _ _ ⟨he,hm⟩=>⟨he,n,hm.symm⟩
theorem Gi {P:Program}{f:FuncId}{args:Array Value}{w:World}{n:Nat}{v:Value}
 (h:Calls P f args (w.drewN n) fun e w'=>e= .returned v∧∃k,w'=(w.drewN n).drewN k):Calls P f args (w.drewN n) fun e dS=>e= .returned v∧∃m,dS=w.drewN m:=
 h.mono fun _ _ ⟨he,k,hm⟩=>⟨he,n+k,by rw[hm,World.drewN_drewN]⟩
structure af (S:Nat→Prop)(w w':World):Prop where
 os:w'.os=w.os
 tape:w'.tape=w.tape
 output:w'.output=w.output
 size:w.heap.size≤w'.heap.size
 block:∀k,k<w.heap.size→¬S k→w'.heap[k]? =w.heap[k]?
def aA:Nat→Prop:=fun _=>False
def aM (b:Nat):Nat→Prop:=fun k=>k=b
section
variable {S S':Nat→Prop}{a w w' dS:World}
theorem af.ak (S:Nat→Prop)(w:World):af S w w:=⟨rfl,rfl,rfl,dT _,fun _ _ _=>rfl⟩
theorem af.aE (h:af S a w)(k:af S' w w')(hs:∀b,S' b→S b∨a.heap.size≤b):af S a w':=
 ⟨k.os.trans h.os,k.tape.trans h.tape,k.output.trans h.output,Nat.le_trans h.size k.size,fun i hi hn=>
  (k.block i (Nat.lt_of_lt_of_le hi h.size) (fun hb=>(hs i hb).elim hn (fun h=>by omega))).trans (h.block i hi hn)⟩
theorem af.trans (h:af S a w)(k:af S w w'):af S a w':=h.aE k fun _ h=>.inl h
theorem af.iJ (h:af S a w)(k:af aA w w'):af S a w':=h.aE k fun _ h=>h.elim
theorem af.mono (h:af S w w')(hs:∀b,S b→S' b∨w.heap.size≤b):af S' w w':=
 ⟨h.os,h.tape,h.output,h.size,fun k hk hn=>h.block k hk (fun hb=>(hs k hb).elim hn (fun h=>by omega))⟩
theorem af.drew (h:af S a w):af S a w.drew:=⟨h.os,h.tape,h.output,h.size,h.block⟩
theorem af.drewN (h:af S a w)(n:Nat):af S a (w.drewN n):=⟨h.os,h.tape,h.output,h.size,h.block⟩
theorem af.alloc (h:af S a w)(o:Obj):af S a (w.alloc o):=
 h.trans ⟨rfl,rfl,rfl,by simp,fun k hk _=>Below.heap_alloc _ _ _ hk⟩
theorem af.setCell (h:af S a w){p:Addr}(hp:S p.block∨a.heap.size≤p.block)(u:Value):af S a (w.setCell p u):=
 h.aE (S':=aM p.block) ⟨rfl,rfl,rfl,by simp[World.setCell],fun k _ hk=>Below.heap_setCell _ _ _ _ hk⟩ (by rintro _ rfl;exact hp)
theorem af.grown (h:af S a w){row:Option Nat}(hg:w.grownBy w' row)(hr:∀k,row=some k→S k∨a.heap.size≤k):af S a w':=
 h.aE (S':=fun k=>row=some k) ⟨hg.os,hg.tape,hg.output,hg.size,fun k hk hn=>hg.block k hk (fun e=>hn e.symm)⟩ hr
theorem af.below (h:af S a w){B:Nat}(hs:∀k,S k→B≤k)(hB:B≤a.heap.size):Below B a w:=
 ⟨h.os,h.tape,h.output,h.size,fun k hk=>h.block k ai (fun e=>by have:=hs k e;omega)⟩
theorem af.vQ (h:Below a.heap.size a w):af S a w:=⟨h.os,h.tape,h.output,h.size,fun k hk _=>h.block k hk⟩
theorem af.az {g:Nat}{t:TypeId}{cs:Array Value}(h:af S a w)(hb:Box a g t cs)(hn:¬S g):Box w g t cs:=(h.block g hb.lt hn).trans hb
theorem af.cell (h:af S a w){p:Addr}{v:Value}(hc:a.cell? p=some v)(hn:¬S p.block):w.cell? p=some v:=
 (World.cell?_of_block (h.block p.block (World.block_lt_of_cell? a p hc) hn)).trans hc
end
def cD (w:World)(v:Value)(l:List Int):Prop:=
 ∃A c,v= .slice A l.length c∧l.length≤c∧c≤maxLen∧∀i,i<l.length→∃g o,A=some ⟨g,o,none⟩∧w.cell? ⟨g,o+i,none⟩=some (ah (l.getD i 0))
def aC (t:TypeId)(w:World)(base:Nat)(v:Value)(l:List Int):Prop:=w.ownsRow base t 1 v l.length (l.map (Value.int .i64))
theorem aC.at {t:TypeId}{w:World}{base:Nat}{v:Value}{l:List Int}(h:aC t w base v l):cD w v l:=by
 obtain⟨h1,h2⟩:=h;rcases h2 with⟨rfl,h0⟩|⟨g,cap,cur,rfl,hb,hg,hn,hm,hs,ht⟩
 ·have hl:l= []:=List.eq_nil_of_length_eq_zero h0;subst hl;exact⟨none,0,rfl,dT _,eK _,by simp⟩
 ·refine⟨some ⟨g,0,none⟩,cap,rfl,hn,hm,fun i hi=>⟨g,0,rfl,?_⟩⟩;rw[Nat.zero_add,cell_of_row w g i cur t (0,0) hg];have:(cur.toList.take (l.length*1))[i]? =some (ah (l.getD i 0)):=by
   rw[ht];simp[hi]
  rw[List.getElem?_take,if_pos ai]at this;simpa using this
theorem cD.keep {S:Nat→Prop}{w w':World}{v:Value}{l:List Int}(h:cD w v l)(ho:af S w w')(hn:∀g o n c,v= .slice (some ⟨g,o,none⟩) n c→¬S g):cD w' v l:=by
 obtain⟨A,c,rfl,h1,h2,h3⟩:=h;refine⟨A,c,rfl,h1,h2,fun i hi=>?_⟩;obtain⟨g,o,rfl,hc⟩:=h3 i hi;exact⟨g,o,rfl,ho.cell hc (hn g o _ _ rfl)⟩
def aJ (v:Value):Nat→Prop:=fun g=>v.ownBlock=some g
theorem o6 {P:Program}(w:World){ops:Array Oper}{rest:List Oper}{o:Oper}{a:Act}{Q:Exit→Act→World→Prop}(jX:o.guard=none)(s x:Operand)(t e:TypeId)
 (ho:o.op= .call {callee:=.builtin .append,args:=#[s,x],argTypes:=#[t,t]}) {z:Value} {bytes:Nat}
 (cG:(P.info? e).map (fun i=>(i.zero,i.size,i.bytes))=some (some z,1,bytes)) (sf:z.cells.size=1) (ht:P.underlying t=some (.slice e))
 (base:Nat) (v:Value) (n:Nat) (xs:List Value) (u:Value) (hs:a.eval s=v) (bp:w.ownsRow base e 1 v n xs) (ad:Addr) (hx:a.eval x= .slice (some ad) 1 1)
 (hcell:w.cell? ad=some u) (h1:u.oneCell'=true) (hlen:n+1≤maxLen) (cN:(n+1)*bytes≤140737488355328) (gI:base≤w.heap.size)
 (h:∀v' w',w'.ownsRow base e 1 v' (n+1) (xs ++ [u])→af (aJ v) w w'→(v'.ownBlock=v.ownBlock∨v'.ownBlock=some w.heap.size)→wpList P ops Q rest (a.put o.dst v') w'):
 wpList P ops Q (o :: rest) a w:=by
 obtain⟨i0,hi,pV,rf,tP⟩:=info_parts cG;refine wpList_append_own_at w jX s x t ho base e i0 z 1 bytes ht hi pV rf tP sf av v n xs hs bp ad 1 1 [u] hx rfl (fun j u' hj=>?_) (by simpa using h1) hlen cN gI
  (fun v' w' h2 h3 _ h5=>h v' w' h2 ((af.ak _ _).grown h3 fun k hk=>.inl hk) h5)
 match j,hj with
 |0,hj=>simp only[List.getElem?_cons_zero,Option.some.injEq]at hj;subst hj;exact hcell
theorem hG {P:Program}(w:World){ops:Array Oper}{rest:List Oper}{o:Oper}{a:Act}{Q:Exit→Act→World→Prop}(jX:o.guard=none)(s x:Operand)(t e:TypeId)
 (ho:o.op= .call {callee:=.builtin .append,args:=#[s,x],argTypes:=#[t,t]})
 (cG:(P.info? e).map (fun i=>(i.zero,i.size,i.bytes))=some (some (ah 0),1,8)) (ht:P.underlying t=some (.slice e))
 (base:Nat) (v:Value) (l:List Int) (k:Int) (hs:a.eval s=v) (bp:aC e w base v l) (ad:Addr) (hx:a.eval x= .slice (some ad) 1 1)
 (hcell:w.cell? ad=some (ah k)) (hlen:l.length≤1000000) (gI:base≤w.heap.size)
 (h:∀v' w',aC e w' base v' (l ++ [k])→af (aJ v) w w'→wpList P ops Q rest (a.put o.dst v') w'):
 wpList P ops Q (o :: rest) a w:=
 o6 w jX s x t e ho cG rfl ht base v l.length (l.map (Value.int .i64)) (ah k) hs bp ad hx hcell rfl (by unfold maxLen;omega) ai gI
  (fun v' w' h2 h3 _=>h v' w' (by unfold aC;simpa using h2) h3)
theorem aC.alloc {e:TypeId}{w:World}{base:Nat}{v:Value}{l:List Int}(h:aC e w base v l)(o:Obj):aC e (w.alloc o) base v l:=World.ownsRow.alloc h o
theorem aC.lt {e:TypeId}{w:World}{base:Nat}{v:Value}{l:List Int}(h:aC e w base v l):∀k,aJ v k→base≤k∧k<w.heap.size:=World.ownsRow.lt h
theorem dO {w w':World}{base:Nat}{e:TypeId}{size:Nat}{v:Value}{n:Nat}{xs:List Value}{S:Nat→Prop}(h:w.ownsRow base e size v n xs)(ho:af S w w')(hn:∀g,aJ v g→¬S g):w'.ownsRow base e size v n xs:=by
 refine⟨h.1,?_⟩;rcases h.2 with h2|⟨g,cap,cur,hv,hg,hh,r⟩
 ·exact .inl h2
 ·exact .inr ⟨g,cap,cur,hv,hg,(ho.block g (Array.getElem?_eq_some_iff.1 hh).1 (hn g (by rw[hv];rfl))).trans hh,r⟩
theorem aC.ao {w w':World}{base:Nat}{e:TypeId}{v:Value}{l:List Int}{S:Nat→Prop}(h:aC e w base v l)(ho:af S w w')(hn:∀g,aJ v g→¬S g):aC e w' base v l:=dO h ho hn
theorem aC.nil (e:TypeId)(w:World)(base:Nat):aC e w base ey []:=World.ownsRow_nil _ _ _ _
theorem jV {P:Program}(w:World)(a:Addr)(ty:TypeId)(cs:List Value)(d:TypeDesc)(hcell:∀j v,cs[j]? =some v→w.cell? (a.add j)=some v)
 (hu:P.underlying ty=some d) (hd:(match d with| .struct _| .array _ _=>true|_=>false)=true) (hi:(P.info? ty).map (·.size)=some cs.length):
 (loadVar ty a).run P w= .ok (.agg cs.toArray) w:=by
 have hl:=run_loadCells_list (P:=P) w a cs hcell
 cases hq:P.info? ty with
 |none=>simp[hq]at hi
 |some i=>
  have hs:i.size=cs.length:=by simpa [hq] using hi
  have Jj:(isAgg ty).run P w= .ok true w:=by
   unfold isAgg;rw[Sem.run_bind,run_underlying hu w]
   cases d<;>simp_all
  simp[loadVar,Sem.run_bind,Jj,sizeOf,typeInfo,hq,hs,hl]
theorem tN {P:Program}{ops:Array Oper}{rest:List Oper}{o:Oper}{a:Act}{w:World}{Q:Exit→Act→World→Prop}(jX:o.guard=none)(ty:TypeId)(x:Operand)(ho:o.op= .load ty x)
 (g:Addr) (hx:a.eval x= .pointer (some g)) (cs:List Value) (d:TypeDesc) (hcell:∀j v,cs[j]? =some v→w.cell? (g.add j)=some v)
 (hu:P.underlying ty=some d) (hd:(match d with| .struct _| .array _ _=>true|_=>false)=true) (hi:(P.info? ty).map (·.size)=some cs.length)
 (h:wpList P ops Q rest (a.put o.dst (.agg cs.toArray)) w):wpList P ops Q (o :: rest) a w:=
 wpList_plain jX fun K hK=>by
  have hr:=jV (P:=P) w g ty cs d hcell hu hd hi;unfold Oper.wp execOp;simp only[ho,hx,Instr.loadAt,Instr.sureAddr,Sem.run_bind,Sem.run_pure,Result.andThen_ok,hr];exact hK _ _ h
theorem iB {P:Program}(w:World)(t e:TypeId)(n:Nat)(cs:Array Value)(k:IntKind)(i:Int)(v:Value)(ht:P.underlying t=some (.array n e))
 (hp:P.plainKey e=true) (hs:(P.info? e).map (·.size)=some 1) (h0:0≤i) (h1:i<n) (hv:cs[i.toNat]? =some v):(Instr.index t (.agg cs) (.int k i)).run P w= .ok v w:=by
 cases hq:P.info? e with
 |none=>simp[hq]at hs
 |some d=>
  have hsz:d.size=1:=by simpa [hq] using hs
  have NJ:=run_part_plain (w:=w) hp hv;simp[Instr.index,asIntOf,run_underlying ht,h0,h1,sizeOf,typeInfo,hq,hsz,NJ]
theorem aC.shape {t:TypeId}{w:World}{base:Nat}{v:Value}{l:List Int}(h:aC t w base v l):∃A c,v= .slice A l.length c∧l.length≤c∧c≤maxLen:=by
 obtain⟨A,c,h1,h2,h3,_⟩:=h.at;exact⟨A,c,h1,h2,h3⟩
theorem cD.ag {w:World}{A:Option Addr}{n c:Nat}{l:List Int}(h:cD w (.slice A n c) l){i:Nat}(hi:i<l.length):
 ∃g o,A=some ⟨g,o,none⟩∧w.cell? ⟨g,o+i,none⟩=some (ah (l.getD i 0)):=by
 obtain⟨A',c',e,_,_,h3⟩:=h;injection e with e1 e2 e3;subst e1;exact h3 i hi
theorem cD.len {w:World}{A:Option Addr}{n c:Nat}{l:List Int}(h:cD w (.slice A n c) l):n=l.length:=by
 obtain⟨A',c',e,_,_,h3⟩:=h;injection e
theorem Box.aK {w:World}{g:Nat}{t:TypeId}{cs:Array Value}(h:Box w g t cs)(cs':Array Value):Box (w.setRow g cs') g t cs':=setRow_heap w g cs cs' t (0,0) h
theorem af.aK {S:Nat→Prop}{a w:World}(h:af S a w){g:Nat}(hg:S g∨a.heap.size≤g)(cs:Array Value):af S a (w.setRow g cs):=
 ⟨h.os,h.tape,h.output,by simpa [World.setRow] using h.size,fun k hk hn=>by
  rw[setRow_other w g k cs (fun e=>by subst e;exact hg.elim hn fun h=>by omega)];exact h.block k hk hn⟩
theorem j6 {P:Program}(w:World){ops:Array Oper}{rest:List Oper}{o:Oper}{a:Act}{Q:Exit→Act→World→Prop}(jX:o.guard=none)(s x:Operand)(t e:TypeId)
 (ho:o.op= .call {callee:=.builtin .append,args:=#[s,x],argTypes:=#[t,t]}) {z:Value} {size bytes:Nat}
 (cG:(P.info? e).map (fun i=>(i.zero,i.size,i.bytes))=some (some z,size,bytes)) (sf:z.cells.size=size) (hsz:0<size) (ht:P.underlying t=some (.slice e))
 (base:Nat) (v:Value) (n:Nat) (xs:List Value) (cs:List Value) (hs:a.eval s=v) (bp:w.ownsRow base e size v n xs) (ad:Addr) (hx:a.eval x= .slice (some ad) 1 1)
 (rm:cs.length=size) (hcell:∀j u,cs[j]? =some u→w.cell? (ad.add j)=some u) (h1:∀u∈cs,u.oneCell'=true) (hlen:n+1≤maxLen) (cN:(n+1)*bytes≤140737488355328) (gI:base≤w.heap.size)
 (h:∀v' w',w'.ownsRow base e size v' (n+1) (xs ++ cs)→af (aJ v) w w'→(v'.ownBlock=v.ownBlock∨v'.ownBlock=some w.heap.size)→wpList P ops Q rest (a.put o.dst v') w'):
 wpList P ops Q (o :: rest) a w:=by
 obtain⟨i0,hi,pV,rf,tP⟩:=info_parts cG;exact wpList_append_own_at w jX s x t ho base e i0 z size bytes ht hi pV rf tP sf hsz v n xs hs bp ad 1 1 cs hx ai hcell h1 hlen cN gI
  (fun v' w' h2 h3 _ h5=>h v' w' h2 ((af.ak _ _).grown h3 fun k hk=>.inl hk) h5)
theorem Cm {P:Program}(w:World){ops:Array Oper}{o:Oper}{a:Act}{K:Act→World→Prop}{Q:Exit→Act→World→Prop}{E:Prop}(jX:o.guard=none)(s x:Operand)(t e:TypeId)
 (ho:o.op= .call {callee:=.builtin .append,args:=#[s,x],argTypes:=#[t,t]}) {z:Value} {size bytes:Nat}
 (cG:(P.info? e).map (fun i=>(i.zero,i.size,i.bytes))=some (some z,size,bytes)) (sf:z.cells.size=size) (hsz:0<size) (ht:P.underlying t=some (.slice e))
 (base:Nat) (v:Value) (n:Nat) (xs:List Value) (cs:List Value) (hs:a.eval s=v) (bp:w.ownsRow base e size v n xs) (ad:Addr) (hx:a.eval x= .slice (some ad) 1 1)
 (rm:cs.length=size) (hcell:∀j u,cs[j]? =some u→w.cell? (ad.add j)=some u) (h1:∀u∈cs,u.oneCell'=true) (hlen:n+1≤maxLen) (cN:(n+1)*bytes≤140737488355328) (gI:base≤w.heap.size)
 (h:∀v' w',w'.ownsRow base e size v' (n+1) (xs ++ cs)→af (aJ v) w w'→(v'.ownBlock=v.ownBlock∨v'.ownBlock=some w.heap.size)→K (a.put o.dst v') w'):
 if Region.wanted o (yielded ops a.tmps)=true then Oper.wp P o a w K Q else E:=by
 have hw:Region.wanted o (yielded ops a.tmps)=true:=by simp[Region.wanted,jX]
 rw[if_pos hw];obtain⟨i0,hi,pV,rf,tP⟩:=info_parts cG;obtain⟨v',w',hr,h2,h3,h4,h5⟩:=run_append_own_at (P:=P) w base t o.type e i0 z size bytes ht hi pV rf tP sf hsz v n xs bp ad 1 1 cs ai hcell h1 hlen cN gI;unfold Oper.wp execOp;simp only[ho,resolve,invoke,builtin,Sem.run_bind,Sem.run_pure,Result.andThen_ok,List.map_toArray,List.map_cons,List.map_nil,hs,hx,hr];exact h v' w' h2 ((af.ak _ _).grown h3 fun k hk=>.inl hk) h5
theorem oH {w:World}{base:Nat}{e:TypeId}{size:Nat}{v:Value}{n:Nat}{xs:List Value}(h:w.ownsRow base e size v n xs):∃A c,v= .slice A n c∧n≤c∧c≤maxLen:=by
 rcases h.2 with⟨rfl,rfl⟩|⟨g,cap,cur,rfl,_,_,hn,hm,_⟩
 ·exact⟨none,0,rfl,dT _,eK _⟩
 ·exact⟨_,cap,rfl,hn,hm⟩
theorem nG {w:World}{base:Nat}{e:TypeId}{size:Nat}{v:Value}{n:Nat}{xs:List Value}(h:w.ownsRow base e size v n xs)(hn:0<n):∃g c,v=cS g n c∧base≤g∧g<w.heap.size∧∀j u,xs[j]? =some u→ba w g j u:=by
 rcases h.2 with⟨rfl,h0⟩|⟨g,cap,cur,rfl,hb,hg,GY,hm,hs,ht⟩
 ·omega
 ·refine⟨g,cap,rfl,hb,(Array.getElem?_eq_some_iff.1 hg).1,fun j u hj=>?_⟩;have:=h.cells (g:=g) rfl j u hj;rw[Addr.add_lit,Nat.zero_add]at this;exact this
theorem tE (w:World)(cs:List Value)(t:TypeId):∀j u,cs[j]? =some u→(w.alloc (.cells cs.toArray t)).cell? ((⟨w.heap.size,0,none⟩:Addr).add j)=some u:=by
 intro j u hj;rw[Addr.add_lit,Nat.zero_add];exact(Box.fresh w t cs.toArray).ag (by simpa using hj)
end
section
open Go.MapKept Go.Maps Go.RowKit
def nT (k:Int):Prop:=-9223372036854775808≤k∧k≤9223372036854775807
theorem nT.wf {k:Int}(h:nT k):(Lit.int .i64 k).wf=true:=by
 obtain⟨h1,h2⟩:=h;simp[Lit.wf,IntKind.min,IntKind.max,IntKind.signed,IntKind.bits];omega
theorem nT.of {k:Int}(h:(Lit.int .i64 k).wf=true):nT k:=by
 simp[Lit.wf,IntKind.min,IntKind.max,IntKind.signed,IntKind.bits]at h;exact⟨ai,ai⟩
def bZ (w:World)(mb:Nat)(F:Int→Option Value):Prop:=
 ∃es clock,w.heap[mb]? =some (.map es clock)∧Stamped es clock∧(∀e∈es.toList,∃k,nT k∧e.key= .int .i64 k∧F k=some e.val)∧∀k v,F k=some v→∃e∈es.toList,e.key= .int .i64 k
def od (F:Int→Option Value)(k:Int)(v:Value):Int→Option Value:=fun x=>if x=k then some v else F x
def qd (F:Int→Option Value)(k:Int):Int→Option Value:=fun x=>if x=k then none else F x
theorem mq (F:Int→Option Value)(k:Int)(v:Value):od F k v k=some v:=by simp[od]
theorem kr (F:Int→Option Value){k x:Int}(v:Value)(h:x≠k):od F k v x=F x:=by simp[od,h]
section
variable {P:Program}{w w':World}{mb:Nat}{F:Int→Option Value}{mt kt et:TypeId}
theorem bZ.lt (h:bZ w mb F):mb<w.heap.size:=by
 obtain⟨es,clock,hb,_⟩:=h;exact(Array.getElem?_eq_some_iff.1 hb).1
theorem bZ.ao {S:Nat→Prop}(h:bZ w mb F)(ho:af S w w')(hn:¬S mb):bZ w' mb F:=by
 obtain⟨es,clock,hb,h1⟩:=h;exact⟨es,clock,(ho.block mb (Array.getElem?_eq_some_iff.1 hb).1 hn).trans hb,h1⟩
theorem bZ.keep (h:bZ w mb F)(ho:af aA w w'):bZ w' mb F:=h.ao ho id
theorem bZ.ne {g:Nat}{t:TypeId}{cs:Array Value}(h:bZ w mb F)(hb:Box w g t cs):g≠mb:=by
 rintro rfl;obtain⟨es,clock,h1,_⟩:=h;unfold Box at hb;rw[h1]at hb
 cases hb
theorem bZ.made (w:World):bZ (w.alloc (.map #[] 0)) w.heap.size (fun _=>none):=
 ⟨#[],0,heap_alloc_new w _,stamped_empty 0,fun e he=>by simp at he,fun k v h=>by cases h⟩
theorem bZ.found (h:bZ w mb F)(hk:P.underlying kt=some (.int .i64)){k:Int}(hi:nT k):
 ∃es clock,w.heap[mb]? =some (.map es clock)∧Stamped es clock∧(∀e∈es.toList,∃k,nT k∧e.key= .int .i64 k∧F k=some e.val)∧(∀k v,F k=some v→∃e∈es.toList,e.key= .int .i64 k)∧
  (∀em,(Instr.checkKey em 10000 kt (.int .i64 k)).run P w= .ok () w)∧
  (((Instr.findKey kt (.int .i64 k) es.toList).run P w= .ok none w∧F k=none∧∀e∈es.toList,e.key≠ .int .i64 k)∨
   ∃j e,(Instr.findKey kt (.int .i64 k) es.toList).run P w= .ok (some (j,e.val)) w∧es[j]? =some e∧e.key= .int .i64 k∧F k=some e.val):=by
 obtain⟨es,clock,hb,hs,h1,h2⟩:=h;have K:Keyed P kt:=int_keyed hk;have ux:=keyOf_int_mk hk hi.wf;refine⟨es,clock,hb,hs,h1,h2,fun em=>K.check w em ux,?_⟩;rcases K.find w ux es.toList (fun e he=>by obtain⟨x,hx,e1,_⟩:=h1 e he;rw[e1];exact⟨_,keyOf_int_mk hk hx.wf⟩)with⟨hf,ll⟩|⟨j,e,hf,hj,he⟩
 ·refine .inl ⟨hf,?_,ll⟩
  cases hF:F k with
  |none=>rfl
  |some v=>
   obtain⟨e,he,e1⟩:=h2 k v hF;exact absurd e1 (ll e he)
 ·refine .inr ⟨j,e,hf,by simpa using hj,he,?_⟩;obtain⟨x,_,e1,e2⟩:=h1 e (List.mem_of_getElem? hj);rw[he]at e1;injection e1 with _ e1;rw[e1];exact e2
theorem eT (h:bZ w mb F)(hm:P.underlying mt=some (.map kt et))(hk:P.underlying kt=some (.int .i64)){z:Value}(hz:(zeroValue et).run P w= .ok z w){k:Int}(hi:nT k):
 (Instr.lookup mt (.map (some mb)) (.int .i64 k) false).run P w= .ok ((F k).getD z) w:=by
 obtain⟨es,clock,hb,hs,h1,h2,ue,⟨hf,hn,_⟩|⟨j,e,hf,hj,he,hn⟩⟩:=h.found hk hi
 ·simp[Instr.lookup,run_underlying hm,MapKept.run_getObj_map hb,ue,hf,hz,Result.andThen,hn]
 ·simp[Instr.lookup,run_underlying hm,MapKept.run_getObj_map hb,ue,hf,Result.andThen,hn]
theorem zN (h:bZ w mb F)(hm:P.underlying mt=some (.map kt et))(hk:P.underlying kt=some (.int .i64)){z:Value}(hz:(zeroValue et).run P w= .ok z w){k:Int}(hi:nT k):
 (Instr.lookup mt (.map (some mb)) (.int .i64 k) true).run P w= .ok (.tuple #[(F k).getD z,.bool (F k).isSome]) w:=by
 obtain⟨es,clock,hb,hs,h1,h2,ue,⟨hf,hn,_⟩|⟨j,e,hf,hj,he,hn⟩⟩:=h.found hk hi
 ·simp[Instr.lookup,run_underlying hm,MapKept.run_getObj_map hb,ue,hf,hz,Result.andThen,hn]
 ·simp[Instr.lookup,run_underlying hm,MapKept.run_getObj_map hb,ue,hf,Result.andThen,hn]
theorem gO (w:World)(mb:Nat)(o:Obj):af (aM mb) w {w with heap:=w.heap.setIfInBounds mb o}:=
 ⟨rfl,rfl,rfl,by simp,fun k hk hne=>by
  have:mb≠k:=fun e=>hne (show k=mb from e.symm)
  simp[this]⟩
theorem sQ (h:bZ w mb F)(hm:P.underlying mt=some (.map kt et))(hk:P.underlying kt=some (.int .i64)){k:Int}(hi:nT k)(v:Value):
 ∃w',(Instr.mapUpdate mt (.map (some mb)) (.int .i64 k) v).run P w= .ok () w'∧bZ w' mb (od F k v)∧af (aM mb) w w':=by
 obtain⟨es,clock,hb,hs,h1,h2,ue,⟨hf,hn,ll⟩|⟨j,e,hf,hj,he,hn⟩⟩:=h.found hk hi
 ·refine⟨{w with heap:=w.heap.setIfInBounds mb (.map (es.push {key:=.int .i64 k,val:=v,born:=clock}) (clock+1))},?_,?_,gO _ _ _⟩
  ·simp[Instr.mapUpdate,run_underlying hm,MapKept.run_getObj_map hb,ue,hf,MapKept.run_setObj_map _ hb,Result.andThen]
  ·refine⟨_,_,(heap_set hb).1,stamped_push hs ll,fun x hx=>?_,fun k' v' hF=>?_⟩
   ·simp only[Array.toList_push,List.mem_append,List.mem_singleton]at hx;rcases hx with hx|rfl
    ·obtain⟨y,hy,e1,e2⟩:=h1 x hx;refine⟨y,hy,e1,?_⟩;rw[kr _ _ (fun e=>ll x hx (by rw[e1,e]))];exact e2
    ·exact⟨k,hi,rfl,mq _ _ _⟩
   ·simp only[Array.toList_push,List.mem_append,List.mem_singleton]
    by_cases e:k'=k
    ·exact⟨_,.inr rfl,by rw[e]⟩
    ·rw[kr _ _ e]at hF;obtain⟨x,hx,e1⟩:=h2 k' v' hF;exact⟨x,.inl hx,e1⟩
 ·have za:(Instr.keyThatStays (.int .i64 k) (.int .i64 k)).run P w= .ok (.int .i64 k) w:=run_keyThatStays (d:=.int .i64) rfl;refine⟨{w with heap:=w.heap.setIfInBounds mb (.map (es.modify j fun e=>{e with key:=.int .i64 k,val:=v}) clock)},?_,?_,gO _ _ _⟩
  ·simp[Instr.mapUpdate,run_underlying hm,MapKept.run_getObj_map hb,ue,hf,hj,he,za,MapKept.run_setObj_map _ hb,Result.andThen]
  ·have ux:∀e',es[j]? =some e'→({e' with key:=.int .i64 k,val:=v}:MapEntry).key=e'.key:=fun e' Fs=>by rw[hj]at Fs;cases Fs;exact he.symm
   refine⟨_,_,(heap_set hb).1,stamped_modify hs _ _ (fun _ _=>rfl) (fun e' _ Fs=>ux e' Fs),fun x hx=>?_,fun k' v' hF=>?_⟩
   ·obtain⟨i,nO,rfl⟩:=Array.mem_iff_getElem.1 (Array.mem_toList_iff.1 hx);have Jd:i<es.size:=by simpa using nO
    by_cases tR:j=i
    ·subst tR;rw[Array.getElem_modify];exact⟨k,hi,by simp,by simp[mq]⟩
    ·have e0:(es.modify j fun e=>{e with key:=.int .i64 k,val:=v})[i]=es[i]:=by rw[Array.getElem_modify];simp[tR]
     rw[e0];obtain⟨y,hy,e1,e2⟩:=h1 es[i] (Array.mem_toList_iff.2 (Array.getElem_mem Jd));refine⟨y,hy,e1,?_⟩;rw[kr _ _ ?_];exact e2;rintro rfl;have Aj:j<es.size:=(Array.getElem?_eq_some_iff.1 hj).1;have CQ:es[j]=e:=(Array.getElem?_eq_some_iff.1 hj).2;have wE:=List.pairwise_iff_getElem.1 hs.2.2;have hL:(es.toList.map (·.key)).length=es.size:=by simp
     rcases Nat.lt_or_gt_of_ne tR with h|h
     ·have:=wE j i ai ai h;simp only[List.getElem_map,Array.getElem_toList]at this;exact this (by rw[CQ,he,e1])
     ·have:=wE i j ai ai h;simp only[List.getElem_map,Array.getElem_toList]at this;exact this (by rw[CQ,he,e1])
   ·have Ee:=modify_keys (es:=es) j (fun e=>{e with key:=.int .i64 k,val:=v}) ux;have cK:Value.int .i64 k'∈es.toList.map (·.key):=by
     by_cases e':k'=k
     ·rw[e',←he];exact List.mem_map.2 ⟨e,Array.mem_toList_iff.2 (Array.mem_of_getElem? hj),rfl⟩
     ·rw[kr _ _ e']at hF;obtain⟨x,hx,e1⟩:=h2 k' v' hF;exact List.mem_map.2 ⟨x,hx,e1⟩
    rw[←Ee]at cK;obtain⟨x,hx,e1⟩:=List.mem_map.1 cK;exact⟨x,hx,e1⟩
theorem nv {ops:Array Oper}{rest:List Oper}{o:Oper}{a:Act}{Q:Exit→Act→World→Prop}(w:World)(hg:o.guard=none)(m x v:Operand)(GS:o.op=Op.mapUpdate mt m x v)
 (GZ:P.underlying mt=some (.map kt et)) (G7:P.underlying kt=some (.int .i64))
 (mb:Nat) (F:Int→Option Value) (k:Int) (u:Value) (hm:a.eval m= .map (some mb)) (hx:a.eval x= .int .i64 k) (hv:a.eval v=u) (h:bZ w mb F) (hk:nT k)
 (hK:∀w',bZ w' mb (od F k u)→af (aM mb) w w'→wpList P ops Q rest (a.put o.dst undef) w'):wpList P ops Q (o :: rest) a w:=by
 refine wpList_plain hg fun K' hK'=>?_
 obtain⟨w',sx,r1,r2⟩:=sQ (P:=P) h GZ G7 hk u;unfold Oper.wp;simp[execOp,GS,hm,hx,hv,sx,Result.andThen];exact hK' _ _ (hK w' r1 r2)
theorem wR {ops:Array Oper}{rest:List Oper}{o:Oper}{a:Act}{Q:Exit→Act→World→Prop}(w:World)(hg:o.guard=none)(m x:Operand)(GS:o.op=Op.lookup mt m x false)
 (GZ:P.underlying mt=some (.map kt et)) (G7:P.underlying kt=some (.int .i64)) (z:Value) (hz:(zeroValue et).run P w= .ok z w)
 (mb:Nat) (F:Int→Option Value) (k:Int) (hm:a.eval m= .map (some mb)) (hx:a.eval x= .int .i64 k) (h:bZ w mb F) (hk:nT k)
 (hK:wpList P ops Q rest (a.put o.dst ((F k).getD z)) w):wpList P ops Q (o :: rest) a w:=by
 refine wpList_plain hg fun K' hK'=>?_
 have sx:=eT (P:=P) h GZ G7 hz hk;unfold Oper.wp;simp[execOp,GS,hm,hx,sx,Result.andThen];exact hK' _ _ hK
theorem gp{P:Prop}(h:P:=by
 simp only[List.getElem_map,Array.getElem_toList]at this;exact absurd (by rw[CQ,he,pP]) this):P:=h
theorem jw (h:bZ w mb F)(hm:P.underlying mt=some (.map kt et))(hk:P.underlying kt=some (.int .i64)){k:Int}(hi:nT k)(ty:TypeId):
 ∃v w',(Builtin.delete_ #[mt,kt] ty #[.map (some mb),.int .i64 k]).run P w= .ok v w'∧bZ w' mb (qd F k)∧af (aM mb) w w':=by
 obtain⟨es,clock,hb,hs,h1,h2,ue,⟨hf,hn,ll⟩|⟨j,e,hf,hj,he,hn⟩⟩:=h.found hk hi
 ·refine⟨_,{w with heap:=w.heap.setIfInBounds mb (.map es clock)},by simp[Builtin.delete_,run_underlying hm,MapKept.run_getObj_map hb,ue,hf,MapKept.run_setObj_map _ hb,Result.andThen];rfl,?_,gO _ _ _⟩;refine⟨_,_,(heap_set hb).1,hs,fun x hx=>?_,fun k' v' hF=>?_⟩
  ·obtain⟨y,hy,e1,e2⟩:=h1 x hx;refine⟨y,hy,e1,?_⟩;have:y≠k:=fun e=>ll x hx (by rw[e1,e])
   simp[qd,this,e2]
  ·unfold qd at hF
   split at hF
   ·cases hF
   ·exact h2 k' v' hF
 ·refine⟨_,{w with heap:=w.heap.setIfInBounds mb (.map (es.eraseIdxIfInBounds j) clock)},by simp[Builtin.delete_,run_underlying hm,MapKept.run_getObj_map hb,ue,hf,MapKept.run_setObj_map _ hb,Result.andThen];rfl,?_,gO _ _ _⟩;have Aj:j<es.size:=(Array.getElem?_eq_some_iff.1 hj).1;have CQ:es[j]=e:=(Array.getElem?_eq_some_iff.1 hj).2;have hl:(es.eraseIdxIfInBounds j).toList=es.toList.eraseIdx j:=by
   unfold Array.eraseIdxIfInBounds;rw[dif_pos Aj,Array.toList_eraseIdx]
  have wE:=List.pairwise_iff_getElem.1 hs.2.2;have hL:(es.toList.map (·.key)).length=es.size:=by simp
  have lC:∀i (nO:i<es.size),es[i].key= .int .i64 k→i=j:=fun i nO pP=>by
   rcases Nat.lt_trichotomy i j with h|h|h
   ·have:=wE i j ai ai h;exact gp
   ·exact h
   ·have:=wE j i ai ai h;exact gp
  refine⟨_,_,(heap_set hb).1,stamped_erase hs _,fun x hx=>?_,fun k' v' hF=>?_⟩
  ·rw[hl]at hx;obtain⟨i,tR,CU⟩:=List.mem_eraseIdx_iff_getElem?.1 hx;have nO:i<es.size:=by have:=(List.getElem?_eq_some_iff.1 CU).1;simpa using this
   obtain⟨y,hy,e1,e2⟩:=h1 x (List.mem_of_getElem? CU);refine⟨y,hy,e1,?_⟩;have:y≠k:=fun e=>tR (lC i nO (by
    have:es[i]=x:=by have:=(List.getElem?_eq_some_iff.1 CU).2;simpa using this
    rw[this,e1,e]))
   simp[qd,this,e2]
  ·unfold qd at hF
   split at hF
   ·cases hF
   ·rename_i hne
    obtain⟨x,hx,e1⟩:=h2 k' v' hF;refine⟨x,?_,e1⟩;rw[hl];obtain⟨i,nO,rfl⟩:=List.mem_iff_getElem.1 hx;refine List.mem_eraseIdx_iff_getElem?.2 ⟨i,?_,List.getElem?_eq_getElem nO⟩;rintro rfl;simp only[Array.getElem_toList]at e1;rw[CQ,he]at e1;injection e1 with _ e1;exact hne e1.symm
theorem zO (h:bZ w mb F)(hm:P.underlying mt=some (.map kt et))(ty:TypeId):
 ∃v w',(Builtin.clear_ #[mt] ty #[.map (some mb)]).run P w= .ok v w'∧bZ w' mb (fun _=>none)∧af (aM mb) w w':=by
 obtain⟨es,clock,hb,hs,h1,h2⟩:=h;exact⟨_,{w with heap:=w.heap.setIfInBounds mb (.map #[] clock)},by simp[Builtin.clear_,run_underlying hm,MapKept.run_getObj_map hb,MapKept.run_setObj_map _ hb,Result.andThen];rfl,
  ⟨#[],clock,(heap_set hb).1,stamped_empty _,fun e he=>by simp at he,fun k v h=>by cases h⟩,gO _ _ _⟩
end
end
section
open Go.RowKit
theorem ke {P:Program}(w:World)(t ty e:TypeId){z:Value}{bytes:Nat}(cG:(P.info? e).map (fun i=>(i.zero,i.size,i.bytes))=some (some z,1,bytes))(ht:P.underlying t=some (.slice e))
 {base:Nat} {v:Value} {n:Nat} {xs:List Value} (h:w.ownsRow base e 1 v n xs):(Builtin.append_ #[t,t] ty #[v,ey]).run P w= .ok v w:=by
 obtain⟨i,hi,hz,hs,eE⟩:=info_parts cG;rcases h.2 with⟨rfl,rfl⟩|⟨g,cap,cur,rfl,hb,hg,hn,hm,hsz,Ab⟩
 ·simp[Builtin.append_,run_underlying ht,sizeOf,typeInfo,hi,Builtin.lenOf,Builtin.firstCells,loadCells,loadCellsFrom]
 ·simp[Builtin.append_,run_underlying ht,sizeOf,typeInfo,hi,Builtin.lenOf,Builtin.firstCells,hn,storeCells]
theorem iA {P:Program}(w:World){ops:Array Oper}{rest:List Oper}{o:Oper}{a:Act}{Q:Exit→Act→World→Prop}(jX:o.guard=none)(s x:Operand)(t e:TypeId)
 (ho:o.op= .call {callee:=.builtin .append,args:=#[s,x],argTypes:=#[t,t]})
 (cG:(P.info? e).map (fun i=>(i.zero,i.size,i.bytes))=some (some (ah 0),1,8)) (ht:P.underlying t=some (.slice e))
 (base:Nat) (v:Value) (l:List Int) (hs:a.eval s=v) (bp:aC e w base v l) (iy:Nat) (u:Value) (l':List Int) (hx:a.eval x=u) (hu:aC e w iy u l') (hlen:l.length+l'.length≤1000000) (gI:base≤w.heap.size)
 (h:∀v' w',aC e w' base v' (l ++ l')→af (aJ v) w w'→wpList P ops Q rest (a.put o.dst v') w'):
 wpList P ops Q (o :: rest) a w:=by
 rcases hu.2 with⟨rfl,h0⟩|⟨g,cap,cur,rfl,hb,hg,hn,hm,hsz,Ab⟩
 ·obtain rfl:l'= []:=List.eq_nil_of_length_eq_zero h0;have hr:=ke (P:=P) w t o.type e cG ht bp;refine wpList_plain jX fun K hK=>?_
  unfold Oper.wp execOp;simp only[ho,resolve,invoke,builtin,Sem.run_bind,Sem.run_pure,Result.andThen_ok,List.map_toArray,List.map_cons,List.map_nil,hs,hx,hr];refine hK _ _ (h v w (by rw[List.append_nil];exact bp) (af.ak _ _))
 ·obtain⟨i0,hi,pV,rf,tP⟩:=info_parts cG;have rm:=fun j u hj=>World.ownsRow.cells hu (g:=g) rfl j u hj
  refine wpList_append_own_at w jX s x t ho base e i0 _ 1 8 ht hi pV rf tP rfl av v l.length (l.map (Value.int .i64)) hs bp ⟨g,0,none⟩ l'.length cap (l'.map (Value.int .i64)) hx (by simp) (fun j u hj=>rm j u hj) (fun u hu=>by obtain⟨z,_,rfl⟩:=List.mem_map.1 hu;rfl) (by unfold maxLen;omega) ai gI
   (fun v' w' h2 h3 _ h5=>h v' w' ?_ ((af.ak _ _).grown h3 fun k hk=>.inl hk))
  unfold aC;rw[List.map_append,List.length_append];exact h2
end
def Q0 (v:Value)(S:Nat→Prop)(w:World)(e:Ending)(w':World):Prop:=e= .returned v∧af S w w'
end Go.Proofs.YtpcfhbeakecihaaGreat
