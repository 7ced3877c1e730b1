/- Lemmas. -/
import Derived.Test.YtpcfhbeakecihaaGreatM1
import Derived.Test.YtpcfhbeakecihaaGreatM4
import Derived.Deep.Draws
import Derived.WalkSpells
set_option linter.all false
set_option maxHeartbeats 20000000
set_option maxRecDepth 100000
namespace Go.Proofs.YtpcfhbeakecihaaGreat
section
open Go.RowKit
def Box (w:World)(g:Nat)(t:TypeId)(cs:Array Value):Prop:=w.heap[g]? =some (.cells cs t (0,0))
section
variable {w w':World}{g:Nat}{t:TypeId}{cs:Array Value}
theorem Box.lt (h:Box w g t cs):g<w.heap.size:=(Array.getElem?_eq_some_iff.1 h).1
theorem Box.cell (h:Box w g t cs)(i:Nat):w.cell? ⟨g,i,none⟩=cs[i]? :=cell_of_row w g i cs t (0,0) h
theorem Box.ag (h:Box w g t cs){i:Nat}{v:Value}(hv:cs[i]? =some v):w.cell? ⟨g,i,none⟩=some v:=(h.cell i).trans hv
theorem Box.free (h:Box w g t cs)(i:Nat):w.frozen? ⟨g,i,none⟩=false:=by
 unfold Box at h;simp[World.frozen?,h]
theorem Box.fresh (w:World)(t:TypeId)(cs:Array Value):Box (w.alloc (.cells cs t)) w.heap.size t cs:=heap_alloc_new w _
theorem Box.drew (h:Box w g t cs):Box w.drew g t cs:=h
theorem Box.drewN (h:Box w g t cs)(n:Nat):Box (w.drewN n) g t cs:=h
theorem Box.alloc (h:Box w g t cs)(o:Obj):Box (w.alloc o) g t cs:=(Below.heap_alloc w o g h.lt).trans h
theorem Box.store (h:Box w g t cs)(i:Nat)(u:Value):Box (w.setCell ⟨g,i,none⟩ u) g t (cs.setIfInBounds i u):=by
 unfold Box at h ⊢;simp[World.setCell,Array.getElem?_modify,h]
theorem Box.q7 (h:Box w g t cs){p:Addr}(hp:g≠p.block)(u:Value):Box (w.setCell p u) g t cs:=(Below.heap_setCell w p u g hp).trans h
theorem Box.same {t':TypeId}{cs':Array Value}(h:Box w g t cs)(h':Box w g t' cs'):t=t'∧cs=cs':=by
 unfold Box at h h';rw[h]at h';injection h' with h';injection h' with a b;exact⟨b,a⟩
theorem Box.off {t' g':Nat}{cs':Array Value}(h:Box w g t cs)(h':Box w g' t' cs')(hne:t≠t'):g≠g':=by
 rintro rfl;exact hne (h.same h').1
end
theorem gl {P:Program}{f:FuncId}{args:Array Value}{w:World}{n:Nat}{v:Value}
 (h:Calls P f args (w.drewN n) fun e w'=>e= .returned v∧w.drewN n=w'):Calls P f args (w.drewN n) fun e ky=>e= .returned v∧∃m,ky=w.drewN m:=
 h.mono fun _ _ ⟨he,hm⟩=>⟨he,n,hm.symm⟩
theorem sC {P:Program}{f:FuncId}{args:Array Value}{w:World}{n:Nat}{v:Value}
 (h:Calls P f args (w.drewN n) fun e w'=>e= .returned v∧∃k,w'=(w.drewN n).drewN k):Calls P f args (w.drewN n) fun e ky=>e= .returned v∧∃m,ky=w.drewN m:=
 h.mono fun _ _ ⟨he,k,hm⟩=>⟨he,n+k,by rw[hm,World.drewN_drewN]⟩
structure af (S:Nat→Prop)(w w':World):Prop where
 os:w'.os=w.os
 tape:w'.tape=w.tape
 output:w'.output=w.output
 size:w.heap.size≤w'.heap.size
 block:∀k,k<w.heap.size→¬S k→w'.heap[k]? =w.heap[k]?
def au:Nat→Prop:=fun _=>False
def az (b:Nat):Nat→Prop:=fun k=>k=b
section
variable {S S':Nat→Prop}{a w w' ky:World}
theorem af.ai (S:Nat→Prop)(w:World):af S w w:=⟨rfl,rfl,rfl,dX _,fun _ _ _=>rfl⟩
theorem af.aG (h:af S a w)(k:af S' w w')(hs:∀b,S' b→S b∨a.heap.size≤b):af S a w':=
 ⟨k.os.trans h.os,k.tape.trans h.tape,k.output.trans h.output,Nat.le_trans h.size k.size,fun i hi hn=>
  (k.block i (Nat.lt_of_lt_of_le hi h.size) (fun hb=>(hs i hb).elim hn (fun h=>by omega))).trans (h.block i hi hn)⟩
theorem af.trans (h:af S a w)(k:af S w w'):af S a w':=h.aG k fun _ h=>.inl h
theorem af.cE (h:af S a w)(k:af au w w'):af S a w':=h.aG k fun _ h=>h.elim
theorem af.mono (h:af S w w')(hs:∀b,S b→S' b∨w.heap.size≤b):af S' w w':=
 ⟨h.os,h.tape,h.output,h.size,fun k hk hn=>h.block k hk (fun hb=>(hs k hb).elim hn (fun h=>by omega))⟩
theorem af.drew (h:af S a w):af S a w.drew:=⟨h.os,h.tape,h.output,h.size,h.block⟩
theorem af.drewN (h:af S a w)(n:Nat):af S a (w.drewN n):=⟨h.os,h.tape,h.output,h.size,h.block⟩
theorem af.alloc (h:af S a w)(o:Obj):af S a (w.alloc o):=
 h.trans ⟨rfl,rfl,rfl,by simp,fun k hk _=>Below.heap_alloc _ _ _ hk⟩
theorem af.setCell (h:af S a w){p:Addr}(hp:S p.block∨a.heap.size≤p.block)(u:Value):af S a (w.setCell p u):=
 h.aG (S':=az p.block) ⟨rfl,rfl,rfl,by simp[World.setCell],fun k _ hk=>Below.heap_setCell _ _ _ _ hk⟩ (by rintro _ rfl;exact hp)
theorem af.grown (h:af S a w){row:Option Nat}(hg:w.grownBy w' row)(hr:∀k,row=some k→S k∨a.heap.size≤k):af S a w':=
 h.aG (S':=fun k=>row=some k) ⟨hg.os,hg.tape,hg.output,hg.size,fun k hk hn=>hg.block k hk (fun e=>hn e.symm)⟩ hr
theorem af.below (h:af S a w){B:Nat}(hs:∀k,S k→B≤k)(hB:B≤a.heap.size):Below B a w:=
 ⟨h.os,h.tape,h.output,h.size,fun k hk=>h.block k aj (fun e=>by have:=hs k e;omega)⟩
theorem af.L8 (h:Below a.heap.size a w):af S a w:=⟨h.os,h.tape,h.output,h.size,fun k hk _=>h.block k hk⟩
theorem af.ak {g:Nat}{t:TypeId}{cs:Array Value}(h:af S a w)(hb:Box a g t cs)(hn:¬S g):Box w g t cs:=(h.block g hb.lt hn).trans hb
theorem af.cell (h:af S a w){p:Addr}{v:Value}(hc:a.cell? p=some v)(hn:¬S p.block):w.cell? p=some v:=
 (World.cell?_of_block (h.block p.block (World.block_lt_of_cell? a p hc) hn)).trans hc
end
def eF (w:World)(v:Value)(l:List Int):Prop:=
 ∃A c,v= .slice A l.length c∧l.length≤c∧c≤maxLen∧∀i,i<l.length→∃g o,A=some ⟨g,o,none⟩∧w.cell? ⟨g,o+i,none⟩=some (ah (l.getD i 0))
def aA (t:TypeId)(w:World)(base:Nat)(v:Value)(l:List Int):Prop:=w.ownsRow base t 1 v l.length (l.map (Value.int .i64))
theorem aA.at {t:TypeId}{w:World}{base:Nat}{v:Value}{l:List Int}(h:aA t w base v l):eF w v l:=by
 obtain⟨h1,h2⟩:=h;rcases h2 with⟨rfl,h0⟩|⟨g,cap,cur,rfl,hb,hg,hn,hm,hs,ht⟩
 ·have hl:l= []:=List.eq_nil_of_length_eq_zero h0;subst hl;exact⟨none,0,rfl,dX _,fH _,by simp⟩
 ·refine⟨some ⟨g,0,none⟩,cap,rfl,hn,hm,fun i hi=>⟨g,0,rfl,?_⟩⟩;rw[Nat.zero_add,cell_of_row w g i cur t (0,0) hg];have:(cur.toList.take (l.length*1))[i]? =some (ah (l.getD i 0)):=by
   rw[ht];simp[hi]
  rw[List.getElem?_take,if_pos aj]at this;simpa using this
theorem eF.keep {S:Nat→Prop}{w w':World}{v:Value}{l:List Int}(h:eF w v l)(ho:af S w w')(hn:∀g o n c,v= .slice (some ⟨g,o,none⟩) n c→¬S g):eF w' v l:=by
 obtain⟨A,c,rfl,h1,h2,h3⟩:=h;refine⟨A,c,rfl,h1,h2,fun i hi=>?_⟩;obtain⟨g,o,rfl,hc⟩:=h3 i hi;exact⟨g,o,rfl,ho.cell hc (hn g o _ _ rfl)⟩
def aJ (v:Value):Nat→Prop:=fun g=>v.ownBlock=some g
theorem Cs {P:Program}(w:World){ops:Array Oper}{rest:List Oper}{o:Oper}{a:Act}{Q:Exit→Act→World→Prop}(qw:o.guard=none)(s x:Operand)(t e:TypeId)
 (ho:o.op= .call {callee:=.builtin .append,args:=#[s,x],argTypes:=#[t,t]}) {z:Value} {bytes:Nat}
 (ee:(P.info? e).map (fun i=>(i.zero,i.size,i.bytes))=some (some z,1,bytes)) (Gc:z.cells.size=1) (ht:P.underlying t=some (.slice e))
 (base:Nat) (v:Value) (n:Nat) (xs:List Value) (u:Value) (hs:a.eval s=v) (bf:w.ownsRow base e 1 v n xs) (ad:Addr) (hx:a.eval x= .slice (some ad) 1 1)
 (hcell:w.cell? ad=some u) (h1:u.oneCell'=true) (hlen:n+1≤maxLen) (ib:(n+1)*bytes≤140737488355328) (lN:base≤w.heap.size)
 (h:∀v' w',w'.ownsRow base e 1 v' (n+1) (xs ++ [u])→af (aJ v) w w'→(v'.ownBlock=v.ownBlock∨v'.ownBlock=some w.heap.size)→wpList P ops Q rest (a.put o.dst v') w'):
 wpList P ops Q (o :: rest) a w:=by
 obtain⟨i0,hi,uS,Da,yO⟩:=info_parts ee;refine wpList_append_own_at w qw s x t ho base e i0 z 1 bytes ht hi uS Da yO Gc aE v n xs hs bf ad 1 1 [u] hx rfl (fun j u' hj=>?_) (by simpa using h1) hlen ib lN
  (fun v' w' h2 h3 _ h5=>h v' w' h2 ((af.ai _ _).grown h3 fun k hk=>.inl hk) h5)
 match j,hj with
 |0,hj=>simp only[List.getElem?_cons_zero,Option.some.injEq]at hj;subst hj;exact hcell
theorem eV{P:Prop}(h:P:=by unfold maxLen;omega):P:=h
theorem il {P:Program}(w:World){ops:Array Oper}{rest:List Oper}{o:Oper}{a:Act}{Q:Exit→Act→World→Prop}(qw:o.guard=none)(s x:Operand)(t e:TypeId)
 (ho:o.op= .call {callee:=.builtin .append,args:=#[s,x],argTypes:=#[t,t]})
 (ee:(P.info? e).map (fun i=>(i.zero,i.size,i.bytes))=some (some (ah 0),1,8)) (ht:P.underlying t=some (.slice e))
 (base:Nat) (v:Value) (l:List Int) (k:Int) (hs:a.eval s=v) (bf:aA e w base v l) (ad:Addr) (hx:a.eval x= .slice (some ad) 1 1)
 (hcell:w.cell? ad=some (ah k)) (hlen:l.length≤1000000) (lN:base≤w.heap.size)
 (h:∀v' w',aA e w' base v' (l ++ [k])→af (aJ v) w w'→wpList P ops Q rest (a.put o.dst v') w'):
 wpList P ops Q (o :: rest) a w:=
 Cs w qw s x t e ho ee rfl ht base v l.length (l.map (Value.int .i64)) (ah k) hs bf ad hx hcell rfl eV aj lN
  (fun v' w' h2 h3 _=>h v' w' (by unfold aA;simpa using h2) h3)
theorem aA.alloc {e:TypeId}{w:World}{base:Nat}{v:Value}{l:List Int}(h:aA e w base v l)(o:Obj):aA e (w.alloc o) base v l:=World.ownsRow.alloc h o
theorem aA.lt {e:TypeId}{w:World}{base:Nat}{v:Value}{l:List Int}(h:aA e w base v l):∀k,aJ v k→base≤k∧k<w.heap.size:=World.ownsRow.lt h
theorem fR {w w':World}{base:Nat}{e:TypeId}{size:Nat}{v:Value}{n:Nat}{xs:List Value}{S:Nat→Prop}(h:w.ownsRow base e size v n xs)(ho:af S w w')(hn:∀g,aJ v g→¬S g):w'.ownsRow base e size v n xs:=by
 refine⟨h.1,?_⟩;rcases h.2 with h2|⟨g,cap,cur,hv,hg,hh,r⟩
 ·exact .inl h2
 ·exact .inr ⟨g,cap,cur,hv,hg,(ho.block g (Array.getElem?_eq_some_iff.1 hh).1 (hn g (by rw[hv];rfl))).trans hh,r⟩
theorem aA.ar {w w':World}{base:Nat}{e:TypeId}{v:Value}{l:List Int}{S:Nat→Prop}(h:aA e w base v l)(ho:af S w w')(hn:∀g,aJ v g→¬S g):aA e w' base v l:=fR h ho hn
theorem aA.nil (e:TypeId)(w:World)(base:Nat):aA e w base aT []:=World.ownsRow_nil _ _ _ _
theorem rp {P:Program}(w:World)(t e:TypeId)(n:Nat)(cs:Array Value)(k:IntKind)(i:Int)(v:Value)(ht:P.underlying t=some (.array n e))
 (hp:P.plainKey e=true) (hs:(P.info? e).map (·.size)=some 1) (h0:0≤i) (h1:i<n) (hv:cs[i.toNat]? =some v):(Instr.index t (.agg cs) (.int k i)).run P w= .ok v w:=by
 cases hq:P.info? e with
 |none=>simp[hq]at hs
 |some d=>
  have hsz:d.size=1:=by simpa [hq] using hs
  have UO:=run_part_plain (w:=w) hp hv;simp[Instr.index,asIntOf,run_underlying ht,h0,h1,sizeOf,typeInfo,hq,hsz,UO]
theorem aA.shape {t:TypeId}{w:World}{base:Nat}{v:Value}{l:List Int}(h:aA t w base v l):∃A c,v= .slice A l.length c∧l.length≤c∧c≤maxLen:=by
 obtain⟨A,c,h1,h2,h3,_⟩:=h.at;exact⟨A,c,h1,h2,h3⟩
theorem eF.ag {w:World}{A:Option Addr}{n c:Nat}{l:List Int}(h:eF w (.slice A n c) l){i:Nat}(hi:i<l.length):
 ∃g o,A=some ⟨g,o,none⟩∧w.cell? ⟨g,o+i,none⟩=some (ah (l.getD i 0)):=by
 obtain⟨A',c',e,_,_,h3⟩:=h;injection e with e1 e2 e3;subst e1;exact h3 i hi
theorem eF.len {w:World}{A:Option Addr}{n c:Nat}{l:List Int}(h:eF w (.slice A n c) l):n=l.length:=by
 obtain⟨A',c',e,_,_,h3⟩:=h;injection e
theorem Box.aw {w:World}{g:Nat}{t:TypeId}{cs:Array Value}(h:Box w g t cs)(cs':Array Value):Box (w.setRow g cs') g t cs':=setRow_heap w g cs cs' t (0,0) h
theorem af.aw {S:Nat→Prop}{a w:World}(h:af S a w){g:Nat}(hg:S g∨a.heap.size≤g)(cs:Array Value):af S a (w.setRow g cs):=
 ⟨h.os,h.tape,h.output,by simpa [World.setRow] using h.size,fun k hk hn=>by
  rw[setRow_other w g k cs (fun e=>by subst e;exact hg.elim hn fun h=>by omega)];exact h.block k hk hn⟩
theorem fE {P:Program}(w:World){ops:Array Oper}{rest:List Oper}{o:Oper}{a:Act}{Q:Exit→Act→World→Prop}(qw:o.guard=none)(s x:Operand)(t e:TypeId)
 (ho:o.op= .call {callee:=.builtin .append,args:=#[s,x],argTypes:=#[t,t]}) {z:Value} {size bytes:Nat}
 (ee:(P.info? e).map (fun i=>(i.zero,i.size,i.bytes))=some (some z,size,bytes)) (Gc:z.cells.size=size) (hsz:0<size) (ht:P.underlying t=some (.slice e))
 (base:Nat) (v:Value) (n:Nat) (xs:List Value) (cs:List Value) (hs:a.eval s=v) (bf:w.ownsRow base e size v n xs) (ad:Addr) (hx:a.eval x= .slice (some ad) 1 1)
 (pE:cs.length=size) (hcell:∀j u,cs[j]? =some u→w.cell? (ad.add j)=some u) (h1:∀u∈cs,u.oneCell'=true) (hlen:n+1≤maxLen) (ib:(n+1)*bytes≤140737488355328) (lN:base≤w.heap.size)
 (h:∀v' w',w'.ownsRow base e size v' (n+1) (xs ++ cs)→af (aJ v) w w'→(v'.ownBlock=v.ownBlock∨v'.ownBlock=some w.heap.size)→wpList P ops Q rest (a.put o.dst v') w'):
 wpList P ops Q (o :: rest) a w:=by
 obtain⟨i0,hi,uS,Da,yO⟩:=info_parts ee;exact wpList_append_own_at w qw s x t ho base e i0 z size bytes ht hi uS Da yO Gc hsz v n xs hs bf ad 1 1 cs hx aj hcell h1 hlen ib lN
  (fun v' w' h2 h3 _ h5=>h v' w' h2 ((af.ai _ _).grown h3 fun k hk=>.inl hk) h5)
theorem iV {w:World}{base:Nat}{e:TypeId}{size:Nat}{v:Value}{n:Nat}{xs:List Value}(h:w.ownsRow base e size v n xs):∃A c,v= .slice A n c∧n≤c∧c≤maxLen:=by
 rcases h.2 with⟨rfl,rfl⟩|⟨g,cap,cur,rfl,_,_,hn,hm,_⟩
 ·exact⟨none,0,rfl,dX _,fH _⟩
 ·exact⟨_,cap,rfl,hn,hm⟩
theorem s4 {w:World}{base:Nat}{e:TypeId}{size:Nat}{v:Value}{n:Nat}{xs:List Value}(h:w.ownsRow base e size v n xs)(hn:0<n):∃g c,v=bp g n c∧base≤g∧g<w.heap.size∧∀j u,xs[j]? =some u→aM w g j u:=by
 rcases h.2 with⟨rfl,h0⟩|⟨g,cap,cur,rfl,hb,hg,Jx,hm,hs,ht⟩
 ·omega
 ·refine⟨g,cap,rfl,hb,(Array.getElem?_eq_some_iff.1 hg).1,fun j u hj=>?_⟩;have:=h.cells (g:=g) rfl j u hj;rw[Addr.add_lit,Nat.zero_add]at this;exact this
theorem iH (w:World)(cs:List Value)(t:TypeId):∀j u,cs[j]? =some u→(w.alloc (.cells cs.toArray t)).cell? ((⟨w.heap.size,0,none⟩:Addr).add j)=some u:=by
 intro j u hj;rw[Addr.add_lit,Nat.zero_add];exact(Box.fresh w t cs.toArray).ag (by simpa using hj)
end
section
open Go.MapKept Go.Maps Go.RowKit
def Ba (k:Int):Prop:=-9223372036854775808≤k∧k≤9223372036854775807
theorem Ba.wf {k:Int}(h:Ba k):(Lit.int .i64 k).wf=true:=by
 obtain⟨h1,h2⟩:=h;simp[Lit.wf,IntKind.min,IntKind.max,IntKind.signed,IntKind.bits];omega
theorem Ba.of {k:Int}(h:(Lit.int .i64 k).wf=true):Ba k:=by
 simp[Lit.wf,IntKind.min,IntKind.max,IntKind.signed,IntKind.bits]at h;exact⟨aj,aj⟩
def fK (w:World)(mb:Nat)(F:Int→Option Value):Prop:=
 ∃es clock,w.heap[mb]? =some (.map es clock)∧Stamped es clock∧(∀e∈es.toList,∃k,Ba k∧e.key= .int .i64 k∧F k=some e.val)∧∀k v,F k=some v→∃e∈es.toList,e.key= .int .i64 k
def Bp (F:Int→Option Value)(k:Int)(v:Value):Int→Option Value:=fun x=>if x=k then some v else F x
def DC (F:Int→Option Value)(k:Int):Int→Option Value:=fun x=>if x=k then none else F x
theorem yu (F:Int→Option Value)(k:Int)(v:Value):Bp F k v k=some v:=by simp[Bp]
theorem uQ (F:Int→Option Value){k x:Int}(v:Value)(h:x≠k):Bp F k v x=F x:=by simp[Bp,h]
section
variable {P:Program}{w w':World}{mb:Nat}{F:Int→Option Value}{mt kt et:TypeId}
theorem fK.lt (h:fK w mb F):mb<w.heap.size:=by
 obtain⟨es,clock,hb,_⟩:=h;exact(Array.getElem?_eq_some_iff.1 hb).1
theorem fK.ar {S:Nat→Prop}(h:fK w mb F)(ho:af S w w')(hn:¬S mb):fK w' mb F:=by
 obtain⟨es,clock,hb,h1⟩:=h;exact⟨es,clock,(ho.block mb (Array.getElem?_eq_some_iff.1 hb).1 hn).trans hb,h1⟩
theorem fK.keep (h:fK w mb F)(ho:af au w w'):fK w' mb F:=h.ar ho id
theorem fK.ne {g:Nat}{t:TypeId}{cs:Array Value}(h:fK w mb F)(hb:Box w g t cs):g≠mb:=by
 rintro rfl;obtain⟨es,clock,h1,_⟩:=h;unfold Box at hb;rw[h1]at hb
 cases hb
theorem fK.made (w:World):fK (w.alloc (.map #[] 0)) w.heap.size (fun _=>none):=
 ⟨#[],0,heap_alloc_new w _,stamped_empty 0,fun e he=>by simp at he,fun k v h=>by cases h⟩
theorem fK.found (h:fK w mb F)(hk:P.underlying kt=some (.int .i64)){k:Int}(hi:Ba k):
 ∃es clock,w.heap[mb]? =some (.map es clock)∧Stamped es clock∧(∀e∈es.toList,∃k,Ba k∧e.key= .int .i64 k∧F k=some e.val)∧(∀k v,F k=some v→∃e∈es.toList,e.key= .int .i64 k)∧
  (∀em,(Instr.checkKey em 10000 kt (.int .i64 k)).run P w= .ok () w)∧
  (((Instr.findKey kt (.int .i64 k) es.toList).run P w= .ok none w∧F k=none∧∀e∈es.toList,e.key≠ .int .i64 k)∨
   ∃j e,(Instr.findKey kt (.int .i64 k) es.toList).run P w= .ok (some (j,e.val)) w∧es[j]? =some e∧e.key= .int .i64 k∧F k=some e.val):=by
 obtain⟨es,clock,hb,hs,h1,h2⟩:=h;have K:Keyed P kt:=int_keyed hk;have Kx:=keyOf_int_mk hk hi.wf;refine⟨es,clock,hb,hs,h1,h2,fun em=>K.check w em Kx,?_⟩;rcases K.find w Kx es.toList (fun e he=>by obtain⟨x,hx,e1,_⟩:=h1 e he;rw[e1];exact⟨_,keyOf_int_mk hk hx.wf⟩)with⟨hf,pH⟩|⟨j,e,hf,hj,he⟩
 ·refine .inl ⟨hf,?_,pH⟩
  cases hF:F k with
  |none=>rfl
  |some v=>
   obtain⟨e,he,e1⟩:=h2 k v hF;exact absurd e1 (pH e he)
 ·refine .inr ⟨j,e,hf,by simpa using hj,he,?_⟩;obtain⟨x,_,e1,e2⟩:=h1 e (List.mem_of_getElem? hj);rw[he]at e1;injection e1 with _ e1;rw[e1];exact e2
theorem mz (h:fK w mb F)(hm:P.underlying mt=some (.map kt et))(hk:P.underlying kt=some (.int .i64)){z:Value}(hz:(zeroValue et).run P w= .ok z w){k:Int}(hi:Ba k):
 (Instr.lookup mt (.map (some mb)) (.int .i64 k) false).run P w= .ok ((F k).getD z) w:=by
 obtain⟨es,clock,hb,hs,h1,h2,JY,⟨hf,hn,_⟩|⟨j,e,hf,hj,he,hn⟩⟩:=h.found hk hi
 ·simp[Instr.lookup,run_underlying hm,MapKept.run_getObj_map hb,JY,hf,hz,Result.andThen,hn]
 ·simp[Instr.lookup,run_underlying hm,MapKept.run_getObj_map hb,JY,hf,Result.andThen,hn]
theorem pW (w:World)(mb:Nat)(o:Obj):af (az mb) w {w with heap:=w.heap.setIfInBounds mb o}:=
 ⟨rfl,rfl,rfl,by simp,fun k hk hne=>by
  have:mb≠k:=fun e=>hne (show k=mb from e.symm)
  simp[this]⟩
theorem Ie (h:fK w mb F)(hm:P.underlying mt=some (.map kt et))(hk:P.underlying kt=some (.int .i64)){k:Int}(hi:Ba k)(v:Value):
 ∃w',(Instr.mapUpdate mt (.map (some mb)) (.int .i64 k) v).run P w= .ok () w'∧fK w' mb (Bp F k v)∧af (az mb) w w':=by
 obtain⟨es,clock,hb,hs,h1,h2,JY,⟨hf,hn,pH⟩|⟨j,e,hf,hj,he,hn⟩⟩:=h.found hk hi
 ·refine⟨{w with heap:=w.heap.setIfInBounds mb (.map (es.push {key:=.int .i64 k,val:=v,born:=clock}) (clock+1))},?_,?_,pW _ _ _⟩
  ·simp[Instr.mapUpdate,run_underlying hm,MapKept.run_getObj_map hb,JY,hf,MapKept.run_setObj_map _ hb,Result.andThen]
  ·refine⟨_,_,(heap_set hb).1,stamped_push hs pH,fun x hx=>?_,fun k' v' hF=>?_⟩
   ·simp only[Array.toList_push,List.mem_append,List.mem_singleton]at hx;rcases hx with hx|rfl
    ·obtain⟨y,hy,e1,e2⟩:=h1 x hx;refine⟨y,hy,e1,?_⟩;rw[uQ _ _ (fun e=>pH x hx (by rw[e1,e]))];exact e2
    ·exact⟨k,hi,rfl,yu _ _ _⟩
   ·simp only[Array.toList_push,List.mem_append,List.mem_singleton]
    by_cases e:k'=k
    ·exact⟨_,.inr rfl,by rw[e]⟩
    ·rw[uQ _ _ e]at hF;obtain⟨x,hx,e1⟩:=h2 k' v' hF;exact⟨x,.inl hx,e1⟩
 ·have je:(Instr.keyThatStays (.int .i64 k) (.int .i64 k)).run P w= .ok (.int .i64 k) w:=run_keyThatStays (d:=.int .i64) rfl;refine⟨{w with heap:=w.heap.setIfInBounds mb (.map (es.modify j fun e=>{e with key:=.int .i64 k,val:=v}) clock)},?_,?_,pW _ _ _⟩
  ·simp[Instr.mapUpdate,run_underlying hm,MapKept.run_getObj_map hb,JY,hf,hj,he,je,MapKept.run_setObj_map _ hb,Result.andThen]
  ·have Kx:∀e',es[j]? =some e'→({e' with key:=.int .i64 k,val:=v}:MapEntry).key=e'.key:=fun e' he'=>by rw[hj]at he';cases he';exact he.symm
   refine⟨_,_,(heap_set hb).1,stamped_modify hs _ _ (fun _ _=>rfl) (fun e' _ he'=>Kx e' he'),fun x hx=>?_,fun k' v' hF=>?_⟩
   ·obtain⟨i,Ax,rfl⟩:=Array.mem_iff_getElem.1 (Array.mem_toList_iff.1 hx);have aaU:i<es.size:=by simpa using Ax
    by_cases Dl:j=i
    ·subst Dl;rw[Array.getElem_modify];exact⟨k,hi,by simp,by simp[yu]⟩
    ·have e0:(es.modify j fun e=>{e with key:=.int .i64 k,val:=v})[i]=es[i]:=by rw[Array.getElem_modify];simp[Dl]
     rw[e0];obtain⟨y,hy,e1,e2⟩:=h1 es[i] (Array.mem_toList_iff.2 (Array.getElem_mem aaU));refine⟨y,hy,e1,?_⟩;rw[uQ _ _ ?_];exact e2;rintro rfl;have NH:j<es.size:=(Array.getElem?_eq_some_iff.1 hj).1;have Wi:es[j]=e:=(Array.getElem?_eq_some_iff.1 hj).2;have Gg:=List.pairwise_iff_getElem.1 hs.2.2;have hL:(es.toList.map (·.key)).length=es.size:=by simp
     rcases Nat.lt_or_gt_of_ne Dl with h|h
     ·have:=Gg j i aj aj h;simp only[List.getElem_map,Array.getElem_toList]at this;exact this (by rw[Wi,he,e1])
     ·have:=Gg i j aj aj h;simp only[List.getElem_map,Array.getElem_toList]at this;exact this (by rw[Wi,he,e1])
   ·have Y8:=modify_keys (es:=es) j (fun e=>{e with key:=.int .i64 k,val:=v}) Kx;have hV:Value.int .i64 k'∈es.toList.map (·.key):=by
     by_cases e':k'=k
     ·rw[e',←he];exact List.mem_map.2 ⟨e,Array.mem_toList_iff.2 (Array.mem_of_getElem? hj),rfl⟩
     ·rw[uQ _ _ e']at hF;obtain⟨x,hx,e1⟩:=h2 k' v' hF;exact List.mem_map.2 ⟨x,hx,e1⟩
    rw[←Y8]at hV;obtain⟨x,hx,e1⟩:=List.mem_map.1 hV;exact⟨x,hx,e1⟩
theorem zV {ops:Array Oper}{rest:List Oper}{o:Oper}{a:Act}{Q:Exit→Act→World→Prop}(w:World)(hg:o.guard=none)(m x v:Operand)(hop:o.op=Op.mapUpdate mt m x v)
 (hmt:P.underlying mt=some (.map kt et)) (hkt:P.underlying kt=some (.int .i64))
 (mb:Nat) (F:Int→Option Value) (k:Int) (u:Value) (hm:a.eval m= .map (some mb)) (hx:a.eval x= .int .i64 k) (hv:a.eval v=u) (h:fK w mb F) (hk:Ba k)
 (hK:∀w',fK w' mb (Bp F k u)→af (az mb) w w'→wpList P ops Q rest (a.put o.dst undef) w'):wpList P ops Q (o :: rest) a w:=by
 refine wpList_plain hg fun K' hK'=>?_
 obtain⟨w',GI,r1,r2⟩:=Ie (P:=P) h hmt hkt hk u;unfold Oper.wp;simp[execOp,hop,hm,hx,hv,GI,Result.andThen];exact hK' _ _ (hK w' r1 r2)
theorem o8{P:Prop}(h:P:=by
 simp only[List.getElem_map,Array.getElem_toList]at this;exact absurd (by rw[Wi,he,xC]) this):P:=h
theorem sY (h:fK w mb F)(hm:P.underlying mt=some (.map kt et))(hk:P.underlying kt=some (.int .i64)){k:Int}(hi:Ba k)(ty:TypeId):
 ∃v w',(Builtin.delete_ #[mt,kt] ty #[.map (some mb),.int .i64 k]).run P w= .ok v w'∧fK w' mb (DC F k)∧af (az mb) w w':=by
 obtain⟨es,clock,hb,hs,h1,h2,JY,⟨hf,hn,pH⟩|⟨j,e,hf,hj,he,hn⟩⟩:=h.found hk hi
 ·refine⟨_,{w with heap:=w.heap.setIfInBounds mb (.map es clock)},by simp[Builtin.delete_,run_underlying hm,MapKept.run_getObj_map hb,JY,hf,MapKept.run_setObj_map _ hb,Result.andThen];rfl,?_,pW _ _ _⟩;refine⟨_,_,(heap_set hb).1,hs,fun x hx=>?_,fun k' v' hF=>?_⟩
  ·obtain⟨y,hy,e1,e2⟩:=h1 x hx;refine⟨y,hy,e1,?_⟩;have:y≠k:=fun e=>pH x hx (by rw[e1,e])
   simp[DC,this,e2]
  ·unfold DC at hF
   split at hF
   ·cases hF
   ·exact h2 k' v' hF
 ·refine⟨_,{w with heap:=w.heap.setIfInBounds mb (.map (es.eraseIdxIfInBounds j) clock)},by simp[Builtin.delete_,run_underlying hm,MapKept.run_getObj_map hb,JY,hf,MapKept.run_setObj_map _ hb,Result.andThen];rfl,?_,pW _ _ _⟩;have NH:j<es.size:=(Array.getElem?_eq_some_iff.1 hj).1;have Wi:es[j]=e:=(Array.getElem?_eq_some_iff.1 hj).2;have hl:(es.eraseIdxIfInBounds j).toList=es.toList.eraseIdx j:=by
   unfold Array.eraseIdxIfInBounds;rw[dif_pos NH,Array.toList_eraseIdx]
  have Gg:=List.pairwise_iff_getElem.1 hs.2.2;have hL:(es.toList.map (·.key)).length=es.size:=by simp
  have xh:∀i (Ax:i<es.size),es[i].key= .int .i64 k→i=j:=fun i Ax xC=>by
   rcases Nat.lt_trichotomy i j with h|h|h
   ·have:=Gg i j aj aj h;exact o8
   ·exact h
   ·have:=Gg j i aj aj h;exact o8
  refine⟨_,_,(heap_set hb).1,stamped_erase hs _,fun x hx=>?_,fun k' v' hF=>?_⟩
  ·rw[hl]at hx;obtain⟨i,Dl,Wn⟩:=List.mem_eraseIdx_iff_getElem?.1 hx;have Ax:i<es.size:=by have:=(List.getElem?_eq_some_iff.1 Wn).1;simpa using this
   obtain⟨y,hy,e1,e2⟩:=h1 x (List.mem_of_getElem? Wn);refine⟨y,hy,e1,?_⟩;have:y≠k:=fun e=>Dl (xh i Ax (by
    have:es[i]=x:=by have:=(List.getElem?_eq_some_iff.1 Wn).2;simpa using this
    rw[this,e1,e]))
   simp[DC,this,e2]
  ·unfold DC at hF
   split at hF
   ·cases hF
   ·rename_i hne
    obtain⟨x,hx,e1⟩:=h2 k' v' hF;refine⟨x,?_,e1⟩;rw[hl];obtain⟨i,Ax,rfl⟩:=List.mem_iff_getElem.1 hx;refine List.mem_eraseIdx_iff_getElem?.2 ⟨i,?_,List.getElem?_eq_getElem Ax⟩;rintro rfl;simp only[Array.getElem_toList]at e1;rw[Wi,he]at e1;injection e1 with _ e1;exact hne e1.symm
end
end
section
open Go.RowKit
theorem aem{P:Prop}(h:P:=by
 simp[Builtin.append_,run_underlying ht,sizeOf,typeInfo,hi,Builtin.lenOf,Builtin.firstCells,loadCells,loadCellsFrom]):P:=h
theorem ael{P:Prop}(h:P:=by
 simp[Builtin.append_,run_underlying ht,sizeOf,typeInfo,hi,Builtin.lenOf,Builtin.firstCells,hn,storeCells]):P:=h
theorem pw {P:Program}(w:World)(t ty e:TypeId){z:Value}{bytes:Nat}(ee:(P.info? e).map (fun i=>(i.zero,i.size,i.bytes))=some (some z,1,bytes))(ht:P.underlying t=some (.slice e))
 {base:Nat} {v:Value} {n:Nat} {xs:List Value} (h:w.ownsRow base e 1 v n xs):(Builtin.append_ #[t,t] ty #[v,aT]).run P w= .ok v w:=by
 obtain⟨i,hi,hz,hs,iq⟩:=info_parts ee;rcases h.2 with⟨rfl,rfl⟩|⟨g,cap,cur,rfl,hb,hg,hn,hm,hsz,QK⟩
 ·exact aem
 ·exact ael
theorem aee{P:Prop}(h:P:=by rw[List.append_nil];exact bf):P:=h
theorem iN {P:Program}(w:World){ops:Array Oper}{rest:List Oper}{o:Oper}{a:Act}{Q:Exit→Act→World→Prop}(qw:o.guard=none)(s x:Operand)(t e:TypeId)
 (ho:o.op= .call {callee:=.builtin .append,args:=#[s,x],argTypes:=#[t,t]})
 (ee:(P.info? e).map (fun i=>(i.zero,i.size,i.bytes))=some (some (ah 0),1,8)) (ht:P.underlying t=some (.slice e))
 (base:Nat) (v:Value) (l:List Int) (hs:a.eval s=v) (bf:aA e w base v l) (base':Nat) (u:Value) (l':List Int) (hx:a.eval x=u) (hu:aA e w base' u l') (hlen:l.length+l'.length≤1000000) (lN:base≤w.heap.size)
 (h:∀v' w',aA e w' base v' (l ++ l')→af (aJ v) w w'→wpList P ops Q rest (a.put o.dst v') w'):
 wpList P ops Q (o :: rest) a w:=by
 rcases hu.2 with⟨rfl,h0⟩|⟨g,cap,cur,rfl,hb,hg,hn,hm,hsz,QK⟩
 ·obtain rfl:l'= []:=List.eq_nil_of_length_eq_zero h0;have hr:=pw (P:=P) w t o.type e ee ht bf;refine wpList_plain qw fun K hK=>?_
  unfold Oper.wp execOp;simp only[ho,resolve,invoke,builtin,Sem.run_bind,Sem.run_pure,Result.andThen_ok,List.map_toArray,List.map_cons,List.map_nil,hs,hx,hr];refine hK _ _ (h v w aee (af.ai _ _))
 ·obtain⟨i0,hi,uS,Da,yO⟩:=info_parts ee;have pE:=fun j u hj=>World.ownsRow.cells hu (g:=g) rfl j u hj
  refine wpList_append_own_at w qw s x t ho base e i0 _ 1 8 ht hi uS Da yO rfl aE v l.length (l.map (Value.int .i64)) hs bf ⟨g,0,none⟩ l'.length cap (l'.map (Value.int .i64)) hx (by simp) (fun j u hj=>pE j u hj) (fun u hu=>by obtain⟨z,_,rfl⟩:=List.mem_map.1 hu;rfl) eV aj lN
   (fun v' w' h2 h3 _ h5=>h v' w' ?_ ((af.ai _ _).grown h3 fun k hk=>.inl hk))
  unfold aA;rw[List.map_append,List.length_append];exact h2
end
def Ret (v:Value)(S:Nat→Prop)(w:World)(e:Ending)(w':World):Prop:=e= .returned v∧af S w w'
section
open Go.RowKit
theorem aeI {P:Program}(w:World)(t ty e:TypeId){z:Value}{size bytes:Nat}(ee:(P.info? e).map (fun i=>(i.zero,i.size,i.bytes))=some (some z,size,bytes))(ht:P.underlying t=some (.slice e))
 {base:Nat} {v:Value} {n:Nat} {xs:List Value} (h:w.ownsRow base e size v n xs):(Builtin.append_ #[t,t] ty #[v,aT]).run P w= .ok v w:=by
 obtain⟨i,hi,hz,hs,iq⟩:=info_parts ee;rcases h.2 with⟨rfl,rfl⟩|⟨g,cap,cur,rfl,hb,hg,hn,hm,hsz,QK⟩
 ·exact aem
 ·exact ael
theorem aei {P:Program}(w:World){ops:Array Oper}{rest:List Oper}{o:Oper}{a:Act}{Q:Exit→Act→World→Prop}(qw:o.guard=none)(s x:Operand)(t e:TypeId)
 (ho:o.op= .call {callee:=.builtin .append,args:=#[s,x],argTypes:=#[t,t]}) {z:Value} {size bytes:Nat}
 (ee:(P.info? e).map (fun i=>(i.zero,i.size,i.bytes))=some (some z,size,bytes)) (Gc:z.cells.size=size) (hsz:0<size) (ht:P.underlying t=some (.slice e))
 (base:Nat) (v:Value) (n:Nat) (xs:List Value) (hs:a.eval s=v) (bf:w.ownsRow base e size v n xs) (base':Nat) (u:Value) (m:Nat) (news:List Value) (hx:a.eval x=u) (hu:w.ownsRow base' e size u m news)
 (h1:∀y∈news,y.oneCell'=true) (hlen:n+m≤maxLen) (ib:(n+m)*bytes≤140737488355328) (lN:base≤w.heap.size)
 (h:∀v' w',w'.ownsRow base e size v' (n+m) (xs ++ news)→af (aJ v) w w'→(v'.ownBlock=v.ownBlock∨v'.ownBlock=some w.heap.size)→wpList P ops Q rest (a.put o.dst v') w'):
 wpList P ops Q (o :: rest) a w:=by
 rcases hu.2 with⟨rfl,h0⟩|⟨g,cap,cur,rfl,hb,hg,hn,hm,ahp,QK⟩
 ·subst h0;obtain rfl:news= []:=List.eq_nil_of_length_eq_zero (by rw[hu.1];omega);have hr:=aeI (P:=P) w t o.type e ee ht bf;refine wpList_plain qw fun K hK=>?_
  unfold Oper.wp execOp;simp only[ho,resolve,invoke,builtin,Sem.run_bind,Sem.run_pure,Result.andThen_ok,List.map_toArray,List.map_cons,List.map_nil,hs,hx,hr];exact hK _ _ (h v w aee (af.ai _ _) (.inl rfl))
 ·obtain⟨i0,hi,uS,Da,yO⟩:=info_parts ee;exact wpList_append_own_at w qw s x t ho base e i0 z size bytes ht hi uS Da yO Gc hsz v n xs hs bf ⟨g,0,none⟩ m cap news hx hu.1 (fun j y hj=>World.ownsRow.cells hu (g:=g) rfl j y hj) h1 hlen ib lN
   (fun v' w' h2 h3 _ h5=>h v' w' h2 ((af.ai _ _).grown h3 fun k hk=>.inl hk) h5)
end
end Go.Proofs.YtpcfhbeakecihaaGreat
