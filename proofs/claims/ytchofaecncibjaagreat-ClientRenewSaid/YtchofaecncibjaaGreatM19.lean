/- Lemmas. -/
import Derived.Test.YtchofaecncibjaaGreatM9
import Derived.Deep.CutRange
import Derived.Test.YtchofaecncibjaaGreatChecked
set_option linter.all false
set_option maxHeartbeats 20000000
set_option maxRecDepth 100000
namespace Go.Proofs.YtchofaecncibjaaGreat
open Go.ChangeShapes Go.RowKit Go.WideShapes
def Kz (n:Nd):Nat→Value
 |0=>.int .i64 n.l
 |1=>.int .i64 n.a
 |_=>.int .i64 n.b
def GN (n:En):Nat→Value
 |0=>.int .i64 n.f
 |1=>.int .i64 n.k
 |_=>.int .i64 n.m
def Gh (N:Int→Nd)(h:Value):Array Value:=Array.ofFn (n:=193) fun i=>if i.1=192 then h else Kz (N ((i.1 / 3:Nat):Int)) (i.1 % 3)
def DC (m:Nat)(E:Nat→En):Array Value:=Array.ofFn (n:=m*3) fun i=>GN (E (i.1 / 3)) (i.1 % 3)
theorem abv (N:Int→Nd)(h:Value){b j:Nat}(hb:b<64)(hj:j<3):(Gh N h)[b*3+j]? =some (Kz (N b) j):=by
 have h1:b*3+j<193:=ao;have h2:(b*3+j) / 3=b:=ao;have h3:(b*3+j) % 3=j:=ao;have h4:b*3+j≠192:=ao;simp only[Gh,Array.getElem?_ofFn,h1,dite_true,h4,if_false,h2,h3]
theorem abu (N:Int→Nd)(h:Value):(Gh N h)[192]? =some h:=by simp[Gh]
theorem Wn (N:Int→Nd)(h v:Value){b j:Nat}(hb:b<64)(hj:j<3)(n:Nd)(hv:∀i,i<3→Kz n i=if i=j then v else Kz (N b) i):(Gh N h).setIfInBounds (b*3+j) v=Gh (aT N b n) h:=by
 refine Array.ext (by simp[Gh]) fun i h1 h2=>?_
 have hi:i<193:=by simpa [Gh] using h2
 rw[Array.getElem_setIfInBounds (by simpa [Gh] using hi)];simp only[Gh,Array.getElem_ofFn]
 by_cases e:b*3+j=i
 ·subst e;have h3:(b*3+j) / 3=b:=ao;have h4:(b*3+j) % 3=j:=ao;have h5:b*3+j≠192:=ao;rw[if_pos rfl,if_neg h5,h3,h4,show aT N b n b=n by simp[aT],hv j hj,if_pos rfl]
 ·rw[if_neg e]
  split
  ·rfl
  ·by_cases e2:i / 3=b
   ·have h4:i % 3≠j:=ao;rw[e2,show aT N b n b=n by simp[aT],hv (i % 3) (Nat.mod_lt _ aD),if_neg h4]
   ·rw[show aT N b n ((i / 3:Nat):Int)=N ((i / 3:Nat):Int) by unfold aT;rw[if_neg ao]]
theorem abR (m:Nat)(E:Nat→En){b j:Nat}(hb:b<m)(hj:j<3):(DC m E)[b*3+j]? =some (GN (E b) j):=by
 have h1:b*3+j<m*3:=ao;have h2:(b*3+j) / 3=b:=ao;have h3:(b*3+j) % 3=j:=ao;simp[DC,h1,h2,h3]
theorem XM (m:Nat)(E:Nat→En)(v:Value){b j:Nat}(hb:b<m)(hj:j<3)(n:En)(hv:∀i,i<3→GN n i=if i=j then v else GN (E b) i):(DC m E).setIfInBounds (b*3+j) v=DC m (aI E b n):=by
 refine Array.ext (by simp[DC]) fun i h1 h2=>?_
 have hi:i<m*3:=by simpa [DC] using h2
 rw[Array.getElem_setIfInBounds (by simpa [DC] using hi)];simp only[DC,Array.getElem_ofFn]
 by_cases e:b*3+j=i
 ·subst e;have h3:(b*3+j) / 3=b:=ao;have h4:(b*3+j) % 3=j:=ao;rw[if_pos rfl,h3,h4,show aI E b n b=n by simp[aI],hv j hj,if_pos rfl]
 ·rw[if_neg e]
  by_cases e2:i / 3=b
  ·have h4:i % 3≠j:=ao;rw[e2,show aI E b n b=n by simp[aI],hv (i % 3) (Nat.mod_lt _ aD),if_neg h4]
  ·rw[show aI E b n (i / 3)=E (i / 3) by unfold aI;rw[if_neg e2]]
def p6 (w:World)(g eb m:Nat)(N:Int→Nd)(E:Nat→En):Prop:=Box w g 193 (Gh N (aU eb m m))∧Box w eb 195 (DC m E)
def jV (w:World)(g eb m:Nat)(S:Nat→List Int):Prop:=∃N E,p6 w g eb m N E∧DE m N E S∧0<m∧m≤40
section
variable {w w':World}{g eb m:Nat}{N:Int→Nd}{E:Nat→En}{S:Nat→List Int}
theorem p6.node (h:p6 w g eb m N E){b j:Nat}(hb:b<64)(hj:j<3):aE w g (b*3+j) (Kz (N b) j):=h.1.af (abv N _ hb hj)
theorem p6.hd (h:p6 w g eb m N E):aE w g 192 (aU eb m m):=h.1.af (abu N _)
theorem p6.end_ (h:p6 w g eb m N E){b j:Nat}(hb:b<m)(hj:j<3):aE w eb (b*3+j) (GN (E b) j):=h.2.af (abR m E hb hj)
theorem p6.ne (h:p6 w g eb m N E):g≠eb:=h.1.off h.2 aD
theorem p6.aA {F:Nat→Prop}(h:p6 w g eb m N E)(ho:ag F w w')(h1:¬F g)(h2:¬F eb):p6 w' g eb m N E:=⟨ho.aq h.1 h1,ho.aq h.2 h2⟩
theorem jV.aA {F:Nat→Prop}(h:jV w g eb m S)(ho:ag F w w')(h1:¬F g)(h2:¬F eb):jV w' g eb m S:=by
 obtain⟨N,E,h3,h4⟩:=h;exact⟨N,E,h3.aA ho h1 h2,h4⟩
theorem jV.keep (h:jV w g eb m S)(ho:ag az w w'):jV w' g eb m S:=h.aA ho id id
theorem p6.GJ (h:p6 w g eb m N E){b j:Nat}(hb:b<64)(hj:j<3)(v:Value)(n:Nd)(hv:∀i,i<3→Kz n i=if i=j then v else Kz (N b) i):p6 (w.setCell ⟨g,b*3+j,none⟩ v) g eb m (aT N b n) E:=
 ⟨by rw[←Wn N _ v hb hj n hv];exact h.1.store _ _,h.2.mH (fun e=>h.ne (show g=eb from e.symm)) _⟩
theorem p6.E4 (h:p6 w g eb m N E){b j:Nat}(hb:b<m)(hj:j<3)(v:Value)(n:En)(hv:∀i,i<3→GN n i=if i=j then v else GN (E b) i):p6 (w.setCell ⟨eb,b*3+j,none⟩ v) g eb m N (aI E b n):=
 ⟨h.1.mH (fun e=>h.ne (show g=eb from e)) _,by rw[←XM m E v hb hj n hv];exact h.2.store _ _⟩
end
section
theorem sM{P:Prop}(h:P:=by
 rw[fB,dX];clear fB dX
 go_enter Tryz.func148,Tryz.ntmps148
 go_wp2;go_ret;exact⟨rfl,rfl⟩):P:=h
theorem Ew (g:Nat)(b:Int)(w:World):Calls Tryz.prog 148 #[aO g,ah b] w fun e w'=>e= .returned (.bool (decide (0≤b)&&decide (b<64)))∧w=w':=by
 by_cases h1:0≤b
 ·have fB:decide (0≤b)=true:=by simp[h1]
  by_cases h2:b<64
  ·have dX:decide (b<64)=true:=by simp[h2]
   exact sM
  ·have dX:decide (b<64)=false:=by simp[h2]
   exact sM
 ·have fB:decide (0≤b)=false:=by simp[h1]
  rw[fB];clear fB
  go_enter Tryz.func148,Tryz.ntmps148
  go_wp2;go_ret;exact⟨rfl,rfl⟩
theorem sd{P:Prop}(h:P:=by
 rw[fB,dX];clear fB dX
 go_enter Tryz.func147,Tryz.ntmps147
 go_wp2;go_ret;exact⟨rfl,rfl⟩):P:=h
theorem xO {g eb m:Nat}{S:Nat→List Int}(l:Int)(w:World)(h:jV w g eb m S):Calls Tryz.prog 147 #[aO g,ah l] w fun e w'=>e= .returned (.bool (decide (0≤l)&&decide (l<m)))∧w=w':=by
 obtain⟨N,E,hm,_⟩:=h;have hh:=hm.hd;clear hm
 by_cases h1:0≤l
 ·have fB:decide (0≤l)=true:=by simp[h1]
  by_cases h2:l<m
  ·have dX:decide (l<(m:Int))=true:=by simp[h2]
   exact sd
  ·have dX:decide (l<(m:Int))=false:=by simp[h2]
   exact sd
 ·have fB:decide (0≤l)=false:=by simp[h1]
  rw[fB];clear fB
  go_enter Tryz.func147,Tryz.ntmps147
  go_wp2;go_ret;exact⟨rfl,rfl⟩
theorem jf{P:Prop}(h:P:=by
 go_enter Tryz.func146,Tryz.ntmps146
 go_wp2;go_ret2;exact⟨rfl,rfl⟩):P:=h
theorem BD {g eb m:Nat}{S:Nat→List Int}{i:Nat}{b:Int}(w:World)(h:jV w g eb m S)(hb:b∈S i):Calls Tryz.prog 146 #[aO g,ah b] w fun e w'=>e= .returned (.tuple #[ah i,.bool true])∧w=w':=by
 obtain⟨N,E,hm,hr,_⟩:=h;obtain⟨h0,h1⟩:=hr.kA hb;obtain⟨n,rfl⟩:=Int.eq_ofNat_of_zero_le h0;have hn:n<64:=ao;have hc:=hm.node (b:=n) (j:=0) hn aD;rw[hr.Mi hb]at hc
 replace hc:aw w g (n*3) i:=hc
 have Bc:=Ew g n w;rw[show(decide (0≤(n:Int))&&decide ((n:Int)<64))=true by simp;omega]at Bc;clear hm hr hb h0;exact jf
theorem MH {g eb m:Nat}{S:Nat→List Int}{b:Int}(w:World)(h:jV w g eb m S)(hb:∀i,b∉S i):Calls Tryz.prog 146 #[aO g,ah b] w fun e w'=>e= .returned (.tuple #[ah 0,.bool false])∧w=w':=by
 obtain⟨N,E,hm,hr,_⟩:=h
 by_cases h0:0≤b
 ·by_cases h1:b<64
  ·have hl:=hr.no h0 h1 hb;obtain⟨n,rfl⟩:=Int.eq_ofNat_of_zero_le h0;have hn:n<64:=ao;have hc:=hm.node (b:=n) (j:=0) hn aD
   replace hc:aw w g (n*3) ((N n).l):=hc
   rw[hl]at hc;clear hm hr hb h0 hl;exact jf
  ·clear hm hr hb;exact jf
 ·clear hm hr hb;exact jf
theorem pL {g eb m:Nat}{S:Nat→List Int}(i:Nat)(w:World)(h:jV w g eb m S)(hi:i<m):Calls Tryz.prog 193 #[aO g,ah i] w fun e w'=>e= .returned (ah (S i).length)∧w=w':=by
 have hl:=xO i w h;obtain⟨N,E,hm,hr,_⟩:=h;have hh:=hm.hd;have hc:=hm.end_ (b:=i) (j:=2) hi aD;rw[hr.ends i hi]at hc
 replace hc:aw w eb (i*3+2) ((S i).length):=hc
 rw[show(decide (0≤(i:Int))&&decide ((i:Int)<m))=true by simp;omega]at hl;have hik:(i:Int)<m:=ao;generalize(S i).length=k at *;clear hm hr
 go_enter Tryz.func193,Tryz.ntmps193
 go_wp2;go_ret;exact⟨rfl,rfl⟩
theorem o7 {g eb m:Nat}{S:Nat→List Int}(i:Nat)(w:World)(h:jV w g eb m S)(hi:i<m):Calls Tryz.prog 129 #[aO g,ah i] w fun e w'=>e= .returned (if S i= []then .tuple #[ah 0,.bool false]else .tuple #[ah (eB (S i)),.bool true])∧w=w':=by
 have hl:=xO i w h;obtain⟨N,E,hm,hr,_⟩:=h;have hh:=hm.hd;have hc:=hm.end_ (b:=i) (j:=2) hi aD;have hd:=hm.end_ (b:=i) (j:=1) hi aD;rw[hr.ends i hi]at hc hd
 replace hc:aw w eb (i*3+2) ((S i).length):=hc
 replace hd:aw w eb (i*3+1) (eB (S i)):=hd
 rw[show(decide (0≤(i:Int))&&decide ((i:Int)<m))=true by simp;omega]at hl;have hik:(i:Int)<m:=ao;generalize hL:S i=L at *;clear hL hm hr
 cases L with
 |nil=>
  clear hd;rw[if_pos rfl]
  replace hc:aw w eb (i*3+2) 0:=hc
  go_enter Tryz.func129,Tryz.ntmps129
  go_wp2;go_ret2;exact⟨rfl,rfl⟩
 |cons a L=>
  rw[if_neg (by simp)];generalize eB (a :: L)=x at *;rw[List.length_cons]at hc;have hk:((L.length+1:Nat):Int)≠0:=ao;generalize L.length+1=k at *
  go_enter Tryz.func129,Tryz.ntmps129
  go_wp2;go_ret2;exact⟨rfl,rfl⟩
theorem PC {g eb m:Nat}{S:Nat→List Int}(i:Nat)(w:World)(h:jV w g eb m S)(hi:i<m):Calls Tryz.prog 195 #[aO g,ah i] w fun e w'=>e= .returned (if S i= []then .tuple #[ah 0,.bool false]else .tuple #[ah (hd (S i)),.bool true])∧w=w':=by
 have hl:=xO i w h;obtain⟨N,E,hm,hr,_⟩:=h;have hh:=hm.hd;have hc:=hm.end_ (b:=i) (j:=2) hi aD;have hd:=hm.end_ (b:=i) (j:=0) hi aD;rw[hr.ends i hi]at hc hd
 replace hc:aw w eb (i*3+2) ((S i).length):=hc
 replace hd:aw w eb (i*3) (Go.Proofs.YtchofaecncibjaaGreat.hd (S i)):=hd
 rw[show(decide (0≤(i:Int))&&decide ((i:Int)<m))=true by simp;omega]at hl;have hik:(i:Int)<m:=ao;generalize hL:S i=L at *;clear hL hm hr
 cases L with
 |nil=>
  clear hd;rw[if_pos rfl]
  replace hc:aw w eb (i*3+2) 0:=hc
  go_enter Tryz.func195,Tryz.ntmps195
  go_wp2;go_ret2;exact⟨rfl,rfl⟩
 |cons a L=>
  rw[if_neg (by simp)];generalize Go.Proofs.YtchofaecncibjaaGreat.hd (a :: L)=x at *;rw[List.length_cons]at hc;have hk:((L.length+1:Nat):Int)≠0:=ao;generalize L.length+1=k at *
  go_enter Tryz.func195,Tryz.ntmps195
  go_wp2;go_ret2;exact⟨rfl,rfl⟩
end
theorem Hp {L:List Int}{k:Nat}(h:k<L.length):L.getD k 0=L[k]:=by simp[List.getD_eq_getElem?_getD,h]
theorem abO {A B:List Int}{k:Nat}(h:k<A.length):(A ++ B).getD k 0=A.getD k 0:=by simp[List.getD_eq_getElem?_getD,List.getElem?_append_left h]
theorem abN (A B:List Int)(y:Int):(A ++ y :: B).getD A.length 0=y:=by simp[List.getD_eq_getElem?_getD]
theorem M0:∀{L:List Int} {k:Nat},L.Nodup→Pos L→k<L.length→pq L (L.getD k 0)=if k=0 then -1 else L.getD (k - 1) 0
 | [],k,_,_,h=>absurd h (Nat.not_lt_zero _)
 |a :: L,0,hn,hp,_=>BM hn hp.head rfl
 |a :: L,k+1,hn,hp,h=>by
  have hk:k<L.length:=by simpa using h
  rw[List.nodup_cons]at hn
  show pq (a :: L) (L.getD k 0)=(a :: L).getD k 0
  unfold pq
  cases k with
  |zero=>
   cases L with
   |nil=>simp at hk
   |cons b L=>
    show(if b=b then a else _)=a
    rw[if_pos rfl]
  |succ k=>
   have ih:=M0 (L:=L) (k:=k+1) hn.2 hp.tail hk;rw[if_neg ao]at ih
   cases L with
   |nil=>simp at hk
   |cons b L=>
    have hne:¬hd (b :: L)=(b :: L).getD (k+1) 0:=fun e=>by
     have e:b=L.getD k 0:=e;have h2:k<L.length:=by simpa using hk
     have h3:=(List.nodup_cons.1 hn.2).1;rw[e,Hp h2]at h3;exact h3 (List.getElem_mem h2)
    rw[if_neg hne];exact ih
def Ut (A:List Int)(k:Nat):Int:=if k=0 then -1 else A.getD (k - 1) 0
def aeB (A:List Int)(a:Int)(i:Value):Prop:=∃k:Nat,k≤A.length∧i=ah (Ut A k)∧∀j,k≤j→j<A.length→A.getD j 0≠a
theorem SX:∀{A:List Int} {k:Nat},A.Nodup→k<A.length→A.idxOf (A.getD k 0)=k
 | [],_,_,h=>absurd h (Nat.not_lt_zero _)
 |a :: A,0,_,_=>List.idxOf_cons_self
 |a :: A,k+1,hn,h=>by
  have hk:k<A.length:=by simpa using h
  rw[List.nodup_cons]at hn
  show(a :: A).idxOf (A.getD k 0)=k+1
  have hne:¬(a==A.getD k 0)=true:=fun e=>hn.1 (by rw[eq_of_beq e,Hp hk];exact List.getElem_mem hk)
  rw[List.idxOf_cons,SX hn.2 hk];simp only[hne,Bool.false_eq_true,cond_false,if_false]
def ahM (A:List Int)(i:Value):Nat:=if intOf i= -1 then 0 else A.idxOf (intOf i)+1
theorem S8 {A:List Int}(hn:A.Nodup)(hp:∀k,k<A.length→0≤A.getD k 0){k:Nat}(hk:k≤A.length):ahM A (ah (Ut A k))=k:=by
 unfold ahM Ut
 by_cases e:k=0
 ·subst e;rw[if_pos rfl];rfl
 ·rw[if_neg e];have h1:=hp (k - 1) ao
  show(if A.getD (k - 1) 0= -1 then 0 else A.idxOf (A.getD (k - 1) 0)+1)=k
  rw[if_neg ao,SX hn ao];omega
theorem Il:∀{L:List Int} {y:Int},y∈L→∃B,L=L.takeWhile (fun x=>decide (x≠y)) ++ y :: B
 | [],_,h=>by cases h
 |a :: L,y,h=>by
  by_cases e:a=y
  ·subst e;exact⟨L,by simp⟩
  ·rcases List.mem_cons.1 h with h|h
   ·exact absurd h.symm e
   ·obtain⟨B,hB⟩:=Il h;refine⟨B,?_⟩;rw[List.takeWhile_cons_of_pos cT,List.cons_append,←hB]
section
theorem Uo {g eb m:Nat}{S:Nat→List Int}{i:Nat}{a y:Int}(w:World)(h:jV w g eb m S)(ha:a∈S i)(hy:y∈S i):
 Calls Tryz.prog 126 #[aO g,ah a,ah y] w fun e w'=>e= .returned (.bool (decide (a∈(S i).takeWhile fun x=>decide (x≠y))))∧w=w':=by
 have aX:=ae<|BD w h ha;have bf:=ae<|BD w h hy;obtain⟨N,E,hm,hr,_⟩:=h;obtain⟨B,hB⟩:=Il hy;have aY:∀k,k≤((S i).takeWhile fun x=>decide (x≠y)).length→k<(S i).length:=fun k hk=>by rw[hB,List.length_append,List.length_cons];omega
 have aay:∀k,k<((S i).takeWhile fun x=>decide (x≠y)).length→(S i).getD k 0=((S i).takeWhile fun x=>decide (x≠y)).getD k 0:=fun k hk=>by
  conv=>lhs;rw[hB]
  rw[abO hk]
 have hgy:(S i).getD ((S i).takeWhile fun x=>decide (x≠y)).length 0=y:=by
  have:=abN ((S i).takeWhile fun x=>decide (x≠y)) B y;rwa [←hB]at this
 have HG:=ae aay;have MJ:∀k,k≤((S i).takeWhile fun x=>decide (x≠y)).length→∃n:Nat,n<64∧(S i).getD k 0=n∧w.cell? ⟨g,n*3+1,none⟩=some (ah (Ut ((S i).takeWhile fun x=>decide (x≠y)) k)):=fun k hk=>by
  have h1:=aY k hk;have ig:(S i).getD k 0∈S i:=by rw[Hp h1];exact List.getElem_mem h1
  obtain⟨h2,h3⟩:=hr.kA ig;obtain⟨n,hn⟩:=Int.eq_ofNat_of_zero_le h2;refine⟨n,ao,hn,?_⟩;have hc:=hm.node (b:=n) (j:=1) ao aD;rw[←hn,hr.Mi ig]at hc;have hp:=M0 (hr.nodup i) (hr.pos i) h1;have hc:w.cell? ⟨g,n*3+1,none⟩=some (ah (pq (S i) ((S i).getD k 0))):=hc;rw[hp]at hc;rw[hc];unfold Ut
  by_cases e:k=0
  ·rw[if_pos e,if_pos e]
  ·rw[if_neg e,if_neg e,HG.out (k - 1) ao]
 have oE:=ae MJ;have HR:=ae fun b (hb:b∈S i)=>hr.kA hb
 obtain⟨n0,wJ,e0,hc0⟩:=MJ _ (dm _);rw[hgy]at e0;subst e0;have s6:∀k,k<((S i).takeWhile fun x=>decide (x≠(n0:Int))).length→0≤((S i).takeWhile fun x=>decide (x≠(n0:Int))).getD k 0:=fun k hk=>by
  obtain⟨n,_,e,_⟩:=MJ k ao;rw[←aay k hk,e];exact Int.natCast_nonneg n
 have hnA:((S i).takeWhile fun x=>decide (x≠(n0:Int))).Nodup:=by
  have:=hr.nodup i;rw[hB]at this;exact(List.nodup_append.1 this).1
 have CU:=aB (∀k n,k+1≤((S i).takeWhile fun x=>decide (x≠(n0:Int))).length→((S i).takeWhile fun x=>decide (x≠(n0:Int))).getD k 0=((n:Nat):Int)→ahM ((S i).takeWhile fun x=>decide (x≠(n0:Int))) (ah (Ut ((S i).takeWhile fun x=>decide (x≠(n0:Int))) k))<ahM ((S i).takeWhile fun x=>decide (x≠(n0:Int))) (ah n)) (fun k n hk e=>by
  have h1:=S8 hnA s6 (k:=k) ao;have h2:=S8 hnA s6 (k:=k+1) hk;unfold Ut at h2;rw[if_neg ao,show k+1 - 1=k by omega,e]at h2;rw[h1,h2];omega)
 clear MJ aay hgy aY hB hm hr ha hy s6 hnA;generalize hA:((S i).takeWhile fun x=>decide (x≠(n0:Int)))=A at *;have HA:=ae hA;clear hA;have Y6:∀b,b∈A↔∃j,j<A.length∧A.getD j 0=b:=fun b=>by
  rw[List.mem_iff_getElem];exact⟨fun⟨j,h1,h2⟩=>⟨j,h1,by rw[Hp h1];exact h2⟩,fun⟨j,h1,h2⟩=>⟨j,h1,by rw[Hp h1]at h2;exact h2⟩⟩
 have HM:=ae Y6;clear Y6;obtain⟨res,nJ⟩:∃r,r=decide (a∈A):=⟨_,rfl⟩;rw[←nJ];have Bq:=ae nJ;clear nJ
 go_enter Tryz.func126,Tryz.ntmps126
 go_upto_region 2 with(go_at_call 146;refine aX.mono ?_;rintro e W1 ⟨rfl,rfl⟩);go_upto_region 3 with(go_at_call 146;refine bf.mono ?_;rintro e W1 ⟨rfl,rfl⟩);have UC:((i:Int) != (i:Int))=false:=by simp
 go_wp2
 go_loop [2] (fun iv=>aeB A a iv) (fun iv=>ahM A iv)
 case atStart=>exact⟨A.length,dm _,rfl,fun j h1 h2=>absurd h2 ao⟩
 case round=>
  obtain⟨k,hk,rfl,iQ⟩:=hrel;have yr:=ae iQ;clear iQ
  by_cases EO:k=0
  ·subst EO;have nJ:decide (a∈A)=false:=decide_eq_false fun e=>by
    obtain⟨j,h1,h2⟩:=(HM a).1 e;exact yr j (dT _) h1 h2
   have tw:=ae nJ;have hp0:Ut A 0= -1:=rfl;rw[hp0];clear hp0 nJ;go_wp2;go_ret;exact⟨by rw[Bq.out,tw.out];rfl,rfl⟩
  ·obtain⟨k,rfl⟩:∃k',k=k'+1:=⟨k - 1,ao⟩;obtain⟨n,hn,e,hc⟩:=oE.out k ao;rw[HG.out k ao]at e;have EL:Ut A (k+1)=n:=by unfold Ut;rw[if_neg ao];exact e
   rw[EL];have HE:=ae e;clear e EL EO;have hne:((n:Int) != -1)=true:=by rw[bne_iff_ne];omega
   have yH:(n:Int)<64:=ao;have HK:=ae hk;clear hk
   by_cases hx:(n:Int)=a
   ·have nJ:decide (a∈A)=true:=decide_eq_true ((HM a).2 ⟨k,by have:=HK.out;omega,by rw[HE.out];exact hx⟩);have tw:=ae nJ;have EI:((n:Int)==a)=true:=by simpa using hx
    clear hx nJ;go_wp2;go_ret;exact⟨by rw[Bq.out,tw.out];rfl,rfl⟩
   ·have EI:((n:Int)==a)=false:=by simpa using hx
    have HX:=ae hx;clear hx;go_wp2
    go_round
    case rel=>exact⟨k,by have:=HK.out;omega,rfl,fun j h1 h2=>by
     by_cases e:j=k
     ·subst e;rw[HE.out];exact HX
     ·exact yr j ao h2⟩
    case measure=>exact CU k n HK HE
end
end Go.Proofs.YtchofaecncibjaaGreat
