/- Lemmas. -/
import Derived.Test.YtpcfhbeakecihaaGreatM9
import Derived.Deep.CutRange
import Derived.Test.YtpcfhbeakecihaaGreatChecked
set_option linter.all false
set_option maxHeartbeats 20000000
set_option maxRecDepth 100000
namespace Go.Proofs.YtpcfhbeakecihaaGreat
open Go.ChangeShapes Go.RowKit Go.WideShapes
def qc (n:Nd):Nat→Value
 |0=>.int .i64 n.l
 |1=>.int .i64 n.a
 |_=>.int .i64 n.b
def oa (n:En):Nat→Value
 |0=>.int .i64 n.f
 |1=>.int .i64 n.k
 |_=>.int .i64 n.m
def mI (N:Int→Nd)(h:Value):Array Value:=Array.ofFn (n:=193) fun i=>if i.1=192 then h else qc (N ((i.1 / 3:Nat):Int)) (i.1 % 3)
def ln (m:Nat)(E:Nat→En):Array Value:=Array.ofFn (n:=m*3) fun i=>oa (E (i.1 / 3)) (i.1 % 3)
theorem EE (N:Int→Nd)(h:Value):(mI N h).size=193:=by simp[mI]
theorem A5 (N:Int→Nd)(h:Value){b j:Nat}(hb:b<64)(hj:j<3):(mI N h)[b*3+j]? =some (qc (N b) j):=by
 have h1:b*3+j<193:=ai;have h2:(b*3+j) / 3=b:=ai;have h3:(b*3+j) % 3=j:=ai;have h4:b*3+j≠192:=ai;simp only[mI,Array.getElem?_ofFn,h1,dite_true,h4,if_false,h2,h3]
theorem A4 (N:Int→Nd)(h:Value):(mI N h)[192]? =some h:=by simp[mI]
theorem xJ (N:Int→Nd)(h v:Value){b j:Nat}(hb:b<64)(hj:j<3)(n:Nd)(hv:∀i,i<3→qc n i=if i=j then v else qc (N b) i):(mI N h).setIfInBounds (b*3+j) v=mI (aD N b n) h:=by
 refine Array.ext (by simp[mI]) fun i h1 h2=>?_
 have hi:i<193:=by simpa [mI] using h2
 rw[Array.getElem_setIfInBounds (by simpa [mI] using hi)];simp only[mI,Array.getElem_ofFn]
 by_cases e:b*3+j=i
 ·subst e;have h3:(b*3+j) / 3=b:=ai;have h4:(b*3+j) % 3=j:=ai;have h5:b*3+j≠192:=ai;rw[if_pos rfl,if_neg h5,h3,h4,show aD N b n b=n by simp[aD],hv j hj,if_pos rfl]
 ·rw[if_neg e]
  split
  ·rfl
  ·by_cases e2:i / 3=b
   ·have h4:i % 3≠j:=ai;rw[e2,show aD N b n b=n by simp[aD],hv (i % 3) (Nat.mod_lt _ av),if_neg h4]
   ·rw[show aD N b n ((i / 3:Nat):Int)=N ((i / 3:Nat):Int) by unfold aD;rw[if_neg ai]]
theorem ER (m:Nat)(E:Nat→En):(ln m E).size=m*3:=by simp[ln]
theorem Bm (m:Nat)(E:Nat→En){b j:Nat}(hb:b<m)(hj:j<3):(ln m E)[b*3+j]? =some (oa (E b) j):=by
 have h1:b*3+j<m*3:=ai;have h2:(b*3+j) / 3=b:=ai;have h3:(b*3+j) % 3=j:=ai;simp[ln,h1,h2,h3]
theorem yG (m:Nat)(E:Nat→En)(v:Value){b j:Nat}(hb:b<m)(hj:j<3)(n:En)(hv:∀i,i<3→oa n i=if i=j then v else oa (E b) i):(ln m E).setIfInBounds (b*3+j) v=ln m (aW E b n):=by
 refine Array.ext (by simp[ln]) fun i h1 h2=>?_
 have hi:i<m*3:=by simpa [ln] using h2
 rw[Array.getElem_setIfInBounds (by simpa [ln] using hi)];simp only[ln,Array.getElem_ofFn]
 by_cases e:b*3+j=i
 ·subst e;have h3:(b*3+j) / 3=b:=ai;have h4:(b*3+j) % 3=j:=ai;rw[if_pos rfl,h3,h4,show aW E b n b=n by simp[aW],hv j hj,if_pos rfl]
 ·rw[if_neg e]
  by_cases e2:i / 3=b
  ·have h4:i % 3≠j:=ai;rw[e2,show aW E b n b=n by simp[aW],hv (i % 3) (Nat.mod_lt _ av),if_neg h4]
  ·rw[show aW E b n (i / 3)=E (i / 3) by unfold aW;rw[if_neg e2]]
def fa (w:World)(g eb m:Nat)(N:Int→Nd)(E:Nat→En):Prop:=Box w g 227 (mI N (cS eb m m))∧Box w eb 229 (ln m E)
def cU (w:World)(g eb m:Nat)(S:Nat→List Int):Prop:=∃N E,fa w g eb m N E∧lN m N E S∧0<m∧m≤40
section
variable {w w':World}{g eb m:Nat}{N:Int→Nd}{E:Nat→En}{S:Nat→List Int}
theorem fa.node (h:fa w g eb m N E){b j:Nat}(hb:b<64)(hj:j<3):ba w g (b*3+j) (qc (N b) j):=h.1.ag (A5 N _ hb hj)
theorem fa.hd (h:fa w g eb m N E):ba w g 192 (cS eb m m):=h.1.ag (A4 N _)
theorem fa.end_ (h:fa w g eb m N E){b j:Nat}(hb:b<m)(hj:j<3):ba w eb (b*3+j) (oa (E b) j):=h.2.ag (Bm m E hb hj)
theorem fa.ne (h:fa w g eb m N E):g≠eb:=h.1.off h.2 av
theorem fa.ao {F:Nat→Prop}(h:fa w g eb m N E)(ho:af F w w')(h1:¬F g)(h2:¬F eb):fa w' g eb m N E:=⟨ho.az h.1 h1,ho.az h.2 h2⟩
theorem cU.ao {F:Nat→Prop}(h:cU w g eb m S)(ho:af F w w')(h1:¬F g)(h2:¬F eb):cU w' g eb m S:=by
 obtain⟨N,E,h3,h4⟩:=h;exact⟨N,E,h3.ao ho h1 h2,h4⟩
theorem cU.keep (h:cU w g eb m S)(ho:af aA w w'):cU w' g eb m S:=h.ao ho id id
theorem fa.nU (h:fa w g eb m N E){b j:Nat}(hb:b<64)(hj:j<3)(v:Value)(n:Nd)(hv:∀i,i<3→qc n i=if i=j then v else qc (N b) i):fa (w.setCell ⟨g,b*3+j,none⟩ v) g eb m (aD N b n) E:=
 ⟨by rw[←xJ N _ v hb hj n hv];exact h.1.store _ _,h.2.jB (fun e=>h.ne (show g=eb from e.symm)) _⟩
theorem fa.mM (h:fa w g eb m N E){b j:Nat}(hb:b<m)(hj:j<3)(v:Value)(n:En)(hv:∀i,i<3→oa n i=if i=j then v else oa (E b) i):fa (w.setCell ⟨eb,b*3+j,none⟩ v) g eb m N (aW E b n):=
 ⟨h.1.jB (fun e=>h.ne (show g=eb from e)) _,by rw[←yG m E v hb hj n hv];exact h.2.store _ _⟩
end
section
theorem fL{P:Prop}(h:P:=by
 rw[dq,dF];clear dq dF
 go_enter Tryz.func194,Tryz.ntmps194
 go_wp2;go_ret;exact⟨rfl,rfl⟩):P:=h
theorem mE (g:Nat)(b:Int)(w:World):Calls Tryz.prog 194 #[aI g,ah b] w fun e w'=>e= .returned (.bool (decide (0≤b)&&decide (b<64)))∧w=w':=by
 by_cases h1:0≤b
 ·have dq:decide (0≤b)=true:=by simp[h1]
  by_cases h2:b<64
  ·have dF:decide (b<64)=true:=by simp[h2]
   exact fL
  ·have dF:decide (b<64)=false:=by simp[h2]
   exact fL
 ·have dq:decide (0≤b)=false:=by simp[h1]
  rw[dq];clear dq
  go_enter Tryz.func194,Tryz.ntmps194
  go_wp2;go_ret;exact⟨rfl,rfl⟩
theorem gq{P:Prop}(h:P:=by
 rw[dq,dF];clear dq dF
 go_enter Tryz.func191,Tryz.ntmps191
 go_wp2;go_ret;exact⟨rfl,rfl⟩):P:=h
theorem jt {g eb m:Nat}{S:Nat→List Int}(l:Int)(w:World)(h:cU w g eb m S):Calls Tryz.prog 191 #[aI g,ah l] w fun e w'=>e= .returned (.bool (decide (0≤l)&&decide (l<m)))∧w=w':=by
 obtain⟨N,E,hm,_⟩:=h;have hh:=hm.hd;clear hm
 by_cases h1:0≤l
 ·have dq:decide (0≤l)=true:=by simp[h1]
  by_cases h2:l<m
  ·have dF:decide (l<(m:Int))=true:=by simp[h2]
   exact gq
  ·have dF:decide (l<(m:Int))=false:=by simp[h2]
   exact gq
 ·have dq:decide (0≤l)=false:=by simp[h1]
  rw[dq];clear dq
  go_enter Tryz.func191,Tryz.ntmps191
  go_wp2;go_ret;exact⟨rfl,rfl⟩
theorem cq{P:Prop}(h:P:=by
 go_enter Tryz.func190,Tryz.ntmps190
 go_wp2;go_ret2;exact⟨rfl,rfl⟩):P:=h
theorem oq {g eb m:Nat}{S:Nat→List Int}{i:Nat}{b:Int}(w:World)(h:cU w g eb m S)(hb:b∈S i):Calls Tryz.prog 190 #[aI g,ah b] w fun e w'=>e= .returned (.tuple #[ah i,.bool true])∧w=w':=by
 obtain⟨N,E,hm,hr,_⟩:=h;obtain⟨h0,h1⟩:=hr.gr hb;obtain⟨n,rfl⟩:=Int.eq_ofNat_of_zero_le h0;have hn:n<64:=ai;have hc:=hm.node (b:=n) (j:=0) hn av;rw[hr.se hb]at hc
 replace hc:aF w g (n*3) i:=hc
 have Hk:=mE g n w;rw[show(decide (0≤(n:Int))&&decide ((n:Int)<64))=true by simp;omega]at Hk;clear hm hr hb h0;exact cq
theorem rC {g eb m:Nat}{S:Nat→List Int}{b:Int}(w:World)(h:cU w g eb m S)(hb:∀i,b∉S i):Calls Tryz.prog 190 #[aI g,ah b] w fun e w'=>e= .returned (.tuple #[ah 0,.bool false])∧w=w':=by
 obtain⟨N,E,hm,hr,_⟩:=h
 by_cases h0:0≤b
 ·by_cases h1:b<64
  ·have hl:=hr.no h0 h1 hb;obtain⟨n,rfl⟩:=Int.eq_ofNat_of_zero_le h0;have hn:n<64:=ai;have hc:=hm.node (b:=n) (j:=0) hn av
   replace hc:aF w g (n*3) ((N n).l):=hc
   rw[hl]at hc;clear hm hr hb h0 hl;exact cq
  ·clear hm hr hb;exact cq
 ·clear hm hr hb;exact cq
theorem eS {g eb m:Nat}{S:Nat→List Int}(i:Nat)(w:World)(h:cU w g eb m S)(hi:i<m):Calls Tryz.prog 185 #[aI g,ah i] w fun e w'=>e= .returned (ah (S i).length)∧w=w':=by
 have hl:=jt i w h;obtain⟨N,E,hm,hr,_⟩:=h;have hh:=hm.hd;have hc:=hm.end_ (b:=i) (j:=2) hi av;rw[hr.ends i hi]at hc
 replace hc:aF w eb (i*3+2) ((S i).length):=hc
 rw[show(decide (0≤(i:Int))&&decide ((i:Int)<m))=true by simp;omega]at hl;have Kv:(i:Int)<m:=ai;generalize(S i).length=k at *;clear hm hr
 go_enter Tryz.func185,Tryz.ntmps185
 go_wp2;go_ret;exact⟨rfl,rfl⟩
theorem gU {g eb m:Nat}{S:Nat→List Int}(i:Nat)(w:World)(h:cU w g eb m S)(hi:i<m):Calls Tryz.prog 192 #[aI g,ah i] w fun e w'=>e= .returned (if S i= []then .tuple #[ah 0,.bool false]else .tuple #[ah (ez (S i)),.bool true])∧w=w':=by
 have hl:=jt i w h;obtain⟨N,E,hm,hr,_⟩:=h;have hh:=hm.hd;have hc:=hm.end_ (b:=i) (j:=2) hi av;have hd:=hm.end_ (b:=i) (j:=1) hi av;rw[hr.ends i hi]at hc hd
 replace hc:aF w eb (i*3+2) ((S i).length):=hc
 replace hd:aF w eb (i*3+1) (ez (S i)):=hd
 rw[show(decide (0≤(i:Int))&&decide ((i:Int)<m))=true by simp;omega]at hl;have Kv:(i:Int)<m:=ai;generalize hL:S i=L at *;clear hL hm hr
 cases L with
 |nil=>
  clear hd;rw[if_pos rfl]
  replace hc:aF w eb (i*3+2) 0:=hc
  go_enter Tryz.func192,Tryz.ntmps192
  go_wp2;go_ret2;exact⟨rfl,rfl⟩
 |cons a L=>
  rw[if_neg (by simp)];generalize ez (a :: L)=x at *;rw[List.length_cons]at hc;have hk:((L.length+1:Nat):Int)≠0:=ai;generalize L.length+1=k at *
  go_enter Tryz.func192,Tryz.ntmps192
  go_wp2;go_ret2;exact⟨rfl,rfl⟩
theorem tB {g eb m:Nat}{S:Nat→List Int}(i:Nat)(w:World)(h:cU w g eb m S)(hi:i<m):Calls Tryz.prog 193 #[aI g,ah i] w fun e w'=>e= .returned (if S i= []then .tuple #[ah 0,.bool false]else .tuple #[ah (hd (S i)),.bool true])∧w=w':=by
 have hl:=jt i w h;obtain⟨N,E,hm,hr,_⟩:=h;have hh:=hm.hd;have hc:=hm.end_ (b:=i) (j:=2) hi av;have hd:=hm.end_ (b:=i) (j:=0) hi av;rw[hr.ends i hi]at hc hd
 replace hc:aF w eb (i*3+2) ((S i).length):=hc
 replace hd:aF w eb (i*3) (Go.Proofs.YtpcfhbeakecihaaGreat.hd (S i)):=hd
 rw[show(decide (0≤(i:Int))&&decide ((i:Int)<m))=true by simp;omega]at hl;have Kv:(i:Int)<m:=ai;generalize hL:S i=L at *;clear hL hm hr
 cases L with
 |nil=>
  clear hd;rw[if_pos rfl]
  replace hc:aF w eb (i*3+2) 0:=hc
  go_enter Tryz.func193,Tryz.ntmps193
  go_wp2;go_ret2;exact⟨rfl,rfl⟩
 |cons a L=>
  rw[if_neg (by simp)];generalize Go.Proofs.YtpcfhbeakecihaaGreat.hd (a :: L)=x at *;rw[List.length_cons]at hc;have hk:((L.length+1:Nat):Int)≠0:=ai;generalize L.length+1=k at *
  go_enter Tryz.func193,Tryz.ntmps193
  go_wp2;go_ret2;exact⟨rfl,rfl⟩
end
end Go.Proofs.YtpcfhbeakecihaaGreat
