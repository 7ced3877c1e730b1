/- Lemmas. -/
import Derived.Test.YtpcfhbeakecihaaGreatM9
import Derived.Deep.CutRange
import Derived.Test.YtpcfhbeakecihaaGreatChecked
set_option linter.all false
set_option maxHeartbeats 20000000
set_option maxRecDepth 100000
namespace Go.Proofs.YtpcfhbeakecihaaGreat
open Go.ChangeShapes Go.RowKit Go.WideShapes
def DB (n:Nd):Nat→Value
 |0=>.int .i64 n.l
 |1=>.int .i64 n.a
 |_=>.int .i64 n.b
def Bo (n:En):Nat→Value
 |0=>.int .i64 n.f
 |1=>.int .i64 n.k
 |_=>.int .i64 n.m
def yM (N:Int→Nd)(h:Value):Array Value:=Array.ofFn (n:=193) fun i=>if i.1=192 then h else DB (N ((i.1 / 3:Nat):Int)) (i.1 % 3)
def wN (m:Nat)(E:Nat→En):Array Value:=Array.ofFn (n:=m*3) fun i=>Bo (E (i.1 / 3)) (i.1 % 3)
theorem Tx (N:Int→Nd)(h:Value){b j:Nat}(hb:b<64)(hj:j<3):(yM N h)[b*3+j]? =some (DB (N b) j):=by
 have h1:b*3+j<193:=aj;have h2:(b*3+j) / 3=b:=aj;have h3:(b*3+j) % 3=j:=aj;have h4:b*3+j≠192:=aj;simp only[yM,Array.getElem?_ofFn,h1,dite_true,h4,if_false,h2,h3]
theorem Tw (N:Int→Nd)(h:Value):(yM N h)[192]? =some h:=by simp[yM]
theorem O0 (N:Int→Nd)(h v:Value){b j:Nat}(hb:b<64)(hj:j<3)(n:Nd)(hv:∀i,i<3→DB n i=if i=j then v else DB (N b) i):(yM N h).setIfInBounds (b*3+j) v=yM (aV N b n) h:=by
 refine Array.ext (by simp[yM]) fun i h1 h2=>?_
 have hi:i<193:=by simpa [yM] using h2
 rw[Array.getElem_setIfInBounds (by simpa [yM] using hi)];simp only[yM,Array.getElem_ofFn]
 by_cases e:b*3+j=i
 ·subst e;have h3:(b*3+j) / 3=b:=aj;have h4:(b*3+j) % 3=j:=aj;have h5:b*3+j≠192:=aj;rw[if_pos rfl,if_neg h5,h3,h4,show aV N b n b=n by simp[aV],hv j hj,if_pos rfl]
 ·rw[if_neg e]
  split
  ·rfl
  ·by_cases e2:i / 3=b
   ·have h4:i % 3≠j:=aj;rw[e2,show aV N b n b=n by simp[aV],hv (i % 3) (Nat.mod_lt _ aE),if_neg h4]
   ·rw[show aV N b n ((i / 3:Nat):Int)=N ((i / 3:Nat):Int) by unfold aV;rw[if_neg aj]]
theorem TP (m:Nat)(E:Nat→En){b j:Nat}(hb:b<m)(hj:j<3):(wN m E)[b*3+j]? =some (Bo (E b) j):=by
 have h1:b*3+j<m*3:=aj;have h2:(b*3+j) / 3=b:=aj;have h3:(b*3+j) % 3=j:=aj;simp[wN,h1,h2,h3]
theorem Qd (m:Nat)(E:Nat→En)(v:Value){b j:Nat}(hb:b<m)(hj:j<3)(n:En)(hv:∀i,i<3→Bo n i=if i=j then v else Bo (E b) i):(wN m E).setIfInBounds (b*3+j) v=wN m (ba E b n):=by
 refine Array.ext (by simp[wN]) fun i h1 h2=>?_
 have hi:i<m*3:=by simpa [wN] using h2
 rw[Array.getElem_setIfInBounds (by simpa [wN] using hi)];simp only[wN,Array.getElem_ofFn]
 by_cases e:b*3+j=i
 ·subst e;have h3:(b*3+j) / 3=b:=aj;have h4:(b*3+j) % 3=j:=aj;rw[if_pos rfl,h3,h4,show ba E b n b=n by simp[ba],hv j hj,if_pos rfl]
 ·rw[if_neg e]
  by_cases e2:i / 3=b
  ·have h4:i % 3≠j:=aj;rw[e2,show ba E b n b=n by simp[ba],hv (i % 3) (Nat.mod_lt _ aE),if_neg h4]
  ·rw[show ba E b n (i / 3)=E (i / 3) by unfold ba;rw[if_neg e2]]
def mJ (w:World)(g eb m:Nat)(N:Int→Nd)(E:Nat→En):Prop:=Box w g 227 (yM N (bp eb m m))∧Box w eb 229 (wN m E)
def iA (w:World)(g eb m:Nat)(S:Nat→List Int):Prop:=∃N E,mJ w g eb m N E∧xD m N E S∧0<m∧m≤40
section
variable {w w':World}{g eb m:Nat}{N:Int→Nd}{E:Nat→En}{S:Nat→List Int}
theorem mJ.node (h:mJ w g eb m N E){b j:Nat}(hb:b<64)(hj:j<3):aM w g (b*3+j) (DB (N b) j):=h.1.ag (Tx N _ hb hj)
theorem mJ.hd (h:mJ w g eb m N E):aM w g 192 (bp eb m m):=h.1.ag (Tw N _)
theorem mJ.end_ (h:mJ w g eb m N E){b j:Nat}(hb:b<m)(hj:j<3):aM w eb (b*3+j) (Bo (E b) j):=h.2.ag (TP m E hb hj)
theorem mJ.ne (h:mJ w g eb m N E):g≠eb:=h.1.off h.2 aE
theorem mJ.ar {F:Nat→Prop}(h:mJ w g eb m N E)(ho:af F w w')(h1:¬F g)(h2:¬F eb):mJ w' g eb m N E:=⟨ho.ak h.1 h1,ho.ak h.2 h2⟩
theorem iA.ar {F:Nat→Prop}(h:iA w g eb m S)(ho:af F w w')(h1:¬F g)(h2:¬F eb):iA w' g eb m S:=by
 obtain⟨N,E,h3,h4⟩:=h;exact⟨N,E,h3.ar ho h1 h2,h4⟩
theorem iA.keep (h:iA w g eb m S)(ho:af au w w'):iA w' g eb m S:=h.ar ho id id
theorem mJ.Bh (h:mJ w g eb m N E){b j:Nat}(hb:b<64)(hj:j<3)(v:Value)(n:Nd)(hv:∀i,i<3→DB n i=if i=j then v else DB (N b) i):mJ (w.setCell ⟨g,b*3+j,none⟩ v) g eb m (aV N b n) E:=
 ⟨by rw[←O0 N _ v hb hj n hv];exact h.1.store _ _,h.2.q7 (fun e=>h.ne (show g=eb from e.symm)) _⟩
theorem mJ.yZ (h:mJ w g eb m N E){b j:Nat}(hb:b<m)(hj:j<3)(v:Value)(n:En)(hv:∀i,i<3→Bo n i=if i=j then v else Bo (E b) i):mJ (w.setCell ⟨eb,b*3+j,none⟩ v) g eb m N (ba E b n):=
 ⟨h.1.q7 (fun e=>h.ne (show g=eb from e)) _,by rw[←Qd m E v hb hj n hv];exact h.2.store _ _⟩
end
section
theorem nY{P:Prop}(h:P:=by
 rw[ei,ez];clear ei ez
 go_enter Tryz.func194,Tryz.ntmps194
 go_wp2;go_ret;exact⟨rfl,rfl⟩):P:=h
theorem yF (g:Nat)(b:Int)(w:World):Calls Tryz.prog 194 #[aO g,ah b] w fun e w'=>e= .returned (.bool (decide (0≤b)&&decide (b<64)))∧w=w':=by
 by_cases h1:0≤b
 ·have ei:decide (0≤b)=true:=by simp[h1]
  by_cases h2:b<64
  ·have ez:decide (b<64)=true:=by simp[h2]
   exact nY
  ·have ez:decide (b<64)=false:=by simp[h2]
   exact nY
 ·have ei:decide (0≤b)=false:=by simp[h1]
  rw[ei];clear ei
  go_enter Tryz.func194,Tryz.ntmps194
  go_wp2;go_ret;exact⟨rfl,rfl⟩
theorem pf{P:Prop}(h:P:=by
 rw[ei,ez];clear ei ez
 go_enter Tryz.func191,Tryz.ntmps191
 go_wp2;go_ret;exact⟨rfl,rfl⟩):P:=h
theorem sT {g eb m:Nat}{S:Nat→List Int}(l:Int)(w:World)(h:iA w g eb m S):Calls Tryz.prog 191 #[aO g,ah l] w fun e w'=>e= .returned (.bool (decide (0≤l)&&decide (l<m)))∧w=w':=by
 obtain⟨N,E,hm,_⟩:=h;have hh:=hm.hd;clear hm
 by_cases h1:0≤l
 ·have ei:decide (0≤l)=true:=by simp[h1]
  by_cases h2:l<m
  ·have ez:decide (l<(m:Int))=true:=by simp[h2]
   exact pf
  ·have ez:decide (l<(m:Int))=false:=by simp[h2]
   exact pf
 ·have ei:decide (0≤l)=false:=by simp[h1]
  rw[ei];clear ei
  go_enter Tryz.func191,Tryz.ntmps191
  go_wp2;go_ret;exact⟨rfl,rfl⟩
theorem gr{P:Prop}(h:P:=by
 go_enter Tryz.func190,Tryz.ntmps190
 go_wp2;go_ret2;exact⟨rfl,rfl⟩):P:=h
theorem BF {g eb m:Nat}{S:Nat→List Int}{i:Nat}{b:Int}(w:World)(h:iA w g eb m S)(hb:b∈S i):Calls Tryz.prog 190 #[aO g,ah b] w fun e w'=>e= .returned (.tuple #[ah i,.bool true])∧w=w':=by
 obtain⟨N,E,hm,hr,_⟩:=h;obtain⟨h0,h1⟩:=hr.lC hb;obtain⟨n,rfl⟩:=Int.eq_ofNat_of_zero_le h0;have hn:n<64:=aj;have hc:=hm.node (b:=n) (j:=0) hn aE;rw[hr.Gb hb]at hc
 replace hc:aF w g (n*3) i:=hc
 have Fa:=yF g n w;rw[show(decide (0≤(n:Int))&&decide ((n:Int)<64))=true by simp;omega]at Fa;clear hm hr hb h0;exact gr
theorem Fv {g eb m:Nat}{S:Nat→List Int}{b:Int}(w:World)(h:iA w g eb m S)(hb:∀i,b∉S i):Calls Tryz.prog 190 #[aO g,ah b] w fun e w'=>e= .returned (.tuple #[ah 0,.bool false])∧w=w':=by
 obtain⟨N,E,hm,hr,_⟩:=h
 by_cases h0:0≤b
 ·by_cases h1:b<64
  ·have hl:=hr.no h0 h1 hb;obtain⟨n,rfl⟩:=Int.eq_ofNat_of_zero_le h0;have hn:n<64:=aj;have hc:=hm.node (b:=n) (j:=0) hn aE
   replace hc:aF w g (n*3) ((N n).l):=hc
   rw[hl]at hc;clear hm hr hb h0 hl;exact gr
  ·clear hm hr hb;exact gr
 ·clear hm hr hb;exact gr
theorem my {g eb m:Nat}{S:Nat→List Int}(i:Nat)(w:World)(h:iA w g eb m S)(hi:i<m):Calls Tryz.prog 185 #[aO g,ah i] w fun e w'=>e= .returned (ah (S i).length)∧w=w':=by
 have hl:=sT i w h;obtain⟨N,E,hm,hr,_⟩:=h;have hh:=hm.hd;have hc:=hm.end_ (b:=i) (j:=2) hi aE;rw[hr.ends i hi]at hc
 replace hc:aF w eb (i*3+2) ((S i).length):=hc
 rw[show(decide (0≤(i:Int))&&decide ((i:Int)<m))=true by simp;omega]at hl;have hik:(i:Int)<m:=aj;generalize(S i).length=k at *;clear hm hr
 go_enter Tryz.func185,Tryz.ntmps185
 go_wp2;go_ret;exact⟨rfl,rfl⟩
theorem p9 {g eb m:Nat}{S:Nat→List Int}(i:Nat)(w:World)(h:iA w g eb m S)(hi:i<m):Calls Tryz.prog 192 #[aO g,ah i] w fun e w'=>e= .returned (if S i= []then .tuple #[ah 0,.bool false]else .tuple #[ah (gU (S i)),.bool true])∧w=w':=by
 have hl:=sT i w h;obtain⟨N,E,hm,hr,_⟩:=h;have hh:=hm.hd;have hc:=hm.end_ (b:=i) (j:=2) hi aE;have hd:=hm.end_ (b:=i) (j:=1) hi aE;rw[hr.ends i hi]at hc hd
 replace hc:aF w eb (i*3+2) ((S i).length):=hc
 replace hd:aF w eb (i*3+1) (gU (S i)):=hd
 rw[show(decide (0≤(i:Int))&&decide ((i:Int)<m))=true by simp;omega]at hl;have hik:(i:Int)<m:=aj;generalize hL:S i=L at *;clear hL hm hr
 cases L with
 |nil=>
  clear hd;rw[if_pos rfl]
  replace hc:aF w eb (i*3+2) 0:=hc
  go_enter Tryz.func192,Tryz.ntmps192
  go_wp2;go_ret2;exact⟨rfl,rfl⟩
 |cons a L=>
  rw[if_neg (by simp)];generalize gU (a :: L)=x at *;rw[List.length_cons]at hc;have hk:((L.length+1:Nat):Int)≠0:=aj;generalize L.length+1=k at *
  go_enter Tryz.func192,Tryz.ntmps192
  go_wp2;go_ret2;exact⟨rfl,rfl⟩
theorem I2 {g eb m:Nat}{S:Nat→List Int}(i:Nat)(w:World)(h:iA w g eb m S)(hi:i<m):Calls Tryz.prog 193 #[aO g,ah i] w fun e w'=>e= .returned (if S i= []then .tuple #[ah 0,.bool false]else .tuple #[ah (hd (S i)),.bool true])∧w=w':=by
 have hl:=sT i w h;obtain⟨N,E,hm,hr,_⟩:=h;have hh:=hm.hd;have hc:=hm.end_ (b:=i) (j:=2) hi aE;have hd:=hm.end_ (b:=i) (j:=0) hi aE;rw[hr.ends i hi]at hc hd
 replace hc:aF w eb (i*3+2) ((S i).length):=hc
 replace hd:aF w eb (i*3) (Go.Proofs.YtpcfhbeakecihaaGreat.hd (S i)):=hd
 rw[show(decide (0≤(i:Int))&&decide ((i:Int)<m))=true by simp;omega]at hl;have hik:(i:Int)<m:=aj;generalize hL:S i=L at *;clear hL hm hr
 cases L with
 |nil=>
  clear hd;rw[if_pos rfl]
  replace hc:aF w eb (i*3+2) 0:=hc
  go_enter Tryz.func193,Tryz.ntmps193
  go_wp2;go_ret2;exact⟨rfl,rfl⟩
 |cons a L=>
  rw[if_neg (by simp)];generalize Go.Proofs.YtpcfhbeakecihaaGreat.hd (a :: L)=x at *;rw[List.length_cons]at hc;have hk:((L.length+1:Nat):Int)≠0:=aj;generalize L.length+1=k at *
  go_enter Tryz.func193,Tryz.ntmps193
  go_wp2;go_ret2;exact⟨rfl,rfl⟩
end
end Go.Proofs.YtpcfhbeakecihaaGreat
