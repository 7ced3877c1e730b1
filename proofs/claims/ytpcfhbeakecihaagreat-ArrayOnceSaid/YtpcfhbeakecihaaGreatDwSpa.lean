/- texts Spa Spw -/
import Derived.Test.YtpcfhbeakecihaaGreatM34
import Derived.Test.YtpcfhbeakecihaaGreatM3
import Derived.Test.YtpcfhbeakecihaaGreatM2
import Derived.Test.YtpcfhbeakecihaaGreatM1
import Derived.Test.YtpcfhbeakecihaaGreatM4
import Derived.Test.YtpcfhbeakecihaaGreatM5
set_option linter.all false
set_option maxHeartbeats 20000000
set_option maxRecDepth 100000
namespace Go.Proofs.YtpcfhbeakecihaaGreat
open Go.RowKit Go.ChangeShapes Go.WideShapes
theorem fitB_of {sh wr:Nat→Int}(h:uy sh wr=true):0≤wr 0∧wr 0<sh 2∧0≤wr 1∧wr 1<sh 3∧1≤wr 2∧wr 2≤1099511627776∧1≤wr 3∧wr 3≤1099511627776:=of_decide_eq_true h
def sAt (b:List Int):Nat→Nat×Bool
 |0=>(0,true)
 |k+1=>(dG b (sAt b k).1 (sAt b k).2).2
def sVal (b:List Int)(k:Nat):Nat:=(dG b (sAt b k).1 (sAt b k).2).1
theorem sAt_le {b:List Int}:∀k,(sAt b k).2=true→(sAt b k).1≤b.length
 |0,_=>Nat.zero_le _
 |k+1,h=>xQ (fun e=>sAt_le k e) h
theorem sAt_off {b:List Int}{k:Nat}(h:(sAt b k).2=false):sVal b k=0∧(sAt b (k+1)).2=false:=by
 constructor
 ·unfold sVal;rw[h];rfl
 ·rw[sAt,h];rfl
theorem sAt_pre {b:List Int}{k:Nat}(h:(sAt b (k+1)).2=true):(sAt b k).2=true:=by
 cases e:(sAt b k).2 with
 |true=>rfl
 |false=>rw[(sAt_off e).2]at h;cases h
def lastOf (b:List Int):Nat×Nat×Nat:=
 if(sAt b 3).2=true∧(sAt b 3).1=b.length∧sVal b 0≤1099511627776∧sVal b 1≤1099511627776∧sVal b 2≤16 then(sVal b 0,sVal b 1,sVal b 2)else(0,0,0)
def jrW (b:List Int):Nat→Int:=fun i=>if i<5 then(sVal b i:Nat)else 0
def jrT (size:Nat)(b:List Int):List Int×Bool:=lz size b (sAt b 6).1 (sAt b 6).2
def jrB (sh:Nat→Int)(size:Nat)(b:List Int):Bool:=(jrT size b).2&&uy sh (jrW b)&&decide ((sVal b 4:Int)<sh 0)&&decide (1≤sVal b 5)&&decide (sVal b 5≤1000)
def catS (vs:List Nat):List Int:=vs.flatMap cL
theorem catS_succ (vs:List Nat){k:Nat}(hk:k<vs.length):catS (vs.take (k+1))=catS (vs.take k) ++ cL (vs.getD k 0):=by
 unfold catS;rw[List.take_add_one,List.flatMap_append];simp[List.getD,hk]
theorem rd_catS {b post:List Int}{vs:List Nat}(hb:b=catS vs ++ post){k:Nat}(hk:k<vs.length)(hv:vs.getD k 0<2 ^ 63):rd (b.drop (catS (vs.take k)).length)= .ok (vs.getD k 0) (cL (vs.getD k 0)).length:=by
 have e:catS vs=catS (vs.take (k+1)) ++ catS (vs.drop (k+1)):=by
  unfold catS;rw[←List.flatMap_append,List.take_append_drop]
 rw[hb,e,catS_succ vs hk,List.append_assoc,List.append_assoc,List.drop_left];exact A7 _ _ hv
theorem sAt_cat {b post:List Int}{vs:List Nat}(hb:b=catS vs ++ post)(hv:∀k,k<vs.length→vs.getD k 0<2 ^ 63):∀k,k≤vs.length→sAt b k=((catS (vs.take k)).length,true)∧(k<vs.length→sVal b k=vs.getD k 0)
 |0,_=>by
  refine⟨by simp[sAt,catS],fun h=>?_⟩;have h1:=rd_catS hb h (hv 0 h);have h2:eF b 0= .ok (vs.getD 0 0,0+(cL (vs.getD 0 0)).length):=by
   have e:(catS (vs.take 0)).length=0:=rfl;rw[e]at h1;unfold eF;rw[h1]
  show(dG b 0 true).1=_
  unfold dG;rw[if_pos rfl,vB h2]
 |k+1,hk=>by
  obtain⟨h0,h3⟩:=sAt_cat hb hv k (by omega);have N0:k<vs.length:=by omega
  have FB:∀j,j<vs.length→sAt b j=((catS (vs.take j)).length,true)→dG b (catS (vs.take j)).length true=(vs.getD j 0,(catS (vs.take (j+1))).length,true):=fun j hj _=>by
   have h1:=rd_catS hb hj (hv j hj);have h2:eF b (catS (vs.take j)).length= .ok (vs.getD j 0,(catS (vs.take j)).length+(cL (vs.getD j 0)).length):=by
    unfold eF;rw[h1]
   unfold dG;rw[if_pos rfl,vB h2,catS_succ vs hj,List.length_append];rfl
  have e1:sAt b (k+1)=((catS (vs.take (k+1))).length,true):=by
   rw[sAt,h0]
   show(dG b (catS (vs.take k)).length true).2=_
   rw[FB k N0 h0]
  refine⟨e1,fun h=>?_⟩;unfold sVal;rw[e1]
  show(dG b (catS (vs.take (k+1))).length true).1=_
  rw[FB (k+1) h e1]
theorem lastOf_put {a o n:Nat}(ha:a≤1099511627776)(ho:o≤1099511627776)(hn:n≤16):lastOf (catS [a,o,n])=(a,o,n):=by
 have h:=sAt_cat (b:=catS [a,o,n]) (post:=[]) (vs:=[a,o,n]) (by rw[List.append_nil]) (fun k hk=>by
  have hk:k<3:=hk;rcases(show k=0∨k=1∨k=2 by omega)with rfl|rfl|rfl
  ·show a<_;omega
  ·show o<_;omega
  ·show n<_;omega)
 have h0:=(h 0 (by show 0≤3;decide)).2 (by show 0<3;decide);have h1:=(h 1 (by show 1≤3;decide)).2 (by show 1<3;decide);have h2:=(h 2 (by show 2≤3;decide)).2 (by show 2<3;decide);have h3:=(h 3 (by show 3≤3;decide)).1;unfold lastOf;rw[h3,h0,h1,h2];exact if_pos ⟨rfl,rfl,ha,ho,hn⟩
theorem textR_put {b pre t:List Int}{size:Nat}(hb:b=pre ++ (cL t.length ++ t))(ht:t.length≤size)(h2:size<2 ^ 63):de size b pre.length= .ok (t,b.length):=by
 have h:=(tw size t ht (Nat.lt_of_le_of_lt ht h2)).1 pre [];rw[List.append_nil,←hb]at h;rw[h,hb];simp only[List.length_append]
theorem sTxt_put {b pre t:List Int}{size:Nat}(hb:b=pre ++ (cL t.length ++ t))(ht:t.length=size)(h2:size<2 ^ 63):lz size b pre.length true=(t,true):=by
 unfold lz;rw[if_pos rfl,textR_put hb (Nat.le_of_eq ht) h2];simp[ht]
def blkB (v:Nat)(t:List Int):List Int:=catS [v] ++ (cL t.length ++ t)
theorem blkOf_put {v size:Nat}{t:List Int}(hv:v≤1000)(ht:t.length=size)(h2:size≤16):eH size (blkB v t)=(v,t):=by
 have h:=sAt_cat (b:=blkB v t) (post:=cL t.length ++ t) (vs:=[v]) rfl (fun k hk=>by
  obtain rfl:k=0:=by have hk:k<1:=hk;omega
  show v<_;omega)
 have h0:(dG (blkB v t) 0 true).1=v:=(h 0 (by show 0≤1;decide)).2 (by show 0<1;decide);have h1:(dG (blkB v t) 0 true).2=((catS [v]).length,true):=(h 1 (by show 1≤1;decide)).1;have GP:lz size (blkB v t) (catS [v]).length true=(t,true):=sTxt_put rfl ht (by omega);unfold eH;rw[h0,h1,GP];exact if_pos ⟨rfl,hv⟩
theorem blkOf_ver (size:Nat)(b:List Int):(eH size b).1≤1000:=by
 unfold eH
 split
 ·rename_i h;exact h.2
 ·exact Nat.zero_le _
theorem encF_len7:∀(f n k:Nat),n<128 ^ (k+1)→(dZ f n).length≤k+1
 |0,_,k,_=>Nat.le_add_left 1 k
 |f+1,n,k,h=>by
  rw[dZ]
  split
  ·exact Nat.le_add_left 1 k
  ·rename_i h1
   cases k with
   |zero=>
    have:n<128:=by simpa using h
    omega
   |succ k=>
    have h2:n / 128<128 ^ (k+1):=by
     rw[Nat.div_lt_iff_lt_mul (by decide)];rw[Nat.pow_succ]at h;exact h
    have:=encF_len7 f (n / 128) k h2
    show(dZ f (n / 128)).length+1≤_
    omega
theorem encN_len7 {n k:Nat}(h:n<128 ^ (k+1)):(cL n).length≤k+1:=encF_len7 8 n k h
theorem catS_cons (v:Nat)(vs:List Nat):catS (v :: vs)=cL v ++ catS vs:=by simp[catS]
theorem nums_len {a o n:Nat}(ha:a≤1099511627776)(ho:o≤1099511627776)(hn:n≤16):(catS [a,o,n]).length≤13:=by
 rw[catS_cons,catS_cons,catS_cons];have h1:=encN_len7 (n:=a) (k:=5) (by omega);have h2:=encN_len7 (n:=o) (k:=5) (by omega);have h3:=encN_len7 (n:=n) (k:=0) (by omega);simp only[List.length_append,catS,List.flatMap_nil,List.length_nil];omega
theorem blkB_len {v:Nat}{t:List Int}(hv:v≤1000)(ht:t.length≤16):(blkB v t).length≤19:=by
 unfold blkB;rw[catS_cons];have h1:=encN_len7 (n:=v) (k:=1) (by omega);have h2:=encN_len7 (n:=t.length) (k:=0) (by omega);simp only[List.length_append,catS,List.flatMap_nil,List.length_nil];omega
def jrS (c s a o b v:Nat)(t:List Int):List Int:=catS [c,s,a,o,b,v] ++ (cL t.length ++ t)
theorem jrS_len {c s a o b v:Nat}{t:List Int}(hc:c≤4)(hs:s≤4)(ha:a≤1099511627776)(ho:o≤1099511627776)(hb:b≤32)(hv:v≤1000)(ht:t.length≤16):(jrS c s a o b v t).length≤34:=by
 unfold jrS;rw[catS_cons,catS_cons,catS_cons,catS_cons,catS_cons,catS_cons];have h1:=encN_len7 (n:=c) (k:=0) (by omega);have h2:=encN_len7 (n:=s) (k:=0) (by omega);have h3:=encN_len7 (n:=a) (k:=5) (by omega);have h4:=encN_len7 (n:=o) (k:=5) (by omega);have h5:=encN_len7 (n:=b) (k:=0) (by omega);have h6:=encN_len7 (n:=v) (k:=1) (by omega);have h7:=encN_len7 (n:=t.length) (k:=0) (by omega);simp only[List.length_append,catS,List.flatMap_nil,List.length_nil];omega
theorem isB_enc {n:Nat}(h:n<2 ^ 63):sm (cL n):=fun x hx=>qT 8 n (Nat.lt_of_lt_of_eq h (by decide)) x hx
theorem isB_app {a b:List Int}(ha:sm a)(hb:sm b):sm (a ++ b):=fun x hx=>(List.mem_append.1 hx).elim (ha x) (hb x)
theorem isB_cat:∀{vs:List Nat},(∀v∈vs,v<2 ^ 63)→sm (catS vs)
 | [],_=>fun x hx=>by cases hx
 |v :: vs,h=>by
  rw[catS_cons];exact isB_app (isB_enc (h v (List.mem_cons_self ..))) (isB_cat fun u hu=>h u (List.mem_cons_of_mem _ hu))
end Go.Proofs.YtpcfhbeakecihaaGreat

namespace Go.Proofs.YtpcfhbeakecihaaGreat
open Go.RowKit Go.ChangeShapes Go.WideShapes
def slotI (sh:Nat→Int)(c s:Int):Nat:=(1+sh 0+sh 3*c+s).toNat
def stDoes (sh:Nat→Int)(d:dH)(wr:Nat→Int)(t:List Int)(v:Nat):dH×Int:=
 if(d.write (1+(wr 4).toNat) (blkB v t)).2≠0 then d.write (1+(wr 4).toNat) (blkB v t)
 else if((d.write (1+(wr 4).toNat) (blkB v t)).1.write (slotI sh (wr 0) (wr 1)) (catS [(wr 2).toNat,(wr 3).toNat,0])).2≠0 then(d.write (1+(wr 4).toNat) (blkB v t)).1.write (slotI sh (wr 0) (wr 1)) (catS [(wr 2).toNat,(wr 3).toNat,0])
 else((d.write (1+(wr 4).toNat) (blkB v t)).1.write (slotI sh (wr 0) (wr 1)) (catS [(wr 2).toNat,(wr 3).toNat,0])).1.write 0 []
def stWrite (sh:Nat→Int)(size:Nat)(d:dH)(wr:Nat→Int)(t:List Int):dH×Int×Int:=
 if¬(0≤wr 4∧wr 4<sh 0)then(d,0,9)
 else if t.length≠size then(d,0,10)
 else if uy sh wr=false then(d,0,6)
 else if wr 2<(lastOf (d.sec (slotI sh (wr 0) (wr 1)))).1∨(wr 2=(lastOf (d.sec (slotI sh (wr 0) (wr 1)))).1∧wr 3<(lastOf (d.sec (slotI sh (wr 0) (wr 1)))).2.1)then(d,0,12)
 else if wr 2=(lastOf (d.sec (slotI sh (wr 0) (wr 1)))).1∧wr 3=(lastOf (d.sec (slotI sh (wr 0) (wr 1)))).2.1 then(d,(lastOf (d.sec (slotI sh (wr 0) (wr 1)))).2.2,0)
 else if(eH size (d.sec (1+(wr 4).toNat))).1=1000 then
  (if(d.write (slotI sh (wr 0) (wr 1)) (catS [(wr 2).toNat,(wr 3).toNat,11])).2≠0 then((d.write (slotI sh (wr 0) (wr 1)) (catS [(wr 2).toNat,(wr 3).toNat,11])).1,0,(d.write (slotI sh (wr 0) (wr 1)) (catS [(wr 2).toNat,(wr 3).toNat,11])).2)
   else((d.write (slotI sh (wr 0) (wr 1)) (catS [(wr 2).toNat,(wr 3).toNat,11])).1,11,0))
 else
  (if(d.write 0 (jrS (wr 0).toNat (wr 1).toNat (wr 2).toNat (wr 3).toNat (wr 4).toNat ((eH size (d.sec (1+(wr 4).toNat))).1+1) t)).2≠0 then((d.write 0 (jrS (wr 0).toNat (wr 1).toNat (wr 2).toNat (wr 3).toNat (wr 4).toNat ((eH size (d.sec (1+(wr 4).toNat))).1+1) t)).1,0,(d.write 0 (jrS (wr 0).toNat (wr 1).toNat (wr 2).toNat (wr 3).toNat (wr 4).toNat ((eH size (d.sec (1+(wr 4).toNat))).1+1) t)).2)
   else((stDoes sh (d.write 0 (jrS (wr 0).toNat (wr 1).toNat (wr 2).toNat (wr 3).toNat (wr 4).toNat ((eH size (d.sec (1+(wr 4).toNat))).1+1) t)).1 wr t ((eH size (d.sec (1+(wr 4).toNat))).1+1)).1,0,(stDoes sh (d.write 0 (jrS (wr 0).toNat (wr 1).toNat (wr 2).toNat (wr 3).toNat (wr 4).toNat ((eH size (d.sec (1+(wr 4).toNat))).1+1) t)).1 wr t ((eH size (d.sec (1+(wr 4).toNat))).1+1)).2))
theorem dH.write_two (d:dH)(i:Nat)(l:List Int):(d.write i l).2=8∨((d.write i l).2=0∧d.down=false∧(d.write i l).1.down=false∧∀j,(d.write i l).1.sec j=if j=i then l else d.sec j):=by
 unfold dH.write
 split
 ·exact .inl rfl
 ·rename_i h
  split
  ·exact .inl rfl
  ·exact .inr ⟨rfl,by simpa using h,by simpa using h,fun _=>rfl⟩
theorem dH.write_free {d:dH}(h0:d.down=false)(h1:d.b9= -1)(i:Nat)(l:List Int):(d.write i l).2=0∧(d.write i l).1.b9= -1∧(d.write i l).1.down=false:=by
 unfold dH.write;rw[if_neg (by rw[h0];decide),if_neg (by rw[h1];decide)];refine⟨rfl,?_,h0⟩
 show(if d.b9 - 1< -1 then(-1:Int)else d.b9 - 1)= -1
 rw[h1];decide
section
variable {sh:Nat→Int}{size:Nat}{d:dH}{wr:Nat→Int}{t:List Int}
theorem stDoes_free (h0:d.down=false)(h1:d.b9= -1)(v:Nat):(stDoes sh d wr t v).2=0∧(stDoes sh d wr t v).1.b9= -1∧(stDoes sh d wr t v).1.down=false:=by
 unfold stDoes;obtain⟨a1,a2,a3⟩:=dH.write_free h0 h1 (1+(wr 4).toNat) (blkB v t);rw[if_neg (by rw[a1];decide)];obtain⟨b1,b2,b3⟩:=dH.write_free a3 a2 (slotI sh (wr 0) (wr 1)) (catS [(wr 2).toNat,(wr 3).toNat,0]);rw[if_neg (by rw[b1];decide)];exact dH.write_free b3 b2 0 []
def stOpen (sh:Nat→Int)(size:Nat)(d:dH):dH:=if jrB sh size (d.sec 0)=true then(stDoes sh d (jrW (d.sec 0)) (jrT size (d.sec 0)).1 (sVal (d.sec 0) 5)).1 else d
theorem stOpen_free (h0:d.down=false)(h1:d.b9= -1):(stOpen sh size d).b9= -1∧(stOpen sh size d).down=false:=by
 unfold stOpen
 split
 ·exact(stDoes_free h0 h1 _).2
 ·exact⟨h1,h0⟩
end
end Go.Proofs.YtpcfhbeakecihaaGreat
