/- Lemmas. -/
import Derived.Test.YtpcfhbeakecihaaGreatM4
import Derived.KernelRfl
set_option linter.all false
set_option maxHeartbeats 20000000
set_option maxRecDepth 100000
namespace Go.Proofs.YtpcfhbeakecihaaGreat
theorem bJ {P:Prop}(h:P:=by kernel_rfl):P:=h
def dZ:Nat→Nat→List Int
 |0,n=>[(n:Int)]
 |f+1,n=>if n<128 then[(n:Int)]else((128+n % 128:Nat):Int) :: dZ f (n / 128)
def cL (n:Nat):List Int:=dZ 8 n
inductive Rd where
 |ok (n k:Nat)
 |short
 |form
 deriving DecidableEq
def jc:List Int→Nat→Nat→Rd
 | [],_,_=>.short
 |c :: cs,i,acc=>
  if 128≤c then(if i=8 then .form else jc cs (i+1) (acc+(c.toNat % 128)*128 ^ i))
  else if c=0∧0<i then .form else .ok (acc+c.toNat*128 ^ i) (i+1)
theorem qT:∀(f n:Nat),n<128 ^ (f+1)→∀x∈dZ f n,0≤x∧x≤255
 |0,n,h,x,hx=>by
  simp only[dZ,List.mem_singleton]at hx;simp at h;omega
 |f+1,n,h,x,hx=>by
  rw[dZ]at hx
  split at hx
  ·simp at hx;omega
  ·rcases List.mem_cons.1 hx with rfl|hx
   ·omega
   ·refine qT f (n / 128) ?_ x hx;rw[Nat.div_lt_iff_lt_mul av,←Nat.pow_succ];exact h
theorem oW:∀(f n:Nat),1≤(dZ f n).length∧(dZ f n).length≤f+1
 |0,n=>by simp[dZ]
 |f+1,n=>by
  rw[dZ]
  split
  ·simp
  ·have:=oW f (n / 128);simp;omega
theorem uW:∀(f n i acc:Nat) (t:List Int),i+f=8→n<128 ^ (f+1)→(0<i→0<n)→jc (dZ f n ++ t) i acc= .ok (acc+n*128 ^ i) (i+(dZ f n).length)
 |0,n,i,acc,t,hi,hn,hp=>by
  simp only[dZ,List.cons_append,List.nil_append,jc];have h1:¬(128:Int)≤(n:Int):=by simp at hn;omega
  have h2:¬((n:Int)=0∧0<i):=ai;rw[if_neg h1,if_neg h2];simp
 |f+1,n,i,acc,t,hi,hn,hp=>by
  rw[dZ]
  split
  ·rename_i h
   simp only[List.cons_append,List.nil_append,jc];rw[if_neg ai,if_neg ai];simp
  ·rename_i h
   rw[List.cons_append,jc,if_pos ai,if_neg ai,uW f (n / 128) (i+1) _ t ai (by
    rw[Nat.div_lt_iff_lt_mul av,←Nat.pow_succ];exact hn) ai]
   have e1:(((128+n % 128:Nat):Int)).toNat % 128=n % 128:=ai;rw[e1,List.length_cons]
   congr 1
   ·have:=Nat.div_add_mod n 128;rw[Nat.pow_succ,Nat.add_assoc,←Nat.mul_assoc,Nat.mul_right_comm,←Nat.add_mul,Nat.add_comm (n % 128),Nat.mul_comm (n / 128),this]
   ·omega
theorem uX:∀(f n i acc k:Nat),i+f=8→k<(dZ f n).length→jc ((dZ f n).take k) i acc= .short
 |0,n,i,acc,k,hi,hk=>by
  obtain rfl:k=0:=by simp[dZ]at hk;exact hk
  simp[jc]
 |f+1,n,i,acc,k,hi,hk=>by
  rw[dZ]at hk ⊢
  split at hk
  ·rename_i h
   obtain rfl:k=0:=by simpa using hk
   simp[jc]
  ·rename_i h
   rw[if_neg h]
   cases k with
   |zero=>simp[jc]
   |succ k=>
    rw[List.take_succ_cons,jc,if_pos ai,if_neg ai,uX f (n / 128) (i+1) _ k ai (by simpa using hk)]
def rd (l:List Int):Rd:=jc l 0 0
theorem A7 (n:Nat)(t:List Int)(h:n<2 ^ 63):rd (cL n ++ t)= .ok n (cL n).length:=by
 have:=uW 8 n 0 0 t rfl (Nat.lt_of_lt_of_eq h av) ai;simpa [rd,cL] using this
theorem vK (n k:Nat)(h:k<(cL n).length):rd ((cL n).take k)= .short:=uX 8 n 0 0 k rfl h
abbrev pQ (α:Type):=List Int→Nat→Except Int (α×Nat)
def eF:pQ Nat:=fun b i=>match rd (b.drop i)with
 | .ok n k=>.ok (n,i+k)
 | .short=>.error 1
 | .form=>.error 2
def da {α β:Type}(p:pQ α)(q:α→pQ β):pQ β:=fun b i=>match p b i with
 | .ok (x,j)=>q x b j
 | .error e=>.error e
def nV {α:Type}(x:α):pQ α:=fun _ i=>.ok (x,i)
def ox {α:Type}(e:Int):pQ α:=fun _ _=>.error e
def eJ (n:Nat):Int:=if n % 2=0 then -((n / 2:Nat):Int)else((n / 2:Nat):Int)
def b5 (n:Int):Nat:=if n<0 then(-2*n).toNat else(2*n+1).toNat
def km:pQ Int:=da eF fun n=>if n=0 then ox 2 else nV (eJ n)
def lP (n:Nat):pQ (List Int):=fun b i=>if b.length - i<n then .error 1 else .ok ((b.drop i).take n,i+n)
def de (most:Nat):pQ (List Int):=da eF fun n=>if most<n then ox 4 else lP n
structure iI where
 kind:Int
 a:Int
 b:Int
 n:Int
 data:List Int
 deriving DecidableEq
instance:Inhabited iI:=⟨⟨0,0,0,0,[]⟩⟩
def AV:pQ iI:=da eF fun kind=>da km fun a=>da km fun b=>da km fun n=>da (de 64) fun d=>nV ⟨kind,a,b,n,d⟩
def uJ:Nat→pQ (List iI)
 |0=>nV []
 |k+1=>da (uJ k) fun l=>da AV fun a=>nV (l ++ [a])
def Good {α:Type}(p:pQ α)(x:α)(e:List Int):Prop:=
 (∀pre post,p (pre ++ (e ++ post)) pre.length= .ok (x,pre.length+e.length))∧∀pre k,k<e.length→p (pre ++ e.take k) pre.length= .error 1
theorem ju (n:Nat)(h:n<2 ^ 63):Good eF n (cL n):=by
 refine⟨fun pre post=>?_,fun pre k hk=>?_⟩
 ·simp only[eF,List.drop_left,A7 n post h]
 ·simp only[eF,List.drop_left,vK n k hk]
theorem b6 {α β:Type}{p:pQ α}{q:α→pQ β}{x:α}{y:β}{e1 e2:List Int}(h1:Good p x e1)(h2:Good (q x) y e2):Good (da p q) y (e1 ++ e2):=by
 refine⟨fun pre post=>?_,fun pre k hk=>?_⟩
 ·simp only[da,List.append_assoc,h1.1 pre (e2 ++ post)];have:=h2.1 (pre ++ e1) post;rw[List.length_append,List.append_assoc]at this;rw[this,List.length_append,Nat.add_assoc]
 ·by_cases hc:k<e1.length
  ·rw[List.take_append_of_le_length ai];simp only[da,h1.2 pre k hc]
  ·rw[List.take_append,List.take_of_length_le ai];have tQ:k - e1.length<e2.length:=by rw[List.length_append]at hk;omega
   simp only[da,h1.1 pre (e2.take (k - e1.length))];have:=h2.2 (pre ++ e1) (k - e1.length) tQ;rw[List.length_append,List.append_assoc]at this;exact this
theorem kJ {α:Type}(x:α):Good (nV x) x []:=⟨fun _ _=>rfl,fun _ k hk=>absurd hk (Nat.not_lt_zero _)⟩
theorem oU {α β:Type}{p:pQ α}{x:α}{e:List Int}(h:Good p x e)(f:α→β):Good (da p fun x=>nV (f x)) (f x) e:=by
 have:=b6 (q:=fun x=>nV (f x)) h (kJ (f x));rwa [List.append_nil]at this
theorem o8 (n:Int):eJ (b5 n)=n:=by
 unfold eJ
 by_cases h:n<0
 ·rw[b5,if_pos h];split<;>omega
 ·rw[b5,if_neg h];split<;>omega
theorem qR (n:Int):b5 n≠0:=by
 unfold b5
 split<;>omega
theorem gZ (n:Int)(h:b5 n<2 ^ 63):Good km n (cL (b5 n)):=by
 have:=b6 (q:=fun m=>if m=0 then ox 2 else nV (eJ m)) (y:=n) (e2:=[]) (ju (b5 n) h) (by
  rw[if_neg (qR n),o8];exact kJ n)
 rwa [List.append_nil]at this
theorem tx (d:List Int):Good (lP d.length) d d:=by
 refine⟨fun pre post=>?_,fun pre k hk=>?_⟩
 ·simp only[lP];rw[if_neg (by simp only[List.length_append];omega)];simp
 ·simp only[lP];rw[if_pos (by simp only[List.length_append,List.length_take];omega)]
theorem tw (most:Nat)(d:List Int)(h:d.length≤most)(h2:d.length<2 ^ 63):Good (de most) d (cL d.length ++ d):=
 b6 (ju d.length h2) (by rw[if_neg ai];exact tx d)
def xy (a:iI):List Int:=cL a.kind.toNat ++ (cL (b5 a.a) ++ (cL (b5 a.b) ++ (cL (b5 a.n) ++ (cL a.data.length ++ a.data))))
def oh (n:Int):Bool:=decide (-1099511627776≤n)&&decide (n≤1099511627776)
def oo (a:iI):Bool:=decide (1≤a.kind)&&decide (a.kind≤10)&&oh a.a&&oh a.b&&oh a.n&&decide (a.data.length≤64)
theorem jT (n:Int)(h:oh n=true):b5 n<2 ^ 63:=by
 simp only[oh,Bool.and_eq_true,decide_eq_true_eq]at h;unfold b5
 split<;>omega
theorem we (a:iI)(h:oo a=true):Good AV a (xy a):=by
 simp only[oo,Bool.and_eq_true,decide_eq_true_eq]at h;obtain⟨⟨⟨⟨⟨h1,h2⟩,h3⟩,h4⟩,h5⟩,h6⟩:=h;unfold AV xy;refine b6 (ju _ ai) (b6 (gZ _ (jT _ h3)) (b6 (gZ _ (jT _ h4)) (b6 (gZ _ (jT _ h5)) ?_)));have:=oU (tw 64 a.data h6 ai) fun d=>(⟨a.kind.toNat,a.a,a.b,a.n,d⟩:iI)
 have e:(⟨((a.kind.toNat:Nat):Int),a.a,a.b,a.n,a.data⟩:iI)=a:=by
  rw[Int.toNat_of_nonneg ai]
 rwa [e]at this
def oy (l:List iI):List Int:=(l.map xy).flatten
theorem q9 (l:List iI)(a:iI):oy (l ++ [a])=oy l ++ xy a:=by simp[oy]
theorem mn:∀(k:Nat) (l:List iI),l.length=k→l.all oo=true→Good (uJ k) l (oy l)
 |0,l,hl,_=>by
  obtain rfl:=List.eq_nil_of_length_eq_zero hl;exact kJ []
 |k+1,l,hl,h=>by
  have hne:l≠[]:=fun e=>by subst e;cases hl
  obtain⟨m,a,rfl⟩:∃m a,l=m ++ [a]:=⟨l.dropLast,l.getLast hne,(List.dropLast_concat_getLast hne).symm⟩;rw[List.all_append,Bool.and_eq_true]at h;have h2:oo a=true:=by simpa using h.2
  rw[q9];exact b6 (mn k m (by simpa using hl) h.1) (oU (we a h2) fun a=>m ++ [a])
def D6:pQ (List iI):=da eF fun n=>if 1000<n then ox 4 else uJ n
def D7 (l:List iI):List Int:=cL l.length ++ oy l
theorem Cu (l:List iI)(hl:l.length≤1000)(h:l.all oo=true):Good D6 l (D7 l):=
 b6 (ju _ ai) (by rw[if_neg ai];exact mn _ l rfl h)
end Go.Proofs.YtpcfhbeakecihaaGreat
