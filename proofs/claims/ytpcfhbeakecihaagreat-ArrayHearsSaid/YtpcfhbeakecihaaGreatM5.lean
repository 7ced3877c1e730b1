/- Lemmas. -/
import Derived.Test.YtpcfhbeakecihaaGreatM4
import Derived.KernelRfl
set_option linter.all false
set_option maxHeartbeats 20000000
set_option maxRecDepth 100000
namespace Go.Proofs.YtpcfhbeakecihaaGreat
theorem aS {P:Prop}(h:P:=by kernel_rfl):P:=h
def jm:Nat→Nat→List Int
 |0,n=>[(n:Int)]
 |f+1,n=>if n<128 then[(n:Int)]else((128+n % 128:Nat):Int) :: jm f (n / 128)
def dY (n:Nat):List Int:=jm 8 n
inductive Rd where
 |ok (n k:Nat)
 |short
 |form
 deriving DecidableEq
def se:List Int→Nat→Nat→Rd
 | [],_,_=>.short
 |c :: cs,i,acc=>
  if 128≤c then(if i=8 then .form else se cs (i+1) (acc+(c.toNat % 128)*128 ^ i))
  else if c=0∧0<i then .form else .ok (acc+c.toNat*128 ^ i) (i+1)
theorem wA:∀(f n:Nat),n<128 ^ (f+1)→∀x∈jm f n,0≤x∧x≤255
 |0,n,h,x,hx=>by
  simp only[jm,List.mem_singleton]at hx;simp at h;omega
 |f+1,n,h,x,hx=>by
  rw[jm]at hx
  split at hx
  ·simp at hx;omega
  ·rcases List.mem_cons.1 hx with rfl|hx
   ·omega
   ·refine wA f (n / 128) ?_ x hx;rw[Nat.div_lt_iff_lt_mul aE,←Nat.pow_succ];exact h
theorem Ce:∀(f n:Nat),1≤(jm f n).length∧(jm f n).length≤f+1
 |0,n=>by simp[jm]
 |f+1,n=>by
  rw[jm]
  split
  ·simp
  ·have:=Ce f (n / 128);simp;omega
theorem K9:∀(f n i acc:Nat) (t:List Int),i+f=8→n<128 ^ (f+1)→(0<i→0<n)→se (jm f n ++ t) i acc= .ok (acc+n*128 ^ i) (i+(jm f n).length)
 |0,n,i,acc,t,hi,hn,hp=>by
  simp only[jm,List.cons_append,List.nil_append,se];have h1:¬(128:Int)≤(n:Int):=by simp at hn;omega
  have h2:¬((n:Int)=0∧0<i):=aj;rw[if_neg h1,if_neg h2];simp
 |f+1,n,i,acc,t,hi,hn,hp=>by
  rw[jm]
  split
  ·rename_i h
   simp only[List.cons_append,List.nil_append,se];rw[if_neg aj,if_neg aj];simp
  ·rename_i h
   rw[List.cons_append,se,if_pos aj,if_neg aj,K9 f (n / 128) (i+1) _ t aj (by
    rw[Nat.div_lt_iff_lt_mul aE,←Nat.pow_succ];exact hn) aj]
   have e1:(((128+n % 128:Nat):Int)).toNat % 128=n % 128:=aj;rw[e1,List.length_cons]
   congr 1
   ·have:=Nat.div_add_mod n 128;rw[Nat.pow_succ,Nat.add_assoc,←Nat.mul_assoc,Nat.mul_right_comm,←Nat.add_mul,Nat.add_comm (n % 128),Nat.mul_comm (n / 128),this]
   ·omega
theorem La:∀(f n i acc k:Nat),i+f=8→k<(jm f n).length→se ((jm f n).take k) i acc= .short
 |0,n,i,acc,k,hi,hk=>by
  obtain rfl:k=0:=by simp[jm]at hk;exact hk
  simp[se]
 |f+1,n,i,acc,k,hi,hk=>by
  rw[jm]at hk ⊢
  split at hk
  ·rename_i h
   obtain rfl:k=0:=by simpa using hk
   simp[se]
  ·rename_i h
   rw[if_neg h]
   cases k with
   |zero=>simp[se]
   |succ k=>
    rw[List.take_succ_cons,se,if_pos aj,if_neg aj,La f (n / 128) (i+1) _ k aj (by simpa using hk)]
def rd (l:List Int):Rd:=se l 0 0
theorem K8 (n:Nat)(t:List Int)(h:n<2 ^ 63):rd (dY n ++ t)= .ok n (dY n).length:=by
 have:=K9 8 n 0 0 t rfl (Nat.lt_of_lt_of_eq h aE) aj;simpa [rd,dY] using this
theorem LV (n k:Nat)(h:k<(dY n).length):rd ((dY n).take k)= .short:=La 8 n 0 0 k rfl h
abbrev Dg (α:Type):=List Int→Nat→Except Int (α×Nat)
def ji:Dg Nat:=fun b i=>match rd (b.drop i)with
 | .ok n k=>.ok (n,i+k)
 | .short=>.error 1
 | .form=>.error 2
def ix {α β:Type}(p:Dg α)(q:α→Dg β):Dg β:=fun b i=>match p b i with
 | .ok (x,j)=>q x b j
 | .error e=>.error e
def BK {α:Type}(e:Int):Dg α:=fun _ _=>.error e
def vt (n:Nat):Dg (List Int):=fun b i=>if b.length - i<n then .error 1 else .ok ((b.drop i).take n,i+n)
def fT (most:Nat):Dg (List Int):=ix ji fun n=>if most<n then BK 4 else vt n
structure rH where
 kind:Int
 a:Int
 b:Int
 n:Int
 data:List Int
 deriving DecidableEq
instance:Inhabited rH:=⟨⟨0,0,0,0,[]⟩⟩
def Good {α:Type}(p:Dg α)(x:α)(e:List Int):Prop:=
 (∀pre post,p (pre ++ (e ++ post)) pre.length= .ok (x,pre.length+e.length))∧∀pre k,k<e.length→p (pre ++ e.take k) pre.length= .error 1
theorem sU (n:Nat)(h:n<2 ^ 63):Good ji n (dY n):=by
 refine⟨fun pre post=>?_,fun pre k hk=>?_⟩
 ·simp only[ji,List.drop_left,K8 n post h]
 ·simp only[ji,List.drop_left,LV n k hk]
theorem fP {α β:Type}{p:Dg α}{q:α→Dg β}{x:α}{y:β}{e1 e2:List Int}(h1:Good p x e1)(h2:Good (q x) y e2):Good (ix p q) y (e1 ++ e2):=by
 refine⟨fun pre post=>?_,fun pre k hk=>?_⟩
 ·simp only[ix,List.append_assoc,h1.1 pre (e2 ++ post)];have:=h2.1 (pre ++ e1) post;rw[List.length_append,List.append_assoc]at this;rw[this,List.length_append,Nat.add_assoc]
 ·by_cases hc:k<e1.length
  ·rw[List.take_append_of_le_length aj];simp only[ix,h1.2 pre k hc]
  ·rw[List.take_append,List.take_of_length_le aj];have AX:k - e1.length<e2.length:=by rw[List.length_append]at hk;omega
   simp only[ix,h1.1 pre (e2.take (k - e1.length))];have:=h2.2 (pre ++ e1) (k - e1.length) AX;rw[List.length_append,List.append_assoc]at this;exact this
theorem IY (d:List Int):Good (vt d.length) d d:=by
 refine⟨fun pre post=>?_,fun pre k hk=>?_⟩
 ·simp only[vt];rw[if_neg (by simp only[List.length_append];omega)];simp
 ·simp only[vt];rw[if_pos (by simp only[List.length_append,List.length_take];omega)]
theorem yp (most:Nat)(d:List Int)(h:d.length≤most)(h2:d.length<2 ^ 63):Good (fT most) d (dY d.length ++ d):=
 fP (sU d.length h2) (by rw[if_neg aj];exact IY d)
end Go.Proofs.YtpcfhbeakecihaaGreat
