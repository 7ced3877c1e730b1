/- Lemmas. -/
set_option linter.all false
set_option maxHeartbeats 20000000
set_option maxRecDepth 100000
namespace Go.Proofs.YtpcfhbeakecihaaGreat
theorem aj {P:Prop}(h:P:=by omega):P:=h
theorem aE {P:Prop}(h:P:=by decide):P:=h
theorem dX (n:Nat):n≤n:=Nat.le_refl n
theorem fH (n:Nat):0≤n:=Nat.zero_le n
structure Nd where
 l:Int
 a:Int
 b:Int
structure En where
 f:Int
 k:Int
 m:Int
def aV {α:Type}(f:Int→α)(k:Int)(v:α):Int→α:=fun x=>if x=k then v else f x
def ba {α:Type}(f:Nat→α)(k:Nat)(v:α):Nat→α:=fun x=>if x=k then v else f x
def hd (L:List Int):Int:=L.headD (-1)
def gU (L:List Int):Int:=L.getLastD (-1)
def pD:List Int→Int→Int
 | [],_=>-1
 |a :: L,x=>if hd L=x then a else pD L x
def kI:List Int→Int→Int
 | [],_=>-1
 |a :: L,x=>if a=x then hd L else kI L x
def Pos (L:List Int):Prop:=∀x∈L,0≤x
theorem Pos.tail {a:Int}{L:List Int}(h:Pos (a :: L)):Pos L:=fun x hx=>h x (List.mem_cons_of_mem _ hx)
theorem Pos.head {a:Int}{L:List Int}(h:Pos (a :: L)):0≤a:=h a (List.mem_cons_self ..)
theorem jn {L:List Int}(h:hd L≠-1):hd L∈L:=by
 cases L with
 |nil=>exact absurd rfl h
 |cons a L=>exact List.mem_cons_self ..
theorem zv {L:List Int}(hp:Pos L)(h:hd L= -1):L= []:=by
 cases L with
 |nil=>rfl
 |cons a L=>have:=hp.head;have h:a= -1:=h;omega
theorem eO (a:Int)(L:List Int):gU (a :: L)=if L= []then a else gU L:=by
 cases L with
 |nil=>rfl
 |cons b L=>simp[gU]
theorem PG {L:List Int}(h:gU L≠-1):gU L∈L:=by
 induction L with
 |nil=>exact absurd rfl h
 |cons a L ih=>
  rw[eO]at h ⊢
  split
  ·exact List.mem_cons_self ..
  ·rename_i e
   rw[if_neg e]at h;exact List.mem_cons_of_mem _ (ih h)
theorem sD {L:List Int}{x:Int}(h0:0≤x)(h:x∉L):pD L x= -1:=by
 induction L with
 |nil=>rfl
 |cons a L ih=>
  rw[pD,if_neg,ih (fun e=>h (List.mem_cons_of_mem _ e))];intro e;exact h (List.mem_cons_of_mem _ (e▸jn aj))
theorem FO {L:List Int}:∀{a b:Int},b∈L→pD (a :: L) b∈a :: L:=by
 induction L with
 |nil=>intro a b h;cases h
 |cons c L ih=>
  intro a b h;rw[pD]
  by_cases e:hd (c :: L)=b
  ·rw[if_pos e];exact List.mem_cons_self ..
  ·rw[if_neg e];have:b∈L:=by
    rcases List.mem_cons.1 h with rfl|h
    ·exact absurd rfl e
    ·exact h
   exact List.mem_cons_of_mem _ (ih this)
theorem DP (L:List Int)(b:Int)(h0:0≤b):pD L b= -1∨pD L b∈L:=by
 cases L with
 |nil=>exact .inl rfl
 |cons a L=>
  by_cases h:b∈L
  ·exact .inr (FO h)
  ·refine .inl ?_;rw[pD,if_neg (show¬hd L=b from fun e=>h (e▸jn aj)),sD h0 h]
theorem zr (L:List Int)(b:Int):kI L b= -1∨kI L b∈L:=by
 induction L with
 |nil=>exact .inl rfl
 |cons a L ih=>
  rw[kI]
  split
  ·by_cases h:hd L= -1
   ·exact .inl h
   ·exact .inr (List.mem_cons_of_mem _ (jn h))
  ·rcases ih with h|h
   ·exact .inl h
   ·exact .inr (List.mem_cons_of_mem _ h)
theorem zq {L:List Int}{x:Int}(hn:L.Nodup)(h0:0≤x)(h:hd L=x):pD L x= -1:=by
 cases L with
 |nil=>rfl
 |cons a L=>
  have h:a=x:=h;subst h;have:=(List.nodup_cons.1 hn).1;rw[pD,if_neg (show¬hd L=a from fun e=>this (e▸jn aj)),sD h0 this]
theorem fL {L:List Int}{b:Int}(hn:L.Nodup)(hp:Pos L)(hb:b∈L):pD L b= -1↔hd L=b:=by
 refine⟨fun h=>?_,zq hn (hp b hb)⟩
 cases L with
 |nil=>cases hb
 |cons a L=>
  rcases List.mem_cons.1 hb with rfl|hb
  ·rfl
  ·have:=hp _ (FO (a:=a) hb);omega
theorem Iy {L:List Int}{b:Int}(hn:L.Nodup)(hp:Pos L)(hb:b∈L):kI L b≠hd L:=by
 cases L with
 |nil=>cases hb
 |cons a L=>
  have ha:=(List.nodup_cons.1 hn).1;have h0:=hp.head
  show kI (a :: L) b≠a
  rw[kI]
  split
  ·intro e;exact ha (e▸jn aj)
  ·intro e;rcases zr L b with h|h
   ·omega
   ·exact ha (e▸h)
theorem qe {L:List Int}{b:Int}(hn:L.Nodup)(hp:Pos L)(hb:b∈L):hd (L.erase b)=if pD L b= -1 then kI L b else hd L:=by
 cases L with
 |nil=>cases hb
 |cons a L=>
  by_cases e:a=b
  ·subst e;rw[if_pos ((fL hn hp hb).2 rfl),kI,if_pos rfl,List.erase_cons_head]
  ·rw[if_neg (fun h=>e ((fL hn hp hb).1 h)),List.erase_cons_tail (by simpa using e)];rfl
theorem Iq {b:Int}:∀{L:List Int} {x:Int},L.Nodup→Pos L→b∈L→x∈L→x≠b→pD (L.erase b) x=if kI L b=x then pD L b else pD L x:=by
 intro L
 induction L with
 |nil=>intro x _ _ h;cases h
 |cons a L ih=>
  intro x hn hp hb hx hne;have ha:=(List.nodup_cons.1 hn).1;have uT:=(List.nodup_cons.1 hn).2;have qL:=hp.tail;have ha0:=hp.head
  by_cases e:a=b
  ·subst e;have UG:x∈L:=(List.mem_cons.1 hx).resolve_left hne;rw[List.erase_cons_head,kI,if_pos rfl,(fL hn hp hb).2 rfl,pD]
   by_cases h:hd L=x
   ·rw[if_pos h,zq uT (qL x UG) h]
   ·rw[if_neg h,if_neg h]
  ·have ry:b∈L:=(List.mem_cons.1 hb).resolve_left (fun h=>e h.symm);rw[List.erase_cons_tail (by simpa using e)];rw[show kI (a :: L) b=kI L b from by rw[kI,if_neg e]]
   by_cases QH:x=a
   ·subst QH;rw[if_neg (show¬kI L b=x from fun h=>(zr L b).elim (fun h1=>by omega) (fun h1=>ha (h▸h1)))];rw[zq hn ha0 rfl];have Gg:(x :: L.erase b).Nodup:=List.nodup_cons.2 ⟨fun h=>ha (List.mem_of_mem_erase h),uT.erase b⟩;exact zq Gg ha0 rfl
   ·have UG:x∈L:=(List.mem_cons.1 hx).resolve_left QH;rw[pD,qe uT qL ry,ih uT qL ry UG hne,show pD (a :: L) b=if hd L=b then a else pD L b from rfl,show pD (a :: L) x=if hd L=x then a else pD L x from rfl]
    by_cases h1:hd L=b
    ·rw[if_pos ((fL uT qL ry).2 h1),if_pos h1,if_neg (show¬hd L=x from fun h=>hne (h.symm.trans h1))]
     by_cases h2:kI L b=x
     ·rw[if_pos h2,if_pos h2]
     ·rw[if_neg h2,if_neg h2,if_neg h2]
    ·rw[if_neg (fun h=>h1 ((fL uT qL ry).1 h)),if_neg h1]
     by_cases h2:kI L b=x
     ·rw[if_pos h2,if_pos h2,if_neg (fun h=>Iy uT qL ry (h2.trans h.symm))]
     ·rw[if_neg h2,if_neg h2]
theorem Iz {b:Int}:∀{L:List Int} {x:Int},L.Nodup→Pos L→b∈L→x∈L→x≠b→kI (L.erase b) x=if pD L b=x then kI L b else kI L x:=by
 intro L
 induction L with
 |nil=>intro x _ _ h;cases h
 |cons a L ih=>
  intro x hn hp hb hx hne;have ha:=(List.nodup_cons.1 hn).1;have uT:=(List.nodup_cons.1 hn).2;have qL:=hp.tail;have ha0:=hp.head;have AU:=hp x hx
  by_cases e:a=b
  ·subst e;have UG:x∈L:=(List.mem_cons.1 hx).resolve_left hne;rw[List.erase_cons_head,(fL hn hp hb).2 rfl,if_neg aj,kI,if_neg (fun h=>hne h.symm)]
  ·have ry:b∈L:=(List.mem_cons.1 hb).resolve_left (fun h=>e h.symm);rw[List.erase_cons_tail (by simpa using e),show kI (a :: L) b=kI L b from by rw[kI,if_neg e]];rw[show pD (a :: L) b=if hd L=b then a else pD L b from rfl]
   by_cases QH:a=x
   ·subst QH;rw[kI,if_pos rfl,qe uT qL ry]
    by_cases h1:hd L=b
    ·rw[if_pos ((fL uT qL ry).2 h1),if_pos h1,if_pos rfl]
    ·rw[if_neg (fun h=>h1 ((fL uT qL ry).1 h)),if_neg h1,if_neg,kI,if_pos rfl];intro h;rcases DP L b (qL b ry)with h3|h3
     ·omega
     ·exact ha (h▸h3)
   ·have UG:x∈L:=(List.mem_cons.1 hx).resolve_left (fun h=>QH h.symm);rw[kI,if_neg QH,ih uT qL ry UG hne,show kI (a :: L) x=kI L x from by rw[kI,if_neg QH]]
    by_cases h1:hd L=b
    ·rw[if_pos h1,if_neg QH,if_neg];rw[(fL uT qL ry).2 h1];omega
    ·rw[if_neg h1]
theorem IJ {b:Int}:∀{L:List Int},L.Nodup→Pos L→b∈L→gU (L.erase b)=if kI L b= -1 then pD L b else gU L:=by
 intro L
 induction L with
 |nil=>intro _ _ h;cases h
 |cons a L ih=>
  intro hn hp hb;have uT:=(List.nodup_cons.1 hn).2;have qL:=hp.tail
  by_cases e:a=b
  ·subst e;rw[List.erase_cons_head,kI,if_pos rfl,(fL hn hp hb).2 rfl,eO]
   by_cases h:L= []
   ·subst h;rfl
   ·rw[if_neg h,if_neg (fun h2=>h (zv qL h2))]
  ·have ry:b∈L:=(List.mem_cons.1 hb).resolve_left (fun h=>e h.symm);have hL:L≠[]:=by rintro rfl;cases ry
   rw[List.erase_cons_tail (by simpa using e),eO,ih uT qL ry,show kI (a :: L) b=kI L b from by rw[kI,if_neg e],eO,if_neg hL];rw[show pD (a :: L) b=if hd L=b then a else pD L b from rfl]
   by_cases h:L.erase b= []
   ·have hh:=qe uT qL ry;rw[h]at hh;have:hd L=b:=by
     apply (fL uT qL ry).1;apply Classical.byContradiction;intro h1;rw[if_neg h1]at hh;exact hL (zv qL hh.symm)
    rw[if_pos ((fL uT qL ry).2 this)]at hh;rw[if_pos h,if_pos this,if_pos (show kI L b= -1 from hh.symm)]
   ·rw[if_neg h]
    by_cases h2:kI L b= -1
    ·rw[if_pos h2,if_pos h2]
     split
     ·rename_i h1
      have hh:=qe uT qL ry;rw[if_pos ((fL uT qL ry).2 h1),h2]at hh;exact absurd (zv (fun x hx=>qL x (List.mem_of_mem_erase hx)) hh) h
     ·rfl
    ·rw[if_neg h2,if_neg h2]
theorem TA {L:List Int}:∀{k:Nat},L.Nodup→(h:k<L.length)→kI L L[k]=hd (L.drop (k+1)):=by
 induction L with
 |nil=>intro k _ h;exact absurd h (Nat.not_lt_zero _)
 |cons a L ih=>
  intro k hn h
  cases k with
  |zero=>simp[kI]
  |succ k=>
   have ha:=(List.nodup_cons.1 hn).1;have hk:k<L.length:=by simpa using h
   rw[List.getElem_cons_succ,kI,if_neg (show¬a=L[k]from fun e=>ha (e▸List.getElem_mem hk)),ih (List.nodup_cons.1 hn).2 hk];rfl
theorem PZ {L:List Int}{k:Nat}(h:k<L.length):hd (L.drop k)=L[k]:=by
 simp[hd,List.headD_eq_head?_getD,h]
theorem CQ (L:List Int):hd (L.drop L.length)= -1:=by simp[hd]
structure xD (m:Nat)(N:Int→Nd)(E:Nat→En)(S:Nat→List Int):Prop where
 nodup:∀i,(S i).Nodup
 dj:∀{i j:Nat} {b:Int},b∈S i→b∈S j→i=j
 lC:∀{i:Nat} {b:Int},b∈S i→0≤b∧b<64
 out:∀i,m≤i→S i= []
 ends:∀i,i<m→E i=⟨hd (S i),gU (S i),(S i).length⟩
 Gb:∀{i:Nat} {b:Int},b∈S i→N b=⟨i,pD (S i) b,kI (S i) b⟩
 no:∀{b:Int},0≤b→b<64→(∀i,b∉S i)→(N b).l= -1
section
variable {m:Nat}{N:Int→Nd}{E:Nat→En}{S:Nat→List Int}
theorem xD.pos (h:xD m N E S)(i:Nat):Pos (S i):=fun _ hx=>(h.lC hx).1
theorem xD.lt (h:xD m N E S){i:Nat}{b:Int}(hb:b∈S i):i<m:=by
 apply Classical.byContradiction;intro hi;rw[h.out i aj]at hb
 cases hb
def Du (N:Int→Nd)(b:Int):Int→Nd:=
 let n:=N b
 let N1:=if n.a= -1 then N else aV N n.a {N n.a with b:=n.b}
 let N2:=if n.b= -1 then N1 else aV N1 n.b {N1 n.b with a:=n.a}
 aV N2 b {N2 b with l:=-1}
def Ko (E:Nat→En)(i:Nat)(n:Nd):Nat→En:=
 ba E i ⟨if n.a= -1 then n.b else(E i).f,if n.b= -1 then n.a else(E i).k,(E i).m - 1⟩
def xg (S:Nat→List Int)(i:Nat)(b:Int):Nat→List Int:=ba S i ((S i).erase b)
def zw (N:Int→Nd)(E:Nat→En)(i:Nat)(b:Int):Int→Nd:=
 let N1:=aV N b ⟨i,-1,(E i).f⟩
 if(E i).f= -1 then N1 else aV N1 (E i).f {N1 (E i).f with a:=b}
def zx (E:Nat→En)(i:Nat)(b:Int):Nat→En:=
 ba E i ⟨b,if(E i).f= -1 then b else(E i).k,(E i).m+1⟩
def bm (S:Nat→List Int)(i:Nat)(b:Int):Nat→List Int:=ba S i (b :: S i)
theorem FP (N:Int→Nd){b x:Int}(hx:x≠b)(fS:(N b).a≠b):
 Du N b x=⟨(N x).l,if x=(N b).b∧(N b).b≠-1 then(N b).a else(N x).a,if x=(N b).a∧(N b).a≠-1 then(N b).b else(N x).b⟩:=by
 unfold Du aV;dsimp only;rw[if_neg hx]
 by_cases h1:(N b).a= -1<;>by_cases h2:(N b).b= -1<;>simp only[h1,h2,if_true,if_false,ne_eq,not_true_eq_false,and_false,not_false_eq_true,and_true]<;>(repeat' split)<;>simp_all
theorem Ix (N:Int→Nd)(b:Int):(Du N b b).l= -1:=by simp[Du,aV]
theorem xD.outs (h:xD m N E S){i:Nat}{b:Int}(hb:b∈S i):xD m (Du N b) (Ko E i (N b)) (xg S i b):=by
 have hn:=h.nodup i;have hp:=h.pos i;have hN:=h.Gb hb;have yU:=hp b hb;have fS:(N b).a≠b:=by
  rw[hN];intro e;have e:pD (S i) b=b:=e
  cases hs:S i with
  |nil=>rw[hs]at hb;cases hb
  |cons a L=>
   rw[hs]at e hb hn;have ha:=(List.nodup_cons.1 hn);rw[pD]at e
   split at e
   ·rename_i h1
    subst e;exact ha.1 (h1▸jn aj)
   ·rename_i h1
    rcases List.mem_cons.1 hb with e2|e2
    ·rw[←e2]at ha;rw[sD yU ha.1]at e;omega
    ·have jc:=ha.2;clear hs hN hp h1;clear hb hn ha
     induction L generalizing a with
     |nil=>cases e2
     |cons c L ih=>
      rw[pD]at e
      split at e
      ·rename_i h3
       subst e;exact(List.nodup_cons.1 jc).1 (h3▸jn aj)
      ·rename_i h3
       rcases List.mem_cons.1 e2 with e4|e4
       ·rw[←e4]at jc;rw[sD yU (List.nodup_cons.1 jc).1]at e;omega
       ·exact ih a e e4 (List.nodup_cons.1 jc).2
 have hV:∀{j:Nat} {x:Int},x∈xg S i b j→x∈S j∧x≠b:=by
  intro j x hx;unfold xg ba at hx
  split at hx
  ·rename_i e;subst e
   exact⟨List.mem_of_mem_erase hx,fun e=>(List.Nodup.not_mem_erase hn) (e▸hx)⟩
  ·rename_i e
   exact⟨hx,fun e2=>e (h.dj (e2▸hx) hb)⟩
 refine⟨fun j=>?_,fun hx hy=>h.dj (hV hx).1 (hV hy).1,fun hx=>h.lC (hV hx).1,fun j hj=>?_,fun j hj=>?_,fun {j x} hx=>?_,fun {x} h0 h1 hx=>?_⟩
 ·unfold xg ba
  split
  ·exact hn.erase b
  ·exact h.nodup j
 ·have:j≠i:=fun e=>by have:=h.lt hb;omega
  unfold xg ba;rw[if_neg this];exact h.out j hj
 ·unfold Ko xg ba
  by_cases e:j=i
  ·subst e;rw[if_pos rfl,if_pos rfl,hN,h.ends j hj,qe hn hp hb,IJ hn hp hb,List.length_erase_of_mem hb];have:0<(S j).length:=List.length_pos_of_mem hb
   congr 1
   show((S j).length:Int) - 1=(((S j).length - 1:Nat):Int)
   omega
  ·rw[if_neg e,if_neg e];exact h.ends j hj
 ·have E3:=(hV hx).1;have hne:=(hV hx).2;have AU:=(h.lC E3).1;rw[FP N hne fS,hN,h.Gb E3];dsimp only;unfold xg ba
  by_cases e:j=i
  ·subst e;rw[if_pos rfl,Iq hn hp hb E3 hne,Iz hn hp hb E3 hne]
   congr 1
   ·by_cases h2:kI (S j) b=x
    ·rw[if_pos h2,if_pos ⟨h2.symm,aj⟩]
    ·rw[if_neg h2,if_neg (fun h3=>h2 h3.1.symm)]
   ·by_cases h2:pD (S j) b=x
    ·rw[if_pos h2,if_pos ⟨h2.symm,aj⟩]
    ·rw[if_neg h2,if_neg (fun h3=>h2 h3.1.symm)]
  ·rw[if_neg e,if_neg,if_neg]
   ·rintro⟨h2,h3⟩;rcases DP (S i) b yU with h4|h4
    ·exact h3 h4
    ·exact e (h.dj E3 (h2▸h4))
   ·rintro⟨h2,h3⟩;rcases zr (S i) b with h4|h4
    ·exact h3 h4
    ·exact e (h.dj E3 (h2▸h4))
 ·by_cases e:x=b
  ·subst e;exact Ix N _
  ·rw[FP N e fS];refine h.no h0 h1 fun j hj=>?_
   refine hx j ?_;unfold xg ba
   split
   ·rename_i e2;subst e2;exact(List.mem_erase_of_ne e).2 hj
   ·exact hj
theorem xD.TM (h:xD m N E S){i:Nat}{b:Int}(hi:i<m)(h0:0≤b)(h1:b<64)(hb:∀j,b∉S j):xD m (zw N E i b) (zx E i b) (bm S i b):=by
 have hn:=h.nodup i;have hp:=h.pos i;have hE:=h.ends i hi;have hf:(E i).f=hd (S i):=by rw[hE]
 have hV:∀{j:Nat} {x:Int},x∈bm S i b j→(x=b∧j=i)∨(x∈S j∧x≠b):=by
  intro j x hx;unfold bm ba at hx
  split at hx
  ·rename_i e;subst e
   rcases List.mem_cons.1 hx with e|hx
   ·exact .inl ⟨e,rfl⟩
   ·exact .inr ⟨hx,fun e=>hb j (e▸hx)⟩
  ·exact .inr ⟨hx,fun e=>hb j (e▸hx)⟩
 have iQ:hd (S i)≠b:=fun e=>hb i (e▸jn aj)
 refine⟨fun j=>?_,fun {j k x} hx hy=>?_,fun hx=>?_,fun j hj=>?_,fun j hj=>?_,fun {j x} hx=>?_,fun {x} h2 h3 hx=>?_⟩
 ·unfold bm ba
  split
  ·exact List.nodup_cons.2 ⟨hb i,hn⟩
  ·exact h.nodup j
 ·rcases hV hx with⟨e1,e2⟩|⟨e1,e2⟩<;>rcases hV hy with⟨e3,e4⟩|⟨e3,e4⟩
  ·omega
  ·exact absurd e1 e4
  ·exact absurd e3 e2
  ·exact h.dj e1 e3
 ·rcases hV hx with⟨e1,e2⟩|⟨e1,e2⟩
  ·omega
  ·exact h.lC e1
 ·unfold bm ba;rw[if_neg aj];exact h.out j hj
 ·unfold zx bm ba
  by_cases e:j=i
  ·subst e;rw[if_pos rfl,if_pos rfl,hE];dsimp only;rw[eO]
   congr 1
   ·by_cases h4:hd (S j)= -1
    ·rw[if_pos h4,if_pos (zv hp h4)]
    ·rw[if_neg h4,if_neg (fun h5=>h4 (by rw[h5];rfl))]
  ·rw[if_neg e,if_neg e];exact h.ends j hj
 ·unfold zw;dsimp only;rw[hf];rcases hV hx with⟨rfl,rfl⟩|⟨e1,e2⟩
  ·have:(⟨(j:Int),-1,hd (S j)⟩:Nd)=⟨j,pD (bm S j x j) x,kI (bm S j x j) x⟩:=by
    unfold bm ba;rw[if_pos rfl,kI,if_pos rfl,pD,if_neg iQ,sD h0 (hb j)]
   rw[←this]
   split
   ·simp[aV]
   ·simp[aV,Ne.symm iQ]
  ·have hN:=h.Gb e1;have AU:=(h.lC e1).1
   by_cases e:j=i
   ·subst e;have hS:bm S j b j=b :: S j:=by simp[bm,ba]
    rw[hS,kI,if_neg (Ne.symm e2),pD]
    by_cases h4:hd (S j)=x
    ·subst h4;rw[if_neg aj,if_pos rfl];simp[aV,iQ,hN]
    ·rw[if_neg h4]
     split
     ·simp[aV,e2,hN]
     ·simp[aV,e2,hN,Ne.symm h4]
   ·have hS:bm S i b j=S j:=by simp[bm,ba,e]
    rw[hS]
    split
    ·simp[aV,e2,hN]
    ·rename_i h4
     have:x≠hd (S i):=fun e3=>e (h.dj e1 (e3▸jn h4))
     simp[aV,e2,hN,this]
 ·have Ny:x≠b:=fun e=>hx i (by simp[bm,ba,e])
  have hxn:∀j,x∉S j:=fun j hj=>hx j (by
   unfold bm ba
   split
   ·rename_i e;subst e;exact List.mem_cons_of_mem _ hj
   ·exact hj)
  have:=h.no h2 h3 hxn;unfold zw;dsimp only;rw[hf]
  split
  ·simpa [aV,Ny] using this
  ·rename_i h4
   have:x≠hd (S i):=fun e3=>hxn i (e3▸jn h4)
   simpa [aV,Ny,this]
theorem xD.nil (m:Nat)(N:Int→Nd)(E:Nat→En)(hN:∀b,0≤b→b<64→(N b).l= -1)(hE:∀i,i<m→E i=⟨-1,-1,0⟩):xD m N E (fun _=>[]):=
 ⟨fun _=>List.nodup_nil,fun h=>(by cases h),fun h=>(by cases h),fun _ _=>rfl,hE,fun h=>(by cases h),fun h0 h1 _=>hN _ h0 h1⟩
end
end Go.Proofs.YtpcfhbeakecihaaGreat
