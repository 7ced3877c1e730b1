/- Lemmas. -/
set_option linter.all false
set_option maxHeartbeats 20000000
set_option maxRecDepth 100000
namespace Go.Proofs.YtchofaecncibjaaGreat
theorem ao {P:Prop}(h:P:=by omega):P:=h
theorem aD {P:Prop}(h:P:=by decide):P:=h
theorem dm (n:Nat):n≤n:=Nat.le_refl n
theorem dT (n:Nat):0≤n:=Nat.zero_le n
structure Nd where
 l:Int
 a:Int
 b:Int
structure En where
 f:Int
 k:Int
 m:Int
def aT {α:Type}(f:Int→α)(k:Int)(v:α):Int→α:=fun x=>if x=k then v else f x
def aI {α:Type}(f:Nat→α)(k:Nat)(v:α):Nat→α:=fun x=>if x=k then v else f x
def hd (L:List Int):Int:=L.headD (-1)
def eB (L:List Int):Int:=L.getLastD (-1)
def pq:List Int→Int→Int
 | [],_=>-1
 |a :: L,x=>if hd L=x then a else pq L x
def ny:List Int→Int→Int
 | [],_=>-1
 |a :: L,x=>if a=x then hd L else ny L x
def Pos (L:List Int):Prop:=∀x∈L,0≤x
theorem Pos.tail {a:Int}{L:List Int}(h:Pos (a :: L)):Pos L:=fun x hx=>h x (List.mem_cons_of_mem _ hx)
theorem Pos.head {a:Int}{L:List Int}(h:Pos (a :: L)):0≤a:=h a (List.mem_cons_self ..)
theorem lR {L:List Int}(h:hd L≠-1):hd L∈L:=by
 cases L with
 |nil=>exact absurd rfl h
 |cons a L=>exact List.mem_cons_self ..
theorem Fl {L:List Int}(hp:Pos L)(h:hd L= -1):L= []:=by
 cases L with
 |nil=>rfl
 |cons a L=>have:=hp.head;have h:a= -1:=h;omega
theorem ff (a:Int)(L:List Int):eB (a :: L)=if L= []then a else eB L:=by
 cases L with
 |nil=>rfl
 |cons b L=>simp[eB]
theorem Xj {L:List Int}(h:eB L≠-1):eB L∈L:=by
 induction L with
 |nil=>exact absurd rfl h
 |cons a L ih=>
  rw[ff]at h ⊢
  split
  ·exact List.mem_cons_self ..
  ·rename_i e
   rw[if_neg e]at h;exact List.mem_cons_of_mem _ (ih h)
theorem xt {L:List Int}{x:Int}(h0:0≤x)(h:x∉L):pq L x= -1:=by
 induction L with
 |nil=>rfl
 |cons a L ih=>
  rw[pq,if_neg,ih (fun e=>h (List.mem_cons_of_mem _ e))];intro e;exact h (List.mem_cons_of_mem _ (e▸lR ao))
theorem MZ {L:List Int}:∀{a b:Int},b∈L→pq (a :: L) b∈a :: L:=by
 induction L with
 |nil=>intro a b h;cases h
 |cons c L ih=>
  intro a b h;rw[pq]
  by_cases e:hd (c :: L)=b
  ·rw[if_pos e];exact List.mem_cons_self ..
  ·rw[if_neg e];have:b∈L:=by
    rcases List.mem_cons.1 h with rfl|h
    ·exact absurd rfl e
    ·exact h
   exact List.mem_cons_of_mem _ (ih this)
theorem KU (L:List Int)(b:Int)(h0:0≤b):pq L b= -1∨pq L b∈L:=by
 cases L with
 |nil=>exact .inl rfl
 |cons a L=>
  by_cases h:b∈L
  ·exact .inr (MZ h)
  ·refine .inl ?_;rw[pq,if_neg (show¬hd L=b from fun e=>h (e▸lR ao)),xt h0 h]
theorem Fh (L:List Int)(b:Int):ny L b= -1∨ny L b∈L:=by
 induction L with
 |nil=>exact .inl rfl
 |cons a L ih=>
  rw[ny]
  split
  ·by_cases h:hd L= -1
   ·exact .inl h
   ·exact .inr (List.mem_cons_of_mem _ (lR h))
  ·rcases ih with h|h
   ·exact .inl h
   ·exact .inr (List.mem_cons_of_mem _ h)
theorem BM {L:List Int}{x:Int}(hn:L.Nodup)(h0:0≤x)(h:hd L=x):pq L x= -1:=by
 cases L with
 |nil=>rfl
 |cons a L=>
  have h:a=x:=h;subst h;have:=(List.nodup_cons.1 hn).1;rw[pq,if_neg (show¬hd L=a from fun e=>this (e▸lR ao)),xt h0 this]
theorem iB {L:List Int}{b:Int}(hn:L.Nodup)(hp:Pos L)(hb:b∈L):pq L b= -1↔hd L=b:=by
 refine⟨fun h=>?_,BM hn (hp b hb)⟩
 cases L with
 |nil=>cases hb
 |cons a L=>
  rcases List.mem_cons.1 hb with rfl|hb
  ·rfl
  ·have:=hp _ (MZ (a:=a) hb);omega
theorem O4 {L:List Int}{b:Int}(hn:L.Nodup)(hp:Pos L)(hb:b∈L):ny L b≠hd L:=by
 cases L with
 |nil=>cases hb
 |cons a L=>
  have ha:=(List.nodup_cons.1 hn).1;have h0:=hp.head
  show ny (a :: L) b≠a
  rw[ny]
  split
  ·intro e;exact ha (e▸lR ao)
  ·intro e;rcases Fh L b with h|h
   ·omega
   ·exact ha (e▸h)
theorem cT{P:Prop}(h:P:=by simpa using e):P:=h
theorem tW {L:List Int}{b:Int}(hn:L.Nodup)(hp:Pos L)(hb:b∈L):hd (L.erase b)=if pq L b= -1 then ny L b else hd L:=by
 cases L with
 |nil=>cases hb
 |cons a L=>
  by_cases e:a=b
  ·subst e;rw[if_pos ((iB hn hp hb).2 rfl),ny,if_pos rfl,List.erase_cons_head]
  ·rw[if_neg (fun h=>e ((iB hn hp hb).1 h)),List.erase_cons_tail cT];rfl
theorem OX {b:Int}:∀{L:List Int} {x:Int},L.Nodup→Pos L→b∈L→x∈L→x≠b→pq (L.erase b) x=if ny L b=x then pq L b else pq L x:=by
 intro L
 induction L with
 |nil=>intro x _ _ h;cases h
 |cons a L ih=>
  intro x hn hp hb hx hne;have ha:=(List.nodup_cons.1 hn).1;have CY:=(List.nodup_cons.1 hn).2;have ym:=hp.tail;have zC:=hp.head
  by_cases e:a=b
  ·subst e;have hx':x∈L:=(List.mem_cons.1 hx).resolve_left hne;rw[List.erase_cons_head,ny,if_pos rfl,(iB hn hp hb).2 rfl,pq]
   by_cases h:hd L=x
   ·rw[if_pos h,BM CY (ym x hx') h]
   ·rw[if_neg h,if_neg h]
  ·have vC:b∈L:=(List.mem_cons.1 hb).resolve_left (fun h=>e h.symm);rw[List.erase_cons_tail cT];rw[show ny (a :: L) b=ny L b from by rw[ny,if_neg e]]
   by_cases Yb:x=a
   ·subst Yb;rw[if_neg (show¬ny L b=x from fun h=>(Fh L b).elim (fun h1=>by omega) (fun h1=>ha (h▸h1)))];rw[BM hn zC rfl];have zB:(x :: L.erase b).Nodup:=List.nodup_cons.2 ⟨fun h=>ha (List.mem_of_mem_erase h),CY.erase b⟩;exact BM zB zC rfl
   ·have hx':x∈L:=(List.mem_cons.1 hx).resolve_left Yb;rw[pq,tW CY ym vC,ih CY ym vC hx' hne,show pq (a :: L) b=if hd L=b then a else pq L b from rfl,show pq (a :: L) x=if hd L=x then a else pq L x from rfl]
    by_cases h1:hd L=b
    ·rw[if_pos ((iB CY ym vC).2 h1),if_pos h1,if_neg (show¬hd L=x from fun h=>hne (h.symm.trans h1))]
     by_cases h2:ny L b=x
     ·rw[if_pos h2,if_pos h2]
     ·rw[if_neg h2,if_neg h2,if_neg h2]
    ·rw[if_neg (fun h=>h1 ((iB CY ym vC).1 h)),if_neg h1]
     by_cases h2:ny L b=x
     ·rw[if_pos h2,if_pos h2,if_neg (fun h=>O4 CY ym vC (h2.trans h.symm))]
     ·rw[if_neg h2,if_neg h2]
theorem O5 {b:Int}:∀{L:List Int} {x:Int},L.Nodup→Pos L→b∈L→x∈L→x≠b→ny (L.erase b) x=if pq L b=x then ny L b else ny L x:=by
 intro L
 induction L with
 |nil=>intro x _ _ h;cases h
 |cons a L ih=>
  intro x hn hp hb hx hne;have ha:=(List.nodup_cons.1 hn).1;have CY:=(List.nodup_cons.1 hn).2;have ym:=hp.tail;have zC:=hp.head;have th:=hp x hx
  by_cases e:a=b
  ·subst e;have hx':x∈L:=(List.mem_cons.1 hx).resolve_left hne;rw[List.erase_cons_head,(iB hn hp hb).2 rfl,if_neg ao,ny,if_neg (fun h=>hne h.symm)]
  ·have vC:b∈L:=(List.mem_cons.1 hb).resolve_left (fun h=>e h.symm);rw[List.erase_cons_tail cT,show ny (a :: L) b=ny L b from by rw[ny,if_neg e]];rw[show pq (a :: L) b=if hd L=b then a else pq L b from rfl]
   by_cases Yb:a=x
   ·subst Yb;rw[ny,if_pos rfl,tW CY ym vC]
    by_cases h1:hd L=b
    ·rw[if_pos ((iB CY ym vC).2 h1),if_pos h1,if_pos rfl]
    ·rw[if_neg (fun h=>h1 ((iB CY ym vC).1 h)),if_neg h1,if_neg,ny,if_pos rfl];intro h;rcases KU L b (ym b vC)with h3|h3
     ·omega
     ·exact ha (h▸h3)
   ·have hx':x∈L:=(List.mem_cons.1 hx).resolve_left (fun h=>Yb h.symm);rw[ny,if_neg Yb,ih CY ym vC hx' hne,show ny (a :: L) x=ny L x from by rw[ny,if_neg Yb]]
    by_cases h1:hd L=b
    ·rw[if_pos h1,if_neg Yb,if_neg];rw[(iB CY ym vC).2 h1];omega
    ·rw[if_neg h1]
theorem Po {b:Int}:∀{L:List Int},L.Nodup→Pos L→b∈L→eB (L.erase b)=if ny L b= -1 then pq L b else eB L:=by
 intro L
 induction L with
 |nil=>intro _ _ h;cases h
 |cons a L ih=>
  intro hn hp hb;have CY:=(List.nodup_cons.1 hn).2;have ym:=hp.tail
  by_cases e:a=b
  ·subst e;rw[List.erase_cons_head,ny,if_pos rfl,(iB hn hp hb).2 rfl,ff]
   by_cases h:L= []
   ·subst h;rfl
   ·rw[if_neg h,if_neg (fun h2=>h (Fl ym h2))]
  ·have vC:b∈L:=(List.mem_cons.1 hb).resolve_left (fun h=>e h.symm);have hL:L≠[]:=by rintro rfl;cases vC
   rw[List.erase_cons_tail cT,ff,ih CY ym vC,show ny (a :: L) b=ny L b from by rw[ny,if_neg e],ff,if_neg hL];rw[show pq (a :: L) b=if hd L=b then a else pq L b from rfl]
   by_cases h:L.erase b= []
   ·have hh:=tW CY ym vC;rw[h]at hh;have:hd L=b:=by
     apply (iB CY ym vC).1;apply Classical.byContradiction;intro h1;rw[if_neg h1]at hh;exact hL (Fl ym hh.symm)
    rw[if_pos ((iB CY ym vC).2 this)]at hh;rw[if_pos h,if_pos this,if_pos (show ny L b= -1 from hh.symm)]
   ·rw[if_neg h]
    by_cases h2:ny L b= -1
    ·rw[if_pos h2,if_pos h2]
     split
     ·rename_i h1
      have hh:=tW CY ym vC;rw[if_pos ((iB CY ym vC).2 h1),h2]at hh;exact absurd (Fl (fun x hx=>ym x (List.mem_of_mem_erase hx)) hh) h
     ·rfl
    ·rw[if_neg h2,if_neg h2]
theorem abz {L:List Int}:∀{k:Nat},L.Nodup→(h:k<L.length)→ny L L[k]=hd (L.drop (k+1)):=by
 induction L with
 |nil=>intro k _ h;exact absurd h (Nat.not_lt_zero _)
 |cons a L ih=>
  intro k hn h
  cases k with
  |zero=>simp[ny]
  |succ k=>
   have ha:=(List.nodup_cons.1 hn).1;have hk:k<L.length:=by simpa using h
   rw[List.getElem_cons_succ,ny,if_neg (show¬a=L[k]from fun e=>ha (e▸List.getElem_mem hk)),ih (List.nodup_cons.1 hn).2 hk];rfl
theorem Xy {L:List Int}{k:Nat}(h:k<L.length):hd (L.drop k)=L[k]:=by
 simp[hd,List.headD_eq_head?_getD,h]
theorem Js (L:List Int):hd (L.drop L.length)= -1:=by simp[hd]
structure DE (m:Nat)(N:Int→Nd)(E:Nat→En)(S:Nat→List Int):Prop where
 nodup:∀i,(S i).Nodup
 dj:∀{i j:Nat} {b:Int},b∈S i→b∈S j→i=j
 kA:∀{i:Nat} {b:Int},b∈S i→0≤b∧b<64
 out:∀i,m≤i→S i= []
 ends:∀i,i<m→E i=⟨hd (S i),eB (S i),(S i).length⟩
 Mi:∀{i:Nat} {b:Int},b∈S i→N b=⟨i,pq (S i) b,ny (S i) b⟩
 no:∀{b:Int},0≤b→b<64→(∀i,b∉S i)→(N b).l= -1
section
variable {m:Nat}{N:Int→Nd}{E:Nat→En}{S:Nat→List Int}
theorem DE.pos (h:DE m N E S)(i:Nat):Pos (S i):=fun _ hx=>(h.kA hx).1
theorem DE.lt (h:DE m N E S){i:Nat}{b:Int}(hb:b∈S i):i<m:=by
 apply Classical.byContradiction;intro hi;rw[h.out i ao]at hb
 cases hb
def Kp (N:Int→Nd)(b:Int):Int→Nd:=
 let n:=N b
 let N1:=if n.a= -1 then N else aT N n.a {N n.a with b:=n.b}
 let N2:=if n.b= -1 then N1 else aT N1 n.b {N1 n.b with a:=n.a}
 aT N2 b {N2 b with l:=-1}
def Ri (E:Nat→En)(i:Nat)(n:Nd):Nat→En:=
 aI E i ⟨if n.a= -1 then n.b else(E i).f,if n.b= -1 then n.a else(E i).k,(E i).m - 1⟩
def Dc (S:Nat→List Int)(i:Nat)(b:Int):Nat→List Int:=aI S i ((S i).erase b)
def Fm (N:Int→Nd)(E:Nat→En)(i:Nat)(b:Int):Int→Nd:=
 let N1:=aT N b ⟨i,-1,(E i).f⟩
 if(E i).f= -1 then N1 else aT N1 (E i).f {N1 (E i).f with a:=b}
def Fo (E:Nat→En)(i:Nat)(b:Int):Nat→En:=
 aI E i ⟨b,if(E i).f= -1 then b else(E i).k,(E i).m+1⟩
def bD (S:Nat→List Int)(i:Nat)(b:Int):Nat→List Int:=aI S i (b :: S i)
theorem M5 (N:Int→Nd){b x:Int}(hx:x≠b)(ic:(N b).a≠b):
 Kp N b x=⟨(N x).l,if x=(N b).b∧(N b).b≠-1 then(N b).a else(N x).a,if x=(N b).a∧(N b).a≠-1 then(N b).b else(N x).b⟩:=by
 unfold Kp aT;dsimp only;rw[if_neg hx]
 by_cases h1:(N b).a= -1<;>by_cases h2:(N b).b= -1<;>simp only[h1,h2,if_true,if_false,ne_eq,not_true_eq_false,and_false,not_false_eq_true,and_true]<;>(repeat' split)<;>simp_all
theorem O3 (N:Int→Nd)(b:Int):(Kp N b b).l= -1:=by simp[Kp,aT]
theorem DE.outs (h:DE m N E S){i:Nat}{b:Int}(hb:b∈S i):DE m (Kp N b) (Ri E i (N b)) (Dc S i b):=by
 have hn:=h.nodup i;have hp:=h.pos i;have hN:=h.Mi hb;have Gq:=hp b hb;have ic:(N b).a≠b:=by
  rw[hN];intro e;have e:pq (S i) b=b:=e
  cases hs:S i with
  |nil=>rw[hs]at hb;cases hb
  |cons a L=>
   rw[hs]at e hb hn;have ha:=(List.nodup_cons.1 hn);rw[pq]at e
   split at e
   ·rename_i h1
    subst e;exact ha.1 (h1▸lR ao)
   ·rename_i h1
    rcases List.mem_cons.1 hb with e2|e2
    ·rw[←e2]at ha;rw[xt Gq ha.1]at e;omega
    ·have jT:=ha.2;clear hs hN hp h1;clear hb hn ha
     induction L generalizing a with
     |nil=>cases e2
     |cons c L ih=>
      rw[pq]at e
      split at e
      ·rename_i h3
       subst e;exact(List.nodup_cons.1 jT).1 (h3▸lR ao)
      ·rename_i h3
       rcases List.mem_cons.1 e2 with e4|e4
       ·rw[←e4]at jT;rw[xt Gq (List.nodup_cons.1 jT).1]at e;omega
       ·exact ih a e e4 (List.nodup_cons.1 jT).2
 have ig:∀{j:Nat} {x:Int},x∈Dc S i b j→x∈S j∧x≠b:=by
  intro j x hx;unfold Dc aI at hx
  split at hx
  ·rename_i e;subst e
   exact⟨List.mem_of_mem_erase hx,fun e=>(List.Nodup.not_mem_erase hn) (e▸hx)⟩
  ·rename_i e
   exact⟨hx,fun e2=>e (h.dj (e2▸hx) hb)⟩
 refine⟨fun j=>?_,fun hx hy=>h.dj (ig hx).1 (ig hy).1,fun hx=>h.kA (ig hx).1,fun j hj=>?_,fun j hj=>?_,fun {j x} hx=>?_,fun {x} h0 h1 hx=>?_⟩
 ·unfold Dc aI
  split
  ·exact hn.erase b
  ·exact h.nodup j
 ·have:j≠i:=fun e=>by have:=h.lt hb;omega
  unfold Dc aI;rw[if_neg this];exact h.out j hj
 ·unfold Ri Dc aI
  by_cases e:j=i
  ·subst e;rw[if_pos rfl,if_pos rfl,hN,h.ends j hj,tW hn hp hb,Po hn hp hb,List.length_erase_of_mem hb];have:0<(S j).length:=List.length_pos_of_mem hb
   congr 1
   show((S j).length:Int) - 1=(((S j).length - 1:Nat):Int)
   omega
  ·rw[if_neg e,if_neg e];exact h.ends j hj
 ·have Dy:=(ig hx).1;have hne:=(ig hx).2;have th:=(h.kA Dy).1;rw[M5 N hne ic,hN,h.Mi Dy];dsimp only;unfold Dc aI
  by_cases e:j=i
  ·subst e;rw[if_pos rfl,OX hn hp hb Dy hne,O5 hn hp hb Dy hne]
   congr 1
   ·by_cases h2:ny (S j) b=x
    ·rw[if_pos h2,if_pos ⟨h2.symm,ao⟩]
    ·rw[if_neg h2,if_neg (fun h3=>h2 h3.1.symm)]
   ·by_cases h2:pq (S j) b=x
    ·rw[if_pos h2,if_pos ⟨h2.symm,ao⟩]
    ·rw[if_neg h2,if_neg (fun h3=>h2 h3.1.symm)]
  ·rw[if_neg e,if_neg,if_neg]
   ·rintro⟨h2,h3⟩;rcases KU (S i) b Gq with h4|h4
    ·exact h3 h4
    ·exact e (h.dj Dy (h2▸h4))
   ·rintro⟨h2,h3⟩;rcases Fh (S i) b with h4|h4
    ·exact h3 h4
    ·exact e (h.dj Dy (h2▸h4))
 ·by_cases e:x=b
  ·subst e;exact O3 N _
  ·rw[M5 N e ic];refine h.no h0 h1 fun j hj=>?_
   refine hx j ?_;unfold Dc aI
   split
   ·rename_i e2;subst e2;exact(List.mem_erase_of_ne e).2 hj
   ·exact hj
theorem DE.abP (h:DE m N E S){i:Nat}{b:Int}(hi:i<m)(h0:0≤b)(h1:b<64)(hb:∀j,b∉S j):DE m (Fm N E i b) (Fo E i b) (bD S i b):=by
 have hn:=h.nodup i;have hp:=h.pos i;have hE:=h.ends i hi;have hf:(E i).f=hd (S i):=by rw[hE]
 have ig:∀{j:Nat} {x:Int},x∈bD S i b j→(x=b∧j=i)∨(x∈S j∧x≠b):=by
  intro j x hx;unfold bD aI at hx
  split at hx
  ·rename_i e;subst e
   rcases List.mem_cons.1 hx with e|hx
   ·exact .inl ⟨e,rfl⟩
   ·exact .inr ⟨hx,fun e=>hb j (e▸hx)⟩
  ·exact .inr ⟨hx,fun e=>hb j (e▸hx)⟩
 have gu:hd (S i)≠b:=fun e=>hb i (e▸lR ao)
 refine⟨fun j=>?_,fun {j k x} hx hy=>?_,fun hx=>?_,fun j hj=>?_,fun j hj=>?_,fun {j x} hx=>?_,fun {x} h2 h3 hx=>?_⟩
 ·unfold bD aI
  split
  ·exact List.nodup_cons.2 ⟨hb i,hn⟩
  ·exact h.nodup j
 ·rcases ig hx with⟨e1,e2⟩|⟨e1,e2⟩<;>rcases ig hy with⟨e3,e4⟩|⟨e3,e4⟩
  ·omega
  ·exact absurd e1 e4
  ·exact absurd e3 e2
  ·exact h.dj e1 e3
 ·rcases ig hx with⟨e1,e2⟩|⟨e1,e2⟩
  ·omega
  ·exact h.kA e1
 ·unfold bD aI;rw[if_neg ao];exact h.out j hj
 ·unfold Fo bD aI
  by_cases e:j=i
  ·subst e;rw[if_pos rfl,if_pos rfl,hE];dsimp only;rw[ff]
   congr 1
   ·by_cases h4:hd (S j)= -1
    ·rw[if_pos h4,if_pos (Fl hp h4)]
    ·rw[if_neg h4,if_neg (fun h5=>h4 (by rw[h5];rfl))]
  ·rw[if_neg e,if_neg e];exact h.ends j hj
 ·unfold Fm;dsimp only;rw[hf];rcases ig hx with⟨rfl,rfl⟩|⟨e1,e2⟩
  ·have:(⟨(j:Int),-1,hd (S j)⟩:Nd)=⟨j,pq (bD S j x j) x,ny (bD S j x j) x⟩:=by
    unfold bD aI;rw[if_pos rfl,ny,if_pos rfl,pq,if_neg gu,xt h0 (hb j)]
   rw[←this]
   split
   ·simp[aT]
   ·simp[aT,Ne.symm gu]
  ·have hN:=h.Mi e1;have th:=(h.kA e1).1
   by_cases e:j=i
   ·subst e;have hS:bD S j b j=b :: S j:=by simp[bD,aI]
    rw[hS,ny,if_neg (Ne.symm e2),pq]
    by_cases h4:hd (S j)=x
    ·subst h4;rw[if_neg ao,if_pos rfl];simp[aT,gu,hN]
    ·rw[if_neg h4]
     split
     ·simp[aT,e2,hN]
     ·simp[aT,e2,hN,Ne.symm h4]
   ·have hS:bD S i b j=S j:=by simp[bD,aI,e]
    rw[hS]
    split
    ·simp[aT,e2,hN]
    ·rename_i h4
     have:x≠hd (S i):=fun e3=>e (h.dj e1 (e3▸lR h4))
     simp[aT,e2,hN,this]
 ·have EI:x≠b:=fun e=>hx i (by simp[bD,aI,e])
  have hxn:∀j,x∉S j:=fun j hj=>hx j (by
   unfold bD aI
   split
   ·rename_i e;subst e;exact List.mem_cons_of_mem _ hj
   ·exact hj)
  have:=h.no h2 h3 hxn;unfold Fm;dsimp only;rw[hf]
  split
  ·simpa [aT,EI] using this
  ·rename_i h4
   have:x≠hd (S i):=fun e3=>hxn i (e3▸lR h4)
   simpa [aT,EI,this]
theorem DE.nil (m:Nat)(N:Int→Nd)(E:Nat→En)(hN:∀b,0≤b→b<64→(N b).l= -1)(hE:∀i,i<m→E i=⟨-1,-1,0⟩):DE m N E (fun _=>[]):=
 ⟨fun _=>List.nodup_nil,fun h=>(by cases h),fun h=>(by cases h),fun _ _=>rfl,hE,fun h=>(by cases h),fun h0 h1 _=>hN _ h0 h1⟩
end
structure US where
 L:List Int
 v:Int→Int
def iU (S:US)(l:Int):List Int:=S.L.filter fun b=>decide (S.v b=l)
def gg (S:US)(l:Int):Nat:=(iU S l).length
def P7 (S:US)(b l:Int):Bool:=(S.L.dropWhile fun y=>decide (y≠b)).any fun y=>decide (S.v y=l)
def sW (cap:Nat→Int)(S:US)(b:Int)(l:Nat):Bool:=if b∈S.L then P7 S b l else decide ((gg S l:Int)<cap l)
def ek (cap:Nat→Int)(S:US)(b:Int):Nat:=if sW cap S b 1=true then 1 else if sW cap S b 2=true then 2 else if sW cap S b 3=true then 3 else 4
def yD (S:US)(b l:Int):US:=⟨S.L,aT S.v b l⟩
def oN (S:US)(b l:Int):US:=⟨b :: S.L.erase b,aT S.v b l⟩
def eX (cap:Nat→Int):Nat→US→Nat→List (Int×Nat)→US×List (Int×Nat)
 |0,S,_,m=>(S,m)
 |f+1,S,l,m=>if l<4∧cap l<gg S l then eX cap f (yD S (eB (iU S l)) ((l+1:Nat):Int)) (l+1) (m ++ [(eB (iU S l),l)])else(S,m)
def fM:Nat→US→US
 |0,S=>S
 |f+1,S=>if S.L≠[]∧S.v (eB S.L)=4 then fM f ⟨S.L.erase (eB S.L),aT S.v (eB S.L) 0⟩else S
def vS (S:US):US:=fM S.L.length S
def gV (cap:Nat→Int)(S:US)(b:Int):US×Nat×List (Int×Nat):=
 (vS (eX cap 4 (oN S b (ek cap S b)) (ek cap S b) []).1,ek cap S b,(eX cap 4 (oN S b (ek cap S b)) (ek cap S b) []).2)
structure jQ (S:US):Prop where
 nodup:S.L.Nodup
 kA:∀b,b∈S.L→0≤b∧b<64
 lev:∀b,b∈S.L→1≤S.v b∧S.v b≤4
 out:∀b,b∉S.L→S.v b=0
def u0:US:=⟨[],fun _=>0⟩
theorem Sy:jQ u0:=⟨List.nodup_nil,fun _ h=>(by cases h),fun _ h=>(by cases h),fun _ _=>rfl⟩
theorem ux (cap:Nat→Int)(S:US)(b:Int):1≤ek cap S b∧ek cap S b≤4:=by
 unfold ek
 repeat' split
 all_goals omega
theorem BQ {S:US}(h:jQ S){b l:Int}(h0:0≤b)(h1:b<64)(l1:1≤l)(l4:l≤4):jQ (oN S b l) where
 nodup:=List.nodup_cons.2 ⟨fun e=>(h.nodup.mem_erase_iff.1 e).1 rfl,h.nodup.erase b⟩
 kA:=fun y hy=>by
  rcases List.mem_cons.1 hy with e|e
  ·omega
  ·exact h.kA y (List.mem_of_mem_erase e)
 lev:=fun y hy=>by
  show 1≤aT S.v b l y∧aT S.v b l y≤4
  unfold aT
  split
  ·omega
  ·rename_i e
   rcases List.mem_cons.1 hy with e2|e2
   ·exact absurd e2 e
   ·exact h.lev y (List.mem_of_mem_erase e2)
 out:=fun y hy=>by
  show aT S.v b l y=0
  unfold aT
  split
  ·rename_i e
   exact absurd (List.mem_cons.2 (.inl e)) hy
  ·rename_i e
   exact h.out y fun e2=>hy (List.mem_cons.2 (.inr ((h.nodup.mem_erase_iff).2 ⟨e,e2⟩)))
theorem BP {S:US}(h:jQ S){b l:Int}(hb:b∈S.L)(l1:1≤l)(l4:l≤4):jQ (yD S b l) where
 nodup:=h.nodup
 kA:=h.kA
 lev:=fun y hy=>by
  show 1≤aT S.v b l y∧aT S.v b l y≤4
  unfold aT
  split
  ·omega
  ·exact h.lev y hy
 out:=fun y hy=>by
  show aT S.v b l y=0
  unfold aT
  split
  ·rename_i e
   exact absurd (e▸hb) hy
  ·exact h.out y hy
theorem Ij {S:US}{l b:Int}:b∈iU S l↔b∈S.L∧S.v b=l:=by
 unfold iU;rw[List.mem_filter];simp
theorem SS {L:List Int}(h:L≠[]):eB L∈L:=by
 induction L with
 |nil=>exact absurd rfl h
 |cons a L ih=>
  rw[ff]
  split
  ·exact List.mem_cons_self ..
  ·rename_i e
   exact List.mem_cons_of_mem _ (ih e)
theorem oV {S:US}{l:Int}(h:0<gg S l):eB (iU S l)∈S.L∧S.v (eB (iU S l))=l:=
 Ij.1 (SS (List.ne_nil_of_length_pos h))
theorem DX (cap:Nat→Int)(hc:∀l,1≤l→l≤3→0≤cap l):∀(f:Nat) (S:US) (l:Nat) (m:List (Int×Nat)),jQ S→1≤l→jQ (eX cap f S l m).1
 |0,S,l,m,h,_=>h
 |f+1,S,l,m,h,h1=>by
  rw[eX]
  split
  ·rename_i e
   have:=hc l h1 ao;obtain⟨h2,_⟩:=oV (S:=S) (l:=l) ao;exact DX cap hc f _ _ _ (BP h h2 ao ao) ao
  ·exact h
theorem nX:∀(f:Nat) (S:US),jQ S→jQ (fM f S)
 |0,S,h=>h
 |f+1,S,h=>by
  rw[fM]
  split
  ·rename_i e
   refine nX f _ ⟨h.nodup.erase _,fun y hy=>h.kA y (List.mem_of_mem_erase hy),fun y hy=>?_,fun y hy=>?_⟩
   ·have h2:=h.nodup.mem_erase_iff.1 hy
    show 1≤aT S.v (eB S.L) 0 y∧aT S.v (eB S.L) 0 y≤4
    unfold aT;rw[if_neg h2.1];exact h.lev y h2.2
   ·show aT S.v (eB S.L) 0 y=0
    unfold aT
    split
    ·rfl
    ·rename_i e2
     exact h.out y fun e3=>hy (h.nodup.mem_erase_iff.2 ⟨e2,e3⟩)
  ·exact h
theorem Tg (cap:Nat→Int)(hc:∀l,1≤l→l≤3→0≤cap l){S:US}(h:jQ S){b:Int}(h0:0≤b)(h1:b<64):jQ (gV cap S b).1:=by
 have hn:=ux cap S b;exact nX _ _ (DX cap hc _ _ _ _ (BQ h h0 h1 ao ao) hn.1)
theorem Xk {A:List Int}{y:Int}:eB (A ++ [y])=y:=by
 induction A with
 |nil=>rfl
 |cons a A ih=>rw[List.cons_append,ff,if_neg (by simp)];exact ih
theorem Cv {A B:List Int}{y:Int}{p:Int→Bool}(hy:p y=true)(hB:∀x∈B,p x=false):eB ((A ++ y :: B).filter p)=y:=by
 have e:B.filter p= []:=List.filter_eq_nil_iff.2 fun x hx=>by rw[hB x hx];decide
 rw[List.filter_append,List.filter_cons_of_pos hy,e];exact Xk
theorem Cc {p:Int→Bool}:∀{L:List Int},(∃x∈L,p x=true)→∃A y B,L=A ++ y :: B∧p y=true∧∀x∈B,p x=false
 | [],h=>by obtain⟨x,h,_⟩:=h;cases h
 |a :: L,h=>by
  by_cases e:∃x∈L,p x=true
  ·obtain⟨A,y,B,h1,h2,h3⟩:=Cc e;exact⟨a :: A,y,B,by rw[h1];rfl,h2,h3⟩
  ·refine⟨[],a,L,rfl,?_,fun x hx=>?_⟩
   ·obtain⟨x,h1,h2⟩:=h;rcases List.mem_cons.1 h1 with rfl|h1
    ·exact h2
    ·exact absurd ⟨x,h1,h2⟩ e
   ·cases hp:p x with
    |false=>rfl
    |true=>exact absurd ⟨x,hx,hp⟩ e
theorem adP {A B:List Int}{y:Int}(h:y∉A):(A ++ y :: B).takeWhile (fun x=>decide (x≠y))=A:=by
 induction A with
 |nil=>simp
 |cons a A ih=>
  have h1:a≠y:=fun e=>h (e▸List.mem_cons_self ..)
  rw[List.cons_append,List.takeWhile_cons_of_pos (by simpa using h1),ih fun e=>h (List.mem_cons_of_mem _ e)]
theorem Y8 {A B:List Int}{y:Int}(h:y∉A):(A ++ y :: B).dropWhile (fun x=>decide (x≠y))=y :: B:=by
 induction A with
 |nil=>simp
 |cons a A ih=>
  have h1:a≠y:=fun e=>h (e▸List.mem_cons_self ..)
  rw[List.cons_append,List.dropWhile_cons_of_pos (by simpa using h1),ih fun e=>h (List.mem_cons_of_mem _ e)]
theorem Ti {S:US}{b l:Int}(h:gg S l=0):P7 S b l=false:=by
 unfold P7;rw[Bool.eq_false_iff];intro e;obtain⟨y,h1,h2⟩:=List.any_eq_true.1 e;have h3:y∈iU S l:=Ij.2 ⟨(List.dropWhile_sublist _).subset h1,of_decide_eq_true h2⟩;have:=List.length_pos_of_mem h3;unfold gg at h;omega
theorem Th {S:US}{b:Int}(hb:b∈S.L):P7 S b (S.v b)=true:=by
 obtain⟨A,B,h⟩:=List.append_of_mem hb;unfold P7;refine List.any_eq_true.2 ⟨b,?_,decide_eq_true rfl⟩;rw[h];clear h hb
 induction A with
 |nil=>simp
 |cons a A ih=>
  rw[List.cons_append]
  by_cases e:a=b
  ·rw[List.dropWhile_cons_of_neg cT];subst e;exact List.mem_cons_self ..
  ·rw[List.dropWhile_cons_of_pos cT];exact ih
theorem abq {S:US}{b l:Int}(hn:S.L.Nodup)(hb:b∈S.L)(hc:0<gg S l):
 P7 S b l=(decide (eB (iU S l)=b)||decide (b∈S.L.takeWhile fun x=>decide (x≠eB (iU S l)))):=by
 obtain⟨h1,h2⟩:=oV hc;obtain⟨A,y,B,hL,hy,hB⟩:=Cc (p:=fun x=>decide (S.v x=l)) (L:=S.L) ⟨_,h1,decide_eq_true h2⟩;have Sl:eB (iU S l)=y:=by unfold iU;rw[hL];exact Cv hy hB
 rw[Sl];have zB:=hn;rw[hL]at zB;have hnA:y∉A:=fun e=>by
  have:=(List.nodup_append.1 zB).2.2 y e y (List.mem_cons_self ..);exact this rfl
 rw[show S.L.takeWhile (fun x=>decide (x≠y))=A by rw[hL];exact adP hnA]
 by_cases e:y=b
 ·subst e;rw[decide_eq_true rfl,Bool.true_or];have h3:=Th hb;rwa [of_decide_eq_true hy]at h3
 ·rw[decide_eq_false e,Bool.false_or]
  by_cases hA:b∈A
  ·rw[decide_eq_true hA];obtain⟨A1,A2,hA2⟩:=List.append_of_mem hA;unfold P7;refine List.any_eq_true.2 ⟨y,?_,hy⟩;rw[hL,hA2,List.append_assoc,List.cons_append];have fB:b∉A1:=fun e1=>by
    rw[hA2,List.append_assoc,List.cons_append]at zB;exact(List.nodup_append.1 zB).2.2 b e1 b (List.mem_cons_self ..) rfl
   rw[Y8 fB];exact List.mem_cons_of_mem _ (List.mem_append_right _ (List.mem_cons_self ..))
  ·rw[decide_eq_false hA];have hbB:b∈B:=by
    rw[hL]at hb;rcases List.mem_append.1 hb with h3|h3
    ·exact absurd h3 hA
    ·rcases List.mem_cons.1 h3 with h3|h3
     ·exact absurd h3.symm e
     ·exact h3
   obtain⟨B1,B2,hB2⟩:=List.append_of_mem hbB;have hL2:S.L=(A ++ y :: B1) ++ b :: B2:=by rw[hL,hB2,List.append_assoc,List.cons_append]
   have dX:b∉A ++ y :: B1:=fun e1=>by
    have h4:=hn;rw[hL2]at h4;exact(List.nodup_append.1 h4).2.2 b e1 b (List.mem_cons_self ..) rfl
   unfold P7;rw[hL2,Y8 dX,Bool.eq_false_iff];intro h5;obtain⟨x,h6,h7⟩:=List.any_eq_true.1 h5;have h8:x∈B:=by rw[hB2];exact List.mem_append_right _ h6
   rw[hB x h8]at h7
   cases h7
theorem Fu {S:US}{l:Int}{k:Nat}(hk:k<S.L.length)(h1:S.v (S.L.getD k 0)=l)(h2:∀j,k<j→j<S.L.length→S.v (S.L.getD j 0)≠l):eB (iU S l)=S.L.getD k 0:=by
 have hs:S.L=S.L.take k ++ S.L.getD k 0 :: S.L.drop (k+1):=by
  rw[List.getD_eq_getElem?_getD,List.getElem?_eq_getElem hk,Option.getD_some];simp
 unfold iU
 conv=>lhs;rw[hs]
 refine Cv (decide_eq_true h1) fun x hx=>decide_eq_false fun e=>?_
 obtain⟨j,hj,rfl⟩:=List.mem_iff_getElem.1 hx;have NJ:k+1+j<S.L.length:=by rw[List.length_drop]at hj;omega
 refine h2 (k+1+j) ao NJ ?_;rw[List.getD_eq_getElem?_getD,List.getElem?_eq_getElem NJ,Option.getD_some];rw[List.getElem_drop]at e;exact e
def vM (I:List (Int×Int))(l:Int):Nat→Nat
 |0=>0
 |k+1=>vM I l k+if(I.getD k (0,0)).2=l then 1 else 0
def vL (I:List (Int×Int))(l:Int):Nat→Int
 |0=>-1
 |k+1=>if(I.getD k (0,0)).2=l then(k:Int)else vL I l k
theorem Nj (I:List (Int×Int))(l:Int):∀k,vM I l k≤k
 |0=>Nat.le_refl _
 |k+1=>by
  have:=Nj I l k;rw[vM]
  split<;>omega
def AY (I:List (Int×Int))(a:Int):Nat→List (Int×Int)
 |0=>[]
 |k+1=>if(k:Int)=a then AY I a k else AY I a k ++ [I.getD k (0,0)]
def ia:Nat→List (Int×Int)→List (Int×Int)
 |0,I=>I
 |f+1,I=>if I≠[]∧(I.getD (I.length - 1) (0,0)).2=4 then ia f (I.take (I.length - 1))else I
def gT (S:US):List (Int×Int):=S.L.map fun b=>(b,S.v b)
theorem bS (S:US):(gT S).length=S.L.length:=List.length_map ..
theorem fR (S:US){k:Nat}(hk:k<S.L.length):(gT S).getD k (0,0)=(S.L.getD k 0,S.v (S.L.getD k 0)):=by
 unfold gT;simp[List.getD_eq_getElem?_getD,hk]
theorem Nk (S:US)(l:Int):vM (gT S) l S.L.length=gg S l:=by
 have h:∀k,k≤S.L.length→vM (gT S) l k=((S.L.take k).filter fun b=>decide (S.v b=l)).length:=by
  intro k
  induction k with
  |zero=>intro _;rfl
  |succ k ih=>
   intro hk;rw[vM,ih ao,fR S ao,List.take_succ_eq_append_getElem ao,List.filter_append,List.length_append];have e:S.L.getD k 0=S.L[k]:=by simp[List.getD_eq_getElem?_getD,show k<S.L.length by omega]
   rw[e]
   by_cases h:S.v S.L[k]=l
   ·rw[if_pos h,List.filter_cons_of_pos (by simpa using h)];rfl
   ·rw[if_neg h,List.filter_cons_of_neg (by simpa using h)];rfl
 rw[h _ (dm _),List.take_length];rfl
theorem uG (I:List (Int×Int))(l:Int):∀k,(vL I l k= -1∧∀j,j<k→(I.getD j (0,0)).2≠l)∨∃j:Nat,vL I l k=j∧j<k∧(I.getD j (0,0)).2=l∧∀i,j<i→i<k→(I.getD i (0,0)).2≠l
 |0=>.inl ⟨rfl,fun j h=>absurd h (Nat.not_lt_zero _)⟩
 |k+1=>by
  rw[vL]
  by_cases h:(I.getD k (0,0)).2=l
  ·rw[if_pos h];exact .inr ⟨k,rfl,ao,h,fun i h1 h2=>absurd h2 ao⟩
  ·rw[if_neg h];rcases uG I l k with⟨h1,h2⟩|⟨j,h1,h2,h3,h4⟩
   ·refine .inl ⟨h1,fun j hj=>?_⟩
    by_cases e:j=k
    ·rw[e];exact h
    ·exact h2 j ao
   ·refine .inr ⟨j,h1,ao,h3,fun i C4 J6=>?_⟩
    by_cases e:i=k
    ·rw[e];exact h
    ·exact h4 i C4 ao
theorem Xt {S:US}{l:Int}(hc:0<gg S l):∃k,k<S.L.length∧vL (gT S) l S.L.length=(k:Nat)∧S.L.getD k 0=eB (iU S l):=by
 rcases uG (gT S) l S.L.length with⟨h1,h2⟩|⟨j,h1,h2,h3,h4⟩
 ·exfalso
  obtain⟨h3,h4⟩:=oV hc;obtain⟨j,hj,e⟩:=List.mem_iff_getElem.1 h3;refine h2 j hj ?_;rw[fR S hj,show S.L.getD j 0=eB (iU S l) by rw[←e];simp[List.getD_eq_getElem?_getD,hj]];exact h4
 ·refine⟨j,h2,h1,(Fu h2 ?_ fun i h5 h6=>?_).symm⟩
  ·rw[fR S h2]at h3;exact h3
  ·have:=h4 i h5 h6;rw[fR S h6]at this;exact this
theorem abp {S:US}{b l:Int}{q:Nat}(hq:q<S.L.length)(hb:S.L.getD q 0=b)(iQ:∀j,j<q→S.L.getD j 0≠b):P7 S b l=decide ((q:Int)≤vL (gT S) l S.L.length):=by
 have hd:∀(L:List Int) (q:Nat),q<L.length→L.getD q 0=b→(∀j,j<q→L.getD j 0≠b)→L.dropWhile (fun y=>decide (y≠b))=L.drop q:=by
  intro L
  induction L with
  |nil=>intro q h;simp at h
  |cons a L ih=>
   intro q h1 h2 h3
   cases q with
   |zero=>
    have h2:a=b:=h2;rw[List.dropWhile_cons_of_neg (by simpa using h2)];rfl
   |succ q=>
    have h4:a≠b:=h3 0 ao;rw[List.dropWhile_cons_of_pos (by simpa using h4),ih q (by simpa using h1) h2 fun j hj=>h3 (j+1) ao];rfl
 unfold P7;rw[hd S.L q hq hb iQ,Bool.eq_iff_iff,decide_eq_true_iff,List.any_eq_true]
 constructor
 ·rintro⟨y,h1,h2⟩;obtain⟨i,hi,e⟩:=List.mem_iff_getElem.1 h1;rw[List.getElem_drop]at e;have J6:q+i<S.L.length:=by rw[List.length_drop]at hi;omega
  have h3:((gT S).getD (q+i) (0,0)).2=l:=by
   rw[fR S J6]
   show S.v (S.L.getD (q+i) 0)=l
   rw[show S.L.getD (q+i) 0=y by rw[←e];simp[List.getD_eq_getElem?_getD,J6]];exact of_decide_eq_true h2
  rcases uG (gT S) l S.L.length with⟨h5,h6⟩|⟨j,h5,h6,h7,h8⟩
  ·exact absurd h3 (h6 _ J6)
  ·rw[h5];rcases Nat.lt_or_ge j (q+i)with h9|h9
   ·exact absurd h3 (h8 _ h9 J6)
   ·omega
 ·intro h;rcases uG (gT S) l S.L.length with⟨h5,h6⟩|⟨j,h5,h6,h7,h8⟩
  ·rw[h5]at h;omega
  ·rw[h5]at h;rw[fR S h6]at h7;refine⟨S.L.getD j 0,?_,decide_eq_true h7⟩;refine List.mem_iff_getElem.2 ⟨j - q,by rw[List.length_drop];omega,?_⟩;rw[List.getElem_drop];simp[List.getD_eq_getElem?_getD,show q+(j - q)=j by omega,h6]
theorem Xu (S:US){a:Int}(h:a<0):AY (gT S) a S.L.length=gT S:=by
 have h1:∀k,k≤S.L.length→AY (gT S) a k=(gT S).take k:=by
  intro k
  induction k with
  |zero=>intro _;rfl
  |succ k ih=>
   intro hk;have UB:k<(gT S).length:=by rw[bS];omega
   rw[AY,if_neg ao,ih ao,List.take_succ_eq_append_getElem UB];simp[List.getD_eq_getElem?_getD,UB]
 rw[h1 _ (dm _),←bS,List.take_length]
theorem vu {α β:Type}(f:α→β):∀(L:List α) (q:Nat),(L.map f).eraseIdx q=(L.eraseIdx q).map f
 | [],_=>by simp
 |a :: L,0=>rfl
 |a :: L,q+1=>by
  show f a :: (L.map f).eraseIdx q=f a :: (L.eraseIdx q).map f
  rw[vu f L q]
theorem O8 {L:List Int}(hn:L.Nodup){i k:Nat}(hi:i<L.length)(hk:k<L.length)(h:L[i]=L[k]):i=k:=by
 rcases Nat.lt_trichotomy i k with h1|h1|h1
 ·exact absurd h ((List.pairwise_iff_getElem.1 hn) i k hi hk h1)
 ·exact h1
 ·exact absurd h.symm ((List.pairwise_iff_getElem.1 hn) k i hk hi h1)
theorem abK {S:US}(hn:S.L.Nodup){q:Nat}(hq:q<S.L.length):AY (gT S) q S.L.length=gT ⟨S.L.erase (S.L.getD q 0),S.v⟩:=by
 have h1:∀k,k≤S.L.length→AY (gT S) q k=if k≤q then(gT S).take k else((gT S).take k).eraseIdx q:=by
  intro k
  induction k with
  |zero=>intro _;rw[if_pos (dT _)];rfl
  |succ k ih=>
   intro hk;have UB:k<(gT S).length:=by rw[bS];omega
   have e2:(gT S).getD k (0,0)=(gT S)[k]:=by simp[List.getD_eq_getElem?_getD,UB]
   rw[AY,ih ao,List.take_succ_eq_append_getElem UB,e2]
   by_cases e:k=q
   ·subst e;rw[if_pos rfl,if_pos (dm _),if_neg ao,List.eraseIdx_append_of_length_le (by rw[List.length_take];omega)];rw[show k - ((gT S).take k).length=0 by rw[List.length_take];omega];simp
   ·rw[if_neg ao]
    by_cases e3:k≤q
    ·rw[if_pos e3,if_pos ao]
    ·rw[if_neg e3,if_neg ao,List.eraseIdx_append_of_lt_length (by rw[List.length_take];omega)]
 rw[h1 _ (dm _),if_neg ao,←bS,List.take_length];unfold gT
 show(S.L.map _).eraseIdx q=(S.L.erase (S.L.getD q 0)).map _
 rw[vu,List.erase_eq_eraseIdx];have h2:S.L.idxOf? (S.L.getD q 0)=some q:=by
  have:∀(L:List Int) (q:Nat),L.Nodup→q<L.length→L.idxOf? (L.getD q 0)=some q:=by
   intro L
   induction L with
   |nil=>intro q _ h;simp at h
   |cons a L ih=>
    intro q hn h;rw[List.nodup_cons]at hn
    cases q with
    |zero=>simp[List.idxOf?_cons]
    |succ q=>
     have hq:q<L.length:=by simpa using h
     have hne:a≠L.getD q 0:=fun e=>hn.1 (by rw[e];simp[List.getD_eq_getElem?_getD,hq])
     show(a :: L).idxOf? (L.getD q 0)=some (q+1)
     rw[List.idxOf?_cons,if_neg (by simpa using hne),ih q hn.2 hq];rfl
  exact this _ _ hn hq
 rw[h2]
theorem Xv {S:US}(hn:S.L.Nodup){k:Nat}(hk:k<S.L.length)(l:Int):(gT S).set k (S.L.getD k 0,l)=gT (yD S (S.L.getD k 0) l):=by
 refine List.ext_getElem (by simp[gT,yD]) fun i h1 h2=>?_
 have hi:i<S.L.length:=by simpa [gT,yD] using h2
 have hke:S.L.getD k 0=S.L[k]:=by simp[List.getD_eq_getElem?_getD,hk]
 show((S.L.map fun b=>(b,S.v b)).set k (S.L.getD k 0,l))[i]'(by simpa using hi)=(S.L.map fun b=>(b,aT S.v (S.L.getD k 0) l b))[i]'(by simpa using hi)
 rw[List.getElem_set,List.getElem_map,List.getElem_map]
 by_cases e:k=i
 ·subst e;have:aT S.v (S.L.getD k 0) l S.L[k]=l:=by unfold aT;rw[if_pos hke.symm]
  rw[if_pos rfl,this];exact Prod.ext hke rfl
 ·have:aT S.v (S.L.getD k 0) l S.L[i]=S.v S.L[i]:=by
   unfold aT;rw[if_neg (fun e2=>e (O8 hn hk hi (by rw[hke]at e2;exact e2.symm)))]
  rw[if_neg e,this]
theorem Ei:∀(f:Nat) {S:US},jQ S→ia f (gT S)=gT (fM f S)
 |0,S,_=>rfl
 |f+1,S,h=>by
  rw[ia,fM]
  by_cases hne:S.L= []
  ·rw[if_neg (fun e=>e.1 (by unfold gT;rw[hne];rfl)),if_neg (fun e=>e.1 hne)]
  ·have s6:=List.length_pos_iff.2 hne;have hl:eB S.L=S.L.getD (S.L.length - 1) 0:=by
    have:=Fu (S:=⟨S.L,fun _=>0⟩) (l:=0) (k:=S.L.length - 1) (by show S.L.length - 1<S.L.length;omega) rfl fun j h1 h2=>by
     have h2:j<S.L.length:=h2;omega
    rw[←this];unfold iU;rw[List.filter_eq_self.2 (fun _ _=>by rfl)]
   have uN:((gT S).getD ((gT S).length - 1) (0,0)).2=S.v (eB S.L):=by
    rw[bS,fR S ao,←hl]
   have Kv:gT S≠[]:=fun e=>hne (by unfold gT at e;exact List.map_eq_nil_iff.1 e)
   rw[uN]
   by_cases h4:S.v (eB S.L)=4
   ·rw[if_pos ⟨Kv,h4⟩,if_pos ⟨hne,h4⟩];have hI2:jQ ⟨S.L.erase (eB S.L),aT S.v (eB S.L) 0⟩:=by
     have:=nX 1 S h;rw[fM,if_pos ⟨hne,h4⟩]at this;exact this
    rw[←Ei f hI2]
    congr 1
    unfold gT
    show(S.L.map _).take ((S.L.map _).length - 1)=(S.L.erase (eB S.L)).map _
    have Yc:S.L=S.L.dropLast ++ [eB S.L]:=by
     rw[hl];have h5:=List.dropLast_concat_getLast hne;rw[List.getLast_eq_getElem]at h5
     conv=>lhs;rw[←h5]
     congr 2
     simp[List.getD_eq_getElem?_getD,show S.L.length - 1<S.L.length by omega]
    have zB:=h.nodup;rw[Yc]at zB;have UA:eB S.L∉S.L.dropLast:=fun e=>(List.nodup_append.1 zB).2.2 _ e _ (List.mem_singleton.2 rfl) rfl
    have her:S.L.erase (eB S.L)=S.L.dropLast:=by
     conv=>lhs;arg 1;rw[Yc]
     rw[List.erase_append_right _ UA];simp
    rw[her,List.length_map,←List.map_take,List.dropLast_eq_take];refine List.map_congr_left fun x hx=>?_
    have JJ:x≠eB S.L:=fun e=>UA (by rw[List.dropLast_eq_take,←e];exact hx)
    show(x,S.v x)=(x,aT S.v (eB S.L) 0 x)
    unfold aT;rw[if_neg JJ]
   ·rw[if_neg (fun e=>h4 e.2),if_neg (fun e=>h4 e.2)]
end Go.Proofs.YtchofaecncibjaaGreat
