/- Lemmas. -/
set_option linter.all false
set_option maxHeartbeats 20000000
set_option maxRecDepth 100000
namespace Go.Proofs.YtpcfhbeakecihaaGreat
theorem ai {P:Prop}(h:P:=by omega):P:=h
theorem av {P:Prop}(h:P:=by decide):P:=h
theorem dT (n:Nat):n≤n:=Nat.le_refl n
theorem eK (n:Nat):0≤n:=Nat.zero_le n
structure Nd where
 l:Int
 a:Int
 b:Int
structure En where
 f:Int
 k:Int
 m:Int
def aD {α:Type}(f:Int→α)(k:Int)(v:α):Int→α:=fun x=>if x=k then v else f x
def aW {α:Type}(f:Nat→α)(k:Nat)(v:α):Nat→α:=fun x=>if x=k then v else f x
def hd (L:List Int):Int:=L.headD (-1)
def ez (L:List Int):Int:=L.getLastD (-1)
def gz:List Int→Int→Int
 | [],_=>-1
 |a :: L,x=>if hd L=x then a else gz L x
def dX:List Int→Int→Int
 | [],_=>-1
 |a :: L,x=>if a=x then hd L else dX L x
def Pos (L:List Int):Prop:=∀x∈L,0≤x
theorem Pos.tail {a:Int}{L:List Int}(h:Pos (a :: L)):Pos L:=fun x hx=>h x (List.mem_cons_of_mem _ hx)
theorem Pos.head {a:Int}{L:List Int}(h:Pos (a :: L)):0≤a:=h a (List.mem_cons_self ..)
theorem du {L:List Int}(h:hd L≠-1):hd L∈L:=by
 cases L with
 |nil=>exact absurd rfl h
 |cons a L=>exact List.mem_cons_self ..
theorem mX {L:List Int}(hp:Pos L)(h:hd L= -1):L= []:=by
 cases L with
 |nil=>rfl
 |cons a L=>have:=hp.head;have h:a= -1:=h;omega
theorem ch (a:Int)(L:List Int):ez (a :: L)=if L= []then a else ez L:=by
 cases L with
 |nil=>rfl
 |cons b L=>simp[ez]
theorem yj {L:List Int}(h:ez L≠-1):ez L∈L:=by
 induction L with
 |nil=>exact absurd rfl h
 |cons a L ih=>
  rw[ch]at h ⊢
  split
  ·exact List.mem_cons_self ..
  ·rename_i e
   rw[if_neg e]at h;exact List.mem_cons_of_mem _ (ih h)
theorem jk {L:List Int}{x:Int}(h0:0≤x)(h:x∉L):gz L x= -1:=by
 induction L with
 |nil=>rfl
 |cons a L ih=>
  rw[gz,if_neg,ih (fun e=>h (List.mem_cons_of_mem _ e))];intro e;exact h (List.mem_cons_of_mem _ (e▸du ai))
theorem rO {L:List Int}:∀{a b:Int},b∈L→gz (a :: L) b∈a :: L:=by
 induction L with
 |nil=>intro a b h;cases h
 |cons c L ih=>
  intro a b h;rw[gz]
  by_cases e:hd (c :: L)=b
  ·rw[if_pos e];exact List.mem_cons_self ..
  ·rw[if_neg e];have:b∈L:=by
    rcases List.mem_cons.1 h with rfl|h
    ·exact absurd rfl e
    ·exact h
   exact List.mem_cons_of_mem _ (ih this)
theorem qh (L:List Int)(b:Int)(h0:0≤b):gz L b= -1∨gz L b∈L:=by
 cases L with
 |nil=>exact .inl rfl
 |cons a L=>
  by_cases h:b∈L
  ·exact .inr (rO h)
  ·refine .inl ?_;rw[gz,if_neg (show¬hd L=b from fun e=>h (e▸du ai)),jk h0 h]
theorem mU (L:List Int)(b:Int):dX L b= -1∨dX L b∈L:=by
 induction L with
 |nil=>exact .inl rfl
 |cons a L ih=>
  rw[dX]
  split
  ·by_cases h:hd L= -1
   ·exact .inl h
   ·exact .inr (List.mem_cons_of_mem _ (du h))
  ·rcases ih with h|h
   ·exact .inl h
   ·exact .inr (List.mem_cons_of_mem _ h)
theorem mT {L:List Int}{x:Int}(hn:L.Nodup)(h0:0≤x)(h:hd L=x):gz L x= -1:=by
 cases L with
 |nil=>rfl
 |cons a L=>
  have h:a=x:=h;subst h;have:=(List.nodup_cons.1 hn).1;rw[gz,if_neg (show¬hd L=a from fun e=>this (e▸du ai)),jk h0 this]
theorem b4 {L:List Int}{b:Int}(hn:L.Nodup)(hp:Pos L)(hb:b∈L):gz L b= -1↔hd L=b:=by
 refine⟨fun h=>?_,mT hn (hp b hb)⟩
 cases L with
 |nil=>cases hb
 |cons a L=>
  rcases List.mem_cons.1 hb with rfl|hb
  ·rfl
  ·have:=hp _ (rO (a:=a) hb);omega
theorem ta {L:List Int}{b:Int}(hn:L.Nodup)(hp:Pos L)(hb:b∈L):dX L b≠hd L:=by
 cases L with
 |nil=>cases hb
 |cons a L=>
  have ha:=(List.nodup_cons.1 hn).1;have h0:=hp.head
  show dX (a :: L) b≠a
  rw[dX]
  split
  ·intro e;exact ha (e▸du ai)
  ·intro e;rcases mU L b with h|h
   ·omega
   ·exact ha (e▸h)
theorem gW {L:List Int}{b:Int}(hn:L.Nodup)(hp:Pos L)(hb:b∈L):hd (L.erase b)=if gz L b= -1 then dX L b else hd L:=by
 cases L with
 |nil=>cases hb
 |cons a L=>
  by_cases e:a=b
  ·subst e;rw[if_pos ((b4 hn hp hb).2 rfl),dX,if_pos rfl,List.erase_cons_head]
  ·rw[if_neg (fun h=>e ((b4 hn hp hb).1 h)),List.erase_cons_tail (by simpa using e)];rfl
theorem s4 {b:Int}:∀{L:List Int} {x:Int},L.Nodup→Pos L→b∈L→x∈L→x≠b→gz (L.erase b) x=if dX L b=x then gz L b else gz L x:=by
 intro L
 induction L with
 |nil=>intro x _ _ h;cases h
 |cons a L ih=>
  intro x hn hp hb hx hne;have ha:=(List.nodup_cons.1 hn).1;have ks:=(List.nodup_cons.1 hn).2;have iE:=hp.tail;have Hz:=hp.head
  by_cases e:a=b
  ·subst e;have BQ:x∈L:=(List.mem_cons.1 hx).resolve_left hne;rw[List.erase_cons_head,dX,if_pos rfl,(b4 hn hp hb).2 rfl,gz]
   by_cases h:hd L=x
   ·rw[if_pos h,mT ks (iE x BQ) h]
   ·rw[if_neg h,if_neg h]
  ·have iF:b∈L:=(List.mem_cons.1 hb).resolve_left (fun h=>e h.symm);rw[List.erase_cons_tail (by simpa using e)];rw[show dX (a :: L) b=dX L b from by rw[dX,if_neg e]]
   by_cases yW:x=a
   ·subst yW;rw[if_neg (show¬dX L b=x from fun h=>(mU L b).elim (fun h1=>by omega) (fun h1=>ha (h▸h1)))];rw[mT hn Hz rfl];have wE:(x :: L.erase b).Nodup:=List.nodup_cons.2 ⟨fun h=>ha (List.mem_of_mem_erase h),ks.erase b⟩;exact mT wE Hz rfl
   ·have BQ:x∈L:=(List.mem_cons.1 hx).resolve_left yW;rw[gz,gW ks iE iF,ih ks iE iF BQ hne,show gz (a :: L) b=if hd L=b then a else gz L b from rfl,show gz (a :: L) x=if hd L=x then a else gz L x from rfl]
    by_cases h1:hd L=b
    ·rw[if_pos ((b4 ks iE iF).2 h1),if_pos h1,if_neg (show¬hd L=x from fun h=>hne (h.symm.trans h1))]
     by_cases h2:dX L b=x
     ·rw[if_pos h2,if_pos h2]
     ·rw[if_neg h2,if_neg h2,if_neg h2]
    ·rw[if_neg (fun h=>h1 ((b4 ks iE iF).1 h)),if_neg h1]
     by_cases h2:dX L b=x
     ·rw[if_pos h2,if_pos h2,if_neg (fun h=>ta ks iE iF (h2.trans h.symm))]
     ·rw[if_neg h2,if_neg h2]
theorem tb {b:Int}:∀{L:List Int} {x:Int},L.Nodup→Pos L→b∈L→x∈L→x≠b→dX (L.erase b) x=if gz L b=x then dX L b else dX L x:=by
 intro L
 induction L with
 |nil=>intro x _ _ h;cases h
 |cons a L ih=>
  intro x hn hp hb hx hne;have ha:=(List.nodup_cons.1 hn).1;have ks:=(List.nodup_cons.1 hn).2;have iE:=hp.tail;have Hz:=hp.head;have wY:=hp x hx
  by_cases e:a=b
  ·subst e;have BQ:x∈L:=(List.mem_cons.1 hx).resolve_left hne;rw[List.erase_cons_head,(b4 hn hp hb).2 rfl,if_neg ai,dX,if_neg (fun h=>hne h.symm)]
  ·have iF:b∈L:=(List.mem_cons.1 hb).resolve_left (fun h=>e h.symm);rw[List.erase_cons_tail (by simpa using e),show dX (a :: L) b=dX L b from by rw[dX,if_neg e]];rw[show gz (a :: L) b=if hd L=b then a else gz L b from rfl]
   by_cases yW:a=x
   ·subst yW;rw[dX,if_pos rfl,gW ks iE iF]
    by_cases h1:hd L=b
    ·rw[if_pos ((b4 ks iE iF).2 h1),if_pos h1,if_pos rfl]
    ·rw[if_neg (fun h=>h1 ((b4 ks iE iF).1 h)),if_neg h1,if_neg,dX,if_pos rfl];intro h;rcases qh L b (iE b iF)with h3|h3
     ·omega
     ·exact ha (h▸h3)
   ·have BQ:x∈L:=(List.mem_cons.1 hx).resolve_left (fun h=>yW h.symm);rw[dX,if_neg yW,ih ks iE iF BQ hne,show dX (a :: L) x=dX L x from by rw[dX,if_neg yW]]
    by_cases h1:hd L=b
    ·rw[if_pos h1,if_neg yW,if_neg];rw[(b4 ks iE iF).2 h1];omega
    ·rw[if_neg h1]
theorem tt {b:Int}:∀{L:List Int},L.Nodup→Pos L→b∈L→ez (L.erase b)=if dX L b= -1 then gz L b else ez L:=by
 intro L
 induction L with
 |nil=>intro _ _ h;cases h
 |cons a L ih=>
  intro hn hp hb;have ks:=(List.nodup_cons.1 hn).2;have iE:=hp.tail
  by_cases e:a=b
  ·subst e;rw[List.erase_cons_head,dX,if_pos rfl,(b4 hn hp hb).2 rfl,ch]
   by_cases h:L= []
   ·subst h;rfl
   ·rw[if_neg h,if_neg (fun h2=>h (mX iE h2))]
  ·have iF:b∈L:=(List.mem_cons.1 hb).resolve_left (fun h=>e h.symm);have hL:L≠[]:=by rintro rfl;cases iF
   rw[List.erase_cons_tail (by simpa using e),ch,ih ks iE iF,show dX (a :: L) b=dX L b from by rw[dX,if_neg e],ch,if_neg hL];rw[show gz (a :: L) b=if hd L=b then a else gz L b from rfl]
   by_cases h:L.erase b= []
   ·have hh:=gW ks iE iF;rw[h]at hh;have:hd L=b:=by
     apply (b4 ks iE iF).1;apply Classical.byContradiction;intro h1;rw[if_neg h1]at hh;exact hL (mX iE hh.symm)
    rw[if_pos ((b4 ks iE iF).2 this)]at hh;rw[if_pos h,if_pos this,if_pos (show dX L b= -1 from hh.symm)]
   ·rw[if_neg h]
    by_cases h2:dX L b= -1
    ·rw[if_pos h2,if_pos h2]
     split
     ·rename_i h1
      have hh:=gW ks iE iF;rw[if_pos ((b4 ks iE iF).2 h1),h2]at hh;exact absurd (mX (fun x hx=>iE x (List.mem_of_mem_erase hx)) hh) h
     ·rfl
    ·rw[if_neg h2,if_neg h2]
theorem A9 {L:List Int}:∀{k:Nat},L.Nodup→(h:k<L.length)→dX L L[k]=hd (L.drop (k+1)):=by
 induction L with
 |nil=>intro k _ h;exact absurd h (Nat.not_lt_zero _)
 |cons a L ih=>
  intro k hn h
  cases k with
  |zero=>simp[dX]
  |succ k=>
   have ha:=(List.nodup_cons.1 hn).1;have hk:k<L.length:=by simpa using h
   rw[List.getElem_cons_succ,dX,if_neg (show¬a=L[k]from fun e=>ha (e▸List.getElem_mem hk)),ih (List.nodup_cons.1 hn).2 hk];rfl
theorem yu {L:List Int}{k:Nat}(h:k<L.length):hd (L.drop k)=L[k]:=by
 simp[hd,List.headD_eq_head?_getD,h]
theorem pD (L:List Int):hd (L.drop L.length)= -1:=by simp[hd]
structure lN (m:Nat)(N:Int→Nd)(E:Nat→En)(S:Nat→List Int):Prop where
 nodup:∀i,(S i).Nodup
 dj:∀{i j:Nat} {b:Int},b∈S i→b∈S j→i=j
 gr:∀{i:Nat} {b:Int},b∈S i→0≤b∧b<64
 out:∀i,m≤i→S i= []
 ends:∀i,i<m→E i=⟨hd (S i),ez (S i),(S i).length⟩
 se:∀{i:Nat} {b:Int},b∈S i→N b=⟨i,gz (S i) b,dX (S i) b⟩
 no:∀{b:Int},0≤b→b<64→(∀i,b∉S i)→(N b).l= -1
section
variable {m:Nat}{N:Int→Nd}{E:Nat→En}{S:Nat→List Int}
theorem lN.pos (h:lN m N E S)(i:Nat):Pos (S i):=fun _ hx=>(h.gr hx).1
theorem lN.lt (h:lN m N E S){i:Nat}{b:Int}(hb:b∈S i):i<m:=by
 apply Classical.byContradiction;intro hi;rw[h.out i ai]at hb
 cases hb
def p8 (N:Int→Nd)(b:Int):Int→Nd:=
 let n:=N b
 let N1:=if n.a= -1 then N else aD N n.a {N n.a with b:=n.b}
 let N2:=if n.b= -1 then N1 else aD N1 n.b {N1 n.b with a:=n.a}
 aD N2 b {N2 b with l:=-1}
def uq (E:Nat→En)(i:Nat)(n:Nd):Nat→En:=
 aW E i ⟨if n.a= -1 then n.b else(E i).f,if n.b= -1 then n.a else(E i).k,(E i).m - 1⟩
def lA (S:Nat→List Int)(i:Nat)(b:Int):Nat→List Int:=aW S i ((S i).erase b)
def mY (N:Int→Nd)(E:Nat→En)(i:Nat)(b:Int):Int→Nd:=
 let N1:=aD N b ⟨i,-1,(E i).f⟩
 if(E i).f= -1 then N1 else aD N1 (E i).f {N1 (E i).f with a:=b}
def mZ (E:Nat→En)(i:Nat)(b:Int):Nat→En:=
 aW E i ⟨b,if(E i).f= -1 then b else(E i).k,(E i).m+1⟩
def aG (S:Nat→List Int)(i:Nat)(b:Int):Nat→List Int:=aW S i (b :: S i)
theorem rP (N:Int→Nd){b x:Int}(hx:x≠b)(CZ:(N b).a≠b):
 p8 N b x=⟨(N x).l,if x=(N b).b∧(N b).b≠-1 then(N b).a else(N x).a,if x=(N b).a∧(N b).a≠-1 then(N b).b else(N x).b⟩:=by
 unfold p8 aD;dsimp only;rw[if_neg hx]
 by_cases h1:(N b).a= -1<;>by_cases h2:(N b).b= -1<;>simp only[h1,h2,if_true,if_false,ne_eq,not_true_eq_false,and_false,not_false_eq_true,and_true]<;>(repeat' split)<;>simp_all
theorem s9 (N:Int→Nd)(b:Int):(p8 N b b).l= -1:=by simp[p8,aD]
theorem lN.outs (h:lN m N E S){i:Nat}{b:Int}(hb:b∈S i):lN m (p8 N b) (uq E i (N b)) (lA S i b):=by
 have hn:=h.nodup i;have hp:=h.pos i;have hN:=h.se hb;have tS:=hp b hb;have CZ:(N b).a≠b:=by
  rw[hN];intro e;have e:gz (S i) b=b:=e
  cases hs:S i with
  |nil=>rw[hs]at hb;cases hb
  |cons a L=>
   rw[hs]at e hb hn;have ha:=(List.nodup_cons.1 hn);rw[gz]at e
   split at e
   ·rename_i h1
    subst e;exact ha.1 (h1▸du ai)
   ·rename_i h1
    rcases List.mem_cons.1 hb with e2|e2
    ·rw[←e2]at ha;rw[jk tS ha.1]at e;omega
    ·have Fc:=ha.2;clear hs hN hp h1;clear hb hn ha
     induction L generalizing a with
     |nil=>cases e2
     |cons c L ih=>
      rw[gz]at e
      split at e
      ·rename_i h3
       subst e;exact(List.nodup_cons.1 Fc).1 (h3▸du ai)
      ·rename_i h3
       rcases List.mem_cons.1 e2 with e4|e4
       ·rw[←e4]at Fc;rw[jk tS (List.nodup_cons.1 Fc).1]at e;omega
       ·exact ih a e e4 (List.nodup_cons.1 Fc).2
 have cK:∀{j:Nat} {x:Int},x∈lA S i b j→x∈S j∧x≠b:=by
  intro j x hx;unfold lA aW at hx
  split at hx
  ·rename_i e;subst e
   exact⟨List.mem_of_mem_erase hx,fun e=>(List.Nodup.not_mem_erase hn) (e▸hx)⟩
  ·rename_i e
   exact⟨hx,fun e2=>e (h.dj (e2▸hx) hb)⟩
 refine⟨fun j=>?_,fun hx hy=>h.dj (cK hx).1 (cK hy).1,fun hx=>h.gr (cK hx).1,fun j hj=>?_,fun j hj=>?_,fun {j x} hx=>?_,fun {x} h0 h1 hx=>?_⟩
 ·unfold lA aW
  split
  ·exact hn.erase b
  ·exact h.nodup j
 ·have:j≠i:=fun e=>by have:=h.lt hb;omega
  unfold lA aW;rw[if_neg this];exact h.out j hj
 ·unfold uq lA aW
  by_cases e:j=i
  ·subst e;rw[if_pos rfl,if_pos rfl,hN,h.ends j hj,gW hn hp hb,tt hn hp hb,List.length_erase_of_mem hb];have:0<(S j).length:=List.length_pos_of_mem hb
   congr 1
   show((S j).length:Int) - 1=(((S j).length - 1:Nat):Int)
   omega
  ·rw[if_neg e,if_neg e];exact h.ends j hj
 ·have rh:=(cK hx).1;have hne:=(cK hx).2;have wY:=(h.gr rh).1;rw[rP N hne CZ,hN,h.se rh];dsimp only;unfold lA aW
  by_cases e:j=i
  ·subst e;rw[if_pos rfl,s4 hn hp hb rh hne,tb hn hp hb rh hne]
   congr 1
   ·by_cases h2:dX (S j) b=x
    ·rw[if_pos h2,if_pos ⟨h2.symm,ai⟩]
    ·rw[if_neg h2,if_neg (fun h3=>h2 h3.1.symm)]
   ·by_cases h2:gz (S j) b=x
    ·rw[if_pos h2,if_pos ⟨h2.symm,ai⟩]
    ·rw[if_neg h2,if_neg (fun h3=>h2 h3.1.symm)]
  ·rw[if_neg e,if_neg,if_neg]
   ·rintro⟨h2,h3⟩;rcases qh (S i) b tS with h4|h4
    ·exact h3 h4
    ·exact e (h.dj rh (h2▸h4))
   ·rintro⟨h2,h3⟩;rcases mU (S i) b with h4|h4
    ·exact h3 h4
    ·exact e (h.dj rh (h2▸h4))
 ·by_cases e:x=b
  ·subst e;exact s9 N _
  ·rw[rP N e CZ];refine h.no h0 h1 fun j hj=>?_
   refine hx j ?_;unfold lA aW
   split
   ·rename_i e2;subst e2;exact(List.mem_erase_of_ne e).2 hj
   ·exact hj
theorem lN.Bk (h:lN m N E S){i:Nat}{b:Int}(hi:i<m)(h0:0≤b)(h1:b<64)(hb:∀j,b∉S j):lN m (mY N E i b) (mZ E i b) (aG S i b):=by
 have hn:=h.nodup i;have hp:=h.pos i;have hE:=h.ends i hi;have hf:(E i).f=hd (S i):=by rw[hE]
 have cK:∀{j:Nat} {x:Int},x∈aG S i b j→(x=b∧j=i)∨(x∈S j∧x≠b):=by
  intro j x hx;unfold aG aW at hx
  split at hx
  ·rename_i e;subst e
   rcases List.mem_cons.1 hx with e|hx
   ·exact .inl ⟨e,rfl⟩
   ·exact .inr ⟨hx,fun e=>hb j (e▸hx)⟩
  ·exact .inr ⟨hx,fun e=>hb j (e▸hx)⟩
 have jd:hd (S i)≠b:=fun e=>hb i (e▸du ai)
 refine⟨fun j=>?_,fun {j k x} hx hy=>?_,fun hx=>?_,fun j hj=>?_,fun j hj=>?_,fun {j x} hx=>?_,fun {x} h2 h3 hx=>?_⟩
 ·unfold aG aW
  split
  ·exact List.nodup_cons.2 ⟨hb i,hn⟩
  ·exact h.nodup j
 ·rcases cK hx with⟨e1,e2⟩|⟨e1,e2⟩<;>rcases cK hy with⟨e3,e4⟩|⟨e3,e4⟩
  ·omega
  ·exact absurd e1 e4
  ·exact absurd e3 e2
  ·exact h.dj e1 e3
 ·rcases cK hx with⟨e1,e2⟩|⟨e1,e2⟩
  ·omega
  ·exact h.gr e1
 ·unfold aG aW;rw[if_neg ai];exact h.out j hj
 ·unfold mZ aG aW
  by_cases e:j=i
  ·subst e;rw[if_pos rfl,if_pos rfl,hE];dsimp only;rw[ch]
   congr 1
   ·by_cases h4:hd (S j)= -1
    ·rw[if_pos h4,if_pos (mX hp h4)]
    ·rw[if_neg h4,if_neg (fun h5=>h4 (by rw[h5];rfl))]
  ·rw[if_neg e,if_neg e];exact h.ends j hj
 ·unfold mY;dsimp only;rw[hf];rcases cK hx with⟨rfl,rfl⟩|⟨e1,e2⟩
  ·have:(⟨(j:Int),-1,hd (S j)⟩:Nd)=⟨j,gz (aG S j x j) x,dX (aG S j x j) x⟩:=by
    unfold aG aW;rw[if_pos rfl,dX,if_pos rfl,gz,if_neg jd,jk h0 (hb j)]
   rw[←this]
   split
   ·simp[aD]
   ·simp[aD,Ne.symm jd]
  ·have hN:=h.se e1;have wY:=(h.gr e1).1
   by_cases e:j=i
   ·subst e;have hS:aG S j b j=b :: S j:=by simp[aG,aW]
    rw[hS,dX,if_neg (Ne.symm e2),gz]
    by_cases h4:hd (S j)=x
    ·subst h4;rw[if_neg ai,if_pos rfl];simp[aD,jd,hN]
    ·rw[if_neg h4]
     split
     ·simp[aD,e2,hN]
     ·simp[aD,e2,hN,Ne.symm h4]
   ·have hS:aG S i b j=S j:=by simp[aG,aW,e]
    rw[hS]
    split
    ·simp[aD,e2,hN]
    ·rename_i h4
     have:x≠hd (S i):=fun e3=>e (h.dj e1 (e3▸du h4))
     simp[aD,e2,hN,this]
 ·have E3:x≠b:=fun e=>hx i (by simp[aG,aW,e])
  have JU:∀j,x∉S j:=fun j hj=>hx j (by
   unfold aG aW
   split
   ·rename_i e;subst e;exact List.mem_cons_of_mem _ hj
   ·exact hj)
  have:=h.no h2 h3 JU;unfold mY;dsimp only;rw[hf]
  split
  ·simpa [aD,E3] using this
  ·rename_i h4
   have:x≠hd (S i):=fun e3=>JU i (e3▸du h4)
   simpa [aD,E3,this]
theorem lN.nil (m:Nat)(N:Int→Nd)(E:Nat→En)(hN:∀b,0≤b→b<64→(N b).l= -1)(hE:∀i,i<m→E i=⟨-1,-1,0⟩):lN m N E (fun _=>[]):=
 ⟨fun _=>List.nodup_nil,fun h=>(by cases h),fun h=>(by cases h),fun _ _=>rfl,hE,fun h=>(by cases h),fun h0 h1 _=>hN _ h0 h1⟩
end
end Go.Proofs.YtpcfhbeakecihaaGreat
