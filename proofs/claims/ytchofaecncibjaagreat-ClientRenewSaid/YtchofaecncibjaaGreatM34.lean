/- Lemmas. -/
import Derived.Test.YtchofaecncibjaaGreatM32
import Derived.Test.YtchofaecncibjaaGreatM33
set_option linter.all false
set_option maxHeartbeats 20000000
set_option maxRecDepth 100000
namespace Go.Proofs.YtchofaecncibjaaGreat
structure kY where
 op:Int
 blk:Int
 lev:Int
 wr:Bool
 ed:List Int
def EH:kY:=⟨0,0,0,false,[]⟩
structure nP where
 slot:Int
 op:Int
 wr:Bool
 code:Int
 ed:List Int
structure PM where
 m:di
 d:List Int
def CH (kind slot op block level round:Int)(d:List Int):PM:=⟨⟨fun i=>[kind,0,slot,0,op,block,level,round,0].getD i 0,false⟩,d⟩
structure CM (σ:Type) where
 s:σ
 D:Int→Option (List Int)
 U:US
 S:Nat→kY
 ops:Nat
 up:Bool
 en:List nP
def CI (n:Nat)(S:Nat→kY)(b:Int):Bool:=(List.range n).any fun i=>decide ((S i).op≠0)&&decide ((S i).blk=b)
theorem FD {n:Nat}{S:Nat→kY}{b:Int}{i:Nat}(hi:i<n)(h1:(S i).op≠0)(h2:(S i).blk=b):CI n S b=true:=
 List.any_eq_true.2 ⟨i,List.mem_range.2 hi,by rw[decide_eq_true h1,decide_eq_true h2];rfl⟩
theorem abH {n:Nat}{S:Nat→kY}{b:Int}(h:∀i,i<n→¬((S i).op≠0∧(S i).blk=b)):CI n S b=false:=by
 cases e:CI n S b with
 |false=>rfl
 |true=>
  obtain⟨i,hi,h1⟩:=List.any_eq_true.1 e;rw[Bool.and_eq_true]at h1;exact absurd ⟨of_decide_eq_true h1.1,of_decide_eq_true h1.2⟩ (h i (List.mem_range.1 hi))
def MI (b lev:Int)(d:List Int):PM:=CH 3 0 0 b lev 0 d
def eZ (n:Nat)(S:Nat→kY)(b lev:Int)(d:List Int):List PM:=if CI n S b=true then[]else[MI b lev d]
def ie (i:Nat)(s:kY):PM:=if s.wr=true then CH 2 i s.op s.blk s.lev 0 s.ed else CH 1 i s.op s.blk s.lev 0 []
def dJ (c:aM)(S:Nat→kY)(i:Int)(wr:Bool)(b:Int)(len:Nat):Int:=
 if¬(0≤i∧i<c.f 1)then 6 else if¬(0≤b∧b<c.f 2)then 9 else if wr=true∧(len:Int)≠c.f 3 then 10 else if(S i.toNat).op≠0 then 13 else 0
noncomputable def wP (c:aM)(b a:Int):Int:=by
 classical exact if h:∃T,oQ c b a T then h.choose else 0
theorem Fv {c:aM}{b a T:Int}(h:oQ c b a T):wP c b a=T:=by
 have h0:∃T,oQ c b a T:=⟨T,h⟩;unfold wP;rw[dif_pos h0];exact h0.choose_spec.unique h
theorem K4 {c:aM}{b:Int}(h0:0≤b)(h1:b<c.f 2)(h5:c.f 5≠2):wP c b 1=2:=by
 have hb:¬vN c b 1:=fun e=>by unfold vN at e;omega
 exact Fv (T:=2) (.inr (.inl ⟨hb,h5,aD⟩))
def dF (c:aM):Nat→Int:=lP (c.f 9) (c.f 10) (c.f 11) 3
def p8 {σ:Type}(sp:eY σ)(n:Nat)(S:Nat→kY)(x:σ×(Int→Option (List Int))×List PM)(m:Int×Nat):σ×(Int→Option (List Int))×List PM:=
 if m.2=1 then match x.2.1 m.1 with
  |some d=>(sp.rem x.1 m.1,aT x.2.1 m.1 none,x.2.2 ++ eZ n S m.1 2 d)
  |none=>x
 else x
def vT {σ:Type}(sp:eY σ)(n:Nat)(S:Nat→kY)(l:List (Int×Nat))(x:σ×(Int→Option (List Int))×List PM):σ×(Int→Option (List Int))×List PM:=l.foldl (p8 sp n S) x
theorem Jk {σ:Type}(sp:eY σ)(n:Nat)(S:Nat→kY)(l:List (Int×Nat))(m:Int×Nat)(x:σ×(Int→Option (List Int))×List PM):vT sp n S (l ++ [m]) x=p8 sp n S (vT sp n S l x) m:=by
 unfold vT;rw[List.foldl_append];rfl
def yG {σ:Type}(sp:eY σ)(c:aM)(n:Nat)(M:CM σ)(b:Int):σ×(Int→Option (List Int))×List PM:=vT sp n M.S (gV (dF c) M.U b).2.2 (M.s,M.D,[])
noncomputable def b9 (c:aM)(U:US)(b:Int):Int:=if c.f 4≠2 then 0 else if c.f 5≠1 then wP c b 0 else((gV (dF c) U b).2.1:Nat)
def bG {σ:Type}(sp:eY σ)(c:aM)(n:Nat)(M:CM σ)(b:Int):CM σ:=
 if c.f 5=1 then {M with s:=(yG sp c n M b).1,D:=(yG sp c n M b).2.1,U:=(gV (dF c) M.U b).1} else M
def iY {σ:Type}(sp:eY σ)(c:aM)(n:Nat)(M:CM σ)(b:Int):List PM:=if c.f 5=1 then(yG sp c n M b).2.2 else[]
noncomputable def bB {σ:Type}(sp:eY σ)(c:aM)(n:Nat)(M:CM σ)(i:Nat)(wr:Bool)(b:Int)(d:List Int):CM σ:=
 if wr=false∧((bG sp c n M b).D b).isSome=true then {bG sp c n M b with s:=sp.use (bG sp c n M b).s b,ops:=M.ops+1,en:=M.en ++ [⟨i,(M.ops+1:Nat),false,0,((bG sp c n M b).D b).getD []⟩]}
 else {bG sp c n M b with ops:=M.ops+1,S:=aI M.S i ⟨(M.ops+1:Nat),b,b9 c M.U b,wr,if wr=true then d else[]⟩}
noncomputable def dK {σ:Type}(sp:eY σ)(c:aM)(n:Nat)(M:CM σ)(i:Nat)(wr:Bool)(b:Int)(d:List Int):List PM:=
 if wr=false∧((bG sp c n M b).D b).isSome=true then iY sp c n M b
 else iY sp c n M b ++ (if M.up=true then[ie i ⟨(M.ops+1:Nat),b,b9 c M.U b,wr,if wr=true then d else[]⟩]else[])
def fZ {σ:Type}(sp:eY σ)(c:aM)(M:CM σ)(b:Int)(d:List Int)(lev:Int):CM σ:=
 if gp c 0 b d.length lev≠0 then M
 else {M with s:=(sp.add M.s b).1,D:=aT (if(sp.add M.s b).2.2=true then aT M.D (sp.add M.s b).2.1 none else M.D) b (some d)}
noncomputable def mG {σ:Type}(sp:eY σ)(c:aM)(n:Nat)(M:CM σ)(b:Int)(d:List Int)(lev:Int):List PM:=
 if gp c 0 b d.length lev≠0 then[]else if(sp.add M.s b).2.2=true∧c.f 4=2 then eZ n M.S (sp.add M.s b).2.1 (wP c (sp.add M.s b).2.1 1) ((M.D (sp.add M.s b).2.1).getD [])else[]
def df {σ:Type}(sp:eY σ)(c:aM)(M:CM σ)(b:Int)(d:List Int):CM σ:=if c.f 5=1 then(if M.U.v b≠1 then M else fZ sp c M b d 1)else fZ sp c M b d 0
noncomputable def ea {σ:Type}(sp:eY σ)(c:aM)(n:Nat)(M:CM σ)(b:Int)(d:List Int):List PM:=
 if c.f 5=1 then(if M.U.v b≠1 then eZ n M.S b (if M.U.v b=0 then 4 else M.U.v b) d else mG sp c n M b d 1)else mG sp c n M b d 0
def fP {σ:Type}(sp:eY σ)(M:CM σ)(b:Int):CM σ:=if(M.D b).isSome=true then {M with s:=sp.rem M.s b,D:=aT M.D b none} else M
def jP {σ:Type}(n:Nat)(M:CM σ)(m:di):Bool:=
 (decide (m.f 0=5)||decide (m.f 0=6))&&decide (m.f 2<n)&&decide (m.f 4≠0)&&decide ((M.S (m.f 2).toNat).op=m.f 4)&&decide ((M.S (m.f 2).toNat).wr=decide (m.f 0=6))
def kE {σ:Type}(M:CM σ)(m:di)(d:List Int):CM σ:=
 {M with S:=aI M.S (m.f 2).toNat EH,en:=M.en ++ [⟨m.f 2,m.f 4,decide (m.f 0=6),m.f 8,if m.f 0=6 then[]else d⟩]}
def sZ {σ:Type}(M:CM σ)(m:di)(d:List Int):List Int:=if m.f 0=6 then(M.S (m.f 2).toNat).ed else d
def bd {σ:Type}(sp:eY σ)(c:aM)(n:Nat)(M:CM σ)(m:di)(d:List Int):CM σ:=
 if M.up=false∨eF m d.length=false then M
 else if m.f 0=7 then fP sp M (m.f 5)
 else if jP n M m=false then M
 else if m.g=false then kE M m d
 else df sp c (kE M m d) (M.S (m.f 2).toNat).blk (sZ M m d)
noncomputable def bW {σ:Type}(sp:eY σ)(c:aM)(n:Nat)(M:CM σ)(m:di)(d:List Int):List PM:=
 if M.up=false∨eF m d.length=false then[]
 else if m.f 0=7 then[CH 4 0 0 (m.f 5) 0 (m.f 7) []]
 else if jP n M m=false then[]
 else if m.g=false then[]
 else ea sp c n (kE M m d) (M.S (m.f 2).toNat).blk (sZ M m d)
def dx (S:Nat→kY):Nat→List PM
 |0=>[]
 |k+1=>dx S k ++ (if(S k).op≠0 then[ie k (S k)]else[])
def zP {σ:Type}(s0:σ)(M:CM σ):CM σ:={M with s:=s0,D:=fun _=>none,up:=false}
section
open Go.ChangeShapes Go.RowKit Go.WideShapes
def aae:List TypeId:=[193,195,228,225,222,217,230,76]
def aZ.Typ (K:aZ):Prop:=∀(i:K.ι) (s:K.σ) (w:World),K.R i s w→∀k,K.F i k→∀t cs,Box w k t cs→t∈aae
theorem jV.boxes {w:World}{g eb m:Nat}{S:Nat→List Int}(h:jV w g eb m S):(∃cs,Box w g 193 cs)∧∃cs,Box w eb 195 cs:=by
 obtain⟨N,E,hm,_⟩:=h;exact⟨⟨_,hm.1⟩,_,hm.2⟩
theorem jV.Gg {w:World}{g eb m:Nat}{S:Nat→List Int}(h:jV w g eb m S){k:Nat}(hk:k=g∨k=eb){t:TypeId}{cs:Array Value}(hb:Box w k t cs):t=193∨t=195:=by
 obtain⟨⟨c1,h1⟩,c2,h2⟩:=h.boxes;rcases hk with e|e
 ·rw[e]at hb;exact .inl (hb.same h1).1
 ·rw[e]at hb;exact .inr (hb.same h2).1
theorem jV.X7 {w:World}{g eb m:Nat}{S:Nat→List Int}(h:jV w g eb m S){k:Nat}(hk:k=g∨k=eb){t:TypeId}{cs:Array Value}(hb:Box w k t cs):t∈aae:=by
 rcases h.Gg hk hb with e|e<;>rw[e]<;>decide
theorem km {c:aM}{k:Nat}(hP:cK c)(hk:k<3):(aQ c k hP hk).Typ:=by
 refine xP (P:=aZ.Typ) (fun _=>?_) (fun _ _=>?_) (fun _ _=>?_)
 ·intro i s w h j hj t cs hb;have h:wW (c.f 2) (dV c) c.h (eW c.h (dV c)) k i s w:=h;rcases hj with e|e|e|e|e|⟨h0,o,e⟩
  ·rw[e]at hb;rw[(hb.same h.b.aq).1];decide
  ·exact h.b.sp.X7 (.inl e) hb
  ·exact h.b.sp.X7 (.inr e) hb
  ·rw[e]at hb;rw[(hb.same h.b.pl.aq).1];decide
  ·rw[e]at hb;rw[(hb.same h.b.pl.prt).1];decide
  ·obtain⟨cs',h2⟩:=h.b.pl.ht h0 j o e;rw[(hb.same h2).1];decide
 ·intro i s w h j hj t cs hb;have h:jW w i.1 i.2.1 i.2.2 (fE c k) s∧AE (fE c k) s:=h;rcases hj with e|e|e
  ·rw[e]at hb;rw[(hb.same (show Box w i.1 225 _ from h.1.m)).1];decide
  ·exact h.1.sp.X7 (.inl e) hb
  ·exact h.1.sp.X7 (.inr e) hb
 ·intro i s w h j hj t cs hb;have h:oy w i.1 i.2.1 i.2.2 (c.f (9+k)).toNat s∧_:=h;rcases hj with e|e|e
  ·rw[e]at hb;rw[(hb.same h.1.aq).1];decide
  ·exact h.1.sp.X7 (.inl e) hb
  ·exact h.1.sp.X7 (.inr e) hb
structure ZN where
 B:Nat
 N:Nat→Prop
def Sc (Z:ZN)(w:World)(k:Nat):Prop:=k<Z.B∨((∃cs,Box w k 5 cs)∧¬Z.N k)
def cX (Z:ZN)(w:World)(v:Value)(l:List Int):Prop:=nD w v l∧(0<l.length→∀k,aK v k→Sc Z w k)
def Wr (Z:ZN)(S:Nat→Prop)(w:World):Prop:=∀k,k<w.heap.size→S k→Z.B≤k∧(Z.N k∨∀cs,¬Box w k 5 cs)
variable {Z:ZN}{w w':World}{S S':Nat→Prop}{v:Value}{l:List Int}
theorem Wr.off {k:Nat}(hS:Wr Z S w)(hd:Sc Z w k)(hk:k<w.heap.size):¬S k:=fun e=>by
 obtain⟨h1,h2⟩:=hS k hk e;rcases hd with h3|⟨⟨cs,h3⟩,h4⟩
 ·omega
 ·rcases h2 with h2|h2
  ·exact h4 h2
  ·exact h2 cs h3
theorem Sc.aA {k:Nat}(hd:Sc Z w k)(hk:k<w.heap.size)(ho:ag S w w')(hS:Wr Z S w):Sc Z w' k:=by
 have hn:=hS.off hd hk;rcases hd with h3|⟨⟨cs,h3⟩,h4⟩
 ·exact .inl h3
 ·exact .inr ⟨⟨cs,ho.aq h3 hn⟩,h4⟩
theorem cX.aA (h:cX Z w v l)(ho:ag S w w')(hS:Wr Z S w):cX Z w' v l:=
 ⟨h.1.keep ho fun h0 k hk aY=>hS.off (h.2 h0 k hk) aY,fun h0 k hk=>(h.2 h0 k hk).aA (Fp h.1 h0 k hk) ho hS⟩
theorem Wr.non:Wr Z az w:=fun _ _ h=>h.elim
theorem cX.keep (h:cX Z w v l)(ho:ag az w w'):cX Z w' v l:=h.aA ho Wr.non
theorem cX.nil (Z:ZN)(w:World):cX Z w aJ []:=⟨⟨none,0,rfl,dm _,dT _,Src.vK w none⟩,fun h=>absurd h (Nat.lt_irrefl _)⟩
theorem cX.row (h:Row 5 w v (bytes l))(hl:l.length≤140737488355328)(hN:∀k,aK v k→¬Z.N k):cX Z w v l:=
 ⟨h.Yt hl,fun _ k hk=>.inr ⟨h.aq hk,hN k hk⟩⟩
theorem cX.shape (h:cX Z w v l):∃A c,v= .slice A l.length c:=by
 obtain⟨A,c,e,_⟩:=h.1;exact⟨A,c,e⟩
def bg (Z:ZN)(w:World)(base:Nat)(v:Value)(L:List PM):Prop:=
 ∃X:List (PM×Value),X.map Prod.fst=L∧w.ownsRow base 37 11 v X.length (X.flatMap fun p=>(aP p.1.m p.2).toList)∧∀p∈X,cX Z w p.2 p.1.d
def jD (r:nP)(v:Value):List Value:=[ah r.slot,ah r.op,.bool r.wr,ah r.code,v]
def dy (Z:ZN)(w:World)(base:Nat)(v:Value)(L:List nP):Prop:=
 ∃X:List (nP×Value),X.map Prod.fst=L∧w.ownsRow base 58 5 v X.length (X.flatMap fun p=>jD p.1 p.2)∧∀p∈X,cX Z w p.2 p.1.ed
theorem bg.nil (Z:ZN)(w:World)(base:Nat):bg Z w base aJ []:=⟨[],rfl,World.ownsRow_nil _ _ _ _,fun _ h=>by cases h⟩
theorem dy.nil (Z:ZN)(w:World)(base:Nat):dy Z w base aJ []:=⟨[],rfl,World.ownsRow_nil _ _ _ _,fun _ h=>by cases h⟩
theorem rR{P:Prop}(h:P:=by
 obtain⟨X,h1,h2,h3⟩:=h;exact⟨X,h1,bk h2 ho hn,fun p hp=>(h3 p hp).aA ho hS⟩):P:=h
theorem bg.aA {base:Nat}{L:List PM}(h:bg Z w base v L)(ho:ag S w w')(hS:Wr Z S w)(hn:∀k,aK v k→¬S k):bg Z w' base v L:=by
 exact rR
theorem dy.aA {base:Nat}{L:List nP}(h:dy Z w base v L)(ho:ag S w w')(hS:Wr Z S w)(hn:∀k,aK v k→¬S k):dy Z w' base v L:=by
 exact rR
theorem bg.keep {base:Nat}{L:List PM}(h:bg Z w base v L)(ho:ag az w w'):bg Z w' base v L:=h.aA ho Wr.non fun _ _=>id
theorem dy.keep {base:Nat}{L:List nP}(h:dy Z w base v L)(ho:ag az w w'):dy Z w' base v L:=h.aA ho Wr.non fun _ _=>id
theorem Ji {base base':Nat}{e:TypeId}{size n:Nat}{xs:List Value}(h:w.ownsRow base e size v n xs)(hb:base'≤base):w.ownsRow base' e size v n xs:=by
 refine⟨h.1,?_⟩;rcases h.2 with h2|⟨g,cap,cur,h1,h2,h3⟩
 ·exact .inl h2
 ·exact .inr ⟨g,cap,cur,h1,Nat.le_trans hb h2,h3⟩
theorem bg.low {base base':Nat}{L:List PM}(h:bg Z w base v L)(hb:base'≤base):bg Z w base' v L:=by
 obtain⟨X,h1,h2,h3⟩:=h;exact⟨X,h1,Ji h2 hb,h3⟩
theorem Aa {base:Nat}{e:TypeId}{size n:Nat}{xs:List Value}(h:w.ownsRow base e size v n xs){k:Nat}(hk:aK v k):base≤k∧∃cs,Box w k e cs:=by
 rcases h.2 with⟨rfl,_⟩|⟨g,cap,cur,rfl,hb,hg,_⟩
 ·exact(a7 hk).elim
 ·have e:=aG.1 hk;subst e;exact⟨hb,cur,hg⟩
theorem bg.aq {base:Nat}{L:List PM}(h:bg Z w base v L){k:Nat}(hk:aK v k):base≤k∧∃cs,Box w k 37 cs:=by
 obtain⟨X,_,h2,_⟩:=h;exact Aa h2 hk
theorem dy.aq {base:Nat}{L:List nP}(h:dy Z w base v L){k:Nat}(hk:aK v k):base≤k∧∃cs,Box w k 58 cs:=by
 obtain⟨X,_,h2,_⟩:=h;exact Aa h2 hk
theorem qN{P:Prop}(h:P:=by
 obtain⟨X,h1,h2,_⟩:=h;obtain⟨A,c,e,h3,h4⟩:=cz h2;subst h1;rw[List.length_map];exact⟨A,c,e,h3,h4⟩):P:=h
theorem bg.shape {base:Nat}{L:List PM}(h:bg Z w base v L):∃A c,v= .slice A L.length c∧L.length≤c∧c≤maxLen:=by
 exact qN
theorem dy.shape {base:Nat}{L:List nP}(h:dy Z w base v L):∃A c,v= .slice A L.length c∧L.length≤c∧c≤maxLen:=by
 exact qN
theorem qY{P:Prop}(h:P:=by
 rcases List.mem_append.1 hq with h1|h1
 ·exact hd q h1
 ·rw[List.mem_singleton.1 h1];exact hp):P:=h
theorem bg.app {base:Nat}{v':Value}{X:List (PM×Value)}{L:List PM}(p:PM×Value)(h:w.ownsRow base 37 11 v (X.length+1) ((X.flatMap fun p=>(aP p.1.m p.2).toList) ++ (aP p.1.m p.2).toList))(hL:X.map Prod.fst=L)(hd:∀q∈X,cX Z w q.2 q.1.d)(hp:cX Z w p.2 p.1.d):
 bg Z w base v (L ++ [p.1]):=by
 refine⟨X ++ [p],by rw[List.map_append,hL];rfl,?_,fun q hq=>?_⟩
 ·rw[List.length_append,List.flatMap_append];simpa using h
 ·exact qY
theorem dy.app {base:Nat}{X:List (nP×Value)}{L:List nP}(p:nP×Value)(h:w.ownsRow base 58 5 v (X.length+1) ((X.flatMap fun p=>jD p.1 p.2) ++ jD p.1 p.2))(hL:X.map Prod.fst=L)(hd:∀q∈X,cX Z w q.2 q.1.ed)(hp:cX Z w p.2 p.1.ed):
 dy Z w base v (L ++ [p.1]):=by
 refine⟨X ++ [p],by rw[List.map_append,hL];rfl,?_,fun q hq=>?_⟩
 ·rw[List.length_append,List.flatMap_append];simpa using h
 ·exact qY
structure cH (K:aZ) where
 i:K.ι
 l:Nat
 cb:Nat
 mb:Nat
 u:Nat
 g:Nat
 eb:Nat
 sb:Nat
 hv:Value
 pz:Value
 en:Value
 dv:Nat→Value
 D:Int→Option oM
def sR (s:kY)(d:Value):Dg:=⟨s.op,s.blk,s.lev,s.wr,d⟩
def b6 {K:aZ}(a:cH K):Nat→Prop:=fun k=>K.F a.i k∨k=a.cb∨k=a.mb∨k=a.u∨k=a.g∨k=a.eb∨k=a.l∨k=a.sb∨aK a.en k
def cN (c:aM):Nat:=(c.f 1).toNat
structure bm (Z:ZN)(K:aZ)(c:aM)(a:cH K)(M:CM K.σ)(w:World):Prop where
 aq:Box w a.l 80 (br c a.pz a.cb (aO a.u) (aU a.sb (cN c) (cN c)) (M.ops:Nat) M.up a.en)
 slots:Box w a.sb 92 (mC (cN c) fun j=>sR (M.S j) (a.dv j))
 fw:∀j,j<cN c→cX Z w (a.dv j) (M.S j).ed
 j0:cP K a.i w a.cb a.mb c a.hv 1 M.s a.D
 dd:∀b,M.D b=(a.D b).map Prod.fst
 dn:∀b l v,a.D b=some (l,v)→∀k,aK v k→¬Z.N k
 AV:kF w a.u a.g a.eb (dF c) M.U
 bw:∃A n m,a.pz= .slice A n m∧aW w A n m c.h∧(0<c.h.length→∀k,aK a.pz k→¬b6 a k)
 en:dy Z w Z.B a.en M.en
 fs:∀k,(K.F a.i k∨(0<c.h.length∧aK a.hv k))→k≠a.l∧k≠a.sb∧k≠a.u∧k≠a.g∧k≠a.eb∧¬aK a.en k
 lo:∀k,b6 a k→Z.B≤k
 AX:∀k,Z.N k→k<w.heap.size
 fu:K.Typ
variable {K:aZ}{c:aM}{a:cH K}{M:CM K.σ}
theorem bm.right (h:bm Z K c a M w):cK c:=h.j0.right
theorem bm.nn (h:bm Z K c a M w):1≤cN c∧cN c≤4∧((cN c:Nat):Int)=c.f 1:=by
 have:=h.right.p1;unfold cN;omega
def afq:List TypeId:=aae ++ [126,135,80,92,58]
theorem bm.Gg (h:bm Z K c a M w){k:Nat}(hk:b6 a k){t:TypeId}{cs:Array Value}(hb:Box w k t cs):t∈afq:=by
 obtain⟨lev,dG,hr,_,_⟩:=h.AV;rcases hk with e|e|e|e|e|e|e|e|e
 ·exact List.mem_append_left _ (h.fu _ _ _ h.j0.ord k e t cs hb)
 ·rw[e]at hb;rw[(hb.same h.j0.aq).1];decide
 ·exact absurd e (h.j0.map.ne hb)
 ·rw[e]at hb;rw[(hb.same hr.aq).1];decide
 ·exact List.mem_append_left _ (hr.sp.X7 (.inl e) hb)
 ·exact List.mem_append_left _ (hr.sp.X7 (.inr e) hb)
 ·rw[e]at hb;rw[(hb.same h.aq).1];decide
 ·rw[e]at hb;rw[(hb.same h.slots).1];decide
 ·obtain⟨_,cs',h2⟩:=h.en.aq e;rw[(hb.same h2).1];decide
theorem bm.noU (h:bm Z K c a M w){k:Nat}(hk:b6 a k):∀cs,¬Box w k 5 cs:=fun cs hb=>absurd (h.Gg hk hb) aD
theorem bm.wr (h:bm Z K c a M w):Wr Z (b6 a) w:=fun k _ hk=>⟨h.lo k hk,.inr (h.noU hk)⟩
theorem bm.kB (h:bm Z K c a M w){k:Nat}(hk:b6 a k):k<w.heap.size:=by
 obtain⟨lev,dG,hr,_,_⟩:=h.AV;rcases hk with e|e|e|e|e|e|e|e|e
 ·exact(K.oc a.i).lt h.j0.ord k e
 ·rw[e];exact h.j0.aq.lt
 ·rw[e];exact h.j0.map.lt
 ·rw[e];exact hr.aq.lt
 ·rw[e];exact hr.sp.Qc.1
 ·rw[e];exact hr.sp.Qc.2
 ·rw[e];exact h.aq.lt
 ·rw[e];exact h.slots.lt
 ·obtain⟨_,cs',h2⟩:=h.en.aq e;exact h2.lt
theorem bm.off (h:bm Z K c a M w)(ho:ag S w w')(hS:Wr Z S w)(hW:∀k,b6 a k→¬S k)(hH:0<c.h.length→∀k,aK a.hv k∨aK a.pz k→¬S k):bm Z K c a M w' where
 aq:=ho.aq h.aq (hW _ (.inr (.inr (.inr (.inr (.inr (.inr (.inl rfl))))))))
 slots:=ho.aq h.slots (hW _ (.inr (.inr (.inr (.inr (.inr (.inr (.inr (.inl rfl)))))))))
 fw:=fun j hj=>(h.fw j hj).aA ho hS
 j0:=h.j0.off ho (fun k hk=>hW k (.inl hk)) (hW _ (.inr (.inl rfl))) (hW _ (.inr (.inr (.inl rfl)))) (fun b l v hb k hk=>hS.off (.inr ⟨(h.j0.ed b l v hb).row.2 k hk,h.dn b l v hb k hk⟩) (h.j0.Zr hb k hk)) fun h0 k hk=>hH h0 k (.inl hk)
 dd:=h.dd
 dn:=h.dn
 AV:=h.AV.aA ho (hW _ (.inr (.inr (.inr (.inl rfl))))) (hW _ (.inr (.inr (.inr (.inr (.inl rfl)))))) (hW _ (.inr (.inr (.inr (.inr (.inr (.inl rfl)))))))
 bw:=by
  obtain⟨A,n,m,e,h1,h2⟩:=h.bw;exact⟨A,n,m,e,h1.mH ho fun h0 k hk=>hH h0 k (.inr (e▸hk)),h2⟩
 en:=h.en.aA ho hS fun k hk=>hW k (.inr (.inr (.inr (.inr (.inr (.inr (.inr (.inr hk))))))))
 fs:=h.fs
 lo:=h.lo
 AX:=fun k hk=>Nat.lt_of_lt_of_le (h.AX k hk) ho.size
 fu:=h.fu
theorem bm.keep (h:bm Z K c a M w)(ho:ag az w w'):bm Z K c a M w':=h.off ho Wr.non (fun _ _=>id) fun _ _ _=>id
theorem bm.oc (h:bm Z K c a M w){j:Nat}{v:Value}(hj:(br c a.pz a.cb (aO a.u) (aU a.sb (cN c) (cN c)) (M.ops:Nat) M.up a.en)[j]? =some v):aE w a.l j v:=h.aq.af hj
def tg (K:aZ)(i:K.ι)(cb mb:Nat):Nat→Prop:=fun j=>K.F i j∨j=cb∨j=mb
structure CAp {K:aZ}(a:cH K):Prop where
 ZZ:∀k,tg K a.i a.cb a.mb k→k≠a.l
 c_s:∀k,tg K a.i a.cb a.mb k→k≠a.sb
 c_u:∀k,tg K a.i a.cb a.mb k→k≠a.u
 c_g:∀k,tg K a.i a.cb a.mb k→k≠a.g
 c_e:∀k,tg K a.i a.cb a.mb k→k≠a.eb
 c_n:∀k,tg K a.i a.cb a.mb k→¬aK a.en k
 l_s:a.l≠a.sb
 l_u:a.l≠a.u
 l_g:a.l≠a.g
 l_e:a.l≠a.eb
 Zs:¬aK a.en a.l
 s_u:a.sb≠a.u
 s_g:a.sb≠a.g
 s_e:a.sb≠a.eb
 s_n:¬aK a.en a.sb
 u_n:¬aK a.en a.u
 g_n:¬aK a.en a.g
 e_n:¬aK a.en a.eb
variable {Z:ZN}{w w':World}{S:Nat→Prop}{K:aZ}{c:aM}{a:cH K}{M:CM K.σ}
theorem bm.tC (h:bm Z K c a M w){k:Nat}{t:TypeId}{cs:Array Value}(hb:Box w k t cs)(ht:58≠t):¬aK a.en k:=fun e=>by
 obtain⟨_,cs',h2⟩:=h.en.aq e;exact(h2.off hb ht) rfl
theorem bm.ap (h:bm Z K c a M w):CAp a:=by
 obtain⟨lev,dG,hr,_,_⟩:=h.AV;obtain⟨⟨cg,hg⟩,ce,he⟩:=hr.sp.boxes;have hm:=h.j0.map;exact {
  ZZ:=fun k hk=>by
   rcases hk with e|e|e
   ·exact(h.fs k (.inl e)).1
   ·rw[e];exact(h.j0.aq.off h.aq aD)
   ·rw[e];exact(hm.ne h.aq).symm
  c_s:=fun k hk=>by
   rcases hk with e|e|e
   ·exact(h.fs k (.inl e)).2.1
   ·rw[e];exact(h.j0.aq.off h.slots aD)
   ·rw[e];exact(hm.ne h.slots).symm
  c_u:=fun k hk=>by
   rcases hk with e|e|e
   ·exact(h.fs k (.inl e)).2.2.1
   ·rw[e];exact(h.j0.aq.off hr.aq aD)
   ·rw[e];exact(hm.ne hr.aq).symm
  c_g:=fun k hk=>by
   rcases hk with e|e|e
   ·exact(h.fs k (.inl e)).2.2.2.1
   ·rw[e];exact(h.j0.aq.off hg aD)
   ·rw[e];exact(hm.ne hg).symm
  c_e:=fun k hk=>by
   rcases hk with e|e|e
   ·exact(h.fs k (.inl e)).2.2.2.2.1
   ·rw[e];exact(h.j0.aq.off he aD)
   ·rw[e];exact(hm.ne he).symm
  c_n:=fun k hk=>by
   rcases hk with e|e|e
   ·exact(h.fs k (.inl e)).2.2.2.2.2
   ·rw[e];exact h.tC h.j0.aq aD
   ·rw[e];exact fun e2=>by
     obtain⟨_,cs',h2⟩:=h.en.aq e2;exact(hm.ne h2) rfl
  l_s:=h.aq.off h.slots aD
  l_u:=h.aq.off hr.aq aD
  l_g:=h.aq.off hg aD
  l_e:=h.aq.off he aD
  Zs:=h.tC h.aq aD
  s_u:=h.slots.off hr.aq aD
  s_g:=h.slots.off hg aD
  s_e:=h.slots.off he aD
  s_n:=h.tC h.slots aD
  u_n:=h.tC hr.aq aD
  g_n:=h.tC hg aD
  e_n:=h.tC he aD}
theorem tg.uT {k:Nat}(hk:tg K a.i a.cb a.mb k):b6 a k:=by
 rcases hk with e|e|e
 ·exact .inl e
 ·exact .inr (.inl e)
 ·exact .inr (.inr (.inl e))
theorem bm.cache (h:bm Z K c a M w){s':K.σ}{D':Int→Option oM}{Dp:Int→Option (List Int)}(hc:cP K a.i w' a.cb a.mb c a.hv 1 s' D')(ho:ag (tg K a.i a.cb a.mb) w w')(hdp:∀b,Dp b=(D' b).map Prod.fst)
 (hD:∀b l v,D' b=some (l,v)→∀k,aK v k→¬Z.N k):bm Z K c {a with D:=D'} {M with s:=s',D:=Dp} w':=by
 have hS:Wr Z (tg K a.i a.cb a.mb) w:=fun k hk hs=>h.wr k hk hs.uT
 have ap:=h.ap;exact {
  aq:=ho.aq h.aq fun e=>ap.ZZ _ e rfl
  slots:=ho.aq h.slots fun e=>ap.c_s _ e rfl
  fw:=fun j hj=>(h.fw j hj).aA ho hS
  j0:=hc
  dd:=hdp
  dn:=hD
  AV:=h.AV.aA ho (fun e=>ap.c_u _ e rfl) (fun e=>ap.c_g _ e rfl) (fun e=>ap.c_e _ e rfl)
  bw:=by
   obtain⟨A,n,m,e,h1,h2⟩:=h.bw;exact⟨A,n,m,e,h1.mH ho fun h0 k hk e2=>h2 h0 k (e▸hk) e2.uT,h2⟩
  en:=h.en.aA ho hS fun k hk e=>ap.c_n _ e hk
  fs:=h.fs
  lo:=h.lo
  AX:=fun k hk=>Nat.lt_of_lt_of_le (h.AX k hk) ho.size
  fu:=h.fu}
theorem qs{P:Prop}(h:P:=by
 obtain⟨A,n,m,e,h1,h2⟩:=h.bw;exact⟨A,n,m,e,h1.mH ho fun h0 k hk e2=>h2 h0 k (e▸hk) (hW k e2),h2⟩):P:=h
theorem bm.aeP (h:bm Z K c a M w){U':US}(hu:kF w' a.u a.g a.eb (dF c) U')(ho:ag (s8 a.u a.g a.eb) w w'):bm Z K c a {M with U:=U'} w':=by
 have hW:∀k,s8 a.u a.g a.eb k→b6 a k:=fun k hk=>by
  rcases hk with e|e|e
  ·exact .inr (.inr (.inr (.inl e)))
  ·exact .inr (.inr (.inr (.inr (.inl e))))
  ·exact .inr (.inr (.inr (.inr (.inr (.inl e)))))
 have hS:Wr Z (s8 a.u a.g a.eb) w:=fun k hk hs=>h.wr k hk (hW k hs)
 have ap:=h.ap;have hC:∀k,tg K a.i a.cb a.mb k→¬s8 a.u a.g a.eb k:=fun k hk e=>by
  rcases e with e|e|e
  ·exact ap.c_u k hk e
  ·exact ap.c_g k hk e
  ·exact ap.c_e k hk e
 exact {
  aq:=ho.aq h.aq fun e=>by
   rcases e with e|e|e
   ·exact ap.l_u e
   ·exact ap.l_g e
   ·exact ap.l_e e
  slots:=ho.aq h.slots fun e=>by
   rcases e with e|e|e
   ·exact ap.s_u e
   ·exact ap.s_g e
   ·exact ap.s_e e
  fw:=fun j hj=>(h.fw j hj).aA ho hS
  j0:=h.j0.off ho (fun k hk=>hC k (.inl hk)) (hC _ (.inr (.inl rfl))) (hC _ (.inr (.inr rfl))) (fun b l v hb k hk=>hS.off (.inr ⟨(h.j0.ed b l v hb).row.2 k hk,h.dn b l v hb k hk⟩) (h.j0.Zr hb k hk)) fun h0 k hk e=>by
   obtain⟨_,_,h3,h4,h5,_⟩:=h.fs k (.inr ⟨h0,hk⟩);rcases e with e|e|e
   ·exact h3 e
   ·exact h4 e
   ·exact h5 e
  dd:=h.dd
  dn:=h.dn
  AV:=hu
  bw:=by
   exact qs
  en:=h.en.aA ho hS fun k hk e=>by
   rcases e with e|e|e
   ·exact ap.u_n (e▸hk)
   ·exact ap.g_n (e▸hk)
   ·exact ap.e_n (e▸hk)
  fs:=h.fs
  lo:=h.lo
  AX:=fun k hk=>Nat.lt_of_lt_of_le (h.AX k hk) ho.size
  fu:=h.fu}
theorem mA{P:Prop}(h:P:=by rw[show k=a.l from hs];exact .inr (.inr (.inr (.inr (.inr (.inr (.inl rfl))))))):P:=h
theorem bm.YO (h:bm Z K c a M w)(ho:ag (ar a.l) w w'):Box w' a.sb 92 (mC (cN c) fun j=>sR (M.S j) (a.dv j))∧(∀j,j<cN c→cX Z w' (a.dv j) (M.S j).ed)∧cP K a.i w' a.cb a.mb c a.hv 1 M.s a.D∧kF w' a.u a.g a.eb (dF c) M.U∧
 (∃A n m,a.pz= .slice A n m∧aW w' A n m c.h∧(0<c.h.length→∀k,aK a.pz k→¬b6 a k))∧dy Z w' Z.B a.en M.en:=by
 have hS:Wr Z (ar a.l) w:=fun k hk hs=>h.wr k hk mA
 have ap:=h.ap;refine⟨ho.aq h.slots fun e=>ap.l_s e.symm,fun j hj=>(h.fw j hj).aA ho hS,h.j0.off ho (fun k hk e=>ap.ZZ k (.inl hk) e) (fun e=>ap.ZZ _ (.inr (.inl rfl)) e) (fun e=>ap.ZZ _ (.inr (.inr rfl)) e) (fun b l v hb k hk=>hS.off (.inr ⟨(h.j0.ed b l v hb).row.2 k hk,h.dn b l v hb k hk⟩) (h.j0.Zr hb k hk)) (fun h0 k hk e=>(h.fs k (.inr ⟨h0,hk⟩)).1 e),
  h.AV.aA ho (fun e=>ap.l_u e.symm) (fun e=>ap.l_g e.symm) (fun e=>ap.l_e e.symm),?_,h.en.aA ho hS fun k hk e=>ap.Zs (by rw[←show k=a.l from e];exact hk)⟩
 obtain⟨A,n,m,e,h1,h2⟩:=h.bw;exact⟨A,n,m,e,h1.mH ho fun h0 k hk e2=>h2 h0 k (e▸hk) (by rw[show k=a.l from e2];exact .inr (.inr (.inr (.inr (.inr (.inr (.inl rfl))))))),h2⟩
theorem Cy (c:aM)(hv:Value)(cb:Nat)(u:Value)(sl:Value)(ops acr:Int)(up:Bool)(en:Value):(br c hv cb u sl ops up en).setIfInBounds 20 (ah acr)=br c hv cb u sl acr up en:=by
 unfold br ak;rfl
theorem zw (c:aM)(hv:Value)(cb:Nat)(u:Value)(sl:Value)(ops:Int)(up up':Bool)(en:Value):(br c hv cb u sl ops up en).setIfInBounds 21 (.bool up')=br c hv cb u sl ops up' en:=by
 unfold br ak;rfl
theorem Et (c:aM)(hv:Value)(cb:Nat)(u:Value)(sl:Value)(ops:Int)(up:Bool)(en en':Value):(br c hv cb u sl ops up en).setIfInBounds 22 en'=br c hv cb u sl ops up en':=by
 unfold br ak;rfl
theorem bm.j (h:bm Z K c a M w)(j:Nat)(v:Value):ag (ar a.l) w (w.setCell ⟨a.l,j,none⟩ v):=(ag.aj (ar a.l) w).setCell (p:=⟨a.l,j,none⟩) (.inl (show ar a.l a.l from rfl)) _
theorem bm.KP (h:bm Z K c a M w)(n:Nat):bm Z K c a {M with ops:=n} (w.setCell ⟨a.l,20,none⟩ (ah n)):=by
 obtain⟨h1,h2,h3,h4,h5,h6⟩:=h.YO (h.j 20 (ah n));have hb:=h.aq.store 20 (ah n);rw[Cy]at hb;exact {aq:=hb,slots:=h1,fw:=h2,j0:=h3,dd:=h.dd,dn:=h.dn,AV:=h4,bw:=h5,en:=h6,fs:=h.fs,lo:=h.lo,AX:=fun k hk=>Nat.lt_of_lt_of_le (h.AX k hk) (h.j 20 (ah n)).size,fu:=h.fu}
theorem bm.MG (h:bm Z K c a M w)(b:Bool):bm Z K c a {M with up:=b} (w.setCell ⟨a.l,21,none⟩ (.bool b)):=by
 obtain⟨h1,h2,h3,h4,h5,h6⟩:=h.YO (h.j 21 (.bool b));have hb:=h.aq.store 21 (.bool b);rw[zw]at hb;exact {aq:=hb,slots:=h1,fw:=h2,j0:=h3,dd:=h.dd,dn:=h.dn,AV:=h4,bw:=h5,en:=h6,fs:=h.fs,lo:=h.lo,AX:=fun k hk=>Nat.lt_of_lt_of_le (h.AX k hk) (h.j 21 (.bool b)).size,fu:=h.fu}
theorem bm.pH (h:bm Z K c a M w){ev:Value}{E:List nP}(ho:ag (aK a.en) w w')(he:dy Z w' Z.B ev E)(hv:∀k,aK ev k→aK a.en k∨w.heap.size≤k):
 bm Z K c {a with en:=ev} {M with en:=E} (w'.setCell ⟨a.l,22,none⟩ ev)∧ag (b6 a) w (w'.setCell ⟨a.l,22,none⟩ ev):=by
 have ap:=h.ap;have bp:ag (fun k=>aK a.en k∨k=a.l) w (w'.setCell ⟨a.l,22,none⟩ ev):=(ho.mono fun k hk=>.inl (.inl hk)).setCell (p:=⟨a.l,22,none⟩) (.inl (.inr rfl)) _;have hW:∀k,(aK a.en k∨k=a.l)→b6 a k:=fun k hk=>by
  rcases hk with e|e
  ·exact .inr (.inr (.inr (.inr (.inr (.inr (.inr (.inr e)))))))
  ·exact .inr (.inr (.inr (.inr (.inr (.inr (.inl e))))))
 have hS:Wr Z (fun k=>aK a.en k∨k=a.l) w:=fun k hk hs=>h.wr k hk (hW k hs)
 have Bc:=ho.aq h.aq ap.Zs;have hb:=Bc.store 22 ev;rw[Et]at hb;have j2:ag (ar a.l) w' (w'.setCell ⟨a.l,22,none⟩ ev):=(ag.aj (ar a.l) w').setCell (p:=⟨a.l,22,none⟩) (.inl (show ar a.l a.l from rfl)) _;have hSl:Wr Z (ar a.l) w':=fun k hk hs=>by
  have e:k=a.l:=hs;subst e;exact⟨h.lo _ (.inr (.inr (.inr (.inr (.inr (.inr (.inl rfl))))))),.inr fun cs dX=>(Bc.off dX aD) rfl⟩
 have hC:∀k,tg K a.i a.cb a.mb k→¬(aK a.en k∨k=a.l):=fun k hk e=>e.elim (ap.c_n k hk) (ap.ZZ k hk)
 have hn:∀k,(K.F a.i k∨(0<c.h.length∧aK a.hv k))→¬aK ev k:=fun k hk e=>by
  rcases hv k e with e2|e2
  ·exact(h.fs k hk).2.2.2.2.2 e2
  ·rcases hk with hk|⟨h0,hk⟩
   ·have:=(K.oc a.i).lt h.j0.ord k hk;omega
   ·have:=h.j0.ltH h0 k hk;omega
 refine⟨{
  aq:=hb
  slots:=bp.aq h.slots fun e=>e.elim ap.s_n fun e=>ap.l_s e.symm
  fw:=fun j hj=>(h.fw j hj).aA bp hS
  j0:=h.j0.off bp (fun k hk=>hC k (.inl hk)) (hC _ (.inr (.inl rfl))) (hC _ (.inr (.inr rfl))) (fun b l v hb k hk=>hS.off (.inr ⟨(h.j0.ed b l v hb).row.2 k hk,h.dn b l v hb k hk⟩) (h.j0.Zr hb k hk)) fun h0 k hk e=>e.elim (h.fs k (.inr ⟨h0,hk⟩)).2.2.2.2.2 (h.fs k (.inr ⟨h0,hk⟩)).1
  dd:=h.dd
  dn:=h.dn
  AV:=h.AV.aA bp (fun e=>e.elim ap.u_n fun e=>ap.l_u e.symm) (fun e=>e.elim ap.g_n fun e=>ap.l_g e.symm) (fun e=>e.elim ap.e_n fun e=>ap.l_e e.symm)
  bw:=by
   obtain⟨A,n,m,e,h1,h2⟩:=h.bw;refine⟨A,n,m,e,h1.mH bp fun h0 k hk e2=>h2 h0 k (e▸hk) (hW k e2),fun h0 k hk e2=>?_⟩;rcases e2 with e2|e2|e2|e2|e2|e2|e2|e2|e2
   ·exact h2 h0 k hk (.inl e2)
   ·exact h2 h0 k hk (.inr (.inl e2))
   ·exact h2 h0 k hk (.inr (.inr (.inl e2)))
   ·exact h2 h0 k hk (.inr (.inr (.inr (.inl e2))))
   ·exact h2 h0 k hk (.inr (.inr (.inr (.inr (.inl e2)))))
   ·exact h2 h0 k hk (.inr (.inr (.inr (.inr (.inr (.inl e2))))))
   ·exact h2 h0 k hk (.inr (.inr (.inr (.inr (.inr (.inr (.inl e2)))))))
   ·exact h2 h0 k hk (.inr (.inr (.inr (.inr (.inr (.inr (.inr (.inl e2))))))))
   ·rcases hv k e2 with e3|e3
    ·exact h2 h0 k hk (.inr (.inr (.inr (.inr (.inr (.inr (.inr (.inr e3))))))))
    ·have:=h1.lt h0 (e▸hk);omega
  en:=he.aA j2 hSl fun k hk e=>by
   obtain⟨_,cs',h7⟩:=he.aq hk;exact(h7.off Bc aD) (show k=a.l from e)
  fs:=fun k hk=>by
   obtain⟨f1,f2,f3,f4,f5,_⟩:=h.fs k hk;exact⟨f1,f2,f3,f4,f5,hn k hk⟩
  lo:=fun k hk=>by
   rcases hk with e2|e2|e2|e2|e2|e2|e2|e2|e2
   ·exact h.lo k (.inl e2)
   ·exact h.lo k (.inr (.inl e2))
   ·exact h.lo k (.inr (.inr (.inl e2)))
   ·exact h.lo k (.inr (.inr (.inr (.inl e2))))
   ·exact h.lo k (.inr (.inr (.inr (.inr (.inl e2)))))
   ·exact h.lo k (.inr (.inr (.inr (.inr (.inr (.inl e2))))))
   ·exact h.lo k (.inr (.inr (.inr (.inr (.inr (.inr (.inl e2)))))))
   ·exact h.lo k (.inr (.inr (.inr (.inr (.inr (.inr (.inr (.inl e2))))))))
   ·exact(he.aq e2).1
  AX:=fun k hk=>Nat.lt_of_lt_of_le (h.AX k hk) bp.size
  fu:=h.fu},bp.mono fun k hk=>.inl (hW k hk)⟩
theorem um (n:Nat)(S:Nat→Dg){b j:Nat}(hb:b<n)(hj:j<5)(v:Value)(s:Dg)(hv:∀i,i<5→Rv s i=if i=j then v else Rv (S b) i):(mC n S).setIfInBounds (b*5+j) v=mC n (aI S b s):=by
 refine Array.ext (by simp[mC]) fun i h1 h2=>?_
 have hi:i<n*5:=by simpa [mC] using h2
 rw[Array.getElem_setIfInBounds (by simpa [mC] using hi)];simp only[mC,Array.getElem_ofFn]
 by_cases e:b*5+j=i
 ·subst e;have h3:(b*5+j) / 5=b:=ao;have h4:(b*5+j) % 5=j:=ao;rw[if_pos rfl,h3,h4,show aI S b s b=s by simp[aI],hv j hj,if_pos rfl]
 ·rw[if_neg e]
  by_cases e2:i / 5=b
  ·have h4:i % 5≠j:=ao;rw[e2,show aI S b s b=s by simp[aI],hv (i % 5) (Nat.mod_lt _ aD),if_neg h4]
  ·rw[show aI S b s (i / 5)=S (i / 5) by unfold aI;rw[if_neg e2]]
theorem q6{P:Prop}(h:P:=by
 funext j
 unfold aI
 by_cases e:j=i
 ·rw[if_pos e,if_pos e,if_pos e]
 ·rw[if_neg e,if_neg e,if_neg e]):P:=h
theorem bm.vi (h:bm Z K c a M w){i:Nat}{s:kY}{d:Value}(ho:ag (ar a.sb) w w')(hb:Box w' a.sb 92 (mC (cN c) (aI (fun j=>sR (M.S j) (a.dv j)) i (sR s d))))(hd:cX Z w d s.ed):bm Z K c {a with dv:=aI a.dv i d} {M with S:=aI M.S i s} w':=by
 have hS:Wr Z (ar a.sb) w:=fun k hk hs=>h.wr k hk (by rw[show k=a.sb from hs];exact .inr (.inr (.inr (.inr (.inr (.inr (.inr (.inl rfl))))))))
 have ap:=h.ap;exact {
  aq:=ho.aq h.aq fun e=>ap.l_s e
  slots:=by
   have:(fun j=>sR (aI M.S i s j) (aI a.dv i d j))=aI (fun j=>sR (M.S j) (a.dv j)) i (sR s d):=by
    exact q6
   show Box w' a.sb _ (mC (cN c) fun j=>sR (aI M.S i s j) (aI a.dv i d j))
   rw[this];exact hb
  fw:=fun j hj=>by
   show cX Z w' (aI a.dv i d j) (aI M.S i s j).ed
   unfold aI
   by_cases e:j=i
   ·rw[if_pos e,if_pos e];exact hd.aA ho hS
   ·rw[if_neg e,if_neg e];exact(h.fw j hj).aA ho hS
  j0:=h.j0.off ho (fun k hk e=>ap.c_s k (.inl hk) e) (fun e=>ap.c_s _ (.inr (.inl rfl)) e) (fun e=>ap.c_s _ (.inr (.inr rfl)) e) (fun b l v hb k hk=>hS.off (.inr ⟨(h.j0.ed b l v hb).row.2 k hk,h.dn b l v hb k hk⟩) (h.j0.Zr hb k hk)) (fun h0 k hk e=>(h.fs k (.inr ⟨h0,hk⟩)).2.1 e)
  dd:=h.dd
  dn:=h.dn
  AV:=h.AV.aA ho (fun e=>ap.s_u e.symm) (fun e=>ap.s_g e.symm) (fun e=>ap.s_e e.symm)
  bw:=by
   obtain⟨A,n,m,e,h1,h2⟩:=h.bw;exact⟨A,n,m,e,h1.mH ho fun h0 k hk e2=>h2 h0 k (e▸hk) (by rw[show k=a.sb from e2];exact .inr (.inr (.inr (.inr (.inr (.inr (.inr (.inl rfl)))))))),h2⟩
  en:=h.en.aA ho hS fun k hk e=>ap.s_n (by rw[←show k=a.sb from e];exact hk)
  fs:=h.fs
  lo:=h.lo
  AX:=fun k hk=>Nat.lt_of_lt_of_le (h.AX k hk) ho.size
  fu:=h.fu}
def sY (s:kY)(A:Option Addr)(n c:Nat):Array Value:=#[ah s.op,ah s.blk,ah s.lev,.bool s.wr,.slice A n c]
def ET (s:kY)(b:Int):Bool:=decide (s.op≠0)&&decide (s.blk=b)
theorem Xi (n:Nat)(S:Nat→kY)(b:Int):CI n S b=(List.range n).any fun i=>ET (S i) b:=rfl
def Ig (n:Nat)(S:Nat→kY)(p:kY→Bool)(w:World)(i:Value)(wr:World):Prop:=∃k:Nat,k≤n∧i=ah k∧(∀j,j<k→p (S j)=false)∧ag az w wr
theorem bJ {w:World}{sb n:Nat}{t:TypeId}{S:Nat→kY}{dv:Nat→Value}(h:Box w sb t (mC n fun j=>sR (S j) (dv j))){k:Nat}(hk:k<n){A:Option Addr}{m c:Nat}(hd:dv k= .slice A m c):
 aw w sb (k*5) ((S k).op)∧aw w sb (k*5+1) ((S k).blk)∧aw w sb (k*5+2) ((S k).lev)∧aE w sb (k*5+3) (.bool (S k).wr)∧aE w sb (k*5+4) (.slice A m c):=by
 refine⟨h.af (i:=k*5) (yN n _ hk (by decide:0<5)),h.af (yN n _ hk aD),h.af (yN n _ hk aD),h.af (yN n _ hk aD),?_⟩;rw[←hd];exact h.af (yN n _ hk (by decide:4<5))
section
theorem XV (s:kY)(A:Option Addr)(n c bx:Nat)(b:Int)(w:World)(hx:aw w bx 0 b):
 Calls Tryz.prog 131 #[.agg (sY s A n c),aO bx] w fun e w'=>e= .returned (.bool (ET s b))∧ag az w w':=by
 have HB:=ae<|Box.fresh w 92 (sY s A n c);have HO:=ae<|(ag.aj az w).alloc (.cells (sY s A n c) 92);have y:=HO.cell hx id;clear hx;unfold sY;generalize hr:ET s b=r at *;have HR:=ae hr;clear hr
 go_enter Tryz.func131,Tryz.ntmps131
 go_upto_region 1 with fail;change Code.wp _ _ _ _ (w.alloc (.cells (sY s A n c) 92));generalize w.alloc (.cells (sY s A n c) 92)=W at *;generalize w.heap.size=g at *;have x0:aw W g 0 s.op:=HB.af rfl;have x1:aw W g 1 s.blk:=HB.af rfl
 by_cases c1:s.op=0
 ·have Z3:(s.op != 0)=false:=by simpa using c1
  go_wp2;go_ret;exact⟨by rw[show r=false by rw[←HR.out];unfold ET;simp[c1]];rfl,HO⟩
 ·have Z3:(s.op != 0)=true:=by simpa using c1
  by_cases c2:s.blk=b
  ·have Z0:(s.blk==b)=true:=by simpa using c2
   go_wp2;go_ret;exact⟨by rw[show r=true by rw[←HR.out];unfold ET;simp[c1,c2]];rfl,HO⟩
  ·have Z0:(s.blk==b)=false:=by simpa using c2
   go_wp2;go_ret;exact⟨by rw[show r=false by rw[←HR.out];unfold ET;simp[c2]];rfl,HO⟩
theorem PX {n k:Nat}{p:Nat→Bool}(hk:k<n)(h:p k=true):(List.range n).any p=true:=List.any_eq_true.2 ⟨k,List.mem_range.2 hk,h⟩
theorem Ey {n:Nat}{p:Nat→Bool}(h:∀j,j<n→p j=false):(List.range n).any p=false:=by
 cases e:(List.range n).any p with
 |false=>rfl
 |true=>
  obtain⟨i,hi,h1⟩:=List.any_eq_true.1 e;rw[h i (List.mem_range.1 hi)]at h1
  cases h1
theorem Un {n sb:Nat}{S:Nat→kY}{dv:Nat→Value}{w:World}{bx:Nat}{b:Int}(hx:aw w bx 0 b)(h:Box w sb 92 (mC n fun j=>sR (S j) (dv j)))(hn:n≤4)(hd:∀j,j<n→∃A m c,dv j= .slice A m c):
 Calls Tryz.prog 96 #[aU sb n n,.func (.func 131) #[] #[aO bx]] w fun e w'=>∃z:Int,e= .returned (ah z)∧decide (0≤z)=((List.range n).any fun i=>(fun s=>ET s b) (S i))∧ag az w w':=by
 have H:=ae h;have HD:=ae hd;have HC:=ae<|fun(s:kY) (A:Option Addr) (m c:Nat) (w':World) (ho:ag az w w')=>XV s A m c bx b w' (ho.cell hx id);have hnm:(n:Int)≤4:=ao;have HS:=aB (Ig n S (fun s=>ET s b) w (ah 0) w) (⟨0,dT _,rfl,fun j hj=>absurd hj ao,ag.aj _ w⟩);clear h hd
 go_enter Tryz.func96,Tryz.ntmps96
 go_upto_region 2 with fail
 go_loopw [8] (fun i wr=>Ig n S (fun s=>ET s b) w i wr) (fun i _=>n - (intOf i).toNat)
 case atStart=>exact HS
 case round=>
  clear HS;obtain⟨k,hk,rfl,iQ,ho⟩:=hrel;have HO:=ae ho;have HN:=ae iQ;clear ho iQ
  by_cases aY:k<n
  ·obtain⟨A,m,cc,hdk⟩:=HD.out k aY;obtain⟨x0,x1,x2,x3,x4⟩:=bJ (HO.aq H id) aY hdk;have HK:Hid (∀w',ag az wr w'→Calls Tryz.prog 131 (#[.agg (sY (S k) A m cc)] ++ #[aO bx]) w' fun e mR=>e= .returned (.bool ((fun s=>ET s b) (S k)))∧ag az w' mR):=ae fun w' hw=>HC (S k) A m cc w' (HO.trans hw)
   have iV:(k:Int)<n:=ao;have bL:=ae aY;unfold sY at HK;generalize hs:S k=s at *;have HSK:=ae hs;clear hs aY hk hdk
   cases pr:(fun s=>ET s b) s with
   |true=>
    rw[pr]at HK;have HZ:=aB (((List.range n).any fun i=>(fun s=>ET s b) (S i))=true) (PX bL (by rw[HSK.out];exact pr));clear pr;go_wp2_with (go_at_call 131;refine(HK _ (ag.aj _ _)).mono ?_;rintro e W1 ⟨rfl,aR⟩);go_ret;exact⟨k,rfl,by rw[HZ.out];exact decide_eq_true ao,HO.trans aR⟩
   |false=>
    rw[pr]at HK;have Gy:=aB (∀j,j<k+1→(fun s=>ET s b) (S j)=false) (fun j hj=>by
     by_cases e:j=k
     ·rw[e,HSK.out];exact pr
     ·exact HN j ao)
    clear pr;go_wp2_with (go_at_call 131;refine(HK _ (ag.aj _ _)).mono ?_;rintro e W1 ⟨rfl,aR⟩)
    go_roundw
    case rel=>exact⟨k+1,bL,by go_num,Gy,HO.trans aR⟩
    case measure=>simp[intOf];have:=bL.out;omega
  ·obtain rfl:k=n:=ao;clear aY hk;have HZ:=aB (((List.range k).any fun i=>(fun s=>ET s b) (S i))=false) (Ey HN);go_wp2_with fail;go_ret;exact⟨-1,rfl,by rw[HZ.out];rfl,HO⟩
theorem JG {n sb:Nat}{S:Nat→kY}{dv:Nat→Value}{w:World}{bx:Nat}{b:Int}(hx:aw w bx 0 b)(h:Box w sb 92 (mC n fun j=>sR (S j) (dv j)))(hn:n≤4)(hd:∀j,j<n→∃A m c,dv j= .slice A m c):
 Calls Tryz.prog 64 #[aU sb n n,.func (.func 131) #[] #[aO bx]] w fun e w'=>e= .returned (.bool ((List.range n).any fun i=>(fun s=>ET s b) (S i)))∧ag az w w':=by
 have HI:=ae<|Un hx h hn hd;generalize((List.range n).any fun i=>(fun s=>ET s b) (S i))=r at *;clear h hd
 go_enter Tryz.func64,Tryz.ntmps64
 go_wp2_with (go_at_call 96;refine HI.mono ?_;rintro e W1 ⟨z,rfl,hz,aR⟩);go_ret;exact⟨by rw[←hz];rfl,aR⟩
variable {Z:ZN}{w:World}{K:aZ}{c:aM}{a:cH K}{M:CM K.σ}
theorem bm.DD (h:bm Z K c a M w):∀j,j<cN c→∃A m c,a.dv j= .slice A m c:=fun j hj=>by
 obtain⟨A,cc,e⟩:=(h.fw j hj).shape;exact⟨A,_,cc,e⟩
theorem abT (h:bm Z K c a M w)(b:Int):Calls Tryz.prog 109 #[aO a.l,ah b] w fun e w'=>e= .returned (.bool (CI (cN c) M.S b))∧ag az w w':=by
 have HO:=ae<|(ag.aj az w).alloc (.cells #[ah b] 3);have H:=ae<|h.keep HO;have HC:=ae<|JG (b:=b) ((Box.fresh w 3 #[ah b]).af (i:=0) rfl) H.slots h.nn.2.1 H.DD;rw[←Xi]at HC;generalize CI (cN c) M.S b=r at *;clear h
 go_enter Tryz.func109,Tryz.ntmps109
 go_upto_region 1 with fail;change Code.wp _ _ _ _ (w.alloc (.cells #[ah b] 3));generalize w.alloc (.cells #[ah b] 3)=W at *;generalize w.heap.size=g at *;have s9:=H.oc (j:=19) rfl;generalize cN c=n at *;go_wp2_with (go_at_call 64;refine HC.mono ?_;rintro e W1 ⟨rfl,aR⟩);go_ret;exact⟨rfl,HO.trans aR⟩
theorem lA (h:bm Z K c a M w):Calls Tryz.prog 71 #[aO a.l] w fun e w'=>e= .returned (.bool (decide (c.f 5=1)))∧w=w':=by
 have x5:=h.oc (j:=5) (Sp _ _ _ _ _ _ _ _ aD);generalize c.f 5=f5 at *;clear h
 go_enter Tryz.func71,Tryz.ntmps71
 go_wp2_with fail;go_ret;exact⟨by by_cases e:f5=1<;>simp[e],rfl⟩
def NN (b lev:Int)(v:Value):Array Value:=#[ah 3,ah 0,ah 0,ah 0,ah 0,ah b,ah lev,ah 0,ah 0,.bool false,v]
theorem S2 (b lev:Int)(v:Value)(d:List Int):aP (MI b lev d).m v=NN b lev v:=rfl
theorem Nq (b lev:Int)(A:Option Addr)(n m:Nat):(NN b lev (.slice A n m)).all (·.oneCell')=true:=by simp[NN,Value.oneCell']
def lE:Array Value:=#[ah 0,ah 0,ah 0,ah 0,ah 0,ah 0,ah 0,ah 0,ah 0,.bool false,aJ]
theorem oC:(Tryz.prog.info? 37).map (fun i=>(i.zero,i.size,i.bytes))=some (some (.agg lE),11,104):=by kernel_rfl
def fY (b:Int)(v:Value):Array Value:=#[ah b,v]
theorem Ud (b lev:Int)(A:Option Addr)(n m:Nat)(w:World):
 Calls Tryz.prog 110 #[.agg (fY b (.slice A n m)),ah lev] w fun e w'=>e= .returned (.agg (NN b lev (.slice A n m)))∧ag az w w':=by
 have ho0:ag az w ((w.alloc (.cells (fY b (.slice A n m)) 102)).alloc (.cells lE 37)):=((ag.aj az w).alloc _).alloc _;have HO:=ae ho0;have HF:=ae<|(Box.fresh w 102 (fY b (.slice A n m))).alloc (.cells lE 37);have HM:=aB (Box ((w.alloc (.cells (fY b (.slice A n m)) 102)).alloc (.cells lE 37)) (w.heap.size+1) 37 lE) (by
  have:=Box.fresh (w.alloc (.cells (fY b (.slice A n m)) 102)) 37 lE;rwa [World.size_alloc]at this)
 have oK:=ae<|dm w.heap.size;clear ho0;unfold fY
 go_enter Tryz.func110,Tryz.ntmps110
 go_upto_region 1 with fail;change Code.wp _ _ _ _ ((w.alloc (.cells (fY b (.slice A n m)) 102)).alloc (.cells lE 37));generalize(w.alloc (.cells (fY b (.slice A n m)) 102)).alloc (.cells lE 37)=W at *;obtain⟨mb,fW⟩:∃mb,mb=w.heap.size+1:=⟨_,rfl⟩;have vF:=ae (show w.heap.size≤mb by omega);rw[←fW]at HM ⊢;clear fW oK;obtain⟨fb,gu⟩:∃fb,fb=w.heap.size:=⟨_,rfl⟩;rw[←gu]at HF ⊢;clear gu;have x0:aw W fb 0 b:=HF.af rfl;have x1:aE W fb 1 (.slice A n m):=HF.af rfl;go_wp2_with (refine fJ (NN b lev (.slice A n m)) HM (Nq b lev A n m) ?_)
 (try simp only[Exit.inBlock,Exit.then])
 refine bodyPost_ret (results_cell_row rfl _ _ mb _ (NN b lev (.slice A n m)) (0,0) _ rfl (HM.au _) Tryz.underlying37 rfl bZ) rfl ?_;exact⟨rfl,HO.au (.inr vF) _⟩
theorem bg.one {Z:ZN}{w w':World}{base:Nat}{v:Value}(p:PM){cs:Array Value}(hcs:aP p.m v=cs)(hd:cX Z w' v p.d)(hw:w'=w.alloc (.cells cs 37))(hb:base≤w.heap.size):bg Z w' base (aU w.heap.size 1 1) [p]:=by
 subst hw hcs;refine⟨[(p,v)],rfl,⟨rfl,.inr ⟨w.heap.size,1,_,rfl,hb,Box.fresh w 37 _,dm _,by unfold maxLen;decide,rfl,?_⟩⟩,fun q hq=>?_⟩
 ·simp[aP]
 ·rw[List.mem_singleton.1 hq];exact hd
theorem pk (h:bm Z K c a M w){b lev:Int}{v:Value}{d:List Int}(hd:cX Z w v d):
 Calls Tryz.prog 74 #[aO a.l,.agg (fY b v),ah lev] w fun e w'=>∃u,e= .returned u∧bg Z w' w.heap.size u (eZ (cN c) M.S b lev d)∧ag az w w':=by
 obtain⟨A,n,rfl⟩:=hd.shape;have HO:=ae<|(ag.aj az w).alloc (.cells (fY b (.slice A d.length n)) 102);have HF:=ae<|Box.fresh w 102 (fY b (.slice A d.length n));have HA:=ae<|abT (h.keep HO) b;have HD:=ae<|hd.keep HO;unfold eZ
 cases uN:CI (cN c) M.S b with
 |true=>
  rw[uN]at HA;rw[if_pos rfl];clear h hd uN;unfold fY
  go_enter Tryz.func74,Tryz.ntmps74
  go_upto_region 1 with fail;change Code.wp _ _ _ _ (w.alloc (.cells (fY b (.slice A d.length n)) 102));generalize w.alloc (.cells (fY b (.slice A d.length n)) 102)=W at *;generalize gu:w.heap.size=fb at *;have x0:aw W fb 0 b:=HF.af rfl;go_wp2_with (go_at_call 109;refine HA.mono ?_;rintro e W1 ⟨rfl,aR⟩);go_ret;exact⟨_,rfl,bg.nil _ _ _,HO.trans aR⟩
 |false=>
  rw[uN]at HA;rw[if_neg aD];clear h hd uN;unfold fY
  go_enter Tryz.func74,Tryz.ntmps74
  go_upto_region 1 with fail;change Code.wp _ _ _ _ (w.alloc (.cells (fY b (.slice A d.length n)) 102));have oK:=ae HO.size;generalize w.alloc (.cells (fY b (.slice A d.length n)) 102)=W at *;obtain⟨fb,gu⟩:∃fb,fb=w.heap.size:=⟨_,rfl⟩;rw[←gu]at HF ⊢;clear gu;have x0:aw W fb 0 b:=HF.af rfl;go_upto_region 3 with(go_at_call 109;refine HA.mono ?_;rintro e W1 ⟨rfl,aR⟩);have k6:=ae<|aR.aq HF id;have jL:=ae<|HD.keep aR;have aX:=ae<|HO.trans aR;clear HF HO HD aR HA;have MC:=ae<|Ud b lev A d.length n W1;unfold fY at MC;go_wp2_with (first|(refine fH (fY b (.slice A d.length n)) k6 Tryz.underlying102 ?_)|(go_at_call 110;refine MC.mono ?_;unfold NN;rintro e W2 ⟨rfl,bp⟩));go_ret;have bu:ag az W2 (W2.alloc (.cells (NN b lev (.slice A d.length n)) 37)):=(ag.aj az W2).alloc _;exact⟨_,rfl,bg.one (MI b lev d) (S2 b lev _ d) ((jL.keep bp).keep bu) rfl (Nat.le_trans aX.size bp.size),(aX.trans bp).trans bu⟩
end
section
variable {Z:ZN}{w:World}{K:aZ}{c:aM}{a:cH K}{M:CM K.σ}
theorem bm.mD (h:bm Z K c a M w):aE w a.l 17 (aO a.cb):=h.aq.af rfl
theorem bm.c18 (h:bm Z K c a M w):aE w a.l 18 (aO a.u):=h.aq.af rfl
theorem bm.pw (h:bm Z K c a M w):aE w a.l 19 (aU a.sb (cN c) (cN c)):=h.aq.af rfl
theorem bm.Kd (h:bm Z K c a M w):aw w a.l 20 (M.ops:Nat):=h.aq.af rfl
theorem bm.yh (h:bm Z K c a M w):aE w a.l 21 (.bool M.up):=h.aq.af rfl
theorem bm.Qn (h:bm Z K c a M w):aE w a.l 22 a.en:=h.aq.af rfl
theorem bm.cf (h:bm Z K c a M w){i:Nat}(hi:i<16):aw w a.l i (c.f i):=h.aq.af (Sp _ _ _ _ _ _ _ _ hi)
theorem jw{P:Prop}(h:P:=by
 go_enter Tryz.func37,Tryz.ntmps37
 go_wp2_with fail;go_ret;exact⟨rfl,rfl⟩):P:=h
theorem rT{P:Prop}(h:P:=by
 clear hw
 by_cases ho:op=0
 ·have ho':(op != 0)=false:=by simpa using ho
  rw[if_neg (by simpa using ho)];clear ho;exact jw
 ·have ho':(op != 0)=true:=by simpa using ho
  rw[if_pos ho];clear ho;exact jw):P:=h
theorem jv{P:Prop}(h:P:=by
 rw[if_pos ao];exact jw):P:=h
theorem mq{P:Prop}(h:P:=by
 obtain⟨A,m,cc,hd⟩:=h.DD k hk;exact(bJ h.slots hk hd).1):P:=h
theorem Es (h:bm Z K c a M w)(i b:Int)(wr:Bool)(A:Option Addr)(m q:Nat):
 Calls Tryz.prog 37 #[aO a.l,ah i,.bool wr,ah b,.slice A m q] w fun e w'=>e= .returned (ah (dJ c M.S i wr b m))∧w=w':=by
 have s9:=h.pw;have x2:=h.cf (i:=2) aD;have x3:=h.cf (i:=3) aD;have jT:=h.nn;unfold dJ;rw[←jT.2.2];have vy:∀k:Nat,k<cN c→aw w a.sb (k*5) ((M.S k).op):=fun k hk=>by
  exact mq
 generalize hlg:a.l=l at *;generalize cN c=n at *;generalize c.f 2=f2 at *;generalize c.f 3=f3 at *;have Qu:=ae vy;clear h vy hlg;have mX:=jT.2.1;clear jT
 by_cases i0:i<0
 ·exact jv
 by_cases i1:(n:Int)≤i
 ·exact jv
 rw[if_neg ao]
 by_cases b0:b<0
 ·exact jv
 by_cases b1:f2≤b
 ·exact jv
 rw[if_neg ao];obtain⟨k,rfl⟩:∃k:Nat,i=k:=⟨i.toNat,ao⟩;have hk:k<n:=ao;have y0:=Qu.out k hk;have oJ:(k:Int)<n:=ao;rw[Int.toNat_natCast];clear Qu i0;generalize(M.S k).op=op at *
 by_cases hw:wr=true∧(m:Int)≠f3
 ·obtain⟨rfl,hm⟩:=hw;have ZH:((m:Int) != f3)=true:=by simpa using hm
  rw[if_pos ⟨rfl,hm⟩];clear hm;exact jw
 ·rw[if_neg hw]
  cases wr with
  |false=>
   exact rT
  |true=>
   have hm:((m:Int) != f3)=false:=by
    by_cases e:(m:Int)=f3
    ·simpa using e
    ·exact absurd ⟨rfl,e⟩ hw
   exact rT
def dW (kind k op blk lev:Int)(v:Value):Array Value:=#[ah kind,ah 0,ah k,ah 0,ah op,ah blk,ah lev,ah 0,ah 0,.bool false,v]
theorem xV (kind k op blk lev:Int)(A:Option Addr)(n m:Nat):(dW kind k op blk lev (.slice A n m)).all (·.oneCell')=true:=by simp[dW,Value.oneCell']
theorem AR {k:Nat}{s:kY}(hw:s.wr=false)(v:Value):aP (ie k s).m v=dW 1 k s.op s.blk s.lev v:=by unfold ie;rw[hw];rfl
theorem xU {k:Nat}{s:kY}(hw:s.wr=true)(v:Value):aP (ie k s).m v=dW 2 k s.op s.blk s.lev v:=by unfold ie;rw[if_pos hw];rfl
theorem xL {k:Nat}{s:kY}(hw:s.wr=false):(ie k s).d= []:=by unfold ie;rw[hw];rfl
theorem uE {k:Nat}{s:kY}(hw:s.wr=true):(ie k s).d=s.ed:=by unfold ie;rw[if_pos hw];rfl
def adO (Z:ZN)(k:Nat)(s:kY)(w:World)(e:Ending)(w':World):Prop:=∃A n m,e= .returned (.agg (aP (ie k s).m (.slice A n m)))∧cX Z w' (.slice A n m) (ie k s).d∧ag az w w'
theorem Ns (h:bm Z K c a M w){k:Nat}(hk:k<cN c):Calls Tryz.prog 41 #[aO a.l,ah k] w (adO Z k (M.S k) w):=by
 obtain⟨A,q,eD⟩:=(h.fw k hk).shape;have Kl:=ae<|h.fw k hk;have Yw:=aB (Z.B≤w.heap.size) (Nat.le_of_lt (Nat.lt_of_le_of_lt (h.lo a.l (.inr (.inr (.inr (.inr (.inr (.inr (.inl rfl)))))))) h.aq.lt));rw[eD]at Kl;have HO:=ae<|(ag.aj az w).alloc (.cells lE 37);have HB:=ae<|Box.fresh w 37 lE;have H1:=ae<|h.keep HO;have mX:=h.nn.2.1;have oJ:(k:Int)<cN c:=ao;have jZ:=H1.pw;obtain⟨y0,y1,y2,y3,y4⟩:=bJ H1.slots hk eD;generalize cN c=n at *;generalize M.S k=s at *;generalize s.ed.length=dn at *;generalize ha:a.l=l at *;generalize a.sb=sb at *;clear h hk eD H1 ha
 go_enter Tryz.func41,Tryz.ntmps41
 go_upto_region 1 with fail;change Code.wp _ _ _ _ (w.alloc (.cells lE 37));obtain⟨mb,fW⟩:∃mb,mb=w.heap.size:=⟨_,rfl⟩;have HME:=aB (w.heap.size≤mb) (Nat.le_of_eq fW.symm);have kZ:=aB (Z.B≤mb) (by have:=Yw.out;omega);rw[←fW]at HB ⊢;clear fW;generalize w.alloc (.cells lE 37)=W1 at *;go_upto_region 2 with fail;have bp:ag az W1 (W1.alloc (.cells #[ah s.op,ah s.blk,ah s.lev,.bool s.wr,.slice A dn q] 92)):=(ag.aj az W1).alloc _;have cO:=ae<|Box.fresh W1 92 #[ah s.op,ah s.blk,ah s.lev,.bool s.wr,.slice A dn q];have nz:=ae<|bp.aq HB id;have bf:=ae<|HO.trans bp;change Code.wp _ _ _ _ (W1.alloc (.cells #[ah s.op,ah s.blk,ah s.lev,.bool s.wr,.slice A dn q] 92));clear bp HB HO jZ y0 y1 y2 y3 y4;generalize W1.alloc (.cells #[ah s.op,ah s.blk,ah s.lev,.bool s.wr,.slice A dn q] 92)=W2 at *;generalize W1.heap.size=tb at *;have y0:aw W2 tb 0 s.op:=cO.af rfl;have y1:aw W2 tb 1 s.blk:=cO.af rfl;have y2:aw W2 tb 2 s.lev:=cO.af rfl;go_upto_region 3 with fail;have cB:ag az W2 (W2.alloc (.cells (dW 1 k s.op s.blk s.lev aJ) 37)):=(ag.aj az W2).alloc _;have oh:=ae<|Box.fresh W2 37 (dW 1 k s.op s.blk s.lev aJ);have oG:=ae<|cB.aq nz id;have bn:=ae<|bf.trans cB;have dM:=ae<|cB.aq cO id;change Code.wp _ _ _ _ (W2.alloc (.cells (dW 1 k s.op s.blk s.lev aJ) 37));have Bg:=aB (w.heap.size≤W2.heap.size) (bf.size);have yu:=aB (W2.heap.size≠mb) (fun e=>by have:=nz.lt;omega);clear cB nz bf cO y0 y1 y2;generalize W2.alloc (.cells (dW 1 k s.op s.blk s.lev aJ) 37)=W3 at *;generalize W2.heap.size=nb at *;have y3:aE W3 tb 3 (.bool s.wr):=dM.af rfl;have y4:aE W3 tb 4 (.slice A dn q):=dM.af rfl
 cases hw:s.wr with
 |false=>
  rw[hw]at y3;go_wp2_with (first|(refine fH (dW 1 k s.op s.blk s.lev aJ) oh Tryz.underlying37 ?_)|(refine fJ (dW 1 k s.op s.blk s.lev aJ) oG (xV ..) ?_))
  (try simp only[Exit.inBlock,Exit.then])
  refine bodyPost_ret (results_cell_row rfl _ _ mb _ (dW 1 k s.op s.blk s.lev aJ) (0,0) _ rfl (oG.au _) Tryz.underlying37 rfl bZ) rfl ?_;exact⟨none,0,0,by rw[AR hw],by rw[xL hw];exact cX.nil _ _,bn.au (.inr HME) _⟩
 |true=>
  rw[hw]at y3;have z0:aw W3 nb 0 1:=oh.af rfl;have z10:aE W3 nb 10 aJ:=oh.af rfl;have g0:W3.frozen? ⟨nb,0,none⟩=false:=oh.free _;have g10:W3.frozen? ⟨nb,10,none⟩=false:=oh.free _;go_upto_region 4 with fail
  go_region
  have j4:ag (ar nb) W3 ((W3.setCell ⟨nb,0,none⟩ (ah 2)).setCell ⟨nb,10,none⟩ (.slice A dn q)):=((ag.aj (ar nb) W3).setCell (p:=⟨nb,0,none⟩) (.inl (show ar nb nb from rfl)) _).setCell (p:=⟨nb,10,none⟩) (.inl (show ar nb nb from rfl)) _;have HN4:=aB (Box ((W3.setCell ⟨nb,0,none⟩ (ah 2)).setCell ⟨nb,10,none⟩ (.slice A dn q)) nb 37 (dW 2 k s.op s.blk s.lev (.slice A dn q))) ((oh.store 0 (ah 2)).store 10 (.slice A dn q));have yw:=ae<|(j4.aq oG fun e=>yu (show mb=nb from e).symm).drew;have UM:=ae<|HN4.drew;have bK:=aB (ag az w (((W3.setCell ⟨nb,0,none⟩ (ah 2)).setCell ⟨nb,10,none⟩ (.slice A dn q)).drew)) ((bn.aC j4 fun k hk=>.inr (by rw[show k=nb from hk];exact Bg)).drew);have abg:=ae<|(Kl.keep bK);clear z0 z10 g0 g10 y3 y4 j4 HN4 oG oh dM bn Kl;generalize((W3.setCell ⟨nb,0,none⟩ (ah 2)).setCell ⟨nb,10,none⟩ (.slice A dn q)).drew=W4 at *;go_wp2_with (first|(refine fH (dW 2 k s.op s.blk s.lev (.slice A dn q)) UM Tryz.underlying37 ?_)|(refine fJ (dW 2 k s.op s.blk s.lev (.slice A dn q)) yw (xV ..) ?_))
  (try simp only[Exit.inBlock,Exit.then])
  refine bodyPost_ret (results_cell_row rfl _ _ mb _ (dW 2 k s.op s.blk s.lev (.slice A dn q)) (0,0) _ rfl (yw.au _) Tryz.underlying37 rfl bZ) rfl ?_;exact⟨A,dn,q,by rw[xU hw],by rw[uE hw];exact abg.aA ((ag.aj (ar mb) W4).au (.inl rfl) _) (fun k hk e=>by rw[show k=mb from e];exact⟨kZ,.inr fun cs hb=>(yw.off hb aD) rfl⟩),bK.au (.inr HME) _⟩
end
theorem S4 {M:Int→Option (List Int)}{D:Int→Option oM}(h:∀b,M b=(D b).map Prod.fst)(b:Int):∀x,aT M b none x=(aT D b none x).map Prod.fst:=fun x=>by
 unfold aT
 split
 ·rfl
 ·exact h x
theorem abS {M:Int→Option (List Int)}{D:Int→Option oM}(h:∀b,M b=(D b).map Prod.fst)(g:Bool)(v b:Int)(d:List Int)(u:Value):∀x,aT (if g=true then aT M v none else M) b (some d) x=(Ko D g v b (d,u) x).map Prod.fst:=fun x=>by
 unfold Ko
 cases g with
 |false=>
  rw[if_neg aD,if_neg aD];unfold aT
  split
  ·rfl
  ·exact h x
 |true=>
  rw[if_pos rfl,if_pos rfl]
  show(if x=b then some d else aT M v none x)=(if x=b then some (d,u)else aT D v none x).map Prod.fst
  split
  ·rfl
  ·exact S4 h v x
theorem WR {D:Int→Option oM}{g:Bool}{v b:Int}{p:oM}{y:Int}{l:List Int}{u:Value}(h:Ko D g v b p y=some (l,u)):(y=b∧p=(l,u))∨(y≠b∧D y=some (l,u)):=by
 unfold Ko at h
 by_cases e:y=b
 ·refine .inl ⟨e,?_⟩;unfold aT at h;rw[if_pos e]at h;injection h
 ·refine .inr ⟨e,?_⟩;unfold aT at h;rw[if_neg e]at h
  split at h
  ·by_cases e2:y=v
   ·rw[show(fun x=>if x=v then none else D x) y=none from if_pos e2]at h;cases h
   ·rw[show(fun x=>if x=v then none else D x) y=D y from if_neg e2]at h;exact h
  ·exact h
def bH {σ:Type}(sp:eY σ)(c:aM)(M:CM σ)(b:Int)(d:List Int)(lev:Int):Bool:=decide (gp c 0 b d.length lev=0)&&(sp.add M.s b).2.2
variable {Z:ZN}{w:World}{K:aZ}{c:aM}{a:cH K}{M:CM K.σ}
theorem tg.ofF {j:Nat}(h:K.F a.i j):tg K a.i a.cb a.mb j:=.inl h
theorem tg.of2 {j:Nat}(h:UR (K.F a.i) a.mb j):tg K a.i a.cb a.mb j:=h.elim .inl fun e=>.inr (.inr e)
theorem Eu (h:bm Z K c a M w)(b:Int):
 Calls Tryz.prog 50 #[aO a.cb,ah b] w fun e w'=>∃(b':Int) (A:Option Addr) (n m:Nat) (D':Int→Option oM),e= .returned (.tuple #[.agg #[ah b',.slice A n m],.bool (M.D b).isSome])∧
  (∀d,M.D b=some d→b'=b∧cX Z w' (.slice A n m) d)∧bm Z K c {a with D:=D'} (fP K.sp M b) w'∧ag (tg K a.i a.cb a.mb) w w':=by
 cases hD:a.D b with
 |none=>
  have hM:M.D b=none:=by rw[h.dd,hD];rfl
  refine(JD h.j0 hD).mono ?_;rintro e w' ⟨rfl,ho⟩;refine⟨0,none,0,0,a.D,by rw[hM];rfl,fun d e=>(by rw[hM]at e;cases e),?_,ho.mono fun k hk=>hk.elim⟩;unfold fP;rw[if_neg (by rw[hM];decide)];exact h.keep ho
 |some p=>
  obtain⟨l,v⟩:=p;have hM:M.D b=some l:=by rw[h.dd,hD];rfl
  refine(JE h.j0 hD).mono ?_;rintro e w' ⟨rfl,hc,hd,ho⟩;obtain⟨g,ca,hv,_⟩:=id hd.at_;subst hv;refine⟨b,some ⟨g,0,none⟩,l.length,ca,aT a.D b none,by rw[hM];rfl,fun d e=>⟨rfl,?_⟩,?_,ho.mono fun k hk=>.inl (tg.of2 hk)⟩
  ·rw[hM]at e;injection e with e;subst e;exact⟨hd.Yt,fun _ k hk=>.inr ⟨hd.row.2 k hk,h.dn b l _ hD k hk⟩⟩
  ·unfold fP;rw[if_pos (by rw[hM];rfl)];refine h.cache hc (ho.mono fun k hk=>.inl (tg.of2 hk)) (S4 h.dd b) fun y l v hy=>?_
   unfold aT at hy
   split at hy
   ·cases hy
   ·exact h.dn y l v hy
theorem Uh (h:bm Z K c a M w)(b:Int)(cw:K.sp.eE M.s<bN):
 Calls Tryz.prog 39 #[aO a.cb,ah b] w fun e w'=>∃(A:Option Addr) (n m:Nat),e= .returned (.tuple #[.slice A n m,.bool (M.D b).isSome])∧
  (∀d,M.D b=some d→cX Z w' (.slice A n m) d)∧bm Z K c a (if(M.D b).isSome=true then {M with s:=K.sp.use M.s b} else M) w'∧ag (tg K a.i a.cb a.mb) w w':=by
 cases hD:a.D b with
 |none=>
  have hM:M.D b=none:=by rw[h.dd,hD];rfl
  refine(L4 h.j0 hD).mono ?_;rintro e w' ⟨rfl,ho⟩;refine⟨none,0,0,by rw[hM];rfl,fun d e=>(by rw[hM]at e;cases e),?_,ho.mono fun k hk=>hk.elim⟩;rw[if_neg (by rw[hM];decide)];exact h.keep ho
 |some p=>
  obtain⟨l,v⟩:=p;have hM:M.D b=some l:=by rw[h.dd,hD];rfl
  have hl:=(h.j0.ed b l v hD).len;have h3:=h.right.p3;refine(L5 h.j0 hD cw).mono ?_;rintro e w' ⟨u,rfl,hr,hn,hc,ho⟩;obtain⟨A,q,e,_⟩:=id hr.shape;subst e;refine⟨A,_,q,by rw[hM];rfl,fun d e=>?_,?_,ho.mono fun k hk=>.inl (tg.ofF hk)⟩
  ·rw[hM]at e;injection e with e;subst e;exact cX.row hr ao fun k hk e=>by have:=h.AX k e;have:=hn k hk;omega
  ·rw[if_pos (by rw[hM];rfl)];exact h.cache hc (ho.mono fun k hk=>.inl (tg.ofF hk)) h.dd h.dn
theorem Cx (h:bm Z K c a M w)(b x:Int):Calls Tryz.prog 72 #[.agg (ak c a.pz),ah b,ah x] w fun e w'=>e= .returned (ah (wP c b x))∧ag az w w':=by
 obtain⟨A,n,m,e,h1,_⟩:=h.bw;rw[e];refine(K5 h.right b x w h1).mono ?_;rintro e w' ⟨T,rfl,hT,ho⟩;exact⟨by rw[Fv hT],ho⟩
section
variable {hP:cK c}{hk:0<3}{a:cH (aQ c 0 hP hk)}{M:CM (aQ c 0 hP hk).σ}
theorem IL (h:bm Z (aQ c 0 hP hk) c a M w){b lev:Int}{v:Value}{d:List Int}(hd:cX Z w v d)(cw:(aQ c 0 hP hk).sp.eE M.s<bN):
 Calls Tryz.prog 89 #[aO a.cb,.agg #[ah b,v],ah lev] w fun e w'=>∃(vb:Int) (A:Option Addr) (n m:Nat) (cd:Int) (D':Int→Option oM),e= .returned (.tuple #[.agg #[ah vb,.slice A n m],.bool (bH (aQ c 0 hP hk).sp c M b d lev),ah cd])∧
  (bH (aQ c 0 hP hk).sp c M b d lev=true→vb=((aQ c 0 hP hk).sp.add M.s b).2.1∧cX Z w' (.slice A n m) ((M.D ((aQ c 0 hP hk).sp.add M.s b).2.1).getD []))∧bm Z (aQ c 0 hP hk) c {a with D:=D'} (fZ (aQ c 0 hP hk).sp c M b d lev) w'∧ag (tg (aQ c 0 hP hk) a.i a.cb a.mb) w w':=by
 by_cases hc:gp c 0 b d.length lev=0
 ·obtain⟨ht,hlen,h0,h1⟩:=kr hc;have h3:=h.right.p3;have h2:=h.right.p2;have Qf:(aQ c 0 hP hk).sp.takes b:=pd ht;have hl0:0<d.length:=ao;have eD:∀j,aK v j→¬(aQ c 0 hP hk).F a.i j∧j≠a.mb:=fun j hj=>by
   have:=h.wr.off (hd.2 hl0 j hj) (Fp hd.1 hl0 j hj);exact⟨fun e=>this (.inl e),fun e=>this (.inr (.inr (.inl e)))⟩
  have hg:bH (aQ c 0 hP hk).sp c M b d lev=((aQ c 0 hP hk).sp.add M.s b).2.2:=by unfold bH;rw[decide_eq_true hc];rfl
  have hM:fZ (aQ c 0 hP hk).sp c M b d lev= {M with s:=((aQ c 0 hP hk).sp.add M.s b).1,D:=aT (if((aQ c 0 hP hk).sp.add M.s b).2.2=true then aT M.D ((aQ c 0 hP hk).sp.add M.s b).2.1 none else M.D) b (some d)}:=by unfold fZ;rw[if_neg (fun e=>e hc)]
  have aaJ:=((aQ c 0 hP hk).oc a.i).GO h.j0.ord h0 ao Qf;refine(TD (level:=lev) h.j0 hd.1 eD hc cw).mono ?_;rintro e w' ⟨vv,he,h4,h5,h6⟩;rw[hg,hM];have jU:=h.cache h4 (h6.mono fun k hk=>.inl (tg.of2 hk)) (abS h.dd _ _ b d vv) fun y l u hy k hk=>by
   rcases WR hy with⟨_,e2⟩|⟨_,e2⟩
   ·injection e2 with _ e2;subst e2;intro e3;have:=h.AX k e3;have:=h5 k hk;omega
   ·exact h.dn y l u e2 k hk
  rcases aaJ with⟨e1,e2,e3⟩|⟨e1,e2,e3,e4⟩
  ·refine⟨((aQ c 0 hP hk).sp.add M.s b).2.1,none,0,0,0,_,he.trans ?_,fun e=>?_,jU,h6.mono fun k hk=>.inl (tg.of2 hk)⟩
   ·rw[e1];rfl
   ·rw[e1]at e;cases e
  ·obtain⟨⟨l0,vd0⟩,hD⟩:=Option.isSome_iff_exists.1 ((h.j0.keys _).2 e2);have hvd:xg a.D true ((aQ c 0 hP hk).sp.add M.s b).2.1=vd0:=by unfold xg;rw[if_pos rfl,hD];rfl
   have VN:=(h.j0.ed _ _ _ hD).mH h6;obtain⟨g,ca,e5,_⟩:=id VN.at_;refine⟨((aQ c 0 hP hk).sp.add M.s b).2.1,some ⟨g,0,none⟩,l0.length,ca,0,_,he.trans ?_,fun _=>⟨rfl,?_⟩,jU,h6.mono fun k hk=>.inl (tg.of2 hk)⟩
   ·rw[e1,hvd,e5]
   ·rw[h.dd,hD];rw[e5]at VN hD;exact⟨VN.Yt,fun _ k hk=>.inr ⟨VN.row.2 k hk,h.dn _ l0 _ hD k hk⟩⟩
 ·have hg:bH (aQ c 0 hP hk).sp c M b d lev=false:=by unfold bH;rw[decide_eq_false hc];rfl
  refine(Jh h.j0 hd.1 lev hc).mono ?_;rintro e w' ⟨rfl,ho⟩;rw[hg];refine⟨0,none,0,0,_,a.D,rfl,fun e=>(by cases e),?_,ho.mono fun k hk=>hk.elim⟩;unfold fZ;rw[if_pos hc];exact h.keep ho
end
theorem gD.cell {w:World}{base:Nat}{v:Value}{m:List (Int×Nat)}(h:gD w base v m){k:Nat}(hk:k<m.length):
 ∃g c,v=aU g m.length c∧base≤g∧aw w g (k*3) ((m.getD k (0,0)).1)∧aw w g (k*3+1) ((m.getD k (0,0)).2)∧aw w g (k*3+2) ((m.getD k (0,0)).2+1:Int):=by
 obtain⟨g,c,e,hb,_,hc⟩:=pW h ao;have hf:=fun j (hj:j<3)=>mP JI 3 (0,0) (fun _=>rfl) m k j hk hj
 exact⟨g,c,e,hb,hc (k*3) _ (hf 0 aD),hc _ _ (hf 1 aD),hc _ _ (hf 2 aD)⟩
theorem gD.shape {w:World}{base:Nat}{v:Value}{m:List (Int×Nat)}(h:gD w base v m):∃A c,v= .slice A m.length c∧m.length≤c∧c≤maxLen:=cz h
theorem gD.off {S:Nat→Prop}{w w':World}{base:Nat}{v:Value}{m:List (Int×Nat)}(h:gD w base v m)(ho:ag S w w')(hn:∀k,base≤k→k<w.heap.size→¬S k):gD w' base v m:=bk h ho fun g hg=>by
 rcases h.2 with⟨rfl,_⟩|⟨g2,cap,cur,rfl,hb,gX,_⟩
 ·exact(a7 hg).elim
 ·have e:=aG.1 hg;subst e;exact hn _ hb (show Box w _ _ _ from gX).lt
variable {Z:ZN}{w w':World}{S:Nat→Prop}{K:aZ}{c:aM}{a:cH K}{M:CM K.σ}
theorem bg.cat {base:Nat}{v:Value}{X Y:List (PM×Value)}{L L':List PM}(h:w.ownsRow base 37 11 v (X.length+Y.length) ((X.flatMap fun p=>(aP p.1.m p.2).toList) ++ Y.flatMap fun p=>(aP p.1.m p.2).toList))
 (h1:X.map Prod.fst=L) (h2:Y.map Prod.fst=L') (d1:∀q∈X,cX Z w q.2 q.1.d) (d2:∀q∈Y,cX Z w q.2 q.1.d):bg Z w base v (L ++ L'):=by
 refine⟨X ++ Y,by rw[List.map_append,h1,h2],?_,fun q hq=>(List.mem_append.1 hq).elim (d1 q) (d2 q)⟩;rw[List.length_append,List.flatMap_append];exact h
theorem Na {X:List (PM×Value)}(h:∀q∈X,cX Z w q.2 q.1.d):∀y∈X.flatMap (fun p=>(aP p.1.m p.2).toList),y.oneCell'=true:=fun y hy=>by
 obtain⟨p,hp,hy⟩:=List.mem_flatMap.1 hy;obtain⟨A,q,e⟩:=(h p hp).shape;rw[e]at hy;simp[aP]at hy;rcases hy with rfl|rfl|rfl|rfl|rfl|rfl|rfl|rfl|rfl|rfl|rfl<;>rfl
theorem bg.wr {base:Nat}{v:Value}{L:List PM}(h:bg Z w base v L)(hb:Z.B≤base):Wr Z (aK v) w:=fun k _ hk=>⟨Nat.le_trans hb (h.aq hk).1,.inr fun cs h2=>by
 obtain⟨_,cs',h3⟩:=h.aq hk;exact(h3.off h2 aD) rfl⟩
def jG (c:aM)(a:cH K)(k:Nat):Prop:=b6 a k∨(0<c.h.length∧(aK a.hv k∨aK a.pz k))
theorem bm.uU (h:bm Z K c a M w){k:Nat}(hk:jG c a k):k<w.heap.size:=by
 rcases hk with hk|⟨h0,hk|hk⟩
 ·exact h.kB hk
 ·exact h.j0.ltH h0 k hk
 ·obtain⟨A,n,m,e,h1,_⟩:=h.bw;exact h1.lt h0 (e▸hk)
theorem bm.dC (h:bm Z K c a M w)(ho:ag S w w')(hS:Wr Z S w)(hX:∀k,jG c a k→¬S k):bm Z K c a M w':=h.off ho hS (fun k hk=>hX k (.inl hk)) fun h0 k hk=>hX k (.inr ⟨h0,hk⟩)
theorem bm.zb (h:bm Z K c a M w):Z.B≤w.heap.size:=Nat.le_of_lt (Nat.lt_of_le_of_lt (h.lo a.l (.inr (.inr (.inr (.inr (.inr (.inr (.inl rfl)))))))) h.aq.lt)
def RE (Z:ZN)(K:aZ)(c:aM)(a:cH K)(M:CM K.σ)(b:Int)(w:World)(e:Ending)(w':World):Prop:=
 ∃v D',e= .returned (.tuple #[ah (b9 c M.U b),v])∧bg Z w' w.heap.size v (iY K.sp c (cN c) M b)∧bm Z K c {a with D:=D'} (bG K.sp c (cN c) M b) w'∧ag (b6 a) w w'
def du (K:aZ)(n:Nat)(M:CM K.σ)(m:List (Int×Nat))(k:Nat):K.σ×(Int→Option (List Int))×List PM:=vT K.sp n M.S (m.take k) (M.s,M.D,[])
theorem zh {K:aZ}{n:Nat}{M:CM K.σ}{m:List (Int×Nat)}{k:Nat}(hk:k<m.length):du K n M m (k+1)=p8 K.sp n M.S (du K n M m k) (m.getD k (0,0)):=by
 unfold du;rw[List.take_succ_eq_append_getElem hk,Jk]
 congr 1
 rw[List.getD_eq_getElem?_getD,List.getElem?_eq_getElem hk];rfl
theorem Io (cap:Nat→Int):∀(f:Nat) (S:US) (l:Nat) (m:List (Int×Nat)),(eX cap f S l m).2.length≤m.length+f
 |0,S,l,m=>Nat.le_refl _
 |f+1,S,l,m=>by
  rw[eX]
  split
  ·have:=Io cap f (yD S (eB (iU S l)) ((l+1:Nat):Int)) (l+1) (m ++ [(eB (iU S l),l)]);rw[List.length_append,List.length_singleton]at this;omega
  ·show m.length≤_
   omega
theorem yV (cap:Nat→Int)(S:US)(b:Int):(gV cap S b).2.2.length≤4:=by
 have:=Io cap 4 (oN S b (ek cap S b)) (ek cap S b) [];exact this
theorem SL {K:aZ}{n:Nat}{M:CM K.σ}{m:List (Int×Nat)}{k:Nat}{X1 X2:List (PM×Value)}{S:Nat→kY}{b lev:Int}{d:List Int}(h:(du K n M m k).2.2.length≤k)(e1:X1.map Prod.fst=(du K n M m k).2.2)(e2:X2.map Prod.fst=eZ n S b lev d):X1.length+X2.length≤k+1:=by
 have h1:X1.length=(du K n M m k).2.2.length:=by rw[←e1,List.length_map]
 have h2:X2.length=(eZ n S b lev d).length:=by rw[←e2,List.length_map]
 have h3:(eZ n S b lev d).length≤1:=by unfold eZ;split<;>simp
 omega
theorem M8 {K:aZ}{n:Nat}{M:CM K.σ}{m:List (Int×Nat)}{k:Nat}{X1 X2:List (PM×Value)}{S:Nat→kY}{b lev:Int}{d:List Int}(h:X1.length+X2.length≤k+1)(e1:X1.map Prod.fst=(du K n M m k).2.2)(e2:X2.map Prod.fst=eZ n S b lev d):
 ((du K n M m k).2.2 ++ eZ n S b lev d).length≤k+1:=by
 rw[List.length_append,←e1,←e2,List.length_map,List.length_map];exact h
def MM (Z:ZN)(K:aZ)(c:aM)(a:cH K)(M:CM K.σ)(U':US)(m:List (Int×Nat))(w W1:World)(told i:Value)(wr:World):Prop:=
 ∃(k:Nat) (D':Int→Option oM),k≤m.length∧i=ah k∧bg Z wr W1.heap.size told (du K (cN c) M m k).2.2∧(du K (cN c) M m k).2.2.length≤k∧bm Z K c {a with D:=D'} {M with s:=(du K (cN c) M m k).1,D:=(du K (cN c) M m k).2.1,U:=U'} wr∧ag (b6 a) W1 wr
section
theorem FV (h:bm Z K c a M w)(b:Int)(h5:c.f 5≠1):
 Calls Tryz.prog 38 #[aO a.l,ah b] w (RE Z K c a M b w):=by
 have hM:bG K.sp c (cN c) M b=M:=by unfold bG;rw[if_neg h5]
 have hT:iY K.sp c (cN c) M b= []:=by unfold iY;rw[if_neg h5]
 have x4:=h.cf (i:=4) aD;unfold RE;rw[hM,hT];have H:=ae h
 by_cases h4:c.f 4=2
 ·have hL:b9 c M.U b=wP c b 0:=by unfold b9;rw[if_neg ao,if_pos h5]
  rw[hL];rw[h4]at x4;have HN:=lA h;rw[decide_eq_false h5]at HN;have HN:=ae HN;have HT:=Cx h b 0;obtain⟨A,n,m,F5,_⟩:=id h.bw;rw[F5]at HT;have HT:=ae HT;have JY:=aB (∀j v,(ak c (.slice A n m)).toList[j]? =some v→aE w a.l (0+j) v) (fun j v hj=>by
   rw[Nat.zero_add];refine h.aq.af ?_;rw[F5];unfold br;rw[Array.getElem?_append_left (by have:=(List.getElem?_eq_some_iff.1 hj).1;simpa using this),←Array.getElem?_toList];exact hj)
  generalize wP c b 0=T at *;clear h h5 hL hM hT F5
  go_enter Tryz.func38,Tryz.ntmps38
  go_wp2_with (first|(go_at_call 71;refine HN.mono ?_;rintro e W1 ⟨rfl,rfl⟩)|(refine wpList_load_mid rfl 25 _ rfl a.l 0 rfl (ak c (.slice A n m)).toList _ JY Tryz.underlying25 rfl bZ ?_)|(go_at_call 72;refine HT.mono ?_;rintro e W2 ⟨rfl,bp⟩));go_ret2;exact⟨_,a.D,rfl,bg.nil _ _ _,H.keep bp,bp.mono fun k hk=>hk.elim⟩
 ·have hL:b9 c M.U b=0:=by unfold b9;rw[if_pos h4]
  rw[hL];have h4':(c.f 4 != 2)=true:=by simpa using h4
  generalize c.f 4=f4 at *;clear h h5 hL hM hT h4
  go_enter Tryz.func38,Tryz.ntmps38
  go_wp2_with fail;go_ret2;exact⟨_,a.D,rfl,bg.nil _ _ _,H,ag.aj _ _⟩
theorem l5{P:Prop}(h:P:=by
 go_wp2
 go_roundw
 case rel=>(repeat first|exact HR|(refine⟨HR,?_⟩;(repeat(first|exact rfl|refine⟨rfl,?_⟩)))|apply Exists.intro)
 case measure=>simp[intOf];have:=bL.out;omega):P:=h
theorem rr{P:Prop}(h:P:=by
 rw[hD]at td;obtain⟨rfl,hdd⟩:=nR.out d hD;have yA:=ae hdd;have Yp:fP K.sp {M with s:=(du K (cN c) M m k).1,D:=(du K (cN c) M m k).2.1,U:=U'} b4= {M with s:=K.sp.rem (du K (cN c) M m k).1 b4,D:=aT (du K (cN c) M m k).2.1 b4 none,U:=U'}:=by unfold fP;rw[if_pos (by simp[hD])]
 rw[Yp]at H6;have nQ:=ae<|pk (b:=b4) (lev:=2) H6 yA;clear Yp hdd nR;have z2:aw W6 mb 2 2:=Wb.af rfl;unfold fY at nQ;go_upto_region 14 with(first|(refine fH #[ah b4,.slice A4 n4 m4] Oe Tryz.underlying102 ?_)|(go_at_call 74;refine nQ.mono ?_;rintro e W7 ⟨u7,rfl,pD,dL⟩;obtain⟨A7,c7,e7,_,_⟩:=pD.shape;subst e7;have H7:=ae<|H6.keep dL;have ej:=ae<|w9.keep dL;have fC:=ae<|mI.aC dL fun _ h=>h.elim;have HQ7:=ae pD;have afI:=ae dL.size;obtain⟨X1,e1,r1,d1⟩:=ej.out;obtain⟨X2,e2,r2,d2⟩:=pD;have lH:=ae e1;have yz:=ae e2;have b5:=ae r1;have iw:=ae r2;have jL:=ae d1;have tA:=ae d2;have NW:=ae<|SL EW e1 e2;clear dL e1 e2 r1 r2 d1 d2)|(at_builtin;refine vp _ rfl (.tmp 61) (.tmp 66) 40 37 rfl oC rfl aD Tryz.underlying40 W1.heap.size _ X1.length _ rfl b5 W6.heap.size _ X2.length _ rfl iw (Na tA) (by unfold maxLen;have:=NW.out;have:=bL.out;have:=yw.out;omega) (by have:=NW.out;have:=bL.out;have:=yw.out;omega) (by have:=afI.out;have:=mI.size;omega) ?_;intro v8 W8 h8 eT _;have kW:=ej.wr (Nat.le_trans kZ aX.size);have nL:=ae<|bg.cat h8 lH yz (fun q hq=>(jL q hq).aA eT kW) (fun q hq=>(tA q hq).aA eT kW);have H8:=ae (H7.dC eT kW fun j hj e=>by have:=HX.out j hj;have:=(ej.aq e).1;have:=aX.size;omega);have ix:=ae<|fC.aC eT fun j hj=>.inr (ej.aq hj).1;obtain⟨A8,c8,e8,_,_⟩:=cz h8;subst e8;clear h8 eT kW));have AF:Hid (du K (cN c) M m (k+1)=(K.sp.rem (du K (cN c) M m k).1 b4,aT (du K (cN c) M m k).2.1 b4 none,(du K (cN c) M m k).2.2 ++ eZ (cN c) M.S b4 2 d)):=td;have HR:=aB (MM Z K c a M U' m w W1 (.slice A8 (X1.length+X2.length) c8) (ah ((k:Int)+1)) W8) (⟨k+1,D4,bL,by simp,by rw[AF.out];exact nL,by rw[AF.out];exact M8 NW lH yz,by rw[AF.out];exact H8,ix⟩);exact l5):P:=h
theorem sa{P:Prop}(h:P:=by
 rw[hD]at td;have td:Hid (du K (cN c) M m (k+1)=du K (cN c) M m k):=td;have Yp:fP K.sp {M with s:=(du K (cN c) M m k).1,D:=(du K (cN c) M m k).2.1,U:=U'} y= {M with s:=(du K (cN c) M m k).1,D:=(du K (cN c) M m k).2.1,U:=U'}:=by unfold fP;rw[if_neg (by simp[hD])]
 rw[Yp]at H6;have HR:=aB (MM Z K c a M U' m w W1 (.slice At (du K (cN c) M m k).2.2.length ct) (ah ((k:Int)+1)) W6) (⟨k+1,D4,bL,by simp,by rw[td.out];exact w9,by rw[td.out];have:=EW.out;omega,by rw[td.out];exact H6,mI⟩);clear Yp;exact l5):P:=h
theorem ra{P:Prop}(h:P:=by
 simp only[Nat.add_zero,show 9+1=10 from rfl,show 9+2=11 from rfl]at q0 q1 q2;rcases(show l=1∨l=2∨l=3 by omega)with rfl|rfl|rfl
 ·show 0≤c.f 9;omega
 ·show 0≤c.f 10;omega
 ·show 0≤c.f 11;omega):P:=h
theorem Dv (h:bm Z K c a M w){n:Nat}(hn:(n:Int)<c.f 2)(h5:c.f 5=1):
 Calls Tryz.prog 38 #[aO a.l,ah n] w (RE Z K c a M n w):=by
 have JL:=h.right.p2;have h4:c.f 4=2:=by have:=h.right.pp;omega
 have hM:bG K.sp c (cN c) M n= {M with s:=(yG K.sp c (cN c) M n).1,D:=(yG K.sp c (cN c) M n).2.1,U:=(gV (dF c) M.U n).1}:=by unfold bG;rw[if_pos h5]
 have hT:iY K.sp c (cN c) M n=(yG K.sp c (cN c) M n).2.2:=by unfold iY;rw[if_pos h5]
 have hL:b9 c M.U n=(gV (dF c) M.U n).2.1:=by unfold b9;rw[if_neg ao,if_neg ao]
 have ZP:∀l,1≤l→l≤3→0≤dF c l:=fun l h1 h3=>by
  have q0:=h.right.pc 0 aD;have q1:=h.right.pc 1 aD;have q2:=h.right.pc 2 aD;exact ra
 have x4:=h.cf (i:=4) aD;have x18:=h.c18;have HU:=ae<|Wj h.AV (n:=n) ao ZP;have HN:=lA h;rw[decide_eq_true h5]at HN;have HN:=ae HN;have H:=ae h;have HX:=aB (∀k,jG c a k→k<w.heap.size) (fun k hk=>h.uU hk);have kZ:=ae h.zb;unfold RE;have J2:yG K.sp c (cN c) M n=du K (cN c) M (gV (dF c) M.U n).2.2 (gV (dF c) M.U n).2.2.length:=by unfold du;rw[List.take_length];rfl
 rw[hM,hT,hL,J2];rw[h4]at x4;have De:(gV (dF c) M.U n).2.1=ek (dF c) M.U n:=rfl;have Ro:(gV (dF c) M.U n).2.2.length≤4:=yV _ _ _;rw[De];generalize JM:(gV (dF c) M.U n).2.2=m at *;generalize hUU:(gV (dF c) M.U n).1=U' at *;have HMM:=ae JM;have HUU:=ae hUU;have yw:=ae Ro;clear h JL h4 h5 hM hT hL ZP J2 De Ro JM hUU
 go_enter Tryz.func38,Tryz.ntmps38
 go_upto_region 5 with(go_at_call 71;refine HN.mono ?_;rintro e W1 ⟨rfl,rfl⟩);clear HN x4;unfold ac7 at HU;rw[HMM.out,HUU.out]at HU;go_upto_region 6 with(go_at_call 73;refine HU.mono ?_;rintro e W1 ⟨mv,rfl,hmr,Ux,aR⟩);have H1:=ae<|H.aeP Ux aR;have aX:=aB (ag (b6 a) w W1) (aR.mono fun k hk=>.inl (by
  rcases hk with e|e|e
  ·exact .inr (.inr (.inr (.inl e)))
  ·exact .inr (.inr (.inr (.inr (.inl e))))
  ·exact .inr (.inr (.inr (.inr (.inr (.inl e)))))))
 have HMR:=ae hmr;obtain⟨Am,cm,emv,_,_⟩:=hmr.shape;subst emv;clear HU hmr Ux aR x18 H;go_wp2_with fail;have NI:=yw.out
 go_loopw [9,43] (fun told i wr=>MM Z K c a M U' m w W1 told i wr) (fun _ i _=>m.length - (intOf i).toNat)
 case atStart=>exact⟨0,a.D,dT _,rfl,bg.nil _ _ _,dT _,H1,ag.aj _ _⟩
 case round=>
  obtain⟨k,D2,hk,rfl,F3,J4,fL,ho⟩:=hrel;obtain⟨At,ct,et,_,_⟩:=F3.shape;subst et;have CU:=ae F3;have EW:=ae J4;have H2:=ae fL;have bf:=ae ho;clear F3 J4 fL ho
  by_cases aY:k<m.length
  ·have ads:=ae (HMR.off bf fun k h1 _ h2=>by have:=HX.out k (.inl h2);omega);obtain⟨g,cg,eg,QO,y0,y1,y2⟩:=ads.cell aY;injection eg with eA _ eC;subst eA eC;have hST:=zh (K:=K) (n:=cN c) (M:=M) aY;generalize hd:m.getD k (0,0)=x at *;obtain⟨y,fr⟩:=x;simp only at y0 y1 y2;have oE:=ae hST;have bL:=ae aY;have iV:(k:Int)<m.length:=ao;clear hST aY hk hd QO;go_upto_region 10 with fail;have Df:ag az wr (wr.alloc (.cells #[ah y,ah fr,ah (fr+1)] 100)):=(ag.aj az wr).alloc _;have vF:=ae<|Box.fresh wr 100 #[ah y,ah fr,ah (fr+1)];have H3:=ae<|H2.keep Df;have mZ:=ae<|CU.keep Df;have bn:=ae<|bf.aC Df fun _ h=>h.elim;change Code.wp _ _ _ _ (wr.alloc (.cells #[ah y,ah fr,ah (fr+1)] 100));have fh:=aB (∀k,jG c a k→k≠wr.heap.size) (fun k hk e=>by have:=HX.out k hk;have:=aX.size;have:=bf.size;omega);have oK:=aB (w.heap.size≤wr.heap.size) (Nat.le_trans aX.size bf.size);clear Df y0 y1 y2 CU H2 bf ads;generalize wr.alloc (.cells #[ah y,ah fr,ah (fr+1)] 100)=W3 at *;generalize wr.heap.size=mb at *;have z1:aw W3 mb 1 fr:=vF.af rfl
   by_cases hf:fr=1
   ·subst hf;have td:du K (cN c) M m (k+1)=_:=oE.out;unfold p8 at td;rw[if_pos rfl]at td;have td:=ae td;clear oE;rw[show((1:Nat):Int)=1 from rfl]at z1;go_upto_region 11 with fail;have adr:=aB (∀k,aK _ k→k<W3.heap.size) (fun k hk=>by obtain⟨_,cs,h9⟩:=mZ.aq hk;exact h9.lt);have wY:=aB (w.heap.size≤W3.heap.size) (Nat.le_trans aX.size bn.size);have QB:=aB (∀w',ag az W3 w'→_) (fun w' hw=>Eu (H3.keep hw) y);clear z1;have k0:aE W3.drew a.l 17 (aO a.cb):=H3.mD;have k1:aw W3.drew mb 0 y:=vF.af rfl;refine dU (fun w':World=>aE w' a.l 17 (aO a.cb)∧aw w' mb 0 y) 12 fun aH=>?_
    refine bX [0,1,2,3,4,5] ?_;refine il (i:=6) (j:=10) rfl rfl bZ (fun Kc hK=>?_) (fun Kc hK=>?_)
    ·go_simp;refine(QB W3.drew ((ag.aj az W3).drew)).mono ?_;rintro e W4 ⟨b4,A4,n4,m4,D4,rfl,hf4,Bb,cI⟩;have kg:=ae hf4;have H4:=ae Bb;have bK:=aB (ag (b6 a) W3 W4) ((((ag.aj az W3).drew).mono (S':=b6 a) fun k hk=>hk.elim).aC cI fun k hk=>.inl hk.uT);have GZ:=ae<|bK.aq vF fun e=>fh _ (.inl e) rfl;have k0:aE W4 a.l 17 (aO a.cb):=H4.mD;have k1:aw W4 mb 0 y:=GZ.af rfl;clear hf4 Bb cI;refine eh hK fun aH=>?_
     clear hK;refine bX [7,8,9] ?_;refine cM 10 fun Kc hK=>?_
     go_simp;have dq:ag az W4 (W4.alloc (.cells zF 102)):=(ag.aj az W4).alloc _;have GG:=ae<|Box.fresh W4 102 zF;have iT:=aB (∀d,_→b4=y∧cX Z _ (.slice A4 n4 m4) d) (fun d hd=>⟨(kg d hd).1,(kg d hd).2.keep dq⟩);have H5:=ae<|H4.keep dq;have KL:=ae<|dq.aq GZ id;have bM:=ae<|bK.aC dq fun _ h=>h.elim;have abb:=aB (W3.heap.size≤W4.heap.size) (bK.size);have abd:=aB (W1.heap.size≤W4.heap.size) (Nat.le_trans bn.size bK.size);have kH:=aB (w.heap.size≤W4.heap.size∧W4.heap.size≠mb) (⟨Nat.le_trans wY bK.size,fun e=>by have:=GZ.lt;omega⟩);change Kc _ (W4.alloc (.cells zF 102));clear dq kg H4 GZ bK;generalize W4.alloc (.cells zF 102)=W5 at *;generalize W4.heap.size=fb at *;have k0:aE W5 a.l 17 (aO a.cb):=H5.mD;have k1:aw W5 mb 0 y:=KL.af rfl;refine eh hK fun aH=>?_
     clear hK;refine cM 11 fun Kc hK=>?_
     refine wp_store_row 102 _ _ rfl fb #[ah b4,.slice A4 n4 m4] rfl rfl 102 _ GG bZ rfl a6 ?_;have j6:ag (ar fb) W5 (W5.setRow fb #[ah b4,.slice A4 n4 m4]):=(ag.aj (ar fb) W5).au (.inl rfl) _;have iL:Wr Z (ar fb) W5:=fun k hk e=>by rw[show k=fb from e];exact⟨Nat.le_trans kZ kH.1,.inr fun cs hb=>(GG.off hb aD) rfl⟩
     have aa6:=aB (∀k,aK _ k→k=fb→False) (fun k hk e=>by have:=adr.out k hk;have:=abb.out;omega);have Oe:=ae<|GG.au #[ah b4,.slice A4 n4 m4];have H6:=ae (H5.dC j6 iL fun k hk e=>by have:=HX.out k hk;have:=kH.1;have e:k=fb:=e;omega);have nR:=aB (∀d,_→b4=y∧cX Z _ (.slice A4 n4 m4) d) (fun d hd=>⟨(iT d hd).1,(iT d hd).2.aA j6 iL⟩);have Wb:=ae<|j6.aq KL fun e=>kH.2 (show mb=fb from e).symm;have cZ:=aB (ag (fun k=>b6 a k∨k=fb) W3 (W5.setRow fb #[ah b4,.slice A4 n4 m4])) ((bM.mono (S':=fun k=>b6 a k∨k=fb) fun k hk=>.inl (.inl hk)).aC j6 fun k hk=>.inl (.inr hk));have w9:=ae<|((mZ.aA bM H3.wr fun k hk e=>by have:=HX.out k (.inl e);have:=(mZ.aq hk).1;have:=aX.size;omega)).aA j6 iL fun k hk e=>aa6 k hk e;clear j6 iL GG H5 iT KL bM;generalize W5.setRow fb #[ah b4,.slice A4 n4 m4]=W6 at *;have k0:aE W6 a.l 17 (aO a.cb):=H6.mD;have k1:aw W6 mb 0 y:=Wb.af rfl;refine eh hK fun aH=>?_
     clear hK;refine cG ?_;clear k0 k1 aH;have mI:=aB (ag (b6 a) W1 W6) (bn.aC cZ fun k hk=>by
      rcases hk with e|e
      ·exact .inl e
      ·have:=kH.2;exact .inr (by rw[e];exact abd))
     cases hD:(du K (cN c) M m k).2.1 y with
     |none=>
      exact sa
     |some d=>
      exact rr
    ·go_simp;have AB:ag az W3 (W3.drew.alloc (.cells zF 102)):=((ag.aj az W3).drew).alloc _;have adx:=aB (Box (W3.drew.alloc (.cells zF 102)) W3.heap.size 102 zF) (Box.fresh W3.drew 102 zF);have gZ:=ae AB;have GZ:=ae<|AB.aq vF id;have abb:=aB (W3.heap.size≤W3.heap.size) (dm _);have abd:=aB (W1.heap.size≤W3.heap.size) (bn.size);have kH:=aB (w.heap.size≤W3.heap.size∧W3.heap.size≠mb) (⟨wY,fun e=>by have:=vF.lt;omega⟩);change Kc _ (W3.drew.alloc (.cells zF 102));have k0:aE (W3.drew.alloc (.cells zF 102)) a.l 17 (aO a.cb):=(H3.keep AB).mD;clear AB
     try rw[show W3.drew.heap.size=W3.heap.size from rfl]
     generalize W3.drew.alloc (.cells zF 102)=W4 at *;generalize W3.heap.size=fb at *;have k1:aw W4 mb 0 y:=GZ.af rfl;refine eh hK fun aH=>?_
     clear hK;refine cM 6 fun Kc hK=>?_
     go_simp;refine(QB W4 gZ).mono ?_;rintro e W5 ⟨b4,A4,n4,m4,D4,rfl,Yi,Gn,cA⟩;have iT:=ae Yi;have H5:=ae Gn;have GG:=ae (cA.aq adx fun e=>by have:=HX.out _ (.inl (tg.uT e));have:=kH.1;omega);have KL:=ae<|cA.aq GZ fun e=>fh _ (.inl (tg.uT e)) rfl;have bM:=aB (ag (b6 a) W3 W5) ((gZ.mono (S':=b6 a) fun k hk=>hk.elim).aC cA fun k hk=>.inl hk.uT);have k0:aE W5 a.l 17 (aO a.cb):=H5.mD;have k1:aw W5 mb 0 y:=KL.af rfl;clear Yi Gn cA adx gZ GZ;refine eh hK fun aH=>?_
     clear hK;refine bX [7,8,9] ?_;refine cM 11 fun Kc hK=>?_
     refine wp_store_row 102 _ _ rfl fb #[ah b4,.slice A4 n4 m4] rfl rfl 102 _ GG bZ rfl a6 ?_;have j6:ag (ar fb) W5 (W5.setRow fb #[ah b4,.slice A4 n4 m4]):=(ag.aj (ar fb) W5).au (.inl rfl) _;have iL:Wr Z (ar fb) W5:=fun k hk e=>by rw[show k=fb from e];exact⟨Nat.le_trans kZ kH.1,.inr fun cs hb=>(GG.off hb aD) rfl⟩
     have aa6:=aB (∀k,aK _ k→k=fb→False) (fun k hk e=>by have:=adr.out k hk;have:=abb.out;omega);have Oe:=ae<|GG.au #[ah b4,.slice A4 n4 m4];have H6:=ae (H5.dC j6 iL fun k hk e=>by have:=HX.out k hk;have:=kH.1;have e:k=fb:=e;omega);have nR:=aB (∀d,_→b4=y∧cX Z _ (.slice A4 n4 m4) d) (fun d hd=>⟨(iT d hd).1,(iT d hd).2.aA j6 iL⟩);have Wb:=ae<|j6.aq KL fun e=>kH.2 (show mb=fb from e).symm;have cZ:=aB (ag (fun k=>b6 a k∨k=fb) W3 (W5.setRow fb #[ah b4,.slice A4 n4 m4])) ((bM.mono (S':=fun k=>b6 a k∨k=fb) fun k hk=>.inl (.inl hk)).aC j6 fun k hk=>.inl (.inr hk));have w9:=ae<|((mZ.aA bM H3.wr fun k hk e=>by have:=HX.out k (.inl e);have:=(mZ.aq hk).1;have:=aX.size;omega)).aA j6 iL fun k hk e=>aa6 k hk e;clear j6 iL GG H5 iT KL bM;generalize W5.setRow fb #[ah b4,.slice A4 n4 m4]=W6 at *;have k0:aE W6 a.l 17 (aO a.cb):=H6.mD;have k1:aw W6 mb 0 y:=Wb.af rfl;refine eh hK fun aH=>?_
     clear hK;refine cG ?_;clear k0 k1 aH;have mI:=aB (ag (b6 a) W1 W6) (bn.aC cZ fun k hk=>by
      rcases hk with e|e
      ·exact .inl e
      ·have:=kH.2;exact .inr (by rw[e];exact abd))
     cases hD:(du K (cN c) M m k).2.1 y with
     |none=>
      exact sa
     |some d=>
      exact rr
   ·have Ka:du K (cN c) M m (k+1)=du K (cN c) M m k:=by rw[oE.out];unfold p8;rw[if_neg hf]
    have hf':((fr:Int) != 1)=true:=by
     have:¬((fr:Nat):Int)=1:=ao;simpa using this
    have HR:=aB (MM Z K c a M U' m w W1 (.slice At (du K (cN c) M m k).2.2.length ct) (ah ((k:Int)+1)) W3) (⟨k+1,D2,bL,by simp,by rw[Ka];exact mZ,by rw[Ka];have:=EW.out;omega,by rw[Ka];exact H3,bn⟩);clear Ka oE hf;exact l5
  ·obtain rfl:k=m.length:=ao;go_wp2_with fail;go_ret2;exact⟨_,D2,rfl,CU.low aX.size,H2,aX.trans bf⟩
theorem PO (h:bm Z K c a M w){n:Nat}(hn:(n:Int)<c.f 2):Calls Tryz.prog 38 #[aO a.l,ah n] w (RE Z K c a M n w):=by
 by_cases h5:c.f 5=1
 ·exact Dv h hn h5
 ·exact FV h n h5
end
structure ib {K:aZ}(c:aM)(a a':cH K)(w w':World):Prop where
 l:a'.l=a.l
 W:∀k,b6 a' k→b6 a k∨w.heap.size≤k
 X:∀k,jG c a' k→jG c a k∨w.heap.size≤k
 o:ag (b6 a) w w'
theorem ib.refl {K:aZ}{c:aM}(a:cH K){w w':World}(ho:ag az w w'):ib c a a w w':=⟨rfl,fun _ h=>.inl h,fun _ h=>.inl h,ho.mono fun _ h=>h.elim⟩
theorem ib.same {K:aZ}{c:aM}{a a':cH K}{w w':World}(hl:a'.l=a.l)(hW:∀k,b6 a' k→b6 a k)(hX:∀k,jG c a' k→jG c a k)(ho:ag (b6 a) w w'):ib c a a' w w':=⟨hl,fun k h=>.inl (hW k h),fun k h=>.inl (hX k h),ho⟩
theorem ib.trans {K:aZ}{c:aM}{a b d:cH K}{w w1 w2:World}(h:ib c a b w w1)(k:ib c b d w1 w2):ib c a d w w2 where
 l:=k.l.trans h.l
 W:=fun j hj=>by
  rcases k.W j hj with e|e
  ·exact h.W j e
  ·exact .inr (Nat.le_trans h.o.size e)
 X:=fun j hj=>by
  rcases k.X j hj with e|e
  ·exact h.X j e
  ·exact .inr (Nat.le_trans h.o.size e)
 o:=h.o.aC k.o fun j hj=>h.W j hj
theorem xw {K:aZ}{a:cH K}{ev:Value}{D:Int→Option oM}{dv:Nat→Value}{n:Nat}(h:∀k,aK ev k→aK a.en k∨n≤k){k:Nat}(hk:b6 {a with D:=D,dv:=dv,en:=ev} k):b6 a k∨n≤k:=by
 rcases hk with e|e|e|e|e|e|e|e|e
 ·exact .inl (.inl e)
 ·exact .inl (.inr (.inl e))
 ·exact .inl (.inr (.inr (.inl e)))
 ·exact .inl (.inr (.inr (.inr (.inl e))))
 ·exact .inl (.inr (.inr (.inr (.inr (.inl e)))))
 ·exact .inl (.inr (.inr (.inr (.inr (.inr (.inl e))))))
 ·exact .inl (.inr (.inr (.inr (.inr (.inr (.inr (.inl e)))))))
 ·exact .inl (.inr (.inr (.inr (.inr (.inr (.inr (.inr (.inl e))))))))
 ·exact(h k e).imp (fun e=>.inr (.inr (.inr (.inr (.inr (.inr (.inr (.inr e)))))))) id
theorem AP {K:aZ}{c:aM}{a:cH K}{ev:Value}{D:Int→Option oM}{dv:Nat→Value}{n:Nat}(h:∀k,aK ev k→aK a.en k∨n≤k){k:Nat}(hk:jG c {a with D:=D,dv:=dv,en:=ev} k):jG c a k∨n≤k:=by
 rcases hk with e|⟨h0,e⟩
 ·exact(xw h e).imp .inl id
 ·exact .inl (.inr ⟨h0,e⟩)
theorem yO:(Tryz.prog.info? 58).map (fun i=>(i.zero,i.size,i.bytes))=some (some (.agg #[ah 0,ah 0,.bool false,ah 0,aJ]),5,56):=by kernel_rfl
theorem fU {α:Type}(f:Nat→α)(i:Nat)(v:α):aI f i v i=v:=by unfold aI;rw[if_pos rfl]
theorem nt {α:Type}(f:Nat→α)(i:Nat)(u v:α):aI (aI f i u) i v=aI f i v:=by
 funext j
 unfold aI
 split<;>rfl
theorem oW (n:Nat)(S:Nat→Dg){i:Nat}(hi:i<n)(s:Dg):(((((mC n S).setIfInBounds (i*5) (ah s.op)).setIfInBounds (i*5+1) (ah s.blk)).setIfInBounds (i*5+2) (ah s.lev)).setIfInBounds (i*5+3) (.bool s.wr)).setIfInBounds (i*5+4) s.ed=mC n (aI S i s):=by
 have h0:=um n S hi (j:=0) aD (ah s.op) {S i with op:=s.op} (fun j hj=>by
  rcases(show j=0∨j=1∨j=2∨j=3∨j=4 by omega)with rfl|rfl|rfl|rfl|rfl<;>rfl)
 rw[Nat.add_zero]at h0;rw[h0];rw[um n _ hi aD (ah s.blk) {S i with op:=s.op,blk:=s.blk} (fun j hj=>by
  rw[fU];rcases(show j=0∨j=1∨j=2∨j=3∨j=4 by omega)with rfl|rfl|rfl|rfl|rfl<;>rfl),nt]
 rw[um n _ hi aD (ah s.lev) {S i with op:=s.op,blk:=s.blk,lev:=s.lev} (fun j hj=>by
  rw[fU];rcases(show j=0∨j=1∨j=2∨j=3∨j=4 by omega)with rfl|rfl|rfl|rfl|rfl<;>rfl),nt]
 rw[um n _ hi aD (.bool s.wr) {S i with op:=s.op,blk:=s.blk,lev:=s.lev,wr:=s.wr} (fun j hj=>by
  rw[fU];rcases(show j=0∨j=1∨j=2∨j=3∨j=4 by omega)with rfl|rfl|rfl|rfl|rfl<;>rfl),nt]
 rw[um n _ hi aD s.ed s (fun j hj=>by
  rw[fU];rcases(show j=0∨j=1∨j=2∨j=3∨j=4 by omega)with rfl|rfl|rfl|rfl|rfl<;>rfl),nt]
theorem Cz {Z:ZN}{w:World}{K:aZ}{c:aM}{a:cH K}{M:CM K.σ}(h:bm Z K c a M w){k:Nat}(hk:k<cN c){op blk lev:Int}{dt:List Int}(hs:M.S k=⟨op,blk,lev,false,dt⟩):
 Calls Tryz.prog 41 #[aO a.l,ah k] w fun e w'=>∃A n m,e= .returned (.agg (dW 1 k op blk lev (.slice A n m)))∧cX Z w' (.slice A n m) []∧ag az w w':=by
 refine(Ns h hk).mono ?_;rintro e w' ⟨A,n,m,he,hd,ho⟩;rw[hs]at he hd;rw[AR rfl]at he;rw[xL rfl]at hd;exact⟨A,n,m,he,hd,ho⟩
theorem Af {Z:ZN}{w:World}{K:aZ}{c:aM}{a:cH K}{M:CM K.σ}(h:bm Z K c a M w){k:Nat}(hk:k<cN c){op blk lev:Int}{dt:List Int}(hs:M.S k=⟨op,blk,lev,true,dt⟩):
 Calls Tryz.prog 41 #[aO a.l,ah k] w fun e w'=>∃A n m,e= .returned (.agg (dW 2 k op blk lev (.slice A n m)))∧cX Z w' (.slice A n m) dt∧ag az w w':=by
 refine(Ns h hk).mono ?_;rintro e w' ⟨A,n,m,he,hd,ho⟩;rw[hs]at he hd;rw[xU rfl]at he;rw[uE rfl]at hd;exact⟨A,n,m,he,hd,ho⟩
theorem Xq {K:aZ}{c:aM}{M:CM K.σ}{b:Int}:(iY K.sp c (cN c) M b).length≤4:=by
 unfold iY
 split
 ·have h1:=yV (dF c) M.U b;have h2:∀k,(du K (cN c) M (gV (dF c) M.U b).2.2 k).2.2.length≤k:=fun k=>by
   induction k with
   |zero=>exact dm _
   |succ k ih=>
    by_cases hk:k<(gV (dF c) M.U b).2.2.length
    ·rw[zh hk];unfold p8
     split
     ·split
      ·rw[List.length_append];have:∀b lev d,(eZ (cN c) M.S b lev d).length≤1:=fun b lev d=>by unfold eZ;split<;>simp
       have:=this ((gV (dF c) M.U b).2.2.getD k (0,0)).1 2 (by assumption);omega
      ·omega
     ·omega
    ·have:du K (cN c) M (gV (dF c) M.U b).2.2 (k+1)=du K (cN c) M (gV (dF c) M.U b).2.2 k:=by
      unfold du;rw[List.take_of_length_le ao,List.take_of_length_le ao]
     rw[this];omega
  have h3:=h2 (gV (dF c) M.U b).2.2.length;have J2:yG K.sp c (cN c) M b=du K (cN c) M (gV (dF c) M.U b).2.2 (gV (dF c) M.U b).2.2.length:=by unfold du;rw[List.take_length];rfl
  rw[J2];omega
 ·exact dT _
variable {Z:ZN}{w w':World}{S:Nat→Prop}{K:aZ}{c:aM}{a:cH K}{M:CM K.σ}
theorem Pj (sp:eY K.σ)(n:Nat)(M:CM K.σ)(q:Nat)(b:Int):bG sp c n {M with ops:=q} b= {bG sp c n M b with ops:=q}:=by
 unfold bG yG
 split<;>rfl
theorem Ph (sp:eY K.σ)(n:Nat)(M:CM K.σ)(q:Nat)(b:Int):iY sp c n {M with ops:=q} b=iY sp c n M b:=rfl
theorem Nc (sp:eY K.σ)(n:Nat)(M:CM K.σ)(b:Int):(bG sp c n M b).S=M.S:=by unfold bG;split<;>rfl
theorem xI (sp:eY K.σ)(n:Nat)(M:CM K.σ)(b:Int):(bG sp c n M b).up=M.up:=by unfold bG;split<;>rfl
theorem xJ (sp:eY K.σ)(n:Nat)(M:CM K.σ)(b:Int):(bG sp c n M b).en=M.en:=by unfold bG;split<;>rfl
def agm (Z:ZN)(K:aZ)(c:aM)(a:cH K)(M:CM K.σ)(i:Nat)(wr:Bool)(n:Nat)(d:List Int)(w:World)(e:Ending)(w':World):Prop:=
 ∃v a',e= .returned (.tuple #[ah (M.ops+1:Nat),v,ah 0])∧bg Z w' w.heap.size v (dK K.sp c (cN c) M i wr n d)∧bm Z K c a' (bB K.sp c (cN c) M i wr n d) w'∧ib c a a' w w'
section
theorem pX (h:bm Z K c a M w){i b:Int}{wr:Bool}{A:Option Addr}{m q:Nat}(hc:dJ c M.S i wr b m≠0):
 Calls Tryz.prog 13 #[aO a.l,ah i,.bool wr,ah b,.slice A m q] w fun e w'=>e= .returned (.tuple #[ah 0,aJ,ah (dJ c M.S i wr b m)])∧w=w':=by
 have HW:=ae<|Es h i b wr A m q;have hc':(dJ c M.S i wr b m != 0)=true:=by simpa using hc
 generalize dJ c M.S i wr b m=cd at *;clear h hc
 go_enter Tryz.func13,Tryz.ntmps13
 go_wp2_with (go_at_call 37;refine HW.mono ?_;rintro e W1 ⟨rfl,rfl⟩)
 go_ret3
 exact⟨rfl,rfl⟩
theorem ji{P:Prop}(h:P:=by
 unfold bB;rw[if_neg (fun e=>by have h2:=e.2;have h3:=hD;rw[fh.out]at h3;rw[show(bG K.sp c (cN c) M n).D n=none from h3]at h2;cases h2),fh.out,oF.out];simp only[Nc];rfl):P:=h
theorem rK{P:Prop}(h:P:=by
 rcases h9 with h9|h9
 ·exact .inl (by rw[nc.out];unfold aK;rw[←h9];exact hk)
 ·unfold aK at hk;rw[h9]at hk;injection hk with hk;exact .inr (Nat.le_of_eq hk)):P:=h
theorem sI{P:Prop}(h:P:=by
 unfold bB;rw[if_pos ⟨rfl,by rw[Vi];rfl⟩,fh.out,oF.out,Vi];simp only[xJ];rfl):P:=h
theorem qj{P:Prop}(h:P:=by
 exact⟨H5.lo _ (.inr (.inr (.inr (.inr (.inr (.inr (.inl rfl))))))),.inr fun cs hb=>(xc.off hb aD) rfl⟩):P:=h
theorem jm{P:Prop}(h:P:=by
 unfold bB;rw[if_neg (fun e=>by cases e.1),fh.out,oF.out];simp only[Nc];rfl):P:=h
theorem jB{P:Prop}(h:P:=by have h9:=Xq (K:=K) (c:=c) (M:=M) (b:=n);have:X.length=(iY K.sp c (cN c) M n).length:=by {rw[←List.length_map (f:=Prod.fst),e1]};omega):P:=h
theorem mB{P:Prop}(h:P:=by rw[show k=a.l from hk];exact .inr (.inr (.inr (.inr (.inr (.inr (.inl rfl))))))):P:=h
theorem bR{P:Prop}(h:P:=by unfold maxLen;have:=Ke.out;omega):P:=h
theorem dS{P:Prop}(h:P:=by simp[dW,Value.oneCell']):P:=h
theorem eM{P:Prop}(h:P:=by simp[jD,Value.oneCell']):P:=h
theorem bQ{P:Prop}(h:P:=by have:=Ke.out;omega):P:=h
theorem vw (h:bm Z K c a M w){i n:Nat}{wr:Bool}{v:Value}{d:List Int}(hi:i<cN c)(hn:(n:Int)<c.f 2)(hc:dJ c M.S i wr n d.length=0)(hd:cX Z w v d)(Bn:M.ops≤1000000)(ti:M.en.length≤1000000)(cw:K.sp.eE (bG K.sp c (cN c) M n).s<bN):
 Calls Tryz.prog 13 #[aO a.l,ah i,.bool wr,ah n,v] w (agm Z K c a M i wr n d w):=by
 obtain⟨A,q,rfl⟩:=hd.shape;have HW:=Es h i n wr A d.length q;rw[hc]at HW;have HW:=ae HW;have FY:=h.Kd;have f20:w.frozen? ⟨a.l,20,none⟩=false:=h.aq.free 20;have hwr:IntKind.i64.wrap ((M.ops:Nat)+1:Int)=((M.ops+1:Nat):Int):=by rw[IntKind.wrap_i64];omega
 have Yo:Wr Z (ar a.l) w:=fun k hk hs=>h.wr k hk mA
 have H1:=ae<|h.KP (M.ops+1);have jL:=ae<|hd.aA (h.j 20 (ah (M.ops+1:Nat))) Yo;have aX:=ae<|(h.j 20 (ah (M.ops+1:Nat))).mono (S':=b6 a) fun k hk=>.inl mB;have HI:=ae hi;have HN:=ae hn;have afP:=ae Bn;have Bx:=ae ti;have tJ:=ae cw;have H0:=ae h.zb;have bL:=ae<|fun k (hk:b6 a k)=>h.kB hk;have iA:=ae<|fun k (hk:jG c a k)=>h.uU hk;clear h hd Yo hi hn Bn ti cw hc
 go_enter Tryz.func13,Tryz.ntmps13
 go_upto_region 5 with(go_at_call 37;refine HW.mono ?_;rintro e W1 ⟨rfl,rfl⟩);change Code.wp _ _ _ _ (w.setCell ⟨a.l,20,none⟩ (ah (M.ops+1:Nat)));have acz:(w.setCell ⟨a.l,20,none⟩ (ah (M.ops+1:Nat))).heap.size=w.heap.size:=World.size_setCell ..;have Ob:=ae acz;clear HW FY f20 hwr acz;generalize w.setCell ⟨a.l,20,none⟩ (ah (M.ops+1:Nat))=W1 at *;have HV:=ae<|PO H1 HN;go_upto_region 6 with(go_at_call 38;refine HV.mono ?_;rintro e W2 ⟨v2,D2,rfl,VK,kX,bp⟩);rw[Pj]at kX;rw[Ph]at VK;obtain⟨A2,q2,e2,_,_⟩:=VK.shape;subst e2;have H2:=ae kX;have tA:=ae<|jL.aA bp H1.wr;have bf:=ae<|aX.trans bp;have xa:=aB (bg Z W2 w.heap.size _ _) (Ob.out▸VK);clear VK kX bp HV H1 jL aX Ob;obtain⟨MX,ZU⟩:∃MX,MX= {bG K.sp c (cN c) M n with ops:=M.ops+1}:=⟨_,rfl⟩;rw[←ZU]at H2;have fh:=ae ZU;obtain⟨OP,Qm⟩:∃OP:Int,OP=((M.ops+1:Nat):Int):=⟨_,rfl⟩;have oF:=ae Qm;clear Qm;clear ZU
 cases wr with
 |false=>
  have Us:=H2.mD;have HU:=ae<|Uh H2 n (by rw[fh.out];exact tJ);go_upto_region 8 with(go_at_call 39;refine HU.mono ?_;rintro e W3 ⟨A3,q3,m3,rfl,hf3,Yj,cB⟩);have bn:=ae<|bf.aC cB fun k hk=>.inl hk.uT;have tf:=ae<|tA.aA cB fun k hk e=>H2.wr k hk (tg.uT e);have mZ:=ae (xa.aA cB (fun k hk e=>H2.wr k hk (tg.uT e)) fun k hk e=>by have:=(xa.aq hk).1;have:=bL.out k (tg.uT e);omega);have jE:=ae hf3
  cases hD:MX.D n with
  |some d0=>
   rw[hD]at Yj;have H3:=aB (bm Z K c {a with D:=D2} {MX with s:=K.sp.use MX.s n} W3) (Yj);have yA:=ae<|jE d0 hD;clear hf3 Yj cB Us HU jE xa tA bf H2 tf;obtain⟨Ae,ce,uh,_,_⟩:=H3.en.shape;have nc:=ae uh;obtain⟨X,e1,r1,d1⟩:=H3.en;have bu:ag az W3 (W3.alloc (.cells (jD ⟨i,OP,false,0,d0⟩ (.slice A3 q3 m3)).toArray 58)).drew:=((ag.aj az W3).alloc _).drew;have CV:=aB (∀j u,(jD ⟨i,OP,false,0,d0⟩ (.slice A3 q3 m3))[j]? =some u→(W3.alloc (.cells (jD ⟨i,OP,false,0,d0⟩ (.slice A3 q3 m3)).toArray 58)).drew.cell? ((⟨W3.heap.size,0,none⟩:Addr).add j)=some u) (cV W3 _ _);have lH:=ae e1;have AW:=bk r1 bu fun _ _=>id
   rw[uh]at AW;have b5:=ae AW;have jL:=ae<|fun p hp=>(d1 p hp).keep bu;have H5:=ae<|H3.keep bu;have R5:=ae<|yA.keep bu;have nM:=ae<|mZ.keep bu;have bM:=ae<|bn.aC bu fun _ h=>h.elim;have tF:=aB (Z.B≤(W3.alloc (.cells (jD ⟨i,OP,false,0,d0⟩ (.slice A3 q3 m3)).toArray 58)).drew.heap.size) (Nat.le_trans H3.zb bu.size);have Ke:=aB (X.length≤1000000) (by
    have h8:X.length=MX.en.length:=by rw[←e1,List.length_map]
    have h9:=Bx.out;rw[h8,fh.out]
    show(bG K.sp c (cN c) M n).en.length≤_
    rw[xJ];exact h9)
   have Zt:W3.drew.cell? ⟨a.l,22,none⟩=some (.slice Ae MX.en.length ce):=by rw[←uh];exact H3.Qn
   have Zu:W3.drew.cell? ⟨a.l,20,none⟩=some (ah OP):=by have:W3.cell? _=_:=H3.Kd;rw[fh.out]at this;rw[oF.out];exact this
   have Q3:=bu.cell (show W3.cell? ⟨a.l,22,none⟩=some (.slice Ae MX.en.length ce)from Zt) id;have e20:=bu.cell (show W3.cell? ⟨a.l,20,none⟩=some (ah OP)from Zu) id;clear uh e1 r1 AW d1 bu;go_upto_region 9 with fail;refine dU (fun w':World=>w'.cell? ⟨a.l,22,none⟩=some (.slice Ae MX.en.length ce)∧w'.cell? ⟨a.l,20,none⟩=some (ah OP)) 14 fun aH=>?_
   refine bX [0,1,2,3,4,5,6,7,8,9,10] ?_;refine cM 11 fun Kc hK=>?_
   go_simp;refine eh hK fun aH=>?_
   clear hK;refine cM 12 fun Kc hK=>?_
   go_simp;refine eh hK fun aH=>?_
   clear hK;refine cM 13 fun Kc hK=>?_
   refine nV _ (.tmp 56) (.tmp 64) 50 58 rfl yO rfl aD Tryz.underlying50 Z.B (.slice Ae MX.en.length ce) X.length _ (jD ⟨i,OP,false,0,d0⟩ (.slice A3 q3 m3)) rfl b5 ⟨W3.heap.size,0,none⟩ rfl rfl CV eM bR bQ tF ?_;intro v6 W6 h6 bT h9;have EN:∀k,aK v6 k→aK a.en k∨(W3.alloc (.cells (jD ⟨i,OP,false,0,d0⟩ (.slice A3 q3 m3)).toArray 58)).drew.heap.size≤k:=fun k hk=>by
    exact rK
   have bT:ag (aK a.en) (W3.alloc (.cells (jD ⟨i,OP,false,0,d0⟩ (.slice A3 q3 m3)).toArray 58)).drew W6:=by rw[nc.out];exact bT
   have wG:Wr Z (aK a.en) (W3.alloc (.cells (jD ⟨i,OP,false,0,d0⟩ (.slice A3 q3 m3)).toArray 58)).drew:=fun k hk hs=>H5.wr k hk (.inr (.inr (.inr (.inr (.inr (.inr (.inr (.inr hs))))))))
   have tH:=ae<|dy.app (v:=v6) (⟨i,OP,false,0,d0⟩,.slice A3 q3 m3) h6 lH (fun p hp=>(jL p hp).aA bT wG) (R5.aA bT wG);have w9:=ae (nM.aA bT wG fun k hk e=>by have:=(nM.aq hk).1;have:=bL.out k (.inr (.inr (.inr (.inr (.inr (.inr (.inr (.inr e))))))));omega);have zI:=ae EN;have GD:=ae bT;have gX:=bT.aq H5.aq H5.ap.Zs;have Zt:W6.cell? ⟨a.l,22,none⟩=some (.slice Ae MX.en.length ce):=by rw[←nc.out];exact gX.af rfl
   have Zu:W6.cell? ⟨a.l,20,none⟩=some (ah OP):=by have:=gX.af (i:=20) (v:=ah (MX.ops:Nat)) rfl;rw[fh.out]at this;rw[oF.out];exact this
   have f22:W6.frozen? ⟨a.l,22,none⟩=false:=gX.free _;obtain⟨A6,c6,e6,_,_⟩:=cz h6;subst e6;have xc:=ae gX;clear h6 bT h9 EN wG gX;refine eh hK fun aH=>?_
   clear hK;refine cG ?_;clear aH Q3 e20;go_upto_region 10 with fail;change Code.wp _ _ _ _ (W6.setCell ⟨a.l,22,none⟩ (.slice A6 (X.length+1) c6));obtain⟨ER,dL⟩:=H5.pH GD tH zI;have j7:ag (ar a.l) W6 (W6.setCell ⟨a.l,22,none⟩ (.slice A6 (X.length+1) c6)):=(ag.aj (ar a.l) W6).setCell (p:=⟨a.l,22,none⟩) (.inl (show ar a.l a.l from rfl)) _;have wH:Wr Z (ar a.l) W6:=fun k _ e=>by
    rw[show k=a.l from e];exact qj
   have ej:=ae (w9.aA j7 wH fun k hk e=>by have:=(w9.aq hk).1;have:=bL.out k (by rw[show k=a.l from e];exact .inr (.inr (.inr (.inr (.inr (.inr (.inl rfl)))))));omega);have H7:=ae ER;have fC:=ae<|bM.trans dL;have CO:∀k,aK (.slice A6 (X.length+1) c6) k→aK a.en k∨w.heap.size≤k:=fun k hk=>(zI k hk).imp id fun e=>Nat.le_trans bM.size e
   have Gw:=ae CO;clear ER dL j7 wH CO Zt Zu f22 GD tH zI w9 xc bM nM R5 H5 b5 jL CV tF mZ bn H3 yA;generalize W6.setCell ⟨a.l,22,none⟩ (.slice A6 (X.length+1) c6)=W7 at *;have Vi:(bG K.sp c (cN c) M n).D n=some d0:=by have h3:=hD;rw[fh.out]at h3;exact h3
   have wK: {MX with s:=K.sp.use MX.s n,en:=MX.en ++ [⟨i,OP,false,0,d0⟩]}=bB K.sp c (cN c) M i false n d:=by
    exact sI
   have EY:=ae wK;clear wK;have FY:W7.cell? ⟨a.l,20,none⟩=some (ah OP):=by have:=H7.Kd;rw[fh.out]at this;rw[oF.out];exact this
   have HD0:=ae Vi;clear Vi hD;go_wp2
   go_ret3
   refine⟨_,{a with D:=D2,en:=.slice A6 (X.length+1) c6},by rw[←oF.out];rfl,?_,EY.out▸H7.out,⟨rfl,fun k hk=>?_,fun k hk=>?_,fC⟩⟩
   ·unfold dK;rw[if_pos ⟨rfl,by rw[HD0.out];rfl⟩];exact ej
   ·exact xw Gw hk
   ·exact AP Gw hk
  |none=>
   rw[hD]at Yj;have H3:=aB (bm Z K c {a with D:=D2} MX W3) (Yj);clear hf3 Yj cB Us HU jE xa tA bf H2;have s9:=H3.pw;have FY:W3.cell? ⟨a.l,20,none⟩=some (ah OP):=by have:=H3.Kd;rw[fh.out]at this;rw[oF.out];exact this
   obtain⟨Ad,nd,md,eD⟩:=H3.DD i HI;obtain⟨y0,y1,y2,y3,y4⟩:=bJ H3.slots HI eD;have z0:W3.frozen? ⟨a.sb,i*5,none⟩=false:=H3.slots.free _;have z1:W3.frozen? ⟨a.sb,i*5+1,none⟩=false:=H3.slots.free _;have z2:W3.frozen? ⟨a.sb,i*5+2,none⟩=false:=H3.slots.free _;have z3:W3.frozen? ⟨a.sb,i*5+3,none⟩=false:=H3.slots.free _;have z4:W3.frozen? ⟨a.sb,i*5+4,none⟩=false:=H3.slots.free _;have bw:(i:Int)<cN c:=by have:=HI.out;omega
   have mX:cN c≤4:=H3.nn.2.1;go_upto_region 11 with fail
   go_region
   obtain⟨W4,e4⟩:∃W4,W4=(((((W3.setCell ⟨a.sb,i*5,none⟩ (ah OP)).setCell ⟨a.sb,i*5+1,none⟩ (ah n)).setCell ⟨a.sb,i*5+2,none⟩ (ah (b9 c M.U n))).setCell ⟨a.sb,i*5+3,none⟩ (.bool false)).setCell ⟨a.sb,i*5+4,none⟩ aJ).drew:=⟨_,rfl⟩;have NL:Box W4 a.sb 92 (mC (cN c) (aI (fun j=>sR (MX.S j) (a.dv j)) i (sR ⟨OP,n,b9 c M.U n,false,[]⟩ aJ))):=by
    rw[←oW (cN c) _ HI.out];exact e4▸(((((H3.slots.store (i*5) (ah OP)).store (i*5+1) (ah n)).store (i*5+2) (ah (b9 c M.U n))).store (i*5+3) (.bool false)).store (i*5+4) aJ).drew
   have j4:ag (ar a.sb) W3 W4:=e4▸((((((ag.aj (ar a.sb) W3).setCell (p:=⟨a.sb,i*5,none⟩) (.inl (show ar a.sb a.sb from rfl)) _).setCell (p:=⟨a.sb,i*5+1,none⟩) (.inl (show ar a.sb a.sb from rfl)) _).setCell (p:=⟨a.sb,i*5+2,none⟩) (.inl (show ar a.sb a.sb from rfl)) _).setCell (p:=⟨a.sb,i*5+3,none⟩) (.inl (show ar a.sb a.sb from rfl)) _).setCell (p:=⟨a.sb,i*5+4,none⟩) (.inl (show ar a.sb a.sb from rfl)) _).drew;have UZ:∀k,ar a.sb k→b6 a k:=fun k hk=>by rw[show k=a.sb from hk];exact .inr (.inr (.inr (.inr (.inr (.inr (.inr (.inl rfl)))))))
   have ZT:Wr Z (ar a.sb) W3:=fun k hk hs=>H3.wr k hk (UZ k hs)
   have H4:=ae<|H3.vi j4 NL (cX.nil _ _);have bK:=ae<|bn.aC j4 fun k hk=>.inl (UZ k hk);have DM:=ae<|tf.aA j4 ZT;have GY:=ae (mZ.aA j4 ZT fun k hk e=>by have:=(mZ.aq hk).1;have:=bL.out k (UZ k e);omega);rw[←e4];clear e4 NL j4 UZ ZT s9 FY eD y0 y1 y2 y3 y4 z0 z1 z2 z3 z4 bw mX H3 bn tf mZ;have kz:W4.cell? ⟨a.l,21,none⟩=some (.bool M.up):=by have:=H4.yh;rw[fh.out]at this;rw[←xI (c:=c) K.sp (cN c) M n];exact this
   cases fK:M.up with
   |true=>
    rw[fK]at kz;have HA:=ae<|Cz H4 HI (op:=OP) (blk:=n) (lev:=b9 c M.U n) (dt:=[]) (fU _ _ _);unfold dW at HA;go_upto_region 16 with(first|(go_at_call 41;refine HA.mono ?_;rintro e W7 ⟨A7,n7,m7,rfl,Ba,dL⟩;have bu:=dL.alloc (.cells (dW 1 i OP n (b9 c M.U n) (.slice A7 n7 m7)) 37);have H7:=ae<|H4.keep bu;have fC:=ae<|bK.aC bu fun _ h=>h.elim;have ej:=ae<|GY.keep bu;have vJ:=ae<|Ba.keep ((ag.aj az W7).alloc (.cells (dW 1 i OP n (b9 c M.U n) (.slice A7 n7 m7)) 37));obtain⟨X,e1,r1,d1⟩:=ej.out;have lH:=ae e1;have b5:=ae r1;have tI:=ae d1;have Ke:=aB (X.length≤4) jB;clear bu Ba dL e1 r1 d1)|(at_builtin;refine ef _ rfl (.tmp 101) (.tmp 105) 40 37 rfl oC rfl aD Tryz.underlying40 w.heap.size _ X.length _ (dW 1 i OP n (b9 c M.U n) (.slice A7 n7 m7)).toList rfl b5 ⟨W7.heap.size,0,none⟩ rfl rfl (cV W7 _ _) dS bR bQ fC.size ?_;intro v8 W8 h8 eT _;have kW:=ej.wr H0.out;have nL:=ae<|bg.app (v':=undef) (CH 1 i OP n (b9 c M.U n) 0 [],.slice A7 n7 m7) h8 lH (fun q hq=>(tI q hq).aA eT kW) (vJ.aA eT kW);have H8:=ae (H7.dC eT kW fun j hj e=>by have:=(ej.aq e).1;have:=iA.out j hj;omega);have ix:=ae<|fC.aC eT fun j hj=>.inr (ej.aq hj).1;obtain⟨A8,c8,e8,_,_⟩:=cz h8;subst e8;clear h8 eT kW));have wK: {MX with S:=aI MX.S i ⟨OP,n,b9 c M.U n,false,[]⟩}=bB K.sp c (cN c) M i false n d:=by
     exact ji
    have EY:=ae wK;clear wK;have FY:W8.cell? ⟨a.l,20,none⟩=some (ah OP):=by have:=H8.Kd;rw[fh.out]at this;rw[oF.out];exact this
    go_wp2
    go_ret3
    refine⟨_,{a with D:=D2,dv:=aI a.dv i aJ},by rw[←oF.out];rfl,?_,EY.out▸H8.out,ib.same rfl (fun _ h=>h) (fun _ h=>h) ix⟩;unfold dK;rw[if_neg (fun e=>by have h2:=e.2;have h3:=hD;rw[fh.out]at h3;rw[show(bG K.sp c (cN c) M n).D n=none from h3]at h2;cases h2)];rw[fK,if_pos rfl];rw[←oF.out];exact nL
   |false=>
    rw[fK]at kz;go_upto_region 16 with fail;have wK: {MX with S:=aI MX.S i ⟨OP,n,b9 c M.U n,false,[]⟩}=bB K.sp c (cN c) M i false n d:=by
     exact ji
    have EY:=ae wK;clear wK;have FY:W4.cell? ⟨a.l,20,none⟩=some (ah OP):=by have:=H4.Kd;rw[fh.out]at this;rw[oF.out];exact this
    go_wp2
    go_ret3
    refine⟨_,{a with D:=D2,dv:=aI a.dv i aJ},by rw[←oF.out];rfl,?_,EY.out▸H4.out,ib.same rfl (fun _ h=>h) (fun _ h=>h) bK⟩;unfold dK;rw[if_neg (fun e=>by have h2:=e.2;have h3:=hD;rw[fh.out]at h3;rw[show(bG K.sp c (cN c) M n).D n=none from h3]at h2;cases h2)];rw[fK,if_neg aD,List.append_nil];exact GY
 |true=>
  have s9:=H2.pw;have FY:W2.cell? ⟨a.l,20,none⟩=some (ah OP):=by have:=H2.Kd;rw[fh.out]at this;rw[oF.out];exact this
  obtain⟨Ad,nd,md,eD⟩:=H2.DD i HI;obtain⟨y0,y1,y2,y3,y4⟩:=bJ H2.slots HI eD;have z0:W2.frozen? ⟨a.sb,i*5,none⟩=false:=H2.slots.free _;have z1:W2.frozen? ⟨a.sb,i*5+1,none⟩=false:=H2.slots.free _;have z2:W2.frozen? ⟨a.sb,i*5+2,none⟩=false:=H2.slots.free _;have z3:W2.frozen? ⟨a.sb,i*5+3,none⟩=false:=H2.slots.free _;have z4:W2.frozen? ⟨a.sb,i*5+4,none⟩=false:=H2.slots.free _;have bw:(i:Int)<cN c:=by have:=HI.out;omega
  have mX:cN c≤4:=H2.nn.2.1;go_upto_region 11 with fail
  go_region
  obtain⟨W4,e4⟩:∃W4,W4=(((((W2.setCell ⟨a.sb,i*5,none⟩ (ah OP)).setCell ⟨a.sb,i*5+1,none⟩ (ah n)).setCell ⟨a.sb,i*5+2,none⟩ (ah (b9 c M.U n))).setCell ⟨a.sb,i*5+3,none⟩ (.bool true)).setCell ⟨a.sb,i*5+4,none⟩ aJ).drew:=⟨_,rfl⟩;have NL:Box W4 a.sb 92 (mC (cN c) (aI (fun j=>sR (MX.S j) (a.dv j)) i (sR ⟨OP,n,b9 c M.U n,true,[]⟩ aJ))):=by
   rw[←oW (cN c) _ HI.out];exact e4▸(((((H2.slots.store (i*5) (ah OP)).store (i*5+1) (ah n)).store (i*5+2) (ah (b9 c M.U n))).store (i*5+3) (.bool true)).store (i*5+4) aJ).drew
  have j4:ag (ar a.sb) W2 W4:=e4▸((((((ag.aj (ar a.sb) W2).setCell (p:=⟨a.sb,i*5,none⟩) (.inl (show ar a.sb a.sb from rfl)) _).setCell (p:=⟨a.sb,i*5+1,none⟩) (.inl (show ar a.sb a.sb from rfl)) _).setCell (p:=⟨a.sb,i*5+2,none⟩) (.inl (show ar a.sb a.sb from rfl)) _).setCell (p:=⟨a.sb,i*5+3,none⟩) (.inl (show ar a.sb a.sb from rfl)) _).setCell (p:=⟨a.sb,i*5+4,none⟩) (.inl (show ar a.sb a.sb from rfl)) _).drew;have UZ:∀k,ar a.sb k→b6 a k:=fun k hk=>by rw[show k=a.sb from hk];exact .inr (.inr (.inr (.inr (.inr (.inr (.inr (.inl rfl)))))))
  have ZT:Wr Z (ar a.sb) W2:=fun k hk hs=>H2.wr k hk (UZ k hs)
  have H4:=ae<|H2.vi j4 NL (cX.nil _ _);have bK:=ae<|bf.aC j4 fun k hk=>.inl (UZ k hk);have DM:=ae<|tA.aA j4 ZT;have GY:=ae (xa.aA j4 ZT fun k hk e=>by have:=(xa.aq hk).1;have:=bL.out k (UZ k e);omega);rw[←e4];clear e4 NL j4 UZ ZT s9 FY eD y0 y1 y2 y3 y4 z0 z1 z2 z3 z4 bw mX H2 bf tA xa;go_upto_region 13 with fail;have k19:W4.drew.cell? ⟨a.l,19,none⟩=some (aU a.sb (cN c) (cN c)):=H4.pw;refine oa (fun w':World=>w'.cell? ⟨a.l,19,none⟩=some (aU a.sb (cN c) (cN c))) 7 ?_ ?_
  ·assumption
  intro aH;refine bX [0,1,2,3,4,5] ?_;refine cM 6 fun Kc hK=>?_
  go_simp;refine(uJ _ d W4.drew (DM.keep (ag.aj az W4).drew).1).mono ?_;rintro e W5 ⟨v5,rfl,hr5,cA,ZF⟩;obtain⟨A5,c5,e5',_,_⟩:=hr5.shape;have e5:v5= .slice A5 d.length c5:=by rw[e5'];simp[bytes]
  clear e5';subst e5;have vg:=aB (cX Z W5 (.slice A5 d.length c5) d) (cX.row hr5 (by obtain⟨_,_,_,_,h9,_⟩:=DM.1;exact h9) fun k hk e=>by have:=ZF k hk;have:=H4.AX k e;have:W4.drew.heap.size=W4.heap.size:=rfl;omega);have UM:=aB (ag az W4 W5) ((ag.aj az W4).drew.trans cA);have H5:=ae<|H4.keep UM;have bM:=ae<|bK.aC UM fun _ h=>h.elim;have nM:=ae<|GY.keep UM;have k19:W5.cell? ⟨a.l,19,none⟩=some (aU a.sb (cN c) (cN c)):=H5.pw;clear hr5 cA ZF;refine jS hK ?_ fun aH=>?_
  ·assumption
  clear hK;refine cG ?_;clear aH k19;have s9:=H5.pw;have bw:(i:Int)<cN c:=by have:=HI.out;omega
  have mX:cN c≤4:=H5.nn.2.1;have y4:W5.cell? ⟨a.sb,i*5+4,none⟩=some aJ:=by
   have:=H5.slots.af (yN (cN c) _ HI (show 4<5 by decide));rw[this]
   show some (aI a.dv i aJ i)=_
   rw[fU]
  have z4:W5.frozen? ⟨a.sb,i*5+4,none⟩=false:=H5.slots.free _;go_upto_region 14 with fail;change Code.wp _ _ _ _ (W5.setCell ⟨a.sb,i*5+4,none⟩ (.slice A5 d.length c5));have J8:Box (W5.setCell ⟨a.sb,i*5+4,none⟩ (.slice A5 d.length c5)) a.sb 92 (mC (cN c) (aI (fun j=>sR (aI MX.S i ⟨OP,n,b9 c M.U n,true,[]⟩ j) (aI a.dv i aJ j)) i (sR ⟨OP,n,b9 c M.U n,true,d⟩ (.slice A5 d.length c5)))):=by
   rw[←um (cN c) _ HI.out (show 4<5 by decide) (.slice A5 d.length c5) (sR ⟨OP,n,b9 c M.U n,true,d⟩ (.slice A5 d.length c5)) (fun j hj=>by
    rw[fU,fU];rcases(show j=0∨j=1∨j=2∨j=3∨j=4 by omega)with rfl|rfl|rfl|rfl|rfl<;>rfl)]
   exact H5.slots.store (i*5+4) (.slice A5 d.length c5)
  have j6:ag (ar a.sb) W5 (W5.setCell ⟨a.sb,i*5+4,none⟩ (.slice A5 d.length c5)):=(ag.aj (ar a.sb) W5).setCell (p:=⟨a.sb,i*5+4,none⟩) (.inl (show ar a.sb a.sb from rfl)) _;have JK:∀k,ar a.sb k→b6 a k:=fun k hk=>by rw[show k=a.sb from hk];exact .inr (.inr (.inr (.inr (.inr (.inr (.inr (.inl rfl)))))))
  have NM:Wr Z (ar a.sb) W5:=fun k hk hs=>H5.wr k hk (JK k hs)
  have Vb:=H5.vi (s:=⟨OP,n,b9 c M.U n,true,d⟩) j6 J8 vg;simp only[nt]at Vb;have H6:=ae Vb;have cZ:=ae<|bM.aC j6 fun k hk=>.inl (JK k hk);have w9:=ae (nM.aA j6 NM fun k hk e=>by have:=(nM.aq hk).1;have:=bL.out k (JK k e);omega);clear J8 j6 JK NM s9 y4 z4 bw mX H5 bM vg nM Vb UM H4 bK DM GY;generalize W5.setCell ⟨a.sb,i*5+4,none⟩ (.slice A5 d.length c5)=W6 at *;have kz:W6.cell? ⟨a.l,21,none⟩=some (.bool M.up):=by have:=H6.yh;rw[fh.out]at this;rw[←xI (c:=c) K.sp (cN c) M n];exact this
  cases fK:M.up with
  |true=>
   rw[fK]at kz;have HA:=ae<|Af H6 HI (op:=OP) (blk:=n) (lev:=b9 c M.U n) (dt:=d) (fU _ _ _);unfold dW at HA;go_upto_region 16 with(first|(go_at_call 41;refine HA.mono ?_;rintro e W7 ⟨A7,n7,m7,rfl,Ba,dL⟩;have bu:=dL.alloc (.cells (dW 2 i OP n (b9 c M.U n) (.slice A7 n7 m7)) 37);have H7:=ae<|H6.keep bu;have fC:=ae<|cZ.aC bu fun _ h=>h.elim;have ej:=ae<|w9.keep bu;have vJ:=ae<|Ba.keep ((ag.aj az W7).alloc (.cells (dW 2 i OP n (b9 c M.U n) (.slice A7 n7 m7)) 37));obtain⟨X,e1,r1,d1⟩:=ej.out;have lH:=ae e1;have b5:=ae r1;have tI:=ae d1;have Ke:=aB (X.length≤4) jB;clear bu Ba dL e1 r1 d1)|(at_builtin;refine ef _ rfl (.tmp 101) (.tmp 105) 40 37 rfl oC rfl aD Tryz.underlying40 w.heap.size _ X.length _ (dW 2 i OP n (b9 c M.U n) (.slice A7 n7 m7)).toList rfl b5 ⟨W7.heap.size,0,none⟩ rfl rfl (cV W7 _ _) dS bR bQ fC.size ?_;intro v8 W8 h8 eT _;have kW:=ej.wr H0.out;have nL:=ae<|bg.app (v':=undef) (CH 2 i OP n (b9 c M.U n) 0 d,.slice A7 n7 m7) h8 lH (fun q hq=>(tI q hq).aA eT kW) (vJ.aA eT kW);have H8:=ae (H7.dC eT kW fun j hj e=>by have:=(ej.aq e).1;have:=iA.out j hj;omega);have ix:=ae<|fC.aC eT fun j hj=>.inr (ej.aq hj).1;obtain⟨A8,c8,e8,_,_⟩:=cz h8;subst e8;clear h8 eT kW));have wK: {MX with S:=aI MX.S i ⟨OP,n,b9 c M.U n,true,d⟩}=bB K.sp c (cN c) M i true n d:=by
    exact jm
   have EY:=ae wK;clear wK;have FY:W8.cell? ⟨a.l,20,none⟩=some (ah OP):=by have:=H8.Kd;rw[fh.out]at this;rw[oF.out];exact this
   go_wp2
   go_ret3
   refine⟨_,{a with D:=D2,dv:=aI a.dv i (.slice A5 d.length c5)},by rw[←oF.out];rfl,?_,EY.out▸H8.out,ib.same rfl (fun _ h=>h) (fun _ h=>h) ix⟩;unfold dK;rw[if_neg (fun e=>by cases e.1)];rw[fK,if_pos rfl];rw[←oF.out];exact nL
  |false=>
   rw[fK]at kz;go_upto_region 16 with fail;have wK: {MX with S:=aI MX.S i ⟨OP,n,b9 c M.U n,true,d⟩}=bB K.sp c (cN c) M i true n d:=by
    exact jm
   have EY:=ae wK;clear wK;have FY:W6.cell? ⟨a.l,20,none⟩=some (ah OP):=by have:=H6.Kd;rw[fh.out]at this;rw[oF.out];exact this
   go_wp2
   go_ret3
   refine⟨_,{a with D:=D2,dv:=aI a.dv i (.slice A5 d.length c5)},by rw[←oF.out];rfl,?_,EY.out▸H6.out,ib.same rfl (fun _ h=>h) (fun _ h=>h) cZ⟩;unfold dK;rw[if_neg (fun e=>by cases e.1)];rw[fK,if_neg aD,List.append_nil];exact w9
end
theorem FB {σ:Type}(sp:eY σ)(c:aM)(M:CM σ)(b:Int)(d:List Int)(lev:Int):(fZ sp c M b d lev).S=M.S:=by unfold fZ;split<;>rfl
theorem IB {σ:Type}{sp:eY σ}{c:aM}{n:Nat}{M:CM σ}{b:Int}{d:List Int}{lev:Int}(h:bH sp c M b d lev=false):mG sp c n M b d lev= []:=by
 unfold mG;unfold bH at h
 split
 ·rfl
 ·rename_i h1
  rw[decide_eq_true (show gp c 0 b d.length lev=0 by omega)]at h;rw[if_neg (fun e=>by have:=h;rw[e.1]at this;cases this)]
theorem Cp {σ:Type}{sp:eY σ}{c:aM}{n:Nat}{M:CM σ}{b:Int}{d:List Int}{lev:Int}(h:c.f 4≠2):mG sp c n M b d lev= []:=by
 unfold mG
 split
 ·rfl
 ·rw[if_neg (fun e=>h e.2)]
theorem zi {σ:Type}{sp:eY σ}{c:aM}{n:Nat}{M:CM σ}{b:Int}{d:List Int}{lev:Int}(h:bH sp c M b d lev=true)(h4:c.f 4=2):mG sp c n M b d lev=eZ n M.S (sp.add M.s b).2.1 (wP c (sp.add M.s b).2.1 1) ((M.D (sp.add M.s b).2.1).getD []):=by
 unfold mG;unfold bH at h;rw[Bool.and_eq_true]at h;rw[if_neg (fun e=>e (of_decide_eq_true h.1)),if_pos ⟨h.2,h4⟩]
section
variable {Z:ZN}{w:World}{c:aM}{hP:cK c}{hk:0<3}{a:cH (aQ c 0 hP hk)}{M:CM (aQ c 0 hP hk).σ}
theorem bm.KY (h:bm Z (aQ c 0 hP hk) c a M w){b lev:Int}{d:List Int}(hg:bH (aQ c 0 hP hk).sp c M b d lev=true):((aQ c 0 hP hk).sp.add M.s b).2.1∈(aQ c 0 hP hk).sp.all M.s:=by
 unfold bH at hg;rw[Bool.and_eq_true]at hg;obtain⟨ht,hlen,h0,h1⟩:=kr (of_decide_eq_true hg.1);have h2:=h.right.p2;rcases((aQ c 0 hP hk).oc a.i).GO h.j0.ord h0 ao (pd ht)with⟨e1,_⟩|⟨_,e2,_⟩
 ·rw[e1]at hg;exact absurd hg.2 aD
 ·exact e2
def Sd (Z:ZN)(K:aZ)(c:aM)(a:cH K)(M:CM K.σ)(b:Int)(d:List Int)(w:World)(e:Ending)(w':World):Prop:=
 ∃v a',e= .returned v∧bg Z w' w.heap.size v (ea K.sp c (cN c) M b d)∧bm Z K c a' (df K.sp c M b d) w'∧ib c a a' w w'
theorem qh{P:Prop}(h:P:=by
 obtain⟨EJ,eD⟩:=Kj.out hg;rw[←EJ]at eD;have Z7:=ae EJ;have JU:=ae eD;have HVR:=ae<|tx _ (YG _ hg);clear EJ eD Kj
 by_cases h4:c.f 4=2
 ·rw[h4]at x4;obtain⟨A9,n9,m9,F5,_⟩:=id H6.bw;have HTR:=ae<|fun(w':World) (hw:ag az W6 w')=>Cx (H6.keep hw) vb 1;rw[F5]at HTR;have JY:=aB (∀j v,(ak c (.slice A9 n9 m9)).toList[j]? =some v→aE W6 a.l (0+j) v) (fun j v hj=>by
   rw[Nat.zero_add];refine H6.aq.af ?_;rw[F5];unfold br;rw[Array.getElem?_append_left (by have:=(List.getElem?_eq_some_iff.1 hj).1;simpa using this),←Array.getElem?_toList];exact hj)
  clear F5;go_upto_region 13 with(go_at_call 71;refine Ag.mono ?_;rintro e W1 ⟨rfl,rfl⟩);have k0:=fun j v hj=>((ag.aj az W6).drew).cell (JY j v hj) id
  have k1:aw W6.drew gb 0 vb:=oP.af rfl;go_upto_region 13 with fail;refine oa (fun w':World=>(∀j v,(ak c (.slice A9 n9 m9)).toList[j]? =some v→aE w' a.l (0+j) v)∧aw w' gb 0 vb) 7 ?_ ?_
  ·exact⟨k0,k1⟩
  intro aH;refine bX [0,1,2] ?_;refine cj (i:=3) (v:=.agg (ak c (.slice A9 n9 m9))) bZ rfl bZ (fun _ _ _ h=>h) (yieldsIf_load_mid (by rfl) 25 _ rfl a.l 0 rfl (ak c (.slice A9 n9 m9)).toList _ (fun w hw j v hj=>hw.1 j v hj) Tryz.underlying25 rfl bZ) (by assumption) ?_;refine CW ?_;refine bX [4,5] ?_;refine cM 6 fun Kc hK=>?_
  go_simp;refine(HTR W6.drew ((ag.aj az W6).drew)).mono ?_;rintro e W8 ⟨rfl,eT⟩;have AZ:ag az W6 W8:=((ag.aj az W6).drew).trans eT;have H8:=ae<|H6.keep AZ;have abf:=ae<|JU.keep AZ;have R2:=ae<|AZ.aq oP id;have ix:=ae<|cZ.aC AZ fun _ h=>h.elim;have k0:=fun j v hj=>AZ.cell (JY j v hj) id
  have k1:aw W8 gb 0 vb:=R2.af rfl;clear eT AZ;refine jS hK ?_ fun aH=>?_
  ·exact⟨k0,k1⟩
  clear hK;refine cG ?_;clear aH k0 k1;have nQ:=pk (b:=vb) (lev:=(wP c vb 1)) H8 abf;rw[FB]at nQ;unfold fY at nQ;have nQ:=ae nQ;go_wp2_with (first|(refine fH #[ah vb,.slice A4 n4 m4] R2 Tryz.underlying102 ?_)|(go_at_call 74;refine nQ.mono ?_;rintro e W7 ⟨u7,rfl,pD,dL⟩));go_ret;exact⟨u7,{a with D:=D4},rfl,by rw[JX.out,zi hg h4,←Z7.out];exact pD.low ix.size,by rw[DN.out];exact H8.keep dL,ib.same rfl (fun _ h=>h) (fun _ h=>h) (ix.aC dL fun _ h=>h.elim)⟩
 ·have h4':(c.f 4 != 2)=true:=by simpa using h4
  go_wp2;go_ret;exact⟨_,{a with D:=D4},rfl,by rw[JX.out,Cp h4];exact bg.nil _ _ _,by rw[DN.out];exact H6,ib.same rfl (fun _ h=>h) (fun _ h=>h) cZ⟩):P:=h
theorem jg{P:Prop}(h:P:=by
 go_wp2;go_ret;exact⟨_,{a with D:=D4},rfl,by rw[JX.out,IB hg];exact bg.nil _ _ _,by rw[DN.out];exact H6,ib.same rfl (fun _ h=>h) (fun _ h=>h) cZ⟩):P:=h
theorem dQ{P:Prop}(h:P:=by rw[show k=gb from hk];exact kH):P:=h
theorem FW (h:bm Z (aQ c 0 hP hk) c a M w){n:Nat}{v:Value}{d:List Int}(hn:(n:Int)<c.f 2)(hd:cX Z w v d)(uV:∀b,b∈(aQ c 0 hP hk).sp.all M.s→0≤b∧b<c.f 2)(cw:(aQ c 0 hP hk).sp.eE M.s<bN)(h5:c.f 5≠1):
 Calls Tryz.prog 51 #[aO a.l,.agg (fY n v)] w (Sd Z (aQ c 0 hP hk) c a M n d w):=by
 obtain⟨A,q,rfl⟩:=hd.shape;have bL:=ae<|fun k (hk:b6 a k)=>h.kB hk;have iA:=ae<|fun k (hk:jG c a k)=>h.uU hk;have kZ:=ae h.zb;have tx:=ae uV;have tJ:=ae cw;have HN:=ae hn;have bu:ag az w (w.alloc (.cells (fY n (.slice A d.length q)) 102)):=(ag.aj az w).alloc _;have bn:=ae<|bu.mono (S':=b6 a) fun k hk=>hk.elim;have jE:=ae<|Box.fresh w 102 (fY n (.slice A d.length q));have H3:=ae<|h.keep bu;have tf:=ae<|hd.keep bu;have YG:=ae<|fun(lev:Int)=>h.KY (b:=n) (d:=d) (lev:=lev);have kD:=lA H3;rw[decide_eq_false h5]at kD;have kD:=ae kD;have MA:=ae h5;have wD:df (aQ c 0 hP hk).sp c M n d=fZ (aQ c 0 hP hk).sp c M n d 0:=by unfold df;rw[if_neg h5]
 have QR:ea (aQ c 0 hP hk).sp c (cN c) M n d=mG (aQ c 0 hP hk).sp c (cN c) M n d 0:=by unfold ea;rw[if_neg h5]
 have DN:=ae wD;have JX:=ae QR;clear h hd uV cw hn bu h5 wD QR;unfold fY
 go_enter Tryz.func51,Tryz.ntmps51
 go_upto_region 2 with fail;change Code.wp _ _ _ _ (w.alloc (.cells (fY n (.slice A d.length q)) 102));have GF:=aB (∀k,b6 a k→k≠w.heap.size) (fun k hk e=>by have:=bL.out k hk;omega);have vP:=aB (w.heap.size<(w.alloc (.cells (fY n (.slice A d.length q)) 102)).heap.size) bh;generalize w.alloc (.cells (fY n (.slice A d.length q)) 102)=W3 at *;obtain⟨fb,gu⟩:∃fb,fb=w.heap.size:=⟨_,rfl⟩;rw[←gu]at jE GF vP ⊢;clear gu;go_upto_region 9 with(go_at_call 71;refine kD.mono ?_;rintro e W1 ⟨rfl,rfl⟩);have DK:=ae<|fun(w':World) (hw:ag az W3 w')=>IL (b:=n) (lev:=0) (H3.keep hw) (tf.keep hw) tJ;have k0:aE W3.drew a.l 17 (aO a.cb):=H3.mD;have k1:aw W3.drew fb 0 n:=jE.af rfl;have k2:aE W3.drew fb 1 (.slice A d.length q):=jE.af rfl;have wY:=ae bn.size;go_upto_region 9 with fail;refine dU (fun w':World=>aE w' a.l 17 (aO a.cb)∧aw w' fb 0 n∧aE w' fb 1 (.slice A d.length q)) 14 fun aH=>?_
 refine bX [0,1,2,3,4,5] ?_;refine il (i:=6) (j:=11) rfl rfl bZ (fun Kc hK=>?_) (fun Kc hK=>?_)
 ·go_simp;refine(DK W3.drew ((ag.aj az W3).drew)).mono ?_;rintro e W4 ⟨vb,A4,n4,m4,cd,D4,rfl,QQ,Bb,cI⟩;have Kk:=ae QQ;have H4:=ae Bb;have bK:=aB (ag (b6 a) W3 W4) ((((ag.aj az W3).drew).mono (S':=b6 a) fun k hk=>hk.elim).aC cI fun k hk=>.inl hk.uT);have kg:=ae<|bK.aq jE fun e=>GF _ e rfl;have k0:aE W4 a.l 17 (aO a.cb):=H4.mD;have k1:aw W4 fb 0 n:=kg.af rfl;have k2:aE W4 fb 1 (.slice A d.length q):=kg.af rfl;clear QQ Bb cI;refine eh hK fun aH=>?_
  clear hK;refine bX [7,8,9,10] ?_;refine cM 11 fun Kc hK=>?_
  go_simp;have dq:ag az W4 (W4.alloc (.cells zF 102)):=(ag.aj az W4).alloc _;have nE:=ae<|Box.fresh W4 102 zF;have vH:=ae<|fun hg=>And.intro (Kk hg).1 ((Kk hg).2.keep dq);have H5:=ae<|H4.keep dq;have iT:=ae<|dq.aq kg id;have bM:=ae<|bK.aC dq fun _ h=>h.elim;have kH:=aB (w.heap.size≤W4.heap.size) (Nat.le_trans wY bK.size);have Bw:=aB (W3.heap.size≤W4.heap.size) (bK.size);change Kc _ (W4.alloc (.cells zF 102));clear dq Kk H4 kg bK;generalize W4.alloc (.cells zF 102)=W5 at *;generalize W4.heap.size=gb at *;have k0:aE W5 a.l 17 (aO a.cb):=H5.mD;have k1:aw W5 fb 0 n:=iT.af rfl;have k2:aE W5 fb 1 (.slice A d.length q):=iT.af rfl;refine eh hK fun aH=>?_
  clear hK;refine cM 12 fun Kc hK=>?_
  refine wp_store_row 102 _ _ rfl gb #[ah vb,.slice A4 n4 m4] rfl rfl 102 _ nE bZ rfl a6 ?_;have j6:ag (ar gb) W5 (W5.setRow gb #[ah vb,.slice A4 n4 m4]):=(ag.aj (ar gb) W5).au (.inl rfl) _;have iL:Wr Z (ar gb) W5:=fun k hk e=>by rw[show k=gb from e];exact⟨Nat.le_trans kZ kH,.inr fun cs hb=>(nE.off hb aD) rfl⟩
  have oP:=ae<|nE.au #[ah vb,.slice A4 n4 m4];have H6:=ae (H5.dC j6 iL fun k hk e=>by have:=iA.out k hk;have:=kH.out;have e:k=gb:=e;omega);have Kj:=ae<|fun hg=>And.intro (vH hg).1 ((vH hg).2.aA j6 iL);have HFG:=aB (fb≠gb) (fun e=>by have:=vP.out;have:=Bw.out;omega);have nR:=ae<|j6.aq iT fun e=>HFG (show fb=gb from e);have cZ:=aB (ag (b6 a) w (W5.setRow gb #[ah vb,.slice A4 n4 m4])) ((bn.trans bM).aC j6 fun k hk=>.inr dQ);clear j6 iL nE H5 vH iT bM;generalize W5.setRow gb #[ah vb,.slice A4 n4 m4]=W6 at *;have k0:aE W6 a.l 17 (aO a.cb):=H6.mD;have k1:aw W6 fb 0 n:=nR.af rfl;have k2:aE W6 fb 1 (.slice A d.length q):=nR.af rfl;refine eh hK fun aH=>?_
  clear hK;refine bX [13] ?_;refine cG ?_;clear k0 k1 k2 aH;have Ag:=lA H6;rw[decide_eq_false MA.out]at Ag;have Ag:=ae Ag;have x4:=H6.cf (i:=4) aD
  cases hg:bH (aQ c 0 hP hk).sp c M n d 0 with
  |false=>
   exact jg
  |true=>
   exact qh
 ·go_simp;have AB:ag az W3 (W3.drew.alloc (.cells zF 102)):=((ag.aj az W3).drew).alloc _;have Bv:=aB (Box (W3.drew.alloc (.cells zF 102)) W3.heap.size 102 zF) (Box.fresh W3.drew 102 zF);have gZ:=ae AB;have kg:=ae<|AB.aq jE id;have kH:=aB (w.heap.size≤W3.heap.size) (wY);have Bw:=aB (W3.heap.size≤W3.heap.size) (dm _);have k0:aE (W3.drew.alloc (.cells zF 102)) a.l 17 (aO a.cb):=(H3.keep AB).mD;change Kc _ (W3.drew.alloc (.cells zF 102));clear AB
  try rw[show W3.drew.heap.size=W3.heap.size from rfl]
  generalize W3.drew.alloc (.cells zF 102)=W4 at *;generalize W3.heap.size=gb at *;have k1:aw W4 fb 0 n:=kg.af rfl;have k2:aE W4 fb 1 (.slice A d.length q):=kg.af rfl;refine eh hK fun aH=>?_
  clear hK;refine cM 6 fun Kc hK=>?_
  go_simp;refine(DK W4 gZ).mono ?_;rintro e W5 ⟨vb,A4,n4,m4,cd,D4,rfl,QP,Gn,cA⟩;have vH:=ae QP;have H5:=ae Gn;have nE:=ae (cA.aq Bv fun e=>by have:=bL.out _ (tg.uT e);have:=kH.out;omega);have iT:=ae<|cA.aq kg fun e=>GF _ (tg.uT e) rfl;have bM:=aB (ag (b6 a) W3 W5) ((gZ.mono (S':=b6 a) fun k hk=>hk.elim).aC cA fun k hk=>.inl hk.uT);have k0:aE W5 a.l 17 (aO a.cb):=H5.mD;have k1:aw W5 fb 0 n:=iT.af rfl;have k2:aE W5 fb 1 (.slice A d.length q):=iT.af rfl;clear QP Gn cA Bv gZ kg;refine eh hK fun aH=>?_
  clear hK;refine bX [7,8,9,10] ?_;refine cM 12 fun Kc hK=>?_
  refine wp_store_row 102 _ _ rfl gb #[ah vb,.slice A4 n4 m4] rfl rfl 102 _ nE bZ rfl a6 ?_;have j6:ag (ar gb) W5 (W5.setRow gb #[ah vb,.slice A4 n4 m4]):=(ag.aj (ar gb) W5).au (.inl rfl) _;have iL:Wr Z (ar gb) W5:=fun k hk e=>by rw[show k=gb from e];exact⟨Nat.le_trans kZ kH,.inr fun cs hb=>(nE.off hb aD) rfl⟩
  have oP:=ae<|nE.au #[ah vb,.slice A4 n4 m4];have H6:=ae (H5.dC j6 iL fun k hk e=>by have:=iA.out k hk;have:=kH.out;have e:k=gb:=e;omega);have Kj:=ae<|fun hg=>And.intro (vH hg).1 ((vH hg).2.aA j6 iL);have HFG:=aB (fb≠gb) (fun e=>by have:=vP.out;have:=Bw.out;omega);have nR:=ae<|j6.aq iT fun e=>HFG (show fb=gb from e);have cZ:=aB (ag (b6 a) w (W5.setRow gb #[ah vb,.slice A4 n4 m4])) ((bn.trans bM).aC j6 fun k hk=>.inr dQ);clear j6 iL nE H5 vH iT bM;generalize W5.setRow gb #[ah vb,.slice A4 n4 m4]=W6 at *;have k0:aE W6 a.l 17 (aO a.cb):=H6.mD;have k1:aw W6 fb 0 n:=nR.af rfl;have k2:aE W6 fb 1 (.slice A d.length q):=nR.af rfl;refine eh hK fun aH=>?_
  clear hK;refine bX [13] ?_;refine cG ?_;clear k0 k1 k2 aH;have Ag:=lA H6;rw[decide_eq_false MA.out]at Ag;have Ag:=ae Ag;have x4:=H6.cf (i:=4) aD
  cases hg:bH (aQ c 0 hP hk).sp c M n d 0 with
  |false=>
   exact jg
  |true=>
   exact qh
theorem rL{P:Prop}(h:P:=by
 obtain⟨EJ,eD⟩:=Kj.out hg;rw[←EJ]at eD;have Z7:=ae EJ;have JU:=ae eD;have HVR:=ae<|tx _ (YG _ hg);clear EJ eD Kj;have h4:c.f 4=2:=H4M.out;rw[h4]at x4;have HTG:=aB (wP c vb 1=2) (by rw[Z7.out];exact K4 HVR.1 HVR.2 (by rw[MA.out];decide));have nQ:=pk (b:=vb) (lev:=2) H6 JU;rw[FB]at nQ;unfold fY at nQ;have nQ:=ae nQ;go_wp2_with (first|(go_at_call 71;refine Ag.mono ?_;rintro e W1 ⟨rfl,rfl⟩)|(refine fH #[ah vb,.slice A4 n4 m4] oP Tryz.underlying102 ?_)|(go_at_call 74;refine nQ.mono ?_;rintro e W7 ⟨u7,rfl,pD,dL⟩));go_ret;exact⟨u7,{a with D:=D4},rfl,by rw[JX.out,zi hg h4,←Z7.out,HTG.out];exact pD.low cZ.size,by rw[DN.out];exact H6.keep dL,ib.same rfl (fun _ h=>h) (fun _ h=>h) (cZ.aC dL fun _ h=>h.elim)⟩):P:=h
theorem Dw (h:bm Z (aQ c 0 hP hk) c a M w){n:Nat}{v:Value}{d:List Int}(hn:(n:Int)<c.f 2)(hd:cX Z w v d)(uV:∀b,b∈(aQ c 0 hP hk).sp.all M.s→0≤b∧b<c.f 2)(cw:(aQ c 0 hP hk).sp.eE M.s<bN)(h5:c.f 5=1):
 Calls Tryz.prog 51 #[aO a.l,.agg (fY n v)] w (Sd Z (aQ c 0 hP hk) c a M n d w):=by
 have H4M:=aB (c.f 4=2) (by have:=h.right.pp;omega);obtain⟨A,q,rfl⟩:=hd.shape;have bL:=ae<|fun k (hk:b6 a k)=>h.kB hk;have iA:=ae<|fun k (hk:jG c a k)=>h.uU hk;have kZ:=ae h.zb;have tx:=ae uV;have tJ:=ae cw;have HN:=ae hn;have bu:ag az w (w.alloc (.cells (fY n (.slice A d.length q)) 102)):=(ag.aj az w).alloc _;have bn:=ae<|bu.mono (S':=b6 a) fun k hk=>hk.elim;have jE:=ae<|Box.fresh w 102 (fY n (.slice A d.length q));have H3:=ae<|h.keep bu;have tf:=ae<|hd.keep bu;have YG:=ae<|fun(lev:Int)=>h.KY (b:=n) (d:=d) (lev:=lev);have kD:=lA H3;rw[decide_eq_true h5]at kD;have kD:=ae kD;have MA:=ae h5;have wD:df (aQ c 0 hP hk).sp c M n d=if M.U.v n≠1 then M else fZ (aQ c 0 hP hk).sp c M n d 1:=by unfold df;rw[if_pos h5]
 have QR:ea (aQ c 0 hP hk).sp c (cN c) M n d=if M.U.v n≠1 then eZ (cN c) M.S n (if M.U.v n=0 then 4 else M.U.v n) d else mG (aQ c 0 hP hk).sp c (cN c) M n d 1:=by unfold ea;rw[if_pos h5]
 have DN:=ae wD;have JX:=ae QR;clear h hd uV cw hn bu h5 wD QR;unfold fY
 go_enter Tryz.func51,Tryz.ntmps51
 go_upto_region 2 with fail;change Code.wp _ _ _ _ (w.alloc (.cells (fY n (.slice A d.length q)) 102));have GF:=aB (∀k,b6 a k→k≠w.heap.size) (fun k hk e=>by have:=bL.out k hk;omega);have vP:=aB (w.heap.size<(w.alloc (.cells (fY n (.slice A d.length q)) 102)).heap.size) bh;generalize w.alloc (.cells (fY n (.slice A d.length q)) 102)=W3 at *;obtain⟨fb,gu⟩:∃fb,fb=w.heap.size:=⟨_,rfl⟩;rw[←gu]at jE GF vP ⊢;clear gu;go_upto_region 4 with(go_at_call 71;refine kD.mono ?_;rintro e W1 ⟨rfl,rfl⟩);have k0:aE W3.drew a.l 18 (aO a.u):=H3.c18;have k1:aw W3.drew fb 0 n:=jE.af rfl;go_upto_region 4 with fail;refine dU (fun w':World=>aE w' a.l 18 (aO a.u)∧aw w' fb 0 n) 7 fun aH=>?_
 refine bX [0,1,2,3,4,5] ?_;refine cM 6 fun Kc hK=>?_
 go_simp;refine(Oo (H3.keep ((ag.aj az W3).drew)).AV (show n<64 from by have:=HN.out;have:=H3.right.p2;omega)).mono ?_;rintro e W9 ⟨rfl,rfl⟩;refine eh hK fun aH=>?_
 clear hK;refine cG ?_;clear aH k0 k1
 by_cases hv:M.U.v n≠1
 ·have Uw:(M.U.v n != 1)=true:=by simpa using hv
  by_cases hz:M.U.v n=0
  ·have hz':(M.U.v n==0)=true:=by simpa using hz
   have nQ:=pk (b:=n) (lev:=4) (H3.keep ((ag.aj az W3).drew)) (tf.keep ((ag.aj az W3).drew));unfold fY at nQ;have nQ:=ae nQ;go_wp2_with (first|(refine fH #[ah n,.slice A d.length q] jE.drew Tryz.underlying102 ?_)|(go_at_call 74;refine nQ.mono ?_;rintro e W7 ⟨u7,rfl,pD,dL⟩));go_ret;exact⟨u7,a,rfl,by rw[JX.out,if_pos hv,if_pos hz];exact pD.low (bn.drew).size,by rw[DN.out,if_pos hv];exact(H3.keep ((ag.aj az W3).drew)).keep dL,ib.same rfl (fun _ h=>h) (fun _ h=>h) ((bn.drew).aC dL fun _ h=>h.elim)⟩
  ·have hz':(M.U.v n==0)=false:=by simpa using hz
   have nQ:=pk (b:=n) (lev:=(M.U.v n)) (H3.keep ((ag.aj az W3).drew)) (tf.keep ((ag.aj az W3).drew));unfold fY at nQ;have nQ:=ae nQ;go_wp2_with (first|(refine fH #[ah n,.slice A d.length q] jE.drew Tryz.underlying102 ?_)|(go_at_call 74;refine nQ.mono ?_;rintro e W7 ⟨u7,rfl,pD,dL⟩));go_ret;exact⟨u7,a,rfl,by rw[JX.out,if_pos hv,if_neg hz];exact pD.low (bn.drew).size,by rw[DN.out,if_pos hv];exact(H3.keep ((ag.aj az W3).drew)).keep dL,ib.same rfl (fun _ h=>h) (fun _ h=>h) ((bn.drew).aC dL fun _ h=>h.elim)⟩
 ·have Zx:M.U.v n=1:=ao;rw[if_neg hv]at DN JX;rw[Zx];have jE:=ae<|jE.drew;have H3:=ae<|H3.keep ((ag.aj az W3).drew);have tf:=ae<|tf.keep ((ag.aj az W3).drew);have bn:=ae<|bn.drew;have vP:Hid (fb<W3.drew.heap.size):=vP;generalize W3.drew=W3 at *;have DK:=ae<|fun(w':World) (hw:ag az W3 w')=>IL (b:=n) (lev:=1) (H3.keep hw) (tf.keep hw) tJ;have k0:aE W3.drew a.l 17 (aO a.cb):=H3.mD;have k1:aw W3.drew fb 0 n:=jE.af rfl;have k2:aE W3.drew fb 1 (.slice A d.length q):=jE.af rfl;have wY:=ae bn.size;go_upto_region 9 with fail;refine dU (fun w':World=>aE w' a.l 17 (aO a.cb)∧aw w' fb 0 n∧aE w' fb 1 (.slice A d.length q)) 14 fun aH=>?_
  refine bX [0,1,2,3,4,5] ?_;refine il (i:=6) (j:=11) rfl rfl bZ (fun Kc hK=>?_) (fun Kc hK=>?_)
  ·go_simp;refine(DK W3.drew ((ag.aj az W3).drew)).mono ?_;rintro e W4 ⟨vb,A4,n4,m4,cd,D4,rfl,QQ,Bb,cI⟩;have Kk:=ae QQ;have H4:=ae Bb;have bK:=aB (ag (b6 a) W3 W4) ((((ag.aj az W3).drew).mono (S':=b6 a) fun k hk=>hk.elim).aC cI fun k hk=>.inl hk.uT);have kg:=ae<|bK.aq jE fun e=>GF _ e rfl;have k0:aE W4 a.l 17 (aO a.cb):=H4.mD;have k1:aw W4 fb 0 n:=kg.af rfl;have k2:aE W4 fb 1 (.slice A d.length q):=kg.af rfl;clear QQ Bb cI;refine eh hK fun aH=>?_
   clear hK;refine bX [7,8,9,10] ?_;refine cM 11 fun Kc hK=>?_
   go_simp;have dq:ag az W4 (W4.alloc (.cells zF 102)):=(ag.aj az W4).alloc _;have nE:=ae<|Box.fresh W4 102 zF;have vH:=ae<|fun hg=>And.intro (Kk hg).1 ((Kk hg).2.keep dq);have H5:=ae<|H4.keep dq;have iT:=ae<|dq.aq kg id;have bM:=ae<|bK.aC dq fun _ h=>h.elim;have kH:=aB (w.heap.size≤W4.heap.size) (Nat.le_trans wY bK.size);have Bw:=aB (W3.heap.size≤W4.heap.size) (bK.size);change Kc _ (W4.alloc (.cells zF 102));clear dq Kk H4 kg bK;generalize W4.alloc (.cells zF 102)=W5 at *;generalize W4.heap.size=gb at *;have k0:aE W5 a.l 17 (aO a.cb):=H5.mD;have k1:aw W5 fb 0 n:=iT.af rfl;have k2:aE W5 fb 1 (.slice A d.length q):=iT.af rfl;refine eh hK fun aH=>?_
   clear hK;refine cM 12 fun Kc hK=>?_
   refine wp_store_row 102 _ _ rfl gb #[ah vb,.slice A4 n4 m4] rfl rfl 102 _ nE bZ rfl a6 ?_;have j6:ag (ar gb) W5 (W5.setRow gb #[ah vb,.slice A4 n4 m4]):=(ag.aj (ar gb) W5).au (.inl rfl) _;have iL:Wr Z (ar gb) W5:=fun k hk e=>by rw[show k=gb from e];exact⟨Nat.le_trans kZ kH,.inr fun cs hb=>(nE.off hb aD) rfl⟩
   have oP:=ae<|nE.au #[ah vb,.slice A4 n4 m4];have H6:=ae (H5.dC j6 iL fun k hk e=>by have:=iA.out k hk;have:=kH.out;have e:k=gb:=e;omega);have Kj:=ae<|fun hg=>And.intro (vH hg).1 ((vH hg).2.aA j6 iL);have HFG:=aB (fb≠gb) (fun e=>by have:=vP.out;have:=Bw.out;omega);have nR:=ae<|j6.aq iT fun e=>HFG (show fb=gb from e);have cZ:=aB (ag (b6 a) w (W5.setRow gb #[ah vb,.slice A4 n4 m4])) ((bn.trans bM).aC j6 fun k hk=>.inr dQ);clear j6 iL nE H5 vH iT bM;generalize W5.setRow gb #[ah vb,.slice A4 n4 m4]=W6 at *;have k0:aE W6 a.l 17 (aO a.cb):=H6.mD;have k1:aw W6 fb 0 n:=nR.af rfl;have k2:aE W6 fb 1 (.slice A d.length q):=nR.af rfl;refine eh hK fun aH=>?_
   clear hK;refine bX [13] ?_;refine cG ?_;clear k0 k1 k2 aH;have Ag:=lA H6;rw[decide_eq_true MA.out]at Ag;have Ag:=ae Ag;have x4:=H6.cf (i:=4) aD
   cases hg:bH (aQ c 0 hP hk).sp c M n d 1 with
   |false=>
    exact jg
   |true=>
    exact rL
  ·go_simp;have AB:ag az W3 (W3.drew.alloc (.cells zF 102)):=((ag.aj az W3).drew).alloc _;have Bv:=aB (Box (W3.drew.alloc (.cells zF 102)) W3.heap.size 102 zF) (Box.fresh W3.drew 102 zF);have gZ:=ae AB;have kg:=ae<|AB.aq jE id;have kH:=aB (w.heap.size≤W3.heap.size) (wY);have Bw:=aB (W3.heap.size≤W3.heap.size) (dm _);have k0:aE (W3.drew.alloc (.cells zF 102)) a.l 17 (aO a.cb):=(H3.keep AB).mD;change Kc _ (W3.drew.alloc (.cells zF 102));clear AB
   try rw[show W3.drew.heap.size=W3.heap.size from rfl]
   generalize W3.drew.alloc (.cells zF 102)=W4 at *;generalize W3.heap.size=gb at *;have k1:aw W4 fb 0 n:=kg.af rfl;have k2:aE W4 fb 1 (.slice A d.length q):=kg.af rfl;refine eh hK fun aH=>?_
   clear hK;refine cM 6 fun Kc hK=>?_
   go_simp;refine(DK W4 gZ).mono ?_;rintro e W5 ⟨vb,A4,n4,m4,cd,D4,rfl,QP,Gn,cA⟩;have vH:=ae QP;have H5:=ae Gn;have nE:=ae (cA.aq Bv fun e=>by have:=bL.out _ (tg.uT e);have:=kH.out;omega);have iT:=ae<|cA.aq kg fun e=>GF _ (tg.uT e) rfl;have bM:=aB (ag (b6 a) W3 W5) ((gZ.mono (S':=b6 a) fun k hk=>hk.elim).aC cA fun k hk=>.inl hk.uT);have k0:aE W5 a.l 17 (aO a.cb):=H5.mD;have k1:aw W5 fb 0 n:=iT.af rfl;have k2:aE W5 fb 1 (.slice A d.length q):=iT.af rfl;clear QP Gn cA Bv gZ kg;refine eh hK fun aH=>?_
   clear hK;refine bX [7,8,9,10] ?_;refine cM 12 fun Kc hK=>?_
   refine wp_store_row 102 _ _ rfl gb #[ah vb,.slice A4 n4 m4] rfl rfl 102 _ nE bZ rfl a6 ?_;have j6:ag (ar gb) W5 (W5.setRow gb #[ah vb,.slice A4 n4 m4]):=(ag.aj (ar gb) W5).au (.inl rfl) _;have iL:Wr Z (ar gb) W5:=fun k hk e=>by rw[show k=gb from e];exact⟨Nat.le_trans kZ kH,.inr fun cs hb=>(nE.off hb aD) rfl⟩
   have oP:=ae<|nE.au #[ah vb,.slice A4 n4 m4];have H6:=ae (H5.dC j6 iL fun k hk e=>by have:=iA.out k hk;have:=kH.out;have e:k=gb:=e;omega);have Kj:=ae<|fun hg=>And.intro (vH hg).1 ((vH hg).2.aA j6 iL);have HFG:=aB (fb≠gb) (fun e=>by have:=vP.out;have:=Bw.out;omega);have nR:=ae<|j6.aq iT fun e=>HFG (show fb=gb from e);have cZ:=aB (ag (b6 a) w (W5.setRow gb #[ah vb,.slice A4 n4 m4])) ((bn.trans bM).aC j6 fun k hk=>.inr dQ);clear j6 iL nE H5 vH iT bM;generalize W5.setRow gb #[ah vb,.slice A4 n4 m4]=W6 at *;have k0:aE W6 a.l 17 (aO a.cb):=H6.mD;have k1:aw W6 fb 0 n:=nR.af rfl;have k2:aE W6 fb 1 (.slice A d.length q):=nR.af rfl;refine eh hK fun aH=>?_
   clear hK;refine bX [13] ?_;refine cG ?_;clear k0 k1 k2 aH;have Ag:=lA H6;rw[decide_eq_true MA.out]at Ag;have Ag:=ae Ag;have x4:=H6.cf (i:=4) aD
   cases hg:bH (aQ c 0 hP hk).sp c M n d 1 with
   |false=>
    exact jg
   |true=>
    exact rL
theorem PQ (h:bm Z (aQ c 0 hP hk) c a M w){n:Nat}{v:Value}{d:List Int}(hn:(n:Int)<c.f 2)(hd:cX Z w v d)(uV:∀b,b∈(aQ c 0 hP hk).sp.all M.s→0≤b∧b<c.f 2)(cw:(aQ c 0 hP hk).sp.eE M.s<bN):
 Calls Tryz.prog 51 #[aO a.l,.agg (fY n v)] w (Sd Z (aQ c 0 hP hk) c a M n d w):=by
 by_cases h5:c.f 5=1
 ·exact Dw h hn hd uV cw h5
 ·exact FW h hn hd uV cw h5
end
theorem Pa {m:di}{n f:Nat}(h:eF m n=true)(h1:1≤f)(h2:f≤10):iH m n f=true:=by
 cases e:iH m n f with
 |true=>rfl
 |false=>rw[uq h1 h2 e]at h;cases h
theorem iE {m:di}{n:Nat}(h:eF m n=true):0≤m.f 2∧m.f 2≤3:=by
 have h1:=Pa (f:=2) h aD aD;unfold iH okF at h1;rw[Bool.and_eq_true,if_neg aD,if_neg aD,Bool.and_eq_true]at h1;have h2:RB 2=3:=rfl;rw[h2]at h1;exact⟨of_decide_eq_true h1.1.1,of_decide_eq_true h1.1.2⟩
def aaQ (b r:Int)(v:Value):Array Value:=#[ah 4,ah 0,ah 0,ah 0,ah 0,ah b,ah 0,ah r,ah 0,.bool false,v]
theorem Nx (b r:Int)(v:Value)(d:List Int):aP (CH 4 0 0 b 0 r d).m v=aaQ b r v:=rfl
def jY:Array Value:=#[ah 0,ah 0,ah 0,.bool false,aJ]
theorem OG {w:World}{v:Value}{d:List Int}(h:Row 5 w v (bytes d)):∃A c,v= .slice A d.length c:=by
 obtain⟨A,c,e,_,_⟩:=h.shape;exact⟨A,c,by rw[e];simp[bytes]⟩
theorem El {σ:Type}{M:CM σ}{m:di}{d:List Int}{k:Nat}(hk:m.f 2=k)(h0:m.f 0=5): {M with S:=aI M.S k EH,en:=M.en ++ [⟨k,m.f 4,false,m.f 8,d⟩]}=kE M m d:=by
 unfold kE;rw[hk,Int.toNat_natCast,h0];rfl
theorem Ek {σ:Type}{M:CM σ}{m:di}{d:List Int}{k:Nat}(hk:m.f 2=k)(h0:m.f 0=6): {M with S:=aI M.S k EH,en:=M.en ++ [⟨k,m.f 4,true,m.f 8,[]⟩]}=kE M m d:=by
 unfold kE;rw[hk,Int.toNat_natCast,h0];rfl
def FZ (s op:Int)(wr:Bool)(cd:Int)(v:Value):Array Value:=#[ah s,ah op,.bool wr,ah cd,v]
def zV (Z:ZN)(K:aZ)(c:aM)(a:cH K)(M:CM K.σ)(m:di)(d:List Int)(w:World)(e:Ending)(w':World):Prop:=
 ∃v a',e= .returned v∧bg Z w' w.heap.size v (bW K.sp c (cN c) M m d)∧bm Z K c a' (bd K.sp c (cN c) M m d) w'∧ib c a a' w w'
section
variable {Z:ZN}{w:World}{K:aZ}{c:aM}{a:cH K}{M:CM K.σ}
theorem IG (h:bm Z K c a M w){m:di}{v:Value}{d:List Int}(hd:cX Z w v d)(hn:M.up=false∨eF m d.length=false):
 Calls Tryz.prog 16 #[aO a.l,.agg (aP m v)] w (zV Z K c a M m d w):=by
 have hm:bd K.sp c (cN c) M m d=M:=by unfold bd;rw[if_pos hn]
 have ht:bW K.sp c (cN c) M m d= []:=by unfold bW;rw[if_pos hn]
 have HM:=ae hm;have HT:=ae ht;obtain⟨A,q,rfl⟩:=hd.shape;have bu:ag az w (w.alloc (.cells (aP m (.slice A d.length q)) 37)):=(ag.aj az w).alloc _;have bL:=ae<|fun k (hk:b6 a k)=>h.kB hk;have iA:=ae<|fun k (hk:jG c a k)=>h.uU hk;have kZ:=ae h.zb;have HB:=ae<|Box.fresh w 37 (aP m (.slice A d.length q));have HO:=ae<|bu.mono (S':=b6 a) fun k hk=>hk.elim;have H:=ae<|h.keep bu;have HD:=ae<|hd.keep bu;have HR:=ae<|fun(w':World)=>kR m A d.length q w';clear h hd bu hm ht;unfold aP at HR
 go_enter Tryz.func16,Tryz.ntmps16
 go_upto_region 1 with fail;change Code.wp _ _ _ _ (w.alloc (.cells (aP m (.slice A d.length q)) 37));have fh:=aB (∀k,jG c a k→k≠w.heap.size) (fun k hk e=>by have:=iA.out k hk;omega);have kM:=aB (w.heap.size<(w.alloc (.cells (aP m (.slice A d.length q)) 37)).heap.size) bh;generalize w.alloc (.cells (aP m (.slice A d.length q)) 37)=W at *;obtain⟨mb,fW⟩:∃mb,mb=w.heap.size:=⟨_,rfl⟩;have pG:=aB (w.heap.size≤mb) (Nat.le_of_eq fW.symm);rw[←fW]at HB fh kM ⊢;clear fW;have x0:aw W mb 0 (m.f 0):=HB.af rfl;have x1:aw W mb 1 (m.f 1):=HB.af rfl;have x2:aw W mb 2 (m.f 2):=HB.af rfl;have x3:aw W mb 3 (m.f 3):=HB.af rfl;have x4:aw W mb 4 (m.f 4):=HB.af rfl;have x5:aw W mb 5 (m.f 5):=HB.af rfl;have x6:aw W mb 6 (m.f 6):=HB.af rfl;have x7:aw W mb 7 (m.f 7):=HB.af rfl;have x8:aw W mb 8 (m.f 8):=HB.af rfl;have x9:aE W mb 9 (.bool m.g):=HB.af rfl;have vx:aE W mb 10 (.slice A d.length q):=HB.af rfl;have kz:=H.yh
 cases fK:M.up with
 |false=>
  rw[fK]at kz;go_wp2;go_ret;exact⟨_,a,rfl,by rw[HT.out];exact bg.nil _ _ _,by rw[HM.out];exact H,ib.same rfl (fun _ h=>h) (fun _ h=>h) HO⟩
 |true=>
  rw[fK]at kz;have hb:eF m d.length=false:=by
   rcases hn with e|e
   ·rw[fK]at e;cases e
   ·exact e
  rw[hb]at HR;clear hn;go_wp2_with (go_at_call 49;refine(HR W).mono ?_;rintro e W1 ⟨rfl,aR⟩;have aX:=ae aR;clear aR);go_ret;exact⟨_,a,rfl,by rw[HT.out];exact bg.nil _ _ _,by rw[HM.out];exact H.keep aX,ib.same rfl (fun _ h=>h) (fun _ h=>h) (HO.aC aX fun _ h=>h.elim)⟩
theorem LU (h:bm Z K c a M w){m:di}{v:Value}{d:List Int}(hd:cX Z w v d)(fK:M.up=true)(hb:eF m d.length=true)(h5:m.f 0≠5)(h6:m.f 0≠6)(h7:m.f 0≠7):
 Calls Tryz.prog 16 #[aO a.l,.agg (aP m v)] w (zV Z K c a M m d w):=by
 have hn:¬(M.up=false∨eF m d.length=false):=by rw[fK,hb];simp
 have ha:jP (cN c) M m=false:=by unfold jP;rw[decide_eq_false h5,decide_eq_false h6];rfl
 have hm:bd K.sp c (cN c) M m d=M:=by unfold bd;rw[if_neg hn,if_neg h7,if_pos ha]
 have ht:bW K.sp c (cN c) M m d= []:=by unfold bW;rw[if_neg hn,if_neg h7,if_pos ha]
 have HM:=ae hm;have HT:=ae ht;have QZ:(m.f 0==5)=false:=by simpa using h5
 have QY:(m.f 0==6)=false:=by simpa using h6
 have Kb:(m.f 0==7)=false:=by simpa using h7
 obtain⟨A,q,rfl⟩:=hd.shape;have bu:ag az w (w.alloc (.cells (aP m (.slice A d.length q)) 37)):=(ag.aj az w).alloc _;have bL:=ae<|fun k (hk:b6 a k)=>h.kB hk;have iA:=ae<|fun k (hk:jG c a k)=>h.uU hk;have kZ:=ae h.zb;have HB:=ae<|Box.fresh w 37 (aP m (.slice A d.length q));have HO:=ae<|bu.mono (S':=b6 a) fun k hk=>hk.elim;have H:=ae<|h.keep bu;have HD:=ae<|hd.keep bu;have HR:=ae<|fun(w':World)=>kR m A d.length q w';rw[hb]at HR;clear h hd bu hm ht hn ha h5 h6 h7 hb;unfold aP at HR
 go_enter Tryz.func16,Tryz.ntmps16
 go_upto_region 1 with fail;change Code.wp _ _ _ _ (w.alloc (.cells (aP m (.slice A d.length q)) 37));have fh:=aB (∀k,jG c a k→k≠w.heap.size) (fun k hk e=>by have:=iA.out k hk;omega);have kM:=aB (w.heap.size<(w.alloc (.cells (aP m (.slice A d.length q)) 37)).heap.size) bh;generalize w.alloc (.cells (aP m (.slice A d.length q)) 37)=W at *;obtain⟨mb,fW⟩:∃mb,mb=w.heap.size:=⟨_,rfl⟩;have pG:=aB (w.heap.size≤mb) (Nat.le_of_eq fW.symm);rw[←fW]at HB fh kM ⊢;clear fW;have x0:aw W mb 0 (m.f 0):=HB.af rfl;have x1:aw W mb 1 (m.f 1):=HB.af rfl;have x2:aw W mb 2 (m.f 2):=HB.af rfl;have x3:aw W mb 3 (m.f 3):=HB.af rfl;have x4:aw W mb 4 (m.f 4):=HB.af rfl;have x5:aw W mb 5 (m.f 5):=HB.af rfl;have x6:aw W mb 6 (m.f 6):=HB.af rfl;have x7:aw W mb 7 (m.f 7):=HB.af rfl;have x8:aw W mb 8 (m.f 8):=HB.af rfl;have x9:aE W mb 9 (.bool m.g):=HB.af rfl;have vx:aE W mb 10 (.slice A d.length q):=HB.af rfl;have kz:=H.yh;rw[fK]at kz;go_upto_region 3 with(go_at_call 49;refine(HR W).mono ?_;rintro e W1 ⟨rfl,aR⟩;have aX:=ae aR;clear aR);have y0:=aX.cell x0 id;have bU:=ae<|aX.aq HB id;clear x0 x1 x2 x3 x4 x5 x6 x7 x8 x9 vx kz;go_wp2;go_ret;exact⟨_,a,rfl,by rw[HT.out];exact bg.nil _ _ _,by rw[HM.out];exact H.keep aX,ib.same rfl (fun _ h=>h) (fun _ h=>h) (HO.aC aX fun _ h=>h.elim)⟩
end
section
variable {Z:ZN}{w:World}{K:aZ}{c:aM}{a:cH K}{M:CM K.σ}
theorem T1 (h:bm Z K c a M w){m:di}{v:Value}{d:List Int}(hd:cX Z w v d)(fK:M.up=true)(hb:eF m d.length=true)(h7:m.f 0=7):
 Calls Tryz.prog 16 #[aO a.l,.agg (aP m v)] w (zV Z K c a M m d w):=by
 have hn:¬(M.up=false∨eF m d.length=false):=by rw[fK,hb];simp
 have hm:bd K.sp c (cN c) M m d=fP K.sp M (m.f 5):=by unfold bd;rw[if_neg hn,if_pos h7]
 have ht:bW K.sp c (cN c) M m d= [CH 4 0 0 (m.f 5) 0 (m.f 7) []]:=by unfold bW;rw[if_neg hn,if_pos h7]
 have HM:=ae hm;have HT:=ae ht;have HH7:=ae h7;have Kb:(m.f 0==7)=true:=by simpa using h7
 obtain⟨A,q,rfl⟩:=hd.shape;have bu:ag az w (w.alloc (.cells (aP m (.slice A d.length q)) 37)):=(ag.aj az w).alloc _;have bL:=ae<|fun k (hk:b6 a k)=>h.kB hk;have iA:=ae<|fun k (hk:jG c a k)=>h.uU hk;have kZ:=ae h.zb;have HB:=ae<|Box.fresh w 37 (aP m (.slice A d.length q));have HO:=ae<|bu.mono (S':=b6 a) fun k hk=>hk.elim;have H:=ae<|h.keep bu;have HD:=ae<|hd.keep bu;have HR:=ae<|fun(w':World)=>kR m A d.length q w';rw[hb]at HR;clear h hd bu hm ht hn hb h7;unfold aP at HR
 go_enter Tryz.func16,Tryz.ntmps16
 go_upto_region 1 with fail;change Code.wp _ _ _ _ (w.alloc (.cells (aP m (.slice A d.length q)) 37));have fh:=aB (∀k,jG c a k→k≠w.heap.size) (fun k hk e=>by have:=iA.out k hk;omega);have kM:=aB (w.heap.size<(w.alloc (.cells (aP m (.slice A d.length q)) 37)).heap.size) bh;generalize w.alloc (.cells (aP m (.slice A d.length q)) 37)=W at *;obtain⟨mb,fW⟩:∃mb,mb=w.heap.size:=⟨_,rfl⟩;have pG:=aB (w.heap.size≤mb) (Nat.le_of_eq fW.symm);rw[←fW]at HB fh kM ⊢;clear fW;have x0:aw W mb 0 (m.f 0):=HB.af rfl;have x1:aw W mb 1 (m.f 1):=HB.af rfl;have x2:aw W mb 2 (m.f 2):=HB.af rfl;have x3:aw W mb 3 (m.f 3):=HB.af rfl;have x4:aw W mb 4 (m.f 4):=HB.af rfl;have x5:aw W mb 5 (m.f 5):=HB.af rfl;have x6:aw W mb 6 (m.f 6):=HB.af rfl;have x7:aw W mb 7 (m.f 7):=HB.af rfl;have x8:aw W mb 8 (m.f 8):=HB.af rfl;have x9:aE W mb 9 (.bool m.g):=HB.af rfl;have vx:aE W mb 10 (.slice A d.length q):=HB.af rfl;have kz:=H.yh;rw[fK]at kz;go_upto_region 3 with(go_at_call 49;refine(HR W).mono ?_;rintro e W1 ⟨rfl,aR⟩;have aX:=ae aR;clear aR);have y0:=aX.cell x0 id;have bU:=ae<|aX.aq HB id;have H1:=ae<|H.keep aX;have bf:=ae<|HO.aC aX fun _ h=>h.elim;clear x0 x1 x2 x3 x4 x5 x6 x7 x8 x9 vx kz H HB HO;go_upto_region 9 with fail;clear y0;have k0:aE W1.drew a.l 17 (aO a.cb):=H1.mD;have k1:aw W1.drew mb 5 (m.f 5):=bU.af rfl;refine dU (fun w':World=>aE w' a.l 17 (aO a.cb)∧aw w' mb 5 (m.f 5)) 6 fun aH=>?_
 refine bX [0,1,2,3,4,5] ?_;refine cG ?_;clear aH k0 k1;have QB:=ae<|Eu (H1.keep ((ag.aj az W1).drew)) (m.f 5);go_upto_region 10 with(go_at_call 50;refine QB.mono ?_;rintro e W2 ⟨b2,A2,n2,m2,D2,rfl,_,kX,bp⟩);have H2:=ae kX;have cO:=ae<|bp.aq bU.drew fun e=>fh _ (.inl e.uT) rfl;have bn:=ae<|(bf.drew).aC bp fun k hk=>.inl hk.uT;clear kX bp QB;have y5:aw W2 mb 5 (m.f 5):=cO.af rfl;have y7:aw W2 mb 7 (m.f 7):=cO.af rfl;go_wp2;go_ret;have Df:ag az W2 (W2.alloc (.cells (aaQ (m.f 5) (m.f 7) aJ) 37)):=(ag.aj az W2).alloc _;exact⟨_,{a with D:=D2},rfl,by rw[HT.out];exact bg.one (CH 4 0 0 (m.f 5) 0 (m.f 7) []) (v:=aJ) (Nx _ _ _ _) (cX.nil _ _) rfl bn.size,by rw[HM.out];exact H2.keep Df,ib.same rfl (fun _ h=>h) (fun _ h=>h) (bn.aC Df fun _ h=>h.elim)⟩
end
section
variable {Z:ZN}{w:World}{K:aZ}{c:aM}{a:cH K}{M:CM K.σ}
theorem sF{P:Prop}(h:P:=by
 go_wp2;go_ret;exact⟨_,a,rfl,by rw[HT.out];exact bg.nil _ _ _,by rw[HM.out];exact H1.keep ((ag.aj az W1).drew),ib.same rfl (fun _ h=>h) (fun _ h=>h) bf.drew⟩):P:=h
theorem ru{P:Prop}(h:P:=by
 refine cG ?_;clear aH d0 d1 d2 d3 d4;exact sF):P:=h
theorem qw{P:Prop}(h:P:=by
 have P9:((M.S k).op != m.f 4)=true:=by simpa using o2
 clear o1 o2 eD;have d0:aE W1.drew a.l 19 (aU a.sb (cN c) (cN c)):=jZ;have d1:aw W1.drew mb 2 k:=y2;have d2:aw W1.drew mb 4 (m.f 4):=y4;have d3:aw W1.drew a.sb (k*5) ((M.S k).op):=z0;have d4:aE W1.drew a.sb (k*5+3) (.bool (M.S k).wr):=z3;go_upto_region 14 with fail;refine dU (fun w':World=>aE w' a.l 19 (aU a.sb (cN c) (cN c))∧aw w' mb 2 k∧aw w' mb 4 (m.f 4)∧aw w' a.sb (k*5) ((M.S k).op)∧aE w' a.sb (k*5+3) (.bool (M.S k).wr)) 39 fun aH=>?_
 refine yd [0,1,2,3,4,5,6,7,8,9,10,11,12,13,14,15,16,17,18,19,20,21,22,23,24,25,26,27,28,29,30,31,32,33,34,35,36,37,38] ?_;exact ru):P:=h
theorem rN{P:Prop}(h:P:=by
 refine yd [0,1,2,3,4,5,6,7,8,9,10,11,12,13,14,15,16,17,18,19,20,21,22,23,24,25,26,27,28,29,30,31,32,33,34,35,36,37,38] ?_;refine cG ?_;clear aH d0 d1 d2;exact sF):P:=h
theorem qd{P:Prop}(h:P:=by
 have Qa:(m.f 4==0)=true:=by simpa using o1
 clear o1;have d0:aE W1.drew a.l 19 (aU a.sb (cN c) (cN c)):=jZ;have d1:aw W1.drew mb 2 k:=y2;have d2:aw W1.drew mb 4 (m.f 4):=y4;go_upto_region 14 with fail;refine dU (fun w':World=>aE w' a.l 19 (aU a.sb (cN c) (cN c))∧aw w' mb 2 k∧aw w' mb 4 (m.f 4)) 39 fun aH=>?_
 exact rN):P:=h
theorem rZ{P:Prop}(h:P:=by
 have s1':¬m.f 2<cN c:=ao;have d0:aE W1.drew a.l 19 (aU a.sb (cN c) (cN c)):=jZ;have d1:aw W1.drew mb 2 (m.f 2):=y2;have d2:aw W1.drew mb 4 (m.f 4):=y4;go_upto_region 14 with fail;refine dU (fun w':World=>aE w' a.l 19 (aU a.sb (cN c) (cN c))∧aw w' mb 2 (m.f 2)∧aw w' mb 4 (m.f 4)) 39 fun aH=>?_
 exact rN):P:=h
theorem qu{P:Prop}(h:P:=by
 refine bX [0,1,2,3,4,5,6,7,8,9,10,11,12,13,14,15,16,17,18,19,20,21,22,23,24,25,26,27,28,29,30,31,32,33,34,35,36,37,38] ?_;exact ru):P:=h
theorem je{P:Prop}(h:P:=by
 have ha:=HA.out;unfold jP at ha;rw[hk,Int.toNat_natCast,Da.out,decide_eq_true pr,decide_eq_true o1,decide_eq_true o2]at ha
 revert ha
 cases (M.S k).wr<;>decide):P:=h
theorem Pv (h:bm Z K c a M w){m:di}{v:Value}{d:List Int}(hd:cX Z w v d)(fK:M.up=true)(hb:eF m d.length=true)(h0:m.f 0=5)(ha:jP (cN c) M m=false):
 Calls Tryz.prog 16 #[aO a.l,.agg (aP m v)] w (zV Z K c a M m d w):=by
 have hn:¬(M.up=false∨eF m d.length=false):=by rw[fK,hb];simp
 have hs:=iE hb;have Da:=ae h0;have Kb:(m.f 0==7)=false:=by rw[h0];decide
 have QY:(m.f 0==6)=false:=by rw[h0];decide
 have QZ:(m.f 0==5)=true:=by rw[h0];decide
 have hm:bd K.sp c (cN c) M m d=M:=by unfold bd;rw[if_neg hn,if_neg ao,if_pos ha]
 have ht:bW K.sp c (cN c) M m d= []:=by unfold bW;rw[if_neg hn,if_neg ao,if_pos ha]
 have HM:=ae hm;have HT:=ae ht;have HA:=ae ha;clear hm ht ha;obtain⟨A,q,rfl⟩:=hd.shape;have bu:ag az w (w.alloc (.cells (aP m (.slice A d.length q)) 37)):=(ag.aj az w).alloc _;have bL:=ae<|fun k (hk:b6 a k)=>h.kB hk;have iA:=ae<|fun k (hk:jG c a k)=>h.uU hk;have kZ:=ae h.zb;have HB:=ae<|Box.fresh w 37 (aP m (.slice A d.length q));have HO:=ae<|bu.mono (S':=b6 a) fun k hk=>hk.elim;have H:=ae<|h.keep bu;have HD:=ae<|hd.keep bu;have HR:=ae<|fun(w':World)=>kR m A d.length q w';rw[hb]at HR;have mX:=h.nn.2.1;clear h hd bu hn hb h0;unfold aP at HR
 go_enter Tryz.func16,Tryz.ntmps16
 go_upto_region 1 with fail;change Code.wp _ _ _ _ (w.alloc (.cells (aP m (.slice A d.length q)) 37));have fh:=aB (∀k,jG c a k→k≠w.heap.size) (fun k hk e=>by have:=iA.out k hk;omega);have kM:=aB (w.heap.size<(w.alloc (.cells (aP m (.slice A d.length q)) 37)).heap.size) bh;generalize w.alloc (.cells (aP m (.slice A d.length q)) 37)=W at *;obtain⟨mb,fW⟩:∃mb,mb=w.heap.size:=⟨_,rfl⟩;have pG:=aB (w.heap.size≤mb) (Nat.le_of_eq fW.symm);rw[←fW]at HB fh kM ⊢;clear fW;have x0:aw W mb 0 (m.f 0):=HB.af rfl;have x1:aw W mb 1 (m.f 1):=HB.af rfl;have x2:aw W mb 2 (m.f 2):=HB.af rfl;have x3:aw W mb 3 (m.f 3):=HB.af rfl;have x4:aw W mb 4 (m.f 4):=HB.af rfl;have x5:aw W mb 5 (m.f 5):=HB.af rfl;have x6:aw W mb 6 (m.f 6):=HB.af rfl;have x7:aw W mb 7 (m.f 7):=HB.af rfl;have x8:aw W mb 8 (m.f 8):=HB.af rfl;have x9:aE W mb 9 (.bool m.g):=HB.af rfl;have vx:aE W mb 10 (.slice A d.length q):=HB.af rfl;have kz:=H.yh;rw[fK]at kz;go_upto_region 3 with(go_at_call 49;refine(HR W).mono ?_;rintro e W1 ⟨rfl,aR⟩;have aX:=ae aR;clear aR);have y0:=aX.cell x0 id;have P6:=aX.cell vx id;have bU:=ae<|aX.aq HB id;have H1:=ae<|H.keep aX;have jL:=ae<|HD.keep aX;have bf:=ae<|HO.aC aX fun _ h=>h.elim;clear x0 x1 x2 x3 x4 x5 x6 x7 x8 x9 vx kz H HB HO HD;go_upto_region 14 with fail;clear y0 P6;have jZ:=H1.pw;have y2:aw W1 mb 2 (m.f 2):=bU.af rfl;have y4:aw W1 mb 4 (m.f 4):=bU.af rfl
 by_cases s1:(cN c:Int)≤m.f 2
 ·exact rZ
 obtain⟨k,hk⟩:∃k:Nat,m.f 2=k:=⟨(m.f 2).toNat,ao⟩;have oJ:k<cN c:=ao;have pr:(k:Int)<cN c:=ao;have U5:decide (cN c≤k)=false:=decide_eq_false ao;rw[hk]at y2
 by_cases o1:m.f 4=0
 ·exact qd
 have Qa:(m.f 4==0)=false:=by simpa using o1
 obtain⟨Ad,nd,md,eD⟩:=H1.DD k oJ;obtain⟨z0,z1,z2,z3,z4⟩:=bJ H1.slots oJ eD
 by_cases o2:(M.S k).op=m.f 4
 ·have P9:((M.S k).op != m.f 4)=false:=by simpa using o2
  have w1:(M.S k).wr=true:=by
   exact je
  rw[w1]at z3;clear o1 o2 eD;have d0:aE W1.drew a.l 19 (aU a.sb (cN c) (cN c)):=jZ;have d1:aw W1.drew mb 2 k:=y2;have d2:aw W1.drew mb 4 (m.f 4):=y4;have d3:aw W1.drew a.sb (k*5) ((M.S k).op):=z0;have d4:aE W1.drew a.sb (k*5+3) (.bool true):=z3;go_upto_region 14 with fail;refine dU (fun w':World=>aE w' a.l 19 (aU a.sb (cN c) (cN c))∧aw w' mb 2 k∧aw w' mb 4 (m.f 4)∧aw w' a.sb (k*5) ((M.S k).op)∧aE w' a.sb (k*5+3) (.bool true)) 39 fun aH=>?_
  exact qu
 ·exact qw
end
section
variable {Z:ZN}{w:World}{K:aZ}{c:aM}{a:cH K}{M:CM K.σ}
theorem Pu (h:bm Z K c a M w){m:di}{v:Value}{d:List Int}(hd:cX Z w v d)(fK:M.up=true)(hb:eF m d.length=true)(h0:m.f 0=6)(ha:jP (cN c) M m=false):
 Calls Tryz.prog 16 #[aO a.l,.agg (aP m v)] w (zV Z K c a M m d w):=by
 have hn:¬(M.up=false∨eF m d.length=false):=by rw[fK,hb];simp
 have hs:=iE hb;have Da:=ae h0;have Kb:(m.f 0==7)=false:=by rw[h0];decide
 have QY:(m.f 0==6)=true:=by rw[h0];decide
 have hm:bd K.sp c (cN c) M m d=M:=by unfold bd;rw[if_neg hn,if_neg ao,if_pos ha]
 have ht:bW K.sp c (cN c) M m d= []:=by unfold bW;rw[if_neg hn,if_neg ao,if_pos ha]
 have HM:=ae hm;have HT:=ae ht;have HA:=ae ha;clear hm ht ha;obtain⟨A,q,rfl⟩:=hd.shape;have bu:ag az w (w.alloc (.cells (aP m (.slice A d.length q)) 37)):=(ag.aj az w).alloc _;have bL:=ae<|fun k (hk:b6 a k)=>h.kB hk;have iA:=ae<|fun k (hk:jG c a k)=>h.uU hk;have kZ:=ae h.zb;have HB:=ae<|Box.fresh w 37 (aP m (.slice A d.length q));have HO:=ae<|bu.mono (S':=b6 a) fun k hk=>hk.elim;have H:=ae<|h.keep bu;have HD:=ae<|hd.keep bu;have HR:=ae<|fun(w':World)=>kR m A d.length q w';rw[hb]at HR;have mX:=h.nn.2.1;clear h hd bu hn hb h0;unfold aP at HR
 go_enter Tryz.func16,Tryz.ntmps16
 go_upto_region 1 with fail;change Code.wp _ _ _ _ (w.alloc (.cells (aP m (.slice A d.length q)) 37));have fh:=aB (∀k,jG c a k→k≠w.heap.size) (fun k hk e=>by have:=iA.out k hk;omega);have kM:=aB (w.heap.size<(w.alloc (.cells (aP m (.slice A d.length q)) 37)).heap.size) bh;generalize w.alloc (.cells (aP m (.slice A d.length q)) 37)=W at *;obtain⟨mb,fW⟩:∃mb,mb=w.heap.size:=⟨_,rfl⟩;have pG:=aB (w.heap.size≤mb) (Nat.le_of_eq fW.symm);rw[←fW]at HB fh kM ⊢;clear fW;have x0:aw W mb 0 (m.f 0):=HB.af rfl;have x1:aw W mb 1 (m.f 1):=HB.af rfl;have x2:aw W mb 2 (m.f 2):=HB.af rfl;have x3:aw W mb 3 (m.f 3):=HB.af rfl;have x4:aw W mb 4 (m.f 4):=HB.af rfl;have x5:aw W mb 5 (m.f 5):=HB.af rfl;have x6:aw W mb 6 (m.f 6):=HB.af rfl;have x7:aw W mb 7 (m.f 7):=HB.af rfl;have x8:aw W mb 8 (m.f 8):=HB.af rfl;have x9:aE W mb 9 (.bool m.g):=HB.af rfl;have vx:aE W mb 10 (.slice A d.length q):=HB.af rfl;have kz:=H.yh;rw[fK]at kz;go_upto_region 3 with(go_at_call 49;refine(HR W).mono ?_;rintro e W1 ⟨rfl,aR⟩;have aX:=ae aR;clear aR);have y0:=aX.cell x0 id;have P6:=aX.cell vx id;have bU:=ae<|aX.aq HB id;have H1:=ae<|H.keep aX;have jL:=ae<|HD.keep aX;have bf:=ae<|HO.aC aX fun _ h=>h.elim;clear x0 x1 x2 x3 x4 x5 x6 x7 x8 x9 vx kz H HB HO HD;go_upto_region 14 with fail;clear y0 P6;have jZ:=H1.pw;have y2:aw W1 mb 2 (m.f 2):=bU.af rfl;have y4:aw W1 mb 4 (m.f 4):=bU.af rfl
 by_cases s1:(cN c:Int)≤m.f 2
 ·exact rZ
 obtain⟨k,hk⟩:∃k:Nat,m.f 2=k:=⟨(m.f 2).toNat,ao⟩;have oJ:k<cN c:=ao;have pr:(k:Int)<cN c:=ao;have U5:decide (cN c≤k)=false:=decide_eq_false ao;rw[hk]at y2
 by_cases o1:m.f 4=0
 ·exact qd
 have Qa:(m.f 4==0)=false:=by simpa using o1
 obtain⟨Ad,nd,md,eD⟩:=H1.DD k oJ;obtain⟨z0,z1,z2,z3,z4⟩:=bJ H1.slots oJ eD
 by_cases o2:(M.S k).op=m.f 4
 ·have P9:((M.S k).op != m.f 4)=false:=by simpa using o2
  have w1:(M.S k).wr=false:=by
   exact je
  rw[w1]at z3;clear o1 o2 eD;have d0:aE W1.drew a.l 19 (aU a.sb (cN c) (cN c)):=jZ;have d1:aw W1.drew mb 2 k:=y2;have d2:aw W1.drew mb 4 (m.f 4):=y4;have d3:aw W1.drew a.sb (k*5) ((M.S k).op):=z0;have d4:aE W1.drew a.sb (k*5+3) (.bool false):=z3;go_upto_region 14 with fail;refine dU (fun w':World=>aE w' a.l 19 (aU a.sb (cN c) (cN c))∧aw w' mb 2 k∧aw w' mb 4 (m.f 4)∧aw w' a.sb (k*5) ((M.S k).op)∧aE w' a.sb (k*5+3) (.bool false)) 39 fun aH=>?_
  exact qu
 ·exact qw
end
end
end Go.Proofs.YtchofaecncibjaaGreat
