/- Lemmas. -/
import Derived.Test.YtchofaecncibjaaGreatM23
import Derived.Test.YtchofaecncibjaaGreatM26
set_option linter.all false
set_option maxHeartbeats 20000000
set_option maxRecDepth 100000
namespace Go.Proofs.YtchofaecncibjaaGreat
open Go.ChangeShapes Go.RowKit Go.WideShapes
def QH (g:Nat)(P:dN)(s:dB)(i:Nat):Value:=
 if i=0 then aO g else if i=1 then ah P.cap else if i=2 then ah P.q else if i=3 then ah P.kL
 else if i=4 then ah P.ghost else if i=5 then ah s.now else if i<70 then ah (s.often ((i - 6:Nat):Int))else ah (s.exp ((i - 70:Nat):Int))
def Qb (g:Nat)(P:dN)(s:dB):Array Value:=Array.ofFn (n:=134) fun i=>QH g P s i.1
theorem tM (g:Nat)(P:dN)(s:dB){i:Nat}(hi:i<134):(Qb g P s)[i]? =some (QH g P s i):=by
 simp only[Qb,Array.getElem?_ofFn,hi,dite_true]
theorem Fz (g:Nat)(P:dN)(s s':dB)(v:Value){i:Nat}(hv:∀j,j<134→QH g P s' j=if j=i then v else QH g P s j):(Qb g P s).setIfInBounds i v=Qb g P s':=by
 refine Array.ext (by simp[Qb]) fun j h1 h2=>?_
 have hj:j<134:=by simpa [Qb] using h2
 rw[Array.getElem_setIfInBounds (by simpa [Qb] using hj)];simp only[Qb,Array.getElem_ofFn];rw[hv j hj]
 by_cases e:i=j
 ·subst e;simp
 ·rw[if_neg e,if_neg (fun h=>e h.symm)]
theorem Ec (g:Nat)(P:dN)(s:dB){n:Nat}(h:n<64):QH g P s (6+n)=ah (s.often n):=by
 unfold QH;rw[if_neg ao,if_neg ao,if_neg ao,if_neg ao,if_neg ao,if_neg ao,if_pos ao,show 6+n - 6=n by omega]
theorem Nb (g:Nat)(P:dN)(s:dB)(n:Nat):QH g P s (70+n)=ah (s.exp n):=by
 unfold QH;rw[if_neg ao,if_neg ao,if_neg ao,if_neg ao,if_neg ao,if_neg ao,if_neg ao,show 70+n - 70=n by omega]
def tj (w:World)(p g:Nat)(P:dN)(s:dB):Prop:=Box w p 225 (Qb g P s)
section
variable {w w':World}{p g eb:Nat}{P:dN}{s:dB}
theorem tj.ptr (h:tj w p g P s):aE w p 0 (aO g):=h.af (tM g P s aD)
theorem tj.cap (h:tj w p g P s):aw w p 1 P.cap:=h.af (tM g P s aD)
theorem tj.q (h:tj w p g P s):aw w p 2 P.q:=h.af (tM g P s aD)
theorem tj.kL (h:tj w p g P s):aw w p 3 P.kL:=h.af (tM g P s aD)
theorem tj.ghost (h:tj w p g P s):aw w p 4 P.ghost:=h.af (tM g P s aD)
theorem tj.now (h:tj w p g P s):aw w p 5 s.now:=h.af (tM g P s aD)
theorem tj.often (h:tj w p g P s){n:Nat}(hn:n<64):aw w p (6+n) (s.often n):=h.af ((tM g P s ao).trans (congrArg some (Ec g P s hn)))
theorem tj.exp (h:tj w p g P s){n:Nat}(hn:n<64):aw w p (70+n) (s.exp n):=h.af ((tM g P s ao).trans (congrArg some (Nb g P s n)))
theorem tj.Ff (h:tj w p g P s)(x:Int):tj (w.setCell ⟨p,5,none⟩ (ah x)) p g P {s with now:=x}:=by
 unfold tj;rw[←Fz g P s {s with now:=x} (ah x) (i:=5) fun j hj=>?_]
 ·exact h.store _ _
 ·by_cases e:j=5
  ·subst e;rfl
  ·rw[if_neg e];unfold QH;rw[if_neg e,if_neg e]
theorem rm{P:Prop}(h:P:=by
 have:j=0∨j=1∨j=2∨j=3∨j=4∨j=5:=ao;rcases this with rfl|rfl|rfl|rfl|rfl|rfl<;>rfl):P:=h
theorem tj.tR (h:tj w p g P s){n:Nat}(hn:n<64)(x:Int):tj (w.setCell ⟨p,6+n,none⟩ (ah x)) p g P {s with often:=aT s.often n x}:=by
 unfold tj;rw[←Fz g P s {s with often:=aT s.often n x} (ah x) (i:=6+n) fun j hj=>?_]
 ·exact h.store _ _
 ·by_cases e:j=6+n
  ·subst e;rw[if_pos rfl,Ec g P _ hn]
   show Value.int .i64 (aT s.often n x n)=_
   unfold aT;rw[if_pos rfl]
  ·rw[if_neg e];unfold QH
   by_cases e2:6≤j∧j<70
   ·rw[if_neg ao,if_neg ao,if_neg ao,if_neg ao,if_neg ao,if_neg ao,if_pos ao,if_neg ao,if_neg ao,if_neg ao,if_neg ao,if_neg ao,if_neg ao,if_pos ao]
    show Value.int .i64 (aT s.often n x ((j - 6:Nat):Int))=_
    unfold aT;rw[if_neg ao]
   ·by_cases e3:j<6
    ·exact rm
    ·rw[if_neg ao,if_neg ao,if_neg ao,if_neg ao,if_neg ao,if_neg ao,if_neg ao,if_neg ao,if_neg ao,if_neg ao,if_neg ao,if_neg ao,if_neg ao,if_neg ao]
theorem tj.KQ (h:tj w p g P s){n:Nat}(hn:n<64)(x:Int):tj (w.setCell ⟨p,70+n,none⟩ (ah x)) p g P {s with exp:=aT s.exp n x}:=by
 unfold tj;rw[←Fz g P s {s with exp:=aT s.exp n x} (ah x) (i:=70+n) fun j hj=>?_]
 ·exact h.store _ _
 ·by_cases e:j=70+n
  ·subst e;rw[if_pos rfl,Nb g P _ n]
   show Value.int .i64 (aT s.exp n x n)=_
   unfold aT;rw[if_pos rfl]
  ·rw[if_neg e];unfold QH
   by_cases e2:70≤j
   ·rw[if_neg ao,if_neg ao,if_neg ao,if_neg ao,if_neg ao,if_neg ao,if_neg ao,if_neg ao,if_neg ao,if_neg ao,if_neg ao,if_neg ao,if_neg ao,if_neg ao]
    show Value.int .i64 (aT s.exp n x ((j - 70:Nat):Int))=_
    unfold aT;rw[if_neg ao]
   ·by_cases e3:j<6
    ·exact rm
    ·rw[if_neg ao,if_neg ao,if_neg ao,if_neg ao,if_neg ao,if_neg ao,if_pos ao,if_neg ao,if_neg ao,if_neg ao,if_neg ao,if_neg ao,if_neg ao,if_pos ao]
theorem tj.lists (h:tj w p g P s)(S:Nat→List Int):tj w p g P {s with S:=S}:=h
theorem tj.aA {F:Nat→Prop}(h:tj w p g P s)(ho:ag F w w')(h1:¬F p):tj w' p g P s:=ho.aq h h1
end
structure jW (w:World)(p g eb:Nat)(P:dN)(s:dB):Prop where
 m:tj w p g P s
 sp:jV w g eb (P.q+1) s.S
section
variable {w w':World}{p g eb:Nat}{P:dN}{s:dB}
theorem jW.off (h:jW w p g eb P s):p≠g∧p≠eb:=h.sp.off h.m aD aD
theorem jW.aA {F:Nat→Prop}(h:jW w p g eb P s)(ho:ag F w w')(h1:¬F p)(h2:¬F g)(h3:¬F eb):jW w' p g eb P s:=⟨h.m.aA ho h1,h.sp.aA ho h2 h3⟩
theorem jW.step {S':Nat→List Int}(h:jW w p g eb P s)(ho:ag (uZ g eb) w w')(hs:jV w' g eb (P.q+1) S'):jW w' p g eb P {s with S:=S'}:=by
 obtain⟨h1,h2⟩:=h.off;exact⟨(h.m.aA ho (fun e=>e.elim h1 h2)).lists S',hs⟩
theorem jW.Ff (h:jW w p g eb P s)(x:Int):jW (w.setCell ⟨p,5,none⟩ (ah x)) p g eb P {s with now:=x}:=
 ⟨h.m.Ff x,h.sp.aA (F:=ar p) (ag.setCell (p:=⟨p,_,none⟩) (ag.aj (ar p) _) (.inl (show ar p p from rfl)) _) (fun e=>h.off.1 e.symm) (fun e=>h.off.2 e.symm)⟩
theorem jW.tR (h:jW w p g eb P s){n:Nat}(hn:n<64)(x:Int):jW (w.setCell ⟨p,6+n,none⟩ (ah x)) p g eb P {s with often:=aT s.often n x}:=
 ⟨h.m.tR hn x,h.sp.aA (F:=ar p) (ag.setCell (p:=⟨p,_,none⟩) (ag.aj (ar p) _) (.inl (show ar p p from rfl)) _) (fun e=>h.off.1 e.symm) (fun e=>h.off.2 e.symm)⟩
theorem jW.KQ (h:jW w p g eb P s){n:Nat}(hn:n<64)(x:Int):jW (w.setCell ⟨p,70+n,none⟩ (ah x)) p g eb P {s with exp:=aT s.exp n x}:=
 ⟨h.m.KQ hn x,h.sp.aA (F:=ar p) (ag.setCell (p:=⟨p,_,none⟩) (ag.aj (ar p) _) (.inl (show ar p p from rfl)) _) (fun e=>h.off.1 e.symm) (fun e=>h.off.2 e.symm)⟩
end
end Go.Proofs.YtchofaecncibjaaGreat
