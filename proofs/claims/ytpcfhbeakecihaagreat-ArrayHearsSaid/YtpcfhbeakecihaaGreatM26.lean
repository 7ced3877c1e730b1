/- Lemmas. -/
import Derived.Test.YtpcfhbeakecihaaGreatM22
import Derived.Test.YtpcfhbeakecihaaGreatM25
set_option linter.all false
set_option maxHeartbeats 20000000
set_option maxRecDepth 100000
namespace Go.Proofs.YtpcfhbeakecihaaGreat
open Go.ChangeShapes Go.RowKit Go.WideShapes
def JU (g:Nat)(P:cI)(s:cC)(i:Nat):Value:=
 if i=0 then aO g else if i=1 then ah P.cap else if i=2 then ah P.q else if i=3 then ah P.iC
 else if i=4 then ah P.ghost else if i=5 then ah s.now else if i<70 then ah (s.often ((i - 6:Nat):Int))else ah (s.exp ((i - 70:Nat):Int))
def Jq (g:Nat)(P:cI)(s:cC):Array Value:=Array.ofFn (n:=134) fun i=>JU g P s i.1
theorem pU (g:Nat)(P:cI)(s:cC){i:Nat}(hi:i<134):(Jq g P s)[i]? =some (JU g P s i):=by
 simp only[Jq,Array.getElem?_ofFn,hi,dite_true]
theorem zL (g:Nat)(P:cI)(s s':cC)(v:Value){i:Nat}(hv:∀j,j<134→JU g P s' j=if j=i then v else JU g P s j):(Jq g P s).setIfInBounds i v=Jq g P s':=by
 refine Array.ext (by simp[Jq]) fun j h1 h2=>?_
 have hj:j<134:=by simpa [Jq] using h2
 rw[Array.getElem_setIfInBounds (by simpa [Jq] using hj)];simp only[Jq,Array.getElem_ofFn];rw[hv j hj]
 by_cases e:i=j
 ·subst e;simp
 ·rw[if_neg e,if_neg (fun h=>e h.symm)]
theorem ym (g:Nat)(P:cI)(s:cC){n:Nat}(h:n<64):JU g P s (6+n)=ah (s.often n):=by
 unfold JU;rw[if_neg aj,if_neg aj,if_neg aj,if_neg aj,if_neg aj,if_neg aj,if_pos aj,show 6+n - 6=n by omega]
theorem FW (g:Nat)(P:cI)(s:cC)(n:Nat):JU g P s (70+n)=ah (s.exp n):=by
 unfold JU;rw[if_neg aj,if_neg aj,if_neg aj,if_neg aj,if_neg aj,if_neg aj,if_neg aj,show 70+n - 70=n by omega]
def pI (w:World)(p g:Nat)(P:cI)(s:cC):Prop:=Box w p 203 (Jq g P s)
section
variable {w w':World}{p g eb:Nat}{P:cI}{s:cC}
theorem pI.ptr (h:pI w p g P s):aM w p 0 (aO g):=h.ag (pU g P s aE)
theorem pI.cap (h:pI w p g P s):aF w p 1 P.cap:=h.ag (pU g P s aE)
theorem pI.q (h:pI w p g P s):aF w p 2 P.q:=h.ag (pU g P s aE)
theorem pI.iC (h:pI w p g P s):aF w p 3 P.iC:=h.ag (pU g P s aE)
theorem pI.ghost (h:pI w p g P s):aF w p 4 P.ghost:=h.ag (pU g P s aE)
theorem pI.now (h:pI w p g P s):aF w p 5 s.now:=h.ag (pU g P s aE)
theorem pI.often (h:pI w p g P s){n:Nat}(hn:n<64):aF w p (6+n) (s.often n):=h.ag ((pU g P s aj).trans (congrArg some (ym g P s hn)))
theorem pI.exp (h:pI w p g P s){n:Nat}(hn:n<64):aF w p (70+n) (s.exp n):=h.ag ((pU g P s aj).trans (congrArg some (FW g P s n)))
theorem pI.zn (h:pI w p g P s)(x:Int):pI (w.setCell ⟨p,5,none⟩ (ah x)) p g P {s with now:=x}:=by
 unfold pI;rw[←zL g P s {s with now:=x} (ah x) (i:=5) fun j hj=>?_]
 ·exact h.store _ _
 ·by_cases e:j=5
  ·subst e;rfl
  ·rw[if_neg e];unfold JU;rw[if_neg e,if_neg e]
theorem nX{P:Prop}(h:P:=by
 have:j=0∨j=1∨j=2∨j=3∨j=4∨j=5:=aj;rcases this with rfl|rfl|rfl|rfl|rfl|rfl<;>rfl):P:=h
theorem pI.pX (h:pI w p g P s){n:Nat}(hn:n<64)(x:Int):pI (w.setCell ⟨p,6+n,none⟩ (ah x)) p g P {s with often:=aV s.often n x}:=by
 unfold pI;rw[←zL g P s {s with often:=aV s.often n x} (ah x) (i:=6+n) fun j hj=>?_]
 ·exact h.store _ _
 ·by_cases e:j=6+n
  ·subst e;rw[if_pos rfl,ym g P _ hn]
   show Value.int .i64 (aV s.often n x n)=_
   unfold aV;rw[if_pos rfl]
  ·rw[if_neg e];unfold JU
   by_cases e2:6≤j∧j<70
   ·rw[if_neg aj,if_neg aj,if_neg aj,if_neg aj,if_neg aj,if_neg aj,if_pos aj,if_neg aj,if_neg aj,if_neg aj,if_neg aj,if_neg aj,if_neg aj,if_pos aj]
    show Value.int .i64 (aV s.often n x ((j - 6:Nat):Int))=_
    unfold aV;rw[if_neg aj]
   ·by_cases e3:j<6
    ·exact nX
    ·rw[if_neg aj,if_neg aj,if_neg aj,if_neg aj,if_neg aj,if_neg aj,if_neg aj,if_neg aj,if_neg aj,if_neg aj,if_neg aj,if_neg aj,if_neg aj,if_neg aj]
theorem pI.DL (h:pI w p g P s){n:Nat}(hn:n<64)(x:Int):pI (w.setCell ⟨p,70+n,none⟩ (ah x)) p g P {s with exp:=aV s.exp n x}:=by
 unfold pI;rw[←zL g P s {s with exp:=aV s.exp n x} (ah x) (i:=70+n) fun j hj=>?_]
 ·exact h.store _ _
 ·by_cases e:j=70+n
  ·subst e;rw[if_pos rfl,FW g P _ n]
   show Value.int .i64 (aV s.exp n x n)=_
   unfold aV;rw[if_pos rfl]
  ·rw[if_neg e];unfold JU
   by_cases e2:70≤j
   ·rw[if_neg aj,if_neg aj,if_neg aj,if_neg aj,if_neg aj,if_neg aj,if_neg aj,if_neg aj,if_neg aj,if_neg aj,if_neg aj,if_neg aj,if_neg aj,if_neg aj]
    show Value.int .i64 (aV s.exp n x ((j - 70:Nat):Int))=_
    unfold aV;rw[if_neg aj]
   ·by_cases e3:j<6
    ·exact nX
    ·rw[if_neg aj,if_neg aj,if_neg aj,if_neg aj,if_neg aj,if_neg aj,if_pos aj,if_neg aj,if_neg aj,if_neg aj,if_neg aj,if_neg aj,if_neg aj,if_pos aj]
theorem pI.lists (h:pI w p g P s)(S:Nat→List Int):pI w p g P {s with S:=S}:=h
theorem pI.ar {F:Nat→Prop}(h:pI w p g P s)(ho:af F w w')(h1:¬F p):pI w' p g P s:=ho.ak h h1
end
structure gZ (w:World)(p g eb:Nat)(P:cI)(s:cC):Prop where
 m:pI w p g P s
 sp:iA w g eb (P.q+1) s.S
section
variable {w w':World}{p g eb:Nat}{P:cI}{s:cC}
theorem gZ.off (h:gZ w p g eb P s):p≠g∧p≠eb:=h.sp.off h.m aE aE
theorem gZ.ar {F:Nat→Prop}(h:gZ w p g eb P s)(ho:af F w w')(h1:¬F p)(h2:¬F g)(h3:¬F eb):gZ w' p g eb P s:=⟨h.m.ar ho h1,h.sp.ar ho h2 h3⟩
theorem gZ.step {S':Nat→List Int}(h:gZ w p g eb P s)(ho:af (ra g eb) w w')(hs:iA w' g eb (P.q+1) S'):gZ w' p g eb P {s with S:=S'}:=by
 obtain⟨h1,h2⟩:=h.off;exact⟨(h.m.ar ho (fun e=>e.elim h1 h2)).lists S',hs⟩
theorem gZ.zn (h:gZ w p g eb P s)(x:Int):gZ (w.setCell ⟨p,5,none⟩ (ah x)) p g eb P {s with now:=x}:=
 ⟨h.m.zn x,h.sp.ar (F:=az p) (af.setCell (p:=⟨p,_,none⟩) (af.ai (az p) _) (.inl (show az p p from rfl)) _) (fun e=>h.off.1 e.symm) (fun e=>h.off.2 e.symm)⟩
theorem gZ.pX (h:gZ w p g eb P s){n:Nat}(hn:n<64)(x:Int):gZ (w.setCell ⟨p,6+n,none⟩ (ah x)) p g eb P {s with often:=aV s.often n x}:=
 ⟨h.m.pX hn x,h.sp.ar (F:=az p) (af.setCell (p:=⟨p,_,none⟩) (af.ai (az p) _) (.inl (show az p p from rfl)) _) (fun e=>h.off.1 e.symm) (fun e=>h.off.2 e.symm)⟩
theorem gZ.DL (h:gZ w p g eb P s){n:Nat}(hn:n<64)(x:Int):gZ (w.setCell ⟨p,70+n,none⟩ (ah x)) p g eb P {s with exp:=aV s.exp n x}:=
 ⟨h.m.DL hn x,h.sp.ar (F:=az p) (af.setCell (p:=⟨p,_,none⟩) (af.ai (az p) _) (.inl (show az p p from rfl)) _) (fun e=>h.off.1 e.symm) (fun e=>h.off.2 e.symm)⟩
end
end Go.Proofs.YtpcfhbeakecihaaGreat
