/- Lemmas. -/
import Derived.Test.YtpcfhbeakecihaaGreatM23
import Derived.Test.YtpcfhbeakecihaaGreatM26
set_option linter.all false
set_option maxHeartbeats 20000000
set_option maxRecDepth 100000
namespace Go.Proofs.YtpcfhbeakecihaaGreat
open Go.ChangeShapes Go.RowKit Go.WideShapes
def ua (g:Nat)(P:bM)(s:bu)(i:Nat):Value:=
 if i=0 then aI g else if i=1 then ah P.cap else if i=2 then ah P.q else if i=3 then ah P.gv
 else if i=4 then ah P.ghost else if i=5 then ah s.now else if i<70 then ah (s.often ((i - 6:Nat):Int))else ah (s.exp ((i - 70:Nat):Int))
def tO (g:Nat)(P:bM)(s:bu):Array Value:=Array.ofFn (n:=134) fun i=>ua g P s i.1
theorem gM (g:Nat)(P:bM)(s:bu){i:Nat}(hi:i<134):(tO g P s)[i]? =some (ua g P s i):=by
 simp only[tO,Array.getElem?_ofFn,hi,dite_true]
theorem nn (g:Nat)(P:bM)(s s':bu)(v:Value){i:Nat}(hv:∀j,j<134→ua g P s' j=if j=i then v else ua g P s j):(tO g P s).setIfInBounds i v=tO g P s':=by
 refine Array.ext (by simp[tO]) fun j h1 h2=>?_
 have hj:j<134:=by simpa [tO] using h2
 rw[Array.getElem_setIfInBounds (by simpa [tO] using hj)];simp only[tO,Array.getElem_ofFn];rw[hv j hj]
 by_cases e:i=j
 ·subst e;simp
 ·rw[if_neg e,if_neg (fun h=>e h.symm)]
theorem mg (g:Nat)(P:bM)(s:bu){n:Nat}(h:n<64):ua g P s (6+n)=ah (s.often n):=by
 unfold ua;rw[if_neg ai,if_neg ai,if_neg ai,if_neg ai,if_neg ai,if_neg ai,if_pos ai,show 6+n - 6=n by omega]
theorem rU (g:Nat)(P:bM)(s:bu)(n:Nat):ua g P s (70+n)=ah (s.exp n):=by
 unfold ua;rw[if_neg ai,if_neg ai,if_neg ai,if_neg ai,if_neg ai,if_neg ai,if_neg ai,show 70+n - 70=n by omega]
def gC (w:World)(p g:Nat)(P:bM)(s:bu):Prop:=Box w p 203 (tO g P s)
section
variable {w w':World}{p g eb:Nat}{P:bM}{s:bu}
theorem gC.ptr (h:gC w p g P s):ba w p 0 (aI g):=h.ag (gM g P s av)
theorem gC.cap (h:gC w p g P s):aF w p 1 P.cap:=h.ag (gM g P s av)
theorem gC.q (h:gC w p g P s):aF w p 2 P.q:=h.ag (gM g P s av)
theorem gC.gv (h:gC w p g P s):aF w p 3 P.gv:=h.ag (gM g P s av)
theorem gC.ghost (h:gC w p g P s):aF w p 4 P.ghost:=h.ag (gM g P s av)
theorem gC.now (h:gC w p g P s):aF w p 5 s.now:=h.ag (gM g P s av)
theorem gC.often (h:gC w p g P s){n:Nat}(hn:n<64):aF w p (6+n) (s.often n):=h.ag ((gM g P s ai).trans (congrArg some (mg g P s hn)))
theorem gC.exp (h:gC w p g P s){n:Nat}(hn:n<64):aF w p (70+n) (s.exp n):=h.ag ((gM g P s ai).trans (congrArg some (rU g P s n)))
theorem gC.mS (h:gC w p g P s)(x:Int):gC (w.setCell ⟨p,5,none⟩ (ah x)) p g P {s with now:=x}:=by
 unfold gC;rw[←nn g P s {s with now:=x} (ah x) (i:=5) fun j hj=>?_]
 ·exact h.store _ _
 ·by_cases e:j=5
  ·subst e;rfl
  ·rw[if_neg e];unfold ua;rw[if_neg e,if_neg e]
theorem fK{P:Prop}(h:P:=by
 have:j=0∨j=1∨j=2∨j=3∨j=4∨j=5:=ai;rcases this with rfl|rfl|rfl|rfl|rfl|rfl<;>rfl):P:=h
theorem gC.gP (h:gC w p g P s){n:Nat}(hn:n<64)(x:Int):gC (w.setCell ⟨p,6+n,none⟩ (ah x)) p g P {s with often:=aD s.often n x}:=by
 unfold gC;rw[←nn g P s {s with often:=aD s.often n x} (ah x) (i:=6+n) fun j hj=>?_]
 ·exact h.store _ _
 ·by_cases e:j=6+n
  ·subst e;rw[if_pos rfl,mg g P _ hn]
   show Value.int .i64 (aD s.often n x n)=_
   unfold aD;rw[if_pos rfl]
  ·rw[if_neg e];unfold ua
   by_cases e2:6≤j∧j<70
   ·rw[if_neg ai,if_neg ai,if_neg ai,if_neg ai,if_neg ai,if_neg ai,if_pos ai,if_neg ai,if_neg ai,if_neg ai,if_neg ai,if_neg ai,if_neg ai,if_pos ai]
    show Value.int .i64 (aD s.often n x ((j - 6:Nat):Int))=_
    unfold aD;rw[if_neg ai]
   ·by_cases e3:j<6
    ·exact fK
    ·rw[if_neg ai,if_neg ai,if_neg ai,if_neg ai,if_neg ai,if_neg ai,if_neg ai,if_neg ai,if_neg ai,if_neg ai,if_neg ai,if_neg ai,if_neg ai,if_neg ai]
theorem gC.qe (h:gC w p g P s){n:Nat}(hn:n<64)(x:Int):gC (w.setCell ⟨p,70+n,none⟩ (ah x)) p g P {s with exp:=aD s.exp n x}:=by
 unfold gC;rw[←nn g P s {s with exp:=aD s.exp n x} (ah x) (i:=70+n) fun j hj=>?_]
 ·exact h.store _ _
 ·by_cases e:j=70+n
  ·subst e;rw[if_pos rfl,rU g P _ n]
   show Value.int .i64 (aD s.exp n x n)=_
   unfold aD;rw[if_pos rfl]
  ·rw[if_neg e];unfold ua
   by_cases e2:70≤j
   ·rw[if_neg ai,if_neg ai,if_neg ai,if_neg ai,if_neg ai,if_neg ai,if_neg ai,if_neg ai,if_neg ai,if_neg ai,if_neg ai,if_neg ai,if_neg ai,if_neg ai]
    show Value.int .i64 (aD s.exp n x ((j - 70:Nat):Int))=_
    unfold aD;rw[if_neg ai]
   ·by_cases e3:j<6
    ·exact fK
    ·rw[if_neg ai,if_neg ai,if_neg ai,if_neg ai,if_neg ai,if_neg ai,if_pos ai,if_neg ai,if_neg ai,if_neg ai,if_neg ai,if_neg ai,if_neg ai,if_pos ai]
theorem gC.lists (h:gC w p g P s)(S:Nat→List Int):gC w p g P {s with S:=S}:=h
theorem gC.ao {F:Nat→Prop}(h:gC w p g P s)(ho:af F w w')(h1:¬F p):gC w' p g P s:=ho.az h h1
end
structure cJ (w:World)(p g eb:Nat)(P:bM)(s:bu):Prop where
 m:gC w p g P s
 sp:cU w g eb (P.q+1) s.S
section
variable {w w':World}{p g eb:Nat}{P:bM}{s:bu}
theorem cJ.off (h:cJ w p g eb P s):p≠g∧p≠eb:=h.sp.off h.m av av
theorem cJ.ao {F:Nat→Prop}(h:cJ w p g eb P s)(ho:af F w w')(h1:¬F p)(h2:¬F g)(h3:¬F eb):cJ w' p g eb P s:=⟨h.m.ao ho h1,h.sp.ao ho h2 h3⟩
theorem cJ.step {S':Nat→List Int}(h:cJ w p g eb P s)(ho:af (iu g eb) w w')(hs:cU w' g eb (P.q+1) S'):cJ w' p g eb P {s with S:=S'}:=by
 obtain⟨h1,h2⟩:=h.off;exact⟨(h.m.ao ho (fun e=>e.elim h1 h2)).lists S',hs⟩
theorem cJ.mS (h:cJ w p g eb P s)(x:Int):cJ (w.setCell ⟨p,5,none⟩ (ah x)) p g eb P {s with now:=x}:=
 ⟨h.m.mS x,h.sp.ao (F:=aM p) (af.setCell (p:=⟨p,_,none⟩) (af.ak (aM p) _) (.inl (show aM p p from rfl)) _) (fun e=>h.off.1 e.symm) (fun e=>h.off.2 e.symm)⟩
theorem cJ.gP (h:cJ w p g eb P s){n:Nat}(hn:n<64)(x:Int):cJ (w.setCell ⟨p,6+n,none⟩ (ah x)) p g eb P {s with often:=aD s.often n x}:=
 ⟨h.m.gP hn x,h.sp.ao (F:=aM p) (af.setCell (p:=⟨p,_,none⟩) (af.ak (aM p) _) (.inl (show aM p p from rfl)) _) (fun e=>h.off.1 e.symm) (fun e=>h.off.2 e.symm)⟩
theorem cJ.qe (h:cJ w p g eb P s){n:Nat}(hn:n<64)(x:Int):cJ (w.setCell ⟨p,70+n,none⟩ (ah x)) p g eb P {s with exp:=aD s.exp n x}:=
 ⟨h.m.qe hn x,h.sp.ao (F:=aM p) (af.setCell (p:=⟨p,_,none⟩) (af.ak (aM p) _) (.inl (show aM p p from rfl)) _) (fun e=>h.off.1 e.symm) (fun e=>h.off.2 e.symm)⟩
end
end Go.Proofs.YtpcfhbeakecihaaGreat
