/- texts Are -/
import Derived.Test.YtpcfhbeakecihaaGreatDwArp
import Derived.Test.YtpcfhbeakecihaaGreatDwSpk
import Derived.Test.YtpcfhbeakecihaaGreatM39
import Derived.Test.YtpcfhbeakecihaaGreatM24
import Derived.Test.YtpcfhbeakecihaaGreatM3
import Derived.Test.YtpcfhbeakecihaaGreatM2
import Derived.Test.YtpcfhbeakecihaaGreatM1
import Derived.Test.YtpcfhbeakecihaaGreatM4
import Derived.Test.YtpcfhbeakecihaaGreatM5
set_option linter.all false
set_option maxHeartbeats 20000000
set_option maxRecDepth 100000
namespace Go.Proofs.YtpcfhbeakecihaaGreat
open Go.RowKit Go.ChangeShapes Go.WideShapes
structure ArrA (K:aZ) where
 i:K.ι
 ab:Nat
 cb:Nat
 mb:Nat
 sb:Nat
 db:Nat
 lb:Nat
 hv:Value
 hva:Value
 lm:Value
 V:Nat→Value
 D:Int→Option gA
def ArrW {K:aZ}(a:ArrA K):Nat→Prop:=fun k=>K.F a.i k∨k=a.cb∨k=a.mb∨k=a.ab∨k=a.db∨k=a.lb
structure ArrB (Z:ZN)(K:aZ)(c:aN)(a:ArrA K)(M:AMZq K.σ)(w:World):Prop where
 az:Box w a.ab 77 (iG c a.hva a.sb a.cb M.down M.reads a.lm)
 cch:aQ K a.i w a.cb a.mb c a.hv 3 M.s a.D
 dd:∀b,M.D b=(a.D b).map Prod.fst
 dnZq:∀b l v,a.D b=some (l,v)→∀k,aJ v k→¬Z.N k
 sto:gF w a.sb a.db a.lb a.V (sr c) M.d
 snZq:∀i,i<64→∀k,aJ (a.V i) k→¬Z.N k
 bI:0<c.h.length→∀k,aJ a.hv k→k≠a.ab∧k≠a.db∧k≠a.lb
 lo:∀k,ArrW a k→Z.B≤k
 nlt:∀k,Z.N k→k<w.heap.size
 fu:K.LK
 EY:∀b l,M.D b=some l→sm l
section
variable {Z:ZN}{K:aZ}{c:aN}{a:ArrA K}{M:AMZq K.σ}{w w':World}{S:Nat→Prop}
theorem ArrB.right (h:ArrB Z K c a M w):dJ c:=h.cch.right
def arrT:List TypeId:=Du ++ [106,77,66,35]
theorem ArrB.M8 (h:ArrB Z K c a M w){k:Nat}(hk:ArrW a k){t:TypeId}{cs:Array Value}(hb:Box w k t cs):t∈arrT:=by
 rcases hk with e|e|e|e|e|e
 ·exact List.mem_append_left _ (h.fu _ _ _ h.cch.ord k e t cs hb)
 ·rw[e]at hb;rw[(hb.same h.cch.az).1];decide
 ·exact absurd e (h.cch.map.ne hb)
 ·rw[e]at hb;rw[(hb.same h.az).1];decide
 ·rw[e]at hb;rw[(hb.same h.sto.B1.az).1];decide
 ·rw[e]at hb;rw[(hb.same h.sto.B1.row).1];decide
theorem ArrB.offF (h:ArrB Z K c a M w){k:Nat}{t:TypeId}{cs:Array Value}(hb:Box w k t cs)(ht:t∉Du):¬xm (K.F a.i) a.mb k:=by
 rintro(e|e)
 ·exact ht (h.fu _ _ _ h.cch.ord k e t cs hb)
 ·exact h.cch.map.ne hb e
theorem ArrB.noU (h:ArrB Z K c a M w){k:Nat}(hk:ArrW a k):∀cs,¬Box w k 5 cs:=fun cs hb=>absurd (h.M8 hk hb) (by decide)
theorem ArrB.wr (h:ArrB Z K c a M w):Wr Z (ArrW a) w:=fun k _ hk=>⟨h.lo k hk,.inr (h.noU hk)⟩
theorem ArrB.ltW (h:ArrB Z K c a M w){k:Nat}(hk:ArrW a k):k<w.heap.size:=by
 rcases hk with e|e|e|e|e|e
 ·exact(K.oc a.i).lt h.cch.ord k e
 ·rw[e];exact h.cch.az.lt
 ·rw[e];exact h.cch.map.lt
 ·rw[e];exact h.az.lt
 ·rw[e];exact h.sto.B1.az.lt
 ·rw[e];exact h.sto.B1.row.lt
theorem ArrB.sbW (h:ArrB Z K c a M w):¬ArrW a a.sb:=fun e=>absurd (h.M8 e h.sto.az) (by decide)
theorem ArrB.datD (h:ArrB Z K c a M w){b:Int}{l:List Int}{v:Value}(hb:a.D b=some (l,v)):pZ Z w v l:=
 ⟨(h.cch.kg b l v hb).nR,fun _ k hk=>.inr ⟨(h.cch.kg b l v hb).row.2 k hk,h.dnZq b l v hb k hk⟩⟩
theorem ArrB.off (h:ArrB Z K c a M w)(ho:af S w w')(hS:Wr Z S w)(hW:∀k,ArrW a k→¬S k)(hs:¬S a.sb)(hH:0<c.h.length→∀k,aJ a.hv k→¬S k):ArrB Z K c a M w' where
 az:=ho.az h.az (hW _ (.inr (.inr (.inr (.inl rfl)))))
 cch:=h.cch.off ho (fun k hk=>hW k (.inl hk)) (hW _ (.inr (.inl rfl))) (hW _ (.inr (.inr (.inl rfl)))) (fun b l v hb k hk=>hS.off (.inr ⟨(h.cch.kg b l v hb).row.2 k hk,h.dnZq b l v hb k hk⟩) (h.cch.Nf hb k hk)) hH
 dd:=h.dd
 dnZq:=h.dnZq
 sto:=h.sto.ao ho fun k hk=>by
  rcases hk with e|e|e|⟨i,hi,e⟩
  ·rw[e];exact hs
  ·rw[e];exact hW _ (.inr (.inr (.inr (.inr (.inl rfl)))))
  ·rw[e];exact hW _ (.inr (.inr (.inr (.inr (.inr rfl)))))
  ·exact hS.off (.inr ⟨h.sto.B1.u8 i hi k e,h.snZq i hi k e⟩) (h.sto.B1.off i hi k e).2.2
 snZq:=h.snZq
 bI:=h.bI
 lo:=h.lo
 nlt:=fun k hk=>Nat.lt_of_lt_of_le (h.nlt k hk) ho.size
 fu:=h.fu
 EY:=h.EY
theorem ArrB.keep (h:ArrB Z K c a M w)(ho:af aA w w'):ArrB Z K c a M w':=h.off ho Wr.non (fun _ _=>id) id fun _ _ _=>id
theorem ArrB.late (h:ArrB Z K c a M w)(ho:af S w w')(hS:∀k,k<w.heap.size→¬S k):ArrB Z K c a M w':=
 h.off ho (fun k hk hs=>absurd hs (hS k hk)) (fun k hk=>hS k (h.ltW hk)) (hS _ h.sto.az.lt) fun h0 k hk=>hS k (h.cch.Nc h0 k hk)
theorem ArrB.cacheS (h:ArrB Z K c a M w){s':K.σ}{D':Int→Option gA}{P:Int→Option (List Int)}(hc:aQ K a.i w' a.cb a.mb c a.hv 3 s' D')(ho:af (xm (K.F a.i) a.mb) w w')(hd:∀b,P b=(D' b).map Prod.fst)
 (hn:∀b l v,D' b=some (l,v)→∀k,aJ v k→¬Z.N k) (hi:∀b l,P b=some l→sm l):ArrB Z K c {a with D:=D'} {M with s:=s',D:=P} w' where
 az:=ho.az h.az (h.offF h.az (by decide))
 cch:=hc
 dd:=hd
 dnZq:=hn
 sto:=h.sto.ao ho fun k hk=>by
  rcases hk with e|e|e|⟨i,hi,e⟩
  ·rw[e];exact h.offF h.sto.az (by decide)
  ·rw[e];exact h.offF h.sto.B1.az (by decide)
  ·rw[e];exact h.offF h.sto.B1.row (by decide)
  ·obtain⟨cs,hb⟩:=h.sto.B1.u8 i hi k e;exact h.offF hb (by decide)
 snZq:=h.snZq
 bI:=h.bI
 lo:=h.lo
 nlt:=fun k hk=>Nat.lt_of_lt_of_le (h.nlt k hk) ho.size
 fu:=h.fu
 EY:=hi
theorem ArrW.cf {k:Nat}(h:xm (K.F a.i) a.mb k):ArrW a k:=h.elim .inl fun e=>.inr (.inr (.inl e))
theorem ArrB.diskS (h:ArrB Z K c a M w){d':dH}(hp:StoP a.sb a.db a.lb a.V (sr c) d' w w'):∃V',ArrB Z K c {a with V:=V'} {M with d:=d'} w':=by
 obtain⟨V',hs,hkk,ho⟩:=hp;have hu:∀k,(∃cs,Box w k 5 cs)→¬(k=a.db∨k=a.lb):=fun k ⟨cs,hb⟩ e=>by
  rcases e with e|e
  ·rw[e]at hb;exact absurd (hb.same h.sto.B1.az).1 (by decide)
  ·rw[e]at hb;exact absurd (hb.same h.sto.B1.row).1 (by decide)
 have hF:∀k,K.F a.i k→¬(k=a.db∨k=a.lb):=fun k hk e=>by
  rcases e with e|e
  ·rw[e]at hk;exact absurd (h.fu _ _ _ h.cch.ord _ hk _ _ h.sto.B1.az) (by decide)
  ·rw[e]at hk;exact absurd (h.fu _ _ _ h.cch.ord _ hk _ _ h.sto.B1.row) (by decide)
 have si:¬(a.cb=a.db∨a.cb=a.lb):=fun e=>by
  have hb:=h.cch.az;rcases e with e|e
  ·rw[e]at hb;exact absurd (hb.same h.sto.B1.az).1 (by decide)
  ·rw[e]at hb;exact absurd (hb.same h.sto.B1.row).1 (by decide)
 have CZ:¬(a.ab=a.db∨a.ab=a.lb):=fun e=>by
  have hb:=h.az;rcases e with e|e
  ·rw[e]at hb;exact absurd (hb.same h.sto.B1.az).1 (by decide)
  ·rw[e]at hb;exact absurd (hb.same h.sto.B1.row).1 (by decide)
 have ud:¬(a.mb=a.db∨a.mb=a.lb):=fun e=>by
  rcases e with e|e
  ·exact h.cch.map.ne h.sto.B1.az e.symm
  ·exact h.cch.map.ne h.sto.B1.row e.symm
 exact⟨V',{
  az:=ho.az h.az CZ
  cch:=h.cch.off ho hF si ud (fun b l v hb k hk=>hu k ((h.cch.kg b l v hb).row.2 k hk)) fun h0 k hk e=>by have:=h.bI h0 k hk;exact e.elim this.2.1 this.2.2
  dd:=h.dd
  dnZq:=h.dnZq
  sto:=hs
  snZq:=fun i hi k hk hz=>by
   have h3:=hs.B1.off i hi k hk;rcases hkk k (.inr (.inr ⟨i,hi,hk⟩))with e|e
   ·rcases e with e|e|⟨j,hj,e⟩
    ·exact h3.1 e
    ·exact h3.2.1 e
    ·exact h.snZq j hj k e hz
   ·have:=h.nlt k hz;omega
  bI:=h.bI
  lo:=h.lo
  nlt:=fun k hk=>Nat.lt_of_lt_of_le (h.nlt k hk) ho.size
  fu:=h.fu
  EY:=h.EY}⟩
def ArrP (Z:ZN)(K:aZ)(c:aN)(a:ArrA K)(M':AMZq K.σ)(w w':World):Prop:=∃D' V',ArrB Z K c {a with D:=D',V:=V'} M' w'∧af (ArrW a) w w'
theorem ArrP.mk1 (h:ArrB Z K c a M w')(ho:af (ArrW a) w w'):ArrP Z K c a M w w':=⟨a.D,a.V,h,ho⟩
end
section
variable {Z:ZN}{K:aZ}{c:aN}{a:ArrA K}{M M':AMZq K.σ}{T:List PM}{w w1 w':World}
theorem ArrP.back (ho:af aA w w1)(h:ArrP Z K c a M' w1 w'):ArrP Z K c a M' w w':=by
 obtain⟨D',V',h1,h2⟩:=h;exact⟨D',V',h1,(ho.mono (S':=ArrW a) fun _ hk=>hk.elim).aE h2 fun k hk=>.inl hk⟩
theorem ArrP.keep {w2:World}(h:ArrP Z K c a M' w w')(ho:af aA w' w2):ArrP Z K c a M' w w2:=by
 obtain⟨D',V',h1,h2⟩:=h;exact⟨D',V',h1.keep ho,h2.aE ho fun _ hk=>hk.elim⟩
theorem ArrP.nil (h:ArrB Z K c a M w)(ho:af aA w w'):ArrP Z K c a M w w':=⟨a.D,a.V,h.keep ho,ho.mono fun _ hk=>hk.elim⟩
theorem ArrB.zbZq (h:ArrB Z K c a M w):Z.B≤w.heap.size:=Nat.le_trans (h.lo a.ab (.inr (.inr (.inr (.inl rfl))))) (Nat.le_of_lt h.az.lt)
theorem ArrB.msgs {base:Nat}{v:Value}{L:List PM}(h:ArrB Z K c a M w)(hm:dh Z w base v L)(hb:Z.B≤base)(hh:0<c.h.length→∀k,aJ a.hv k→k<base)(ho:af (aJ v) w w'):ArrB Z K c a M w':=
 h.off ho (hm.wr hb) (fun k hk e=>by obtain⟨_,cs,hx⟩:=hm.az e;exact absurd (h.M8 hk hx) (by decide)) (fun e=>by obtain⟨_,cs,hx⟩:=hm.az e;exact absurd (hx.same h.sto.az).1 (by decide)) fun h0 k hk e=>by have:=hh h0 k hk;have:=(hm.az e).1;omega
theorem ArrB.aO (h:ArrB Z K c a M w):0<c.h.length→∀k,aJ a.hv k→k<w.heap.size:=fun h0 k hk=>h.cch.Nc h0 k hk
end
end Go.Proofs.YtpcfhbeakecihaaGreat
