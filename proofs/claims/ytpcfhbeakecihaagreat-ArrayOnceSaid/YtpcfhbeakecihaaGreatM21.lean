/- Lemmas. -/
import Derived.Test.YtpcfhbeakecihaaGreatM20
import Derived.Deep.OwnRows
set_option linter.all false
set_option maxHeartbeats 20000000
set_option maxRecDepth 100000
namespace Go.Proofs.YtpcfhbeakecihaaGreat
open Go.ChangeShapes Go.RowKit Go.WideShapes
theorem kp:(Tryz.prog.info? 3).map (fun i=>(i.zero,i.size,i.bytes))=some (some (ah 0),1,8):=by kernel_rfl
def Bz (L:List Int)(W:World)(gk:Nat)(ov bv:Value)(wr:World):Prop:=
 ∃k:Nat,gk+k=L.length∧bv=ah (hd (L.drop k))∧aC 3 wr W.heap.size ov (L.take k)∧af aA W wr
def z3:Array Value:=#[ah 0,ah 0,ah 0]
theorem wk:(Tryz.prog.info? 229).map (fun i=>(i.zero,i.size,i.bytes))=some (some (.agg z3),3,24):=by kernel_rfl
def jD (k:Nat):Int→Nd:=fun b=>⟨if b<k then -1 else 0,0,0⟩
def gu (k:Nat):Nat→En:=fun i=>if i<k then⟨-1,-1,0⟩else⟨0,0,0⟩
theorem sK (k:Nat):aD (jD k) k ⟨-1,0,0⟩=jD (k+1):=by
 funext b
 unfold aD jD
 split
 ·rename_i e;subst e
  rw[if_pos ai]
 ·rename_i e
  by_cases h:b<(k:Int)
  ·rw[if_pos h,if_pos ai]
  ·rw[if_neg h,if_neg ai]
theorem sL (k:Nat):aW (gu k) k ⟨-1,-1,0⟩=gu (k+1):=by
 funext b
 unfold aW gu
 split
 ·rename_i e;subst e
  rw[if_pos ai]
 ·rename_i e
  by_cases h:b<k
  ·rw[if_pos h,if_pos ai]
  ·rw[if_neg h,if_neg ai]
theorem Eb (m:Nat):madeCells z3 (m*3)=ln m (gu 0):=by
 refine Array.ext (by simp[madeCells,ln]) fun i h1 h2=>?_
 simp only[madeCells,ln,Array.getElem_map,Array.getElem_range,Array.getElem_ofFn];have h3:i % 3<3:=Nat.mod_lt _ av
 show z3[i % 3]! =oa ⟨0,0,0⟩ (i % 3)
 generalize i % 3=j at *;rcases(show j=0∨j=1∨j=2 by omega)with rfl|rfl|rfl<;>rfl
theorem sS (m:Nat)(hm:m≤40)(w:World):(Instr.makeSlice 222 (ah m) (ah m)).run Tryz.prog w= .ok (cS w.heap.size m m) (w.alloc (.cells (ln m (gu 0)) 229)):=by
 obtain⟨i,hi,CC⟩:=Option.map_eq_some_iff.1 wk;simp only[Prod.mk.injEq]at CC;obtain⟨hz,hs,hb⟩:=CC;have:=run_make (P:=Tryz.prog) w 222 229 i _ Tryz.underlying222 hi hz .i64 .i64 m m ai (Int.le_refl _) (by rw[hb];omega) ai;rw[hs]at this;rw[this,←Eb];rfl
theorem xF (A:Option Addr)(n c:Nat):Tryz.zeroCells227.setIfInBounds 192 (.slice A n c)=mI (jD 0) (.slice A n c):=by kernel_rfl
def Br (g eb m:Nat)(W:World)(gk:Nat)(iv:Value)(wr:World):Prop:=
 ∃k:Nat,gk+k=64∧iv=ah k∧fa wr g eb m (jD k) (gu 0)∧af aA W wr
def yQ (g eb m:Nat)(W:World)(gk:Nat)(iv:Value)(wr:World):Prop:=
 ∃k:Nat,gk+k=m∧iv=ah k∧fa wr g eb m (jD 64) (gu k)∧af aA W wr
def sc (m:Nat)(w:World)(e:Ending)(w':World):Prop:=∃g eb,e= .returned (aI g)∧cU w' g eb m (fun _=>[])∧w.heap.size≤g∧w.heap.size≤eb∧af aA w w'
section
theorem fa.xL {w:World}{g eb m:Nat}{N:Int→Nd}{E:Nat→En}(h:fa w g eb m N E){b:Nat}(hb:b<m)(n:En):
 fa (((w.setCell ⟨eb,b*3,none⟩ (ah n.f)).setCell ⟨eb,b*3+1,none⟩ (ah n.k)).setCell ⟨eb,b*3+2,none⟩ (ah n.m)) g eb m N (aW E b n):=by
 have s1:=h.mM hb (j:=0) av (ah n.f) {E b with f:=n.f} fun k hk=>by
  rcases(show k=0∨k=1∨k=2 by omega)with rfl|rfl|rfl<;>rfl
 have s2:=s1.mM hb (j:=1) av (ah n.k) {E b with f:=n.f,k:=n.k} fun k hk=>by
  exact dz
 have s3:=s2.mM hb (j:=2) av (ah n.m) n fun k hk=>by
  exact dz
 rw[jK,jK]at s3;exact s3
theorem nt {g eb m:Nat}{S:Nat→List Int}{i:Nat}(w:World)(h:cU w g eb m S)(hi:i<m):
 Calls Tryz.prog 189 #[aI g,ah i] w fun e w'=>∃v,e= .returned v∧aC 3 w' w.heap.size v (S i)∧af aA w w':=by
 have FZ:=ae<|oR h hi;have pX:(i:Int)<m:=ai;obtain⟨N,E,hm,hr,_⟩:=h;have hh:=hm.hd;have ce:aF w eb (i*3) ((E i).f):=hm.end_ (b:=i) (j:=0) hi av;rw[hr.ends i hi]at ce;dsimp only at ce;have HM:=ae hm;have bI:=fun {b:Int} (hb:b∈S i)=>hr.se hb
 have tY:=aH (∀b:Int,b∈S i→N b=⟨i,gz (S i) b,dX (S i) b⟩) (fun b hb=>hr.se hb);have Iu:=aH (∀b:Int,b∈S i→0≤b∧b<64) (fun b hb=>hr.gr hb);have Dm:=ae<|hr.nodup i;have JD:=ae<|hr.len i;clear hm hr bI;generalize S i=L at *;generalize hx:Go.Proofs.YtpcfhbeakecihaaGreat.hd L=x at *;have HX:=ae hx;clear hx
 go_enter Tryz.func189,Tryz.ntmps189
 go_wp2_with (go_at_call 191;refine FZ.mono ?_;rintro e W0 ⟨rfl,rfl⟩);clear hh ce FZ
 go_loopg [5,6] L.length (fun n ov bv wr=>Bz L w n ov bv wr)
 case atStart=>exact⟨0,ai,by rw[←HX.out];rfl,aC.nil _ _ _,af.ak _ _⟩
 case round=>
  obtain⟨k,hk,rfl,bp,ho⟩:=hrel;have HK:=ae hk;have kc:=ae bp;have HO:=ae ho;clear hk bp ho
  by_cases aO:k<L.length
  ·obtain⟨ug,rfl⟩:∃ug,gk=ug+1:=⟨gk - 1,by have:=HK.out;omega⟩;have cK:L[k]∈L:=List.getElem_mem aO;have KF:Go.Proofs.YtpcfhbeakecihaaGreat.hd (L.drop k)=L[k]:=yu aO;obtain⟨h0,h1⟩:=Iu.out _ cK;have Km:=A9 Dm aO;have zx:=tY.out _ cK;have Ab:L.take (k+1)=L.take k ++ [L[k]]:=by rw[List.take_append_getElem aO]
   rw[KF];generalize L[k]=b at *;obtain⟨n,rfl⟩:=Int.eq_ofNat_of_zero_le h0;have hn:n<64:=ai;have cb:aF w g (n*3+2) ((N n).b):=HM.node (b:=n) (j:=2) hn av;rw[zx]at cb;dsimp only at cb;rw[Km]at cb;generalize hy:Go.Proofs.YtpcfhbeakecihaaGreat.hd (L.drop (k+1))=y at *;have HY:=ae hy;have tU:=ae Ab;have ID:=ae (show(L.take k).length≤1000000 by have:=JD.out;simp;omega);generalize L.take k=Lk at *;have CB:=ae cb;have K8:aF wr g (n*3+2) y:=HO.cell cb id;have Qy:(n:Int)≠-1:=ai;clear cK KF Km zx Ab hy h0 aO cb;have Fe:(n:Int)<64:=ai;clear h1;go_wp2_with (at_builtin;refine hG _ rfl (.tmp 28) (.tmp 30) 47 3 rfl kp Tryz.underlying47 w.heap.size u5 Lk n rfl (kc.alloc _) ⟨wr.heap.size,0,none⟩ rfl (World.cell?_alloc_at _ _ _ _ rfl) ID (by have:=HO.size;rw[World.size_alloc];omega) ?_;intro v' w1 j0 ow;have Jw:=ae j0;have IG:=ae ow;have QS:aF w1 g (n*3+2) y:=ow.cell (af.cell ((af.ak aA wr).alloc _) K8 id) (fun e=>by have h1:w.heap.size≤g:=(kc.lt _ e).1;have:=HM.1.lt;omega);clear j0 ow K8)
   go_roundg ug
   case measure=>exact Nat.lt_succ_self _
   case rel=>
    refine⟨k+1,by have:=HK.out;omega,by rw[HY.out],by rw[tU.out];exact Jw,(HO.alloc _).aE IG fun j hj=>.inr (kc.lt j hj).1⟩
  ·obtain rfl:k=L.length:=by have:=HK.out;omega
   rw[pD];go_wp2;go_ret;refine⟨_,rfl,?_,HO⟩;have:=kc.out;rwa [List.take_length]at this
theorem nk {m:Nat}(w:World)(h0:0<m)(KZ:m≤40):
 Calls Tryz.prog 112 #[ah m] w (sc m w):=by
 have Kp:(1:Int)≤m:=ai;have nN:(m:Int)≤40:=ai;have nM:=sS m KZ
 go_enter Tryz.func112,Tryz.ntmps112
 have Av:=ae nM;clear nM;go_upto_region 1 with fail
 go_cut [3] (fun v wx=>v=aI (w.heap.size+1)∧wx=(w.alloc (.cells (ln m (gu 0)) 229)).alloc (.cells (mI (jD 0) (cS w.heap.size m m)) 227))
 case first=>
  have HZ:=ae<|xF (some ⟨w.heap.size,0,none⟩) m m
  by_cases h1:m≤1
  ·have nM:=Av.out;have PW:∀w,(Instr.makeSlice 222 (ah 1) (ah 1)).run Tryz.prog w= .ok (cS w.heap.size m m) (w.alloc (.cells (ln m (gu 0)) 229)):=fun w=>by
    obtain rfl:m=1:=ai;exact nM w
   have h2:(m:Int)≤1:=ai;clear nM h1 Av;go_wp2
   go_meet
   case rel=>exact⟨rfl,by rw[←HZ.out]⟩
  ·have nM:=Av.out;have h2:¬(m:Int)≤1:=ai;clear h1 Av;go_wp2
   go_meet
   case rel=>exact⟨rfl,by rw[←HZ.out]⟩
 case rest=>
  obtain⟨rfl,rfl⟩:=hcut;have dq:=Box.fresh w 229 (ln m (gu 0));have dF:=Box.fresh (w.alloc (.cells (ln m (gu 0)) 229)) 227 (mI (jD 0) (cS w.heap.size m m));rw[World.size_alloc]at dF;have h1:=(show fa ((w.alloc (.cells (ln m (gu 0)) 229)).alloc (.cells (mI (jD 0) (cS w.heap.size m m)) 227)) (w.heap.size+1) w.heap.size m (jD 0) (gu 0)from⟨dF,dq.alloc _⟩);have bw:=ae<|((af.ak aA w).alloc (.cells (ln m (gu 0)) 229)).alloc (.cells (mI (jD 0) (cS w.heap.size m m)) 227);have HG:=aH (w.heap.size≤w.heap.size+1) (Nat.le_succ _);obtain⟨eb,he⟩:∃eb,eb=w.heap.size:=⟨_,rfl⟩;have HE:=aH (w.heap.size≤eb) (Nat.le_of_eq he.symm);clear dq dF Av;generalize(w.alloc (.cells (ln m (gu 0)) 229)).alloc (.cells (mI (jD 0) (cS w.heap.size m m)) 227)=W1 at *;generalize hg:w.heap.size+1=g at *;rw[←he]at h1;have H1:=ae h1;clear hg he h1;go_wp2_with fail
  go_loopg [12] 64 (fun n iv wr=>Br g eb m w n iv wr)
  case atStart=>exact⟨0,rfl,rfl,H1,bw⟩
  case round=>
   obtain⟨k,hk,rfl,CK,ho⟩:=hrel;have HK:=ae hk;have H:=ae CK;have HO:=ae ho;clear hk CK ho
   by_cases aO:k<64
   ·obtain⟨ug,rfl⟩:∃ug,gk=ug+1:=⟨gk - 1,by have:=HK.out;omega⟩;have pP:(k:Int)<64:=ai;have hf:=H.1.free (k*3);have hc:aF wr g (k*3) ((jD k k).l):=H.node (b:=k) (j:=0) aO av;go_wp2
    go_roundg ug
    case measure=>exact Nat.lt_succ_self _
    case rel=>
     refine⟨k+1,by have:=HK.out;omega,by simp,?_,HO.setCell (p:=⟨g,k*3,none⟩) (.inr HG) _⟩;rw[←sK];exact H.nU aO (j:=0) av _ _ fun q hq=>by
      rcases(show q=0∨q=1∨q=2 by omega)with rfl|rfl|rfl<;>rfl
   ·obtain rfl:k=64:=by have:=HK.out;omega
    clear aO HK;have hh:=H.hd;go_wp2_with fail;clear hh
    go_loopg [27] m (fun n iv wr=>yQ g eb m w n iv wr)
    case atStart=>exact⟨0,ai,rfl,H,HO⟩
    case round=>
     obtain⟨k,hk,rfl,CK,ho⟩:=hrel;have HK:=ae hk;have H3:=ae CK;have b7:=ae ho;clear hk CK ho;have hh:=H3.hd
     by_cases aO:k<m
     ·obtain⟨ug,rfl⟩:∃ug,gk=ug+1:=⟨gk - 1,by have:=HK.out;omega⟩;have pP:(k:Int)<m:=ai;have hf:=H3.2.free (k*3);have Fp:=H3.2.free (k*3+1);have Ak:=H3.2.free (k*3+2);have hc:aF wr eb (k*3) ((gu k k).f):=H3.end_ (b:=k) (j:=0) aO av;have zf:aF wr eb (k*3+1) ((gu k k).k):=H3.end_ (b:=k) (j:=1) aO av;have uf:aF wr eb (k*3+2) ((gu k k).m):=H3.end_ (b:=k) (j:=2) aO av;go_wp2
      go_roundg ug
      case measure=>exact Nat.lt_succ_self _
      case rel=>
       refine⟨k+1,by have:=HK.out;omega,by simp,?_,((b7.setCell (p:=⟨eb,k*3,none⟩) (.inr HE) _).setCell (p:=⟨eb,k*3+1,none⟩) (.inr HE) _).setCell (p:=⟨eb,k*3+2,none⟩) (.inr HE) _⟩;rw[←sL];exact H3.xL aO ⟨-1,-1,0⟩
     ·obtain rfl:k=m:=by have:=HK.out;omega
      have pP:¬(k:Int)<k:=ai;go_wp2;go_ret;refine⟨g,eb,rfl,⟨_,_,H3,lN.nil _ _ _ (fun b h1 h2=>?_) (fun i hi=>?_),h0,KZ⟩,HG,HE,b7⟩
      ·show(if b<((64:Nat):Int)then(-1:Int)else 0)= -1
       rw[if_pos ai]
      ·show(if i<k then _ else _)=_
       rw[if_pos hi]
end
end Go.Proofs.YtpcfhbeakecihaaGreat
