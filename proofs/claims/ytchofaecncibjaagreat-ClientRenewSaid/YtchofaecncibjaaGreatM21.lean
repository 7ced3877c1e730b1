/- Lemmas. -/
import Derived.Test.YtchofaecncibjaaGreatM20
import Derived.Deep.OwnRows
set_option linter.all false
set_option maxHeartbeats 20000000
set_option maxRecDepth 100000
namespace Go.Proofs.YtchofaecncibjaaGreat
open Go.ChangeShapes Go.RowKit Go.WideShapes
theorem iD:(Tryz.prog.info? 3).map (fun i=>(i.zero,i.size,i.bytes))=some (some (ah 0),1,8):=by kernel_rfl
def aci (L:List Int)(W:World)(gk:Nat)(ov bv:Value)(wr:World):Prop:=
 ∃k:Nat,gk+k=L.length∧bv=ah (hd (L.drop k))∧aF 3 wr W.heap.size ov (L.take k)∧ag az W wr
def z3:Array Value:=#[ah 0,ah 0,ah 0]
theorem Uc:(Tryz.prog.info? 195).map (fun i=>(i.zero,i.size,i.bytes))=some (some (.agg z3),3,24):=by kernel_rfl
def yE (k:Nat):Int→Nd:=fun b=>⟨if b<k then -1 else 0,0,0⟩
def sX (k:Nat):Nat→En:=fun i=>if i<k then⟨-1,-1,0⟩else⟨0,0,0⟩
theorem Ov (k:Nat):aT (yE k) k ⟨-1,0,0⟩=yE (k+1):=by
 funext b
 unfold aT yE
 split
 ·rename_i e;subst e
  rw[if_pos ao]
 ·rename_i e
  by_cases h:b<(k:Int)
  ·rw[if_pos h,if_pos ao]
  ·rw[if_neg h,if_neg ao]
theorem Ow (k:Nat):aI (sX k) k ⟨-1,-1,0⟩=sX (k+1):=by
 funext b
 unfold aI sX
 split
 ·rename_i e;subst e
  rw[if_pos ao]
 ·rename_i e
  by_cases h:b<k
  ·rw[if_pos h,if_pos ao]
  ·rw[if_neg h,if_neg ao]
theorem adW (m:Nat):madeCells z3 (m*3)=DC m (sX 0):=by
 refine Array.ext (by simp[madeCells,DC]) fun i h1 h2=>?_
 simp only[madeCells,DC,Array.getElem_map,Array.getElem_range,Array.getElem_ofFn];have h3:i % 3<3:=Nat.mod_lt _ aD
 show z3[i % 3]! =GN ⟨0,0,0⟩ (i % 3)
 generalize i % 3=j at *;rcases(show j=0∨j=1∨j=2 by omega)with rfl|rfl|rfl<;>rfl
theorem eO{P:Prop}(h:P:=by rw[hb];omega):P:=h
theorem OD (m:Nat)(hm:m≤40)(w:World):(Instr.makeSlice 188 (ah m) (ah m)).run Tryz.prog w= .ok (aU w.heap.size m m) (w.alloc (.cells (DC m (sX 0)) 195)):=by
 obtain⟨i,hi,J0⟩:=Option.map_eq_some_iff.1 Uc;simp only[Prod.mk.injEq]at J0;obtain⟨hz,hs,hb⟩:=J0;have:=run_make (P:=Tryz.prog) w 188 195 i _ Tryz.underlying188 hi hz .i64 .i64 m m ao (Int.le_refl _) eO ao;rw[hs]at this;rw[this,←adW];rfl
theorem We (A:Option Addr)(n c:Nat):Tryz.zeroCells193.setIfInBounds 192 (.slice A n c)=Gh (yE 0) (.slice A n c):=by kernel_rfl
def ab8 (g eb m:Nat)(W:World)(gk:Nat)(iv:Value)(wr:World):Prop:=
 ∃k:Nat,gk+k=64∧iv=ah k∧p6 wr g eb m (yE k) (sX 0)∧ag az W wr
def X5 (g eb m:Nat)(W:World)(gk:Nat)(iv:Value)(wr:World):Prop:=
 ∃k:Nat,gk+k=m∧iv=ah k∧p6 wr g eb m (yE 64) (sX k)∧ag az W wr
def NA (m:Nat)(w:World)(e:Ending)(w':World):Prop:=∃g eb,e= .returned (aO g)∧jV w' g eb m (fun _=>[])∧w.heap.size≤g∧w.heap.size≤eb∧ag az w w'
section
theorem p6.Wo {w:World}{g eb m:Nat}{N:Int→Nd}{E:Nat→En}(h:p6 w g eb m N E){b:Nat}(hb:b<m)(n:En):
 p6 (((w.setCell ⟨eb,b*3,none⟩ (ah n.f)).setCell ⟨eb,b*3+1,none⟩ (ah n.k)).setCell ⟨eb,b*3+2,none⟩ (ah n.m)) g eb m N (aI E b n):=by
 have s1:=h.E4 hb (j:=0) aD (ah n.f) {E b with f:=n.f} fun k hk=>by
  rcases(show k=0∨k=1∨k=2 by omega)with rfl|rfl|rfl<;>rfl
 have s2:=s1.E4 hb (j:=1) aD (ah n.k) {E b with f:=n.f,k:=n.k} fun k hk=>by
  exact me
 have s3:=s2.E4 hb (j:=2) aD (ah n.m) n fun k hk=>by
  exact me
 rw[yW,yW]at s3;exact s3
theorem AU {g eb m:Nat}{S:Nat→List Int}{i:Nat}(w:World)(h:jV w g eb m S)(hi:i<m):
 Calls Tryz.prog 128 #[aO g,ah i] w fun e w'=>∃v,e= .returned v∧aF 3 w' w.heap.size v (S i)∧ag az w w':=by
 have HLI:=ae<|IE h hi;have CQ:(i:Int)<m:=ao;obtain⟨N,E,hm,hr,_⟩:=h;have hh:=hm.hd;have ce:aw w eb (i*3) ((E i).f):=hm.end_ (b:=i) (j:=0) hi aD;rw[hr.ends i hi]at ce;dsimp only at ce;have HM:=ae hm;have bw:=fun {b:Int} (hb:b∈S i)=>hr.Mi hb
 have kx:=aB (∀b:Int,b∈S i→N b=⟨i,pq (S i) b,ny (S i) b⟩) (fun b hb=>hr.Mi hb);have tx:=aB (∀b:Int,b∈S i→0≤b∧b<64) (fun b hb=>hr.kA hb);have Vq:=ae<|hr.nodup i;have af3:=ae<|hr.len i;clear hm hr bw;generalize S i=L at *;generalize hx:Go.Proofs.YtchofaecncibjaaGreat.hd L=x at *;have HX:=ae hx;clear hx
 go_enter Tryz.func128,Tryz.ntmps128
 go_wp2_with (go_at_call 147;refine HLI.mono ?_;rintro e W0 ⟨rfl,rfl⟩);clear hh ce HLI
 go_loopg [5,6] L.length (fun n ov bv wr=>aci L w n ov bv wr)
 case atStart=>exact⟨0,ao,by rw[←HX.out];rfl,aF.nil _ _ _,ag.aj _ _⟩
 case round=>
  obtain⟨k,hk,rfl,bF,ho⟩:=hrel;have HK:=ae hk;have mI:=ae bF;have HO:=ae ho;clear hk bF ho
  by_cases aY:k<L.length
  ·obtain⟨Q0,rfl⟩:∃Q0,gk=Q0+1:=⟨gk - 1,by have:=HK.out;omega⟩;have ig:L[k]∈L:=List.getElem_mem aY;have hdk:Go.Proofs.YtchofaecncibjaaGreat.hd (L.drop k)=L[k]:=Xy aY;obtain⟨h0,h1⟩:=tx.out _ ig;have CO:=abz Vq aY;have Y4:=kx.out _ ig;have ND:L.take (k+1)=L.take k ++ [L[k]]:=by rw[List.take_append_getElem aY]
   rw[hdk];generalize L[k]=b at *;obtain⟨n,rfl⟩:=Int.eq_ofNat_of_zero_le h0;have hn:n<64:=ao;have cb:aw w g (n*3+2) ((N n).b):=HM.node (b:=n) (j:=2) hn aD;rw[Y4]at cb;dsimp only at cb;rw[CO]at cb;generalize hy:Go.Proofs.YtchofaecncibjaaGreat.hd (L.drop (k+1))=y at *;have HY:=ae hy;have vE:=ae ND;have HLK:=ae (show(L.take k).length≤1000000 by have:=af3.out;simp;omega);generalize L.take k=Lk at *;have CB:=ae cb;have cbr:aw wr g (n*3+2) y:=HO.cell cb id;have U5:(n:Int)≠-1:=ao;clear ig hdk CO Y4 ND hy h0 aY cb;have UA:(n:Int)<64:=ao;clear h1;go_wp2_with (at_builtin;refine ku _ rfl (.tmp 28) (.tmp 30) 61 3 rfl iD Tryz.underlying61 w.heap.size u5 Lk n rfl (mI.alloc _) ⟨wr.heap.size,0,none⟩ rfl (World.cell?_alloc_at _ _ _ _ rfl) HLK (by have:=HO.size;rw[World.size_alloc];omega) ?_;intro v' w1 vo Hk;have afN:=ae vo;have HG1:=ae Hk;have cb1:aw w1 g (n*3+2) y:=Hk.cell (ag.cell ((ag.aj az wr).alloc _) cbr id) (fun e=>by have h1:w.heap.size≤g:=(mI.lt _ e).1;have:=HM.1.lt;omega);clear vo Hk cbr)
   go_roundg Q0
   case measure=>exact Nat.lt_succ_self _
   case rel=>
    refine⟨k+1,by have:=HK.out;omega,by rw[HY.out],by rw[vE.out];exact afN,(HO.alloc _).aC HG1 fun j hj=>.inr (mI.lt j hj).1⟩
  ·obtain rfl:k=L.length:=by have:=HK.out;omega
   rw[Js];go_wp2;go_ret;refine⟨_,rfl,?_,HO⟩;have:=mI.out;rwa [List.take_length]at this
theorem AM {m:Nat}(w:World)(h0:0<m)(h40:m≤40):
 Calls Tryz.prog 68 #[ah m] w (NA m w):=by
 have AA:(1:Int)≤m:=ao;have pY:(m:Int)≤40:=ao;have uW:=OD m h40
 go_enter Tryz.func68,Tryz.ntmps68
 have Gz:=ae uW;clear uW;go_upto_region 1 with fail
 go_cut [3] (fun v wx=>v=aO (w.heap.size+1)∧wx=(w.alloc (.cells (DC m (sX 0)) 195)).alloc (.cells (Gh (yE 0) (aU w.heap.size m m)) 193))
 case first=>
  have HZ:=ae<|We (some ⟨w.heap.size,0,none⟩) m m
  by_cases h1:m≤1
  ·have uW:=Gz.out;have agD:∀w,(Instr.makeSlice 188 (ah 1) (ah 1)).run Tryz.prog w= .ok (aU w.heap.size m m) (w.alloc (.cells (DC m (sX 0)) 195)):=fun w=>by
    obtain rfl:m=1:=ao;exact uW w
   have h2:(m:Int)≤1:=ao;clear uW h1 Gz;go_wp2
   go_meet
   case rel=>exact⟨rfl,by rw[←HZ.out]⟩
  ·have uW:=Gz.out;have h2:¬(m:Int)≤1:=ao;clear h1 Gz;go_wp2
   go_meet
   case rel=>exact⟨rfl,by rw[←HZ.out]⟩
 case rest=>
  obtain⟨rfl,rfl⟩:=hcut;have fB:=Box.fresh w 195 (DC m (sX 0));have dX:=Box.fresh (w.alloc (.cells (DC m (sX 0)) 195)) 193 (Gh (yE 0) (aU w.heap.size m m));rw[World.size_alloc]at dX;have h1:=(show p6 ((w.alloc (.cells (DC m (sX 0)) 195)).alloc (.cells (Gh (yE 0) (aU w.heap.size m m)) 193)) (w.heap.size+1) w.heap.size m (yE 0) (sX 0)from⟨dX,fB.alloc _⟩);have aX:=ae<|((ag.aj az w).alloc (.cells (DC m (sX 0)) 195)).alloc (.cells (Gh (yE 0) (aU w.heap.size m m)) 193);have HG:=aB (w.heap.size≤w.heap.size+1) (Nat.le_succ _);obtain⟨eb,he⟩:∃eb,eb=w.heap.size:=⟨_,rfl⟩;have HE:=aB (w.heap.size≤eb) (Nat.le_of_eq he.symm);clear fB dX Gz;generalize(w.alloc (.cells (DC m (sX 0)) 195)).alloc (.cells (Gh (yE 0) (aU w.heap.size m m)) 193)=W1 at *;generalize hg:w.heap.size+1=g at *;rw[←he]at h1;have H1:=ae h1;clear hg he h1;go_wp2_with fail
  go_loopg [12] 64 (fun n iv wr=>ab8 g eb m w n iv wr)
  case atStart=>exact⟨0,rfl,rfl,H1,aX⟩
  case round=>
   obtain⟨k,hk,rfl,Yc,ho⟩:=hrel;have HK:=ae hk;have H:=ae Yc;have HO:=ae ho;clear hk Yc ho
   by_cases aY:k<64
   ·obtain⟨Q0,rfl⟩:∃Q0,gk=Q0+1:=⟨gk - 1,by have:=HK.out;omega⟩;have pr:(k:Int)<64:=ao;have hf:=H.1.free (k*3);have hc:aw wr g (k*3) ((yE k k).l):=H.node (b:=k) (j:=0) aY aD;go_wp2
    go_roundg Q0
    case measure=>exact Nat.lt_succ_self _
    case rel=>
     refine⟨k+1,by have:=HK.out;omega,by simp,?_,HO.setCell (p:=⟨g,k*3,none⟩) (.inr HG) _⟩;rw[←Ov];exact H.GJ aY (j:=0) aD _ _ fun q hq=>by
      rcases(show q=0∨q=1∨q=2 by omega)with rfl|rfl|rfl<;>rfl
   ·obtain rfl:k=64:=by have:=HK.out;omega
    clear aY HK;have hh:=H.hd;go_wp2_with fail;clear hh
    go_loopg [27] m (fun n iv wr=>X5 g eb m w n iv wr)
    case atStart=>exact⟨0,ao,rfl,H,HO⟩
    case round=>
     obtain⟨k,hk,rfl,Yc,ho⟩:=hrel;have HK:=ae hk;have H3:=ae Yc;have bn:=ae ho;clear hk Yc ho;have hh:=H3.hd
     by_cases aY:k<m
     ·obtain⟨Q0,rfl⟩:∃Q0,gk=Q0+1:=⟨gk - 1,by have:=HK.out;omega⟩;have pr:(k:Int)<m:=ao;have hf:=H3.2.free (k*3);have hf1:=H3.2.free (k*3+1);have U8:=H3.2.free (k*3+2);have hc:aw wr eb (k*3) ((sX k k).f):=H3.end_ (b:=k) (j:=0) aY aD;have vB:aw wr eb (k*3+1) ((sX k k).k):=H3.end_ (b:=k) (j:=1) aY aD;have kX:aw wr eb (k*3+2) ((sX k k).m):=H3.end_ (b:=k) (j:=2) aY aD;go_wp2
      go_roundg Q0
      case measure=>exact Nat.lt_succ_self _
      case rel=>
       refine⟨k+1,by have:=HK.out;omega,by simp,?_,((bn.setCell (p:=⟨eb,k*3,none⟩) (.inr HE) _).setCell (p:=⟨eb,k*3+1,none⟩) (.inr HE) _).setCell (p:=⟨eb,k*3+2,none⟩) (.inr HE) _⟩;rw[←Ow];exact H3.Wo aY ⟨-1,-1,0⟩
     ·obtain rfl:k=m:=by have:=HK.out;omega
      have pr:¬(k:Int)<k:=ao;go_wp2;go_ret;refine⟨g,eb,rfl,⟨_,_,H3,DE.nil _ _ _ (fun b h1 h2=>?_) (fun i hi=>?_),h0,h40⟩,HG,HE,bn⟩
      ·show(if b<((64:Nat):Int)then(-1:Int)else 0)= -1
       rw[if_pos ao]
      ·show(if i<k then _ else _)=_
       rw[if_pos hi]
end
def ad6 (l:List Int)(b:Int)(w:World)(v i:Value)(wr:World):Prop:=
 ∃k:Nat,k≤l.length∧i=ah k∧aF 3 wr w.heap.size v ((l.take k).filter (· != b))∧ag az w wr
def ac8 (l:List Int)(w:World)(e:Ending)(w':World):Prop:=∃v,e= .returned v∧aF 3 w' w.heap.size v l∧ag az w w'
theorem aF.low {t:TypeId}{w:World}{base base':Nat}{v:Value}{l:List Int}(h:aF t w base v l)(hb:base'≤base):aF t w base' v l:=by
 rcases h with⟨hlen,⟨rfl,h0⟩|⟨g,cap,cur,rfl,h1,h2⟩⟩
 ·exact⟨hlen,.inl ⟨rfl,h0⟩⟩
 ·exact⟨hlen,.inr ⟨g,cap,cur,rfl,Nat.le_trans hb h1,h2⟩⟩
section
theorem dO {base:Nat}{v:Value}{l:List Int}(b:Int)(w:World)(h:aF 3 w base v l)(hl:l.length≤10000):Calls Tryz.prog 134 #[v,ah b] w (ac8 (l.filter (· != b)) w):=by
 obtain⟨A,c,rfl,_,_⟩:=h.shape;have H:=ae h.at;clear h
 go_enter Tryz.func134,Tryz.ntmps134
 go_upto_region 3 with fail
 go_loopw [5,6] (fun v i wr=>ad6 l b w v i wr) (fun _ i _=>l.length - (intOf i).toNat)
 case atStart=>exact⟨0,dT _,rfl,aF.nil _ _ _,ag.aj _ _⟩
 case round=>
  obtain⟨k,hk,rfl,bF,ho⟩:=hrel;have mI:=ae bF;have HO:=ae ho;clear bF ho
  by_cases aY:k<l.length
  ·obtain⟨g,o,rfl,hc⟩:=(H.keep HO fun _ _ _ _ _=>id).af aY;have hx:l[k]=l.getD k 0:=by simp[aY]
   have vE:=ae (show(l.take (k+1)).filter (· != b)=(l.take k).filter (· != b) ++ if(l.getD k 0 != b)=true then[l.getD k 0]else[] by
    rw[List.take_succ_eq_append_getElem aY,List.filter_append,hx]
    congr 1
    cases hh:(l.getD k 0 != b)<;>simp only[List.filter_cons,List.filter_nil,hh,if_true,if_false,Bool.false_eq_true])
   have iV:(k:Int)<l.length:=ao;have bL:=ae aY;have nA:=ae (show((l.take k).filter (· != b)).length≤1000000 by
    have h1:((l.take k).filter (· != b)).length≤(l.take k).length:=List.length_filter_le ..;have h2:(l.take k).length≤l.length:=List.length_take_le' ..;omega)
   clear aY hk hx;generalize l.getD k 0=x at *;have HS:=ae HO.size
   by_cases EI:x=b
   ·have EM:(x != b)=false:=by simp[EI]
    rw[EM,if_neg aD,List.append_nil]at vE;clear EI;go_wp2
    go_roundw
    case rel=>exact⟨k+1,bL,by go_num,by rw[vE.out];exact mI,HO⟩
    case measure=>simp[intOf];have:=bL.out;omega
   ·have EM:(x != b)=true:=by simp[EI]
    rw[EM,if_pos rfl]at vE;clear EI;go_wp2_with (at_builtin;refine ku _ rfl (.tmp 19) (.tmp 24) 61 3 rfl iD Tryz.underlying61 w.heap.size u5 _ x rfl (mI.alloc _) ⟨wr.heap.size,0,none⟩ rfl (World.cell?_alloc_at _ _ _ _ rfl) nA (by have:=HS.out;rw[World.size_alloc];omega) ?_;intro v' w1 vo ZM)
    go_roundw
    case rel=>exact⟨k+1,bL,by go_num,by rw[vE.out];exact vo,(HO.alloc _).aC ZM fun j hj=>.inr (mI.lt j hj).1⟩
    case measure=>simp[intOf];have:=bL.out;omega
  ·obtain rfl:k=l.length:=ao;clear aY hk;rw[List.take_length]at mI;go_wp2;go_ret;exact⟨_,rfl,mI,HO⟩
theorem iF {base:Nat}{v:Value}{l:List Int}(b:Int)(w:World)(h:aF 3 w base v l)(hl:l.length≤10000):Calls Tryz.prog 135 #[v,ah b] w (ac8 (b :: l) w):=by
 have H:=ae h;have HL:=ae (show([b]:List Int).length+l.length≤1000000 by simp;omega);clear h
 go_enter Tryz.func135,Tryz.ntmps135
 go_upto_region 3 with(at_builtin;refine ku _ rfl (.tmp 6) (.tmp 8) 61 3 rfl iD Tryz.underlying61 w.heap.size aJ [] b rfl (aF.nil _ _ _) ⟨w.heap.size,0,none⟩ rfl (World.cell?_alloc_at _ _ _ _ rfl) aD (by rw[World.size_alloc];omega) ?_;intro v1 w1 Y3 acP);have aX:=aB (ag az w w1) (((ag.aj az w).alloc _).aC acP fun j hj=>(a7 hj).elim);have tm:=aB (aF 3 w1 w.heap.size v1 [b]) (Y3);clear Y3 acP;go_wp2_with (at_builtin;refine lp _ rfl (.tmp 10) (.tmp 11) 61 3 rfl iD Tryz.underlying61 w.heap.size v1 [b] rfl tm base v l rfl (H.aA aX fun _ _=>id) HL aX.size ?_;intro v2 w2 Sj afl);go_ret;exact⟨v2,rfl,Sj,aX.aC afl fun j hj=>.inr (tm.lt j hj).1⟩
end
end Go.Proofs.YtchofaecncibjaaGreat
