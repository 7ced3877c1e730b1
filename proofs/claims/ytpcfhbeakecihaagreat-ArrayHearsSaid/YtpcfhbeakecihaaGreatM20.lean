/- Lemmas. -/
import Derived.Test.YtpcfhbeakecihaaGreatM19
import Derived.Deep.OwnRows
set_option linter.all false
set_option maxHeartbeats 20000000
set_option maxRecDepth 100000
namespace Go.Proofs.YtpcfhbeakecihaaGreat
open Go.ChangeShapes Go.RowKit Go.WideShapes
theorem gp:(Tryz.prog.info? 3).map (fun i=>(i.zero,i.size,i.bytes))=some (some (ah 0),1,8):=by kernel_rfl
def Ue (L:List Int)(W:World)(gk:Nat)(ov bv:Value)(wr:World):Prop:=
 ∃k:Nat,gk+k=L.length∧bv=ah (hd (L.drop k))∧aA 3 wr W.heap.size ov (L.take k)∧af au W wr
def z3:Array Value:=#[ah 0,ah 0,ah 0]
theorem MJ:(Tryz.prog.info? 229).map (fun i=>(i.zero,i.size,i.bytes))=some (some (.agg z3),3,24):=by kernel_rfl
def th (k:Nat):Int→Nd:=fun b=>⟨if b<k then -1 else 0,0,0⟩
def pB (k:Nat):Nat→En:=fun i=>if i<k then⟨-1,-1,0⟩else⟨0,0,0⟩
theorem Hv (k:Nat):aV (th k) k ⟨-1,0,0⟩=th (k+1):=by
 funext b
 unfold aV th
 split
 ·rename_i e;subst e
  rw[if_pos aj]
 ·rename_i e
  by_cases h:b<(k:Int)
  ·rw[if_pos h,if_pos aj]
  ·rw[if_neg h,if_neg aj]
theorem Hw (k:Nat):ba (pB k) k ⟨-1,-1,0⟩=pB (k+1):=by
 funext b
 unfold ba pB
 split
 ·rename_i e;subst e
  rw[if_pos aj]
 ·rename_i e
  by_cases h:b<k
  ·rw[if_pos h,if_pos aj]
  ·rw[if_neg h,if_neg aj]
theorem Y6 (m:Nat):madeCells z3 (m*3)=wN m (pB 0):=by
 refine Array.ext (by simp[madeCells,wN]) fun i h1 h2=>?_
 simp only[madeCells,wN,Array.getElem_map,Array.getElem_range,Array.getElem_ofFn];have h3:i % 3<3:=Nat.mod_lt _ aE
 show z3[i % 3]! =Bo ⟨0,0,0⟩ (i % 3)
 generalize i % 3=j at *;rcases(show j=0∨j=1∨j=2 by omega)with rfl|rfl|rfl<;>rfl
theorem Ih (m:Nat)(hm:m≤40)(w:World):(Instr.makeSlice 222 (ah m) (ah m)).run Tryz.prog w= .ok (bp w.heap.size m m) (w.alloc (.cells (wN m (pB 0)) 229)):=by
 obtain⟨i,hi,Nx⟩:=Option.map_eq_some_iff.1 MJ;simp only[Prod.mk.injEq]at Nx;obtain⟨hz,hs,hb⟩:=Nx;have:=run_make (P:=Tryz.prog) w 222 229 i _ Tryz.underlying222 hi hz .i64 .i64 m m aj (Int.le_refl _) (by rw[hb];omega) aj;rw[hs]at this;rw[this,←Y6];rfl
theorem OU (A:Option Addr)(n c:Nat):Tryz.zeroCells227.setIfInBounds 192 (.slice A n c)=yM (th 0) (.slice A n c):=by kernel_rfl
def T7 (g eb m:Nat)(W:World)(gk:Nat)(iv:Value)(wr:World):Prop:=
 ∃k:Nat,gk+k=64∧iv=ah k∧mJ wr g eb m (th k) (pB 0)∧af au W wr
def Qv (g eb m:Nat)(W:World)(gk:Nat)(iv:Value)(wr:World):Prop:=
 ∃k:Nat,gk+k=m∧iv=ah k∧mJ wr g eb m (th 64) (pB k)∧af au W wr
def F9 (m:Nat)(w:World)(e:Ending)(w':World):Prop:=∃g eb,e= .returned (aO g)∧iA w' g eb m (fun _=>[])∧w.heap.size≤g∧w.heap.size≤eb∧af au w w'
section
theorem mJ.O1 {w:World}{g eb m:Nat}{N:Int→Nd}{E:Nat→En}(h:mJ w g eb m N E){b:Nat}(hb:b<m)(n:En):
 mJ (((w.setCell ⟨eb,b*3,none⟩ (ah n.f)).setCell ⟨eb,b*3+1,none⟩ (ah n.k)).setCell ⟨eb,b*3+2,none⟩ (ah n.m)) g eb m N (ba E b n):=by
 have s1:=h.yZ hb (j:=0) aE (ah n.f) {E b with f:=n.f} fun k hk=>by
  rcases(show k=0∨k=1∨k=2 by omega)with rfl|rfl|rfl<;>rfl
 have s2:=s1.yZ hb (j:=1) aE (ah n.k) {E b with f:=n.f,k:=n.k} fun k hk=>by
  exact jB
 have s3:=s2.yZ hb (j:=2) aE (ah n.m) n fun k hk=>by
  exact jB
 rw[tx,tx]at s3;exact s3
theorem zS {g eb m:Nat}{S:Nat→List Int}{i:Nat}(w:World)(h:iA w g eb m S)(hi:i<m):
 Calls Tryz.prog 189 #[aO g,ah i] w fun e w'=>∃v,e= .returned v∧aA 3 w' w.heap.size v (S i)∧af au w w':=by
 have HLI:=ae<|B8 h hi;have uD:(i:Int)<m:=aj;obtain⟨N,E,hm,hr,_⟩:=h;have hh:=hm.hd;have ce:aF w eb (i*3) ((E i).f):=hm.end_ (b:=i) (j:=0) hi aE;rw[hr.ends i hi]at ce;dsimp only at ce;have HM:=ae hm;have bL:=fun {b:Int} (hb:b∈S i)=>hr.Gb hb
 have rC:=aq (∀b:Int,b∈S i→N b=⟨i,pD (S i) b,kI (S i) b⟩) (fun b hb=>hr.Gb hb);have uY:=aq (∀b:Int,b∈S i→0≤b∧b<64) (fun b hb=>hr.lC hb);have NW:=ae<|hr.nodup i;have abA:=ae<|hr.len i;clear hm hr bL;generalize S i=L at *;generalize hx:Go.Proofs.YtpcfhbeakecihaaGreat.hd L=x at *;have HX:=ae hx;clear hx
 go_enter Tryz.func189,Tryz.ntmps189
 go_wp2_with (go_at_call 191;refine HLI.mono ?_;rintro e W0 ⟨rfl,rfl⟩);clear hh ce HLI
 go_loopg [5,6] L.length (fun n ov bv wr=>Ue L w n ov bv wr)
 case atStart=>exact⟨0,aj,by rw[←HX.out];rfl,aA.nil _ _ _,af.ai _ _⟩
 case round=>
  obtain⟨k,hk,rfl,bf,ho⟩:=hrel;have HK:=ae hk;have lI:=ae bf;have HO:=ae ho;clear hk bf ho
  by_cases aY:k<L.length
  ·obtain⟨J1,rfl⟩:∃J1,gk=J1+1:=⟨gk - 1,by have:=HK.out;omega⟩;have hV:L[k]∈L:=List.getElem_mem aY;have hdk:Go.Proofs.YtpcfhbeakecihaaGreat.hd (L.drop k)=L[k]:=PZ aY;obtain⟨h0,h1⟩:=uY.out _ hV;have hnx:=TA NW aY;have Rk:=rC.out _ hV;have QK:L.take (k+1)=L.take k ++ [L[k]]:=by rw[List.take_append_getElem aY]
   rw[hdk];generalize L[k]=b at *;obtain⟨n,rfl⟩:=Int.eq_ofNat_of_zero_le h0;have hn:n<64:=aj;have cb:aF w g (n*3+2) ((N n).b):=HM.node (b:=n) (j:=2) hn aE;rw[Rk]at cb;dsimp only at cb;rw[hnx]at cb;generalize hy:Go.Proofs.YtpcfhbeakecihaaGreat.hd (L.drop (k+1))=y at *;have HY:=ae hy;have pF:=ae QK;have HLK:=ae (show(L.take k).length≤1000000 by have:=abA.out;simp;omega);generalize L.take k=Lk at *;have CB:=ae cb;have cbr:aF wr g (n*3+2) y:=HO.cell cb id;have hnk:(n:Int)≠-1:=aj;clear hV hdk hnx Rk QK hy h0 aY cb;have R5:(n:Int)<64:=aj;clear h1;go_wp2_with (at_builtin;refine il _ rfl (.tmp 28) (.tmp 30) 47 3 rfl gp Tryz.underlying47 w.heap.size u5 Lk n rfl (lI.alloc _) ⟨wr.heap.size,0,none⟩ rfl (World.cell?_alloc_at _ _ _ _ rfl) HLK (by have:=HO.size;rw[World.size_alloc];omega) ?_;intro v' w1 rk BI;have abp:=ae rk;have HG1:=ae BI;have cb1:aF w1 g (n*3+2) y:=BI.cell (af.cell ((af.ai au wr).alloc _) cbr id) (fun e=>by have h1:w.heap.size≤g:=(lI.lt _ e).1;have:=HM.1.lt;omega);clear rk BI cbr)
   go_roundg J1
   case measure=>exact Nat.lt_succ_self _
   case rel=>
    refine⟨k+1,by have:=HK.out;omega,by rw[HY.out],by rw[pF.out];exact abp,(HO.alloc _).aG HG1 fun j hj=>.inr (lI.lt j hj).1⟩
  ·obtain rfl:k=L.length:=by have:=HK.out;omega
   rw[CQ];go_wp2;go_ret;refine⟨_,rfl,?_,HO⟩;have:=lI.out;rwa [List.take_length]at this
theorem zK {m:Nat}(w:World)(h0:0<m)(h40:m≤40):
 Calls Tryz.prog 112 #[ah m] w (F9 m w):=by
 have NC:(1:Int)≤m:=aj;have wV:(m:Int)≤40:=aj;have tc:=Ih m h40
 go_enter Tryz.func112,Tryz.ntmps112
 have Sv:=ae tc;clear tc;go_upto_region 1 with fail
 go_cut [3] (fun v wx=>v=aO (w.heap.size+1)∧wx=(w.alloc (.cells (wN m (pB 0)) 229)).alloc (.cells (yM (th 0) (bp w.heap.size m m)) 227))
 case first=>
  have HZ:=ae<|OU (some ⟨w.heap.size,0,none⟩) m m
  by_cases h1:m≤1
  ·have tc:=Sv.out;have acr:∀w,(Instr.makeSlice 222 (ah 1) (ah 1)).run Tryz.prog w= .ok (bp w.heap.size m m) (w.alloc (.cells (wN m (pB 0)) 229)):=fun w=>by
    obtain rfl:m=1:=aj;exact tc w
   have h2:(m:Int)≤1:=aj;clear tc h1 Sv;go_wp2
   go_meet
   case rel=>exact⟨rfl,by rw[←HZ.out]⟩
  ·have tc:=Sv.out;have h2:¬(m:Int)≤1:=aj;clear h1 Sv;go_wp2
   go_meet
   case rel=>exact⟨rfl,by rw[←HZ.out]⟩
 case rest=>
  obtain⟨rfl,rfl⟩:=hcut;have ei:=Box.fresh w 229 (wN m (pB 0));have ez:=Box.fresh (w.alloc (.cells (wN m (pB 0)) 229)) 227 (yM (th 0) (bp w.heap.size m m));rw[World.size_alloc]at ez;have h1:=(show mJ ((w.alloc (.cells (wN m (pB 0)) 229)).alloc (.cells (yM (th 0) (bp w.heap.size m m)) 227)) (w.heap.size+1) w.heap.size m (th 0) (pB 0)from⟨ez,ei.alloc _⟩);have bc:=ae<|((af.ai au w).alloc (.cells (wN m (pB 0)) 229)).alloc (.cells (yM (th 0) (bp w.heap.size m m)) 227);have HG:=aq (w.heap.size≤w.heap.size+1) (Nat.le_succ _);obtain⟨eb,he⟩:∃eb,eb=w.heap.size:=⟨_,rfl⟩;have HE:=aq (w.heap.size≤eb) (Nat.le_of_eq he.symm);clear ei ez Sv;generalize(w.alloc (.cells (wN m (pB 0)) 229)).alloc (.cells (yM (th 0) (bp w.heap.size m m)) 227)=W1 at *;generalize hg:w.heap.size+1=g at *;rw[←he]at h1;have H1:=ae h1;clear hg he h1;go_wp2_with fail
  go_loopg [12] 64 (fun n iv wr=>T7 g eb m w n iv wr)
  case atStart=>exact⟨0,rfl,rfl,H1,bc⟩
  case round=>
   obtain⟨k,hk,rfl,V8,ho⟩:=hrel;have HK:=ae hk;have H:=ae V8;have HO:=ae ho;clear hk V8 ho
   by_cases aY:k<64
   ·obtain⟨J1,rfl⟩:∃J1,gk=J1+1:=⟨gk - 1,by have:=HK.out;omega⟩;have xC:(k:Int)<64:=aj;have hf:=H.1.free (k*3);have hc:aF wr g (k*3) ((th k k).l):=H.node (b:=k) (j:=0) aY aE;go_wp2
    go_roundg J1
    case measure=>exact Nat.lt_succ_self _
    case rel=>
     refine⟨k+1,by have:=HK.out;omega,by simp,?_,HO.setCell (p:=⟨g,k*3,none⟩) (.inr HG) _⟩;rw[←Hv];exact H.Bh aY (j:=0) aE _ _ fun q hq=>by
      rcases(show q=0∨q=1∨q=2 by omega)with rfl|rfl|rfl<;>rfl
   ·obtain rfl:k=64:=by have:=HK.out;omega
    clear aY HK;have hh:=H.hd;go_wp2_with fail;clear hh
    go_loopg [27] m (fun n iv wr=>Qv g eb m w n iv wr)
    case atStart=>exact⟨0,aj,rfl,H,HO⟩
    case round=>
     obtain⟨k,hk,rfl,V8,ho⟩:=hrel;have HK:=ae hk;have H3:=ae V8;have bI:=ae ho;clear hk V8 ho;have hh:=H3.hd
     by_cases aY:k<m
     ·obtain⟨J1,rfl⟩:∃J1,gk=J1+1:=⟨gk - 1,by have:=HK.out;omega⟩;have xC:(k:Int)<m:=aj;have hf:=H3.2.free (k*3);have UX:=H3.2.free (k*3+1);have Gk:=H3.2.free (k*3+2);have hc:aF wr eb (k*3) ((pB k k).f):=H3.end_ (b:=k) (j:=0) aY aE;have uE:aF wr eb (k*3+1) ((pB k k).k):=H3.end_ (b:=k) (j:=1) aY aE;have qZ:aF wr eb (k*3+2) ((pB k k).m):=H3.end_ (b:=k) (j:=2) aY aE;go_wp2
      go_roundg J1
      case measure=>exact Nat.lt_succ_self _
      case rel=>
       refine⟨k+1,by have:=HK.out;omega,by simp,?_,((bI.setCell (p:=⟨eb,k*3,none⟩) (.inr HE) _).setCell (p:=⟨eb,k*3+1,none⟩) (.inr HE) _).setCell (p:=⟨eb,k*3+2,none⟩) (.inr HE) _⟩;rw[←Hw];exact H3.O1 aY ⟨-1,-1,0⟩
     ·obtain rfl:k=m:=by have:=HK.out;omega
      have xC:¬(k:Int)<k:=aj;go_wp2;go_ret;refine⟨g,eb,rfl,⟨_,_,H3,xD.nil _ _ _ (fun b h1 h2=>?_) (fun i hi=>?_),h0,h40⟩,HG,HE,bI⟩
      ·show(if b<((64:Nat):Int)then(-1:Int)else 0)= -1
       rw[if_pos aj]
      ·show(if i<k then _ else _)=_
       rw[if_pos hi]
end
def Zf (l:List Int)(b:Int)(w:World)(v i:Value)(wr:World):Prop:=
 ∃k:Nat,k≤l.length∧i=ah k∧aA 3 wr w.heap.size v ((l.take k).filter (· != b))∧af au w wr
def Yk (l:List Int)(w:World)(e:Ending)(w':World):Prop:=∃v,e= .returned v∧aA 3 w' w.heap.size v l∧af au w w'
theorem aA.low {t:TypeId}{w:World}{base base':Nat}{v:Value}{l:List Int}(h:aA t w base v l)(hb:base'≤base):aA t w base' v l:=by
 rcases h with⟨hlen,⟨rfl,h0⟩|⟨g,cap,cur,rfl,h1,h2⟩⟩
 ·exact⟨hlen,.inl ⟨rfl,h0⟩⟩
 ·exact⟨hlen,.inr ⟨g,cap,cur,rfl,Nat.le_trans hb h1,h2⟩⟩
section
theorem cB {base:Nat}{v:Value}{l:List Int}(b:Int)(w:World)(h:aA 3 w base v l)(hl:l.length≤10000):Calls Tryz.prog 127 #[v,ah b] w (Yk (l.filter (· != b)) w):=by
 obtain⟨A,c,rfl,_,_⟩:=h.shape;have H:=ae h.at;clear h
 go_enter Tryz.func127,Tryz.ntmps127
 go_upto_region 3 with fail
 go_loopw [5,6] (fun v i wr=>Zf l b w v i wr) (fun _ i _=>l.length - (intOf i).toNat)
 case atStart=>exact⟨0,fH _,rfl,aA.nil _ _ _,af.ai _ _⟩
 case round=>
  obtain⟨k,hk,rfl,bf,ho⟩:=hrel;have lI:=ae bf;have HO:=ae ho;clear bf ho
  by_cases aY:k<l.length
  ·obtain⟨g,o,rfl,hc⟩:=(H.keep HO fun _ _ _ _ _=>id).ag aY;have hx:l[k]=l.getD k 0:=by simp[aY]
   have pF:=ae (show(l.take (k+1)).filter (· != b)=(l.take k).filter (· != b) ++ if(l.getD k 0 != b)=true then[l.getD k 0]else[] by
    rw[List.take_succ_eq_append_getElem aY,List.filter_append,hx]
    congr 1
    cases hh:(l.getD k 0 != b)<;>simp only[List.filter_cons,List.filter_nil,hh,if_true,if_false,Bool.false_eq_true])
   have jk:(k:Int)<l.length:=aj;have cD:=ae aY;have jY:=ae (show((l.take k).filter (· != b)).length≤1000000 by
    have h1:((l.take k).filter (· != b)).length≤(l.take k).length:=List.length_filter_le ..;have h2:(l.take k).length≤l.length:=List.length_take_le' ..;omega)
   clear aY hk hx;generalize l.getD k 0=x at *;have HS:=ae HO.size
   by_cases Ny:x=b
   ·have R6:(x != b)=false:=by simp[Ny]
    rw[R6,if_neg aE,List.append_nil]at pF;clear Ny;go_wp2
    go_roundw
    case rel=>exact⟨k+1,cD,by go_num,by rw[pF.out];exact lI,HO⟩
    case measure=>simp[intOf];have:=cD.out;omega
   ·have R6:(x != b)=true:=by simp[Ny]
    rw[R6,if_pos rfl]at pF;clear Ny;go_wp2_with (at_builtin;refine il _ rfl (.tmp 19) (.tmp 24) 47 3 rfl gp Tryz.underlying47 w.heap.size u5 _ x rfl (lI.alloc _) ⟨wr.heap.size,0,none⟩ rfl (World.cell?_alloc_at _ _ _ _ rfl) jY (by have:=HS.out;rw[World.size_alloc];omega) ?_;intro v' w1 rk R9)
    go_roundw
    case rel=>exact⟨k+1,cD,by go_num,by rw[pF.out];exact rk,(HO.alloc _).aG R9 fun j hj=>.inr (lI.lt j hj).1⟩
    case measure=>simp[intOf];have:=cD.out;omega
  ·obtain rfl:k=l.length:=aj;clear aY hk;rw[List.take_length]at lI;go_wp2;go_ret;exact⟨_,rfl,lI,HO⟩
theorem fQ {base:Nat}{v:Value}{l:List Int}(b:Int)(w:World)(h:aA 3 w base v l)(hl:l.length≤10000):Calls Tryz.prog 128 #[v,ah b] w (Yk (b :: l) w):=by
 have H:=ae h;have HL:=ae (show([b]:List Int).length+l.length≤1000000 by simp;omega);clear h
 go_enter Tryz.func128,Tryz.ntmps128
 go_upto_region 3 with(at_builtin;refine il _ rfl (.tmp 6) (.tmp 8) 47 3 rfl gp Tryz.underlying47 w.heap.size aT [] b rfl (aA.nil _ _ _) ⟨w.heap.size,0,none⟩ rfl (World.cell?_alloc_at _ _ _ _ rfl) aE (by rw[World.size_alloc];omega) ?_;intro v1 w1 gV X6);have bc:=aq (af au w w1) (((af.ai au w).alloc _).aG X6 fun j hj=>(bo hj).elim);have w7:=aq (aA 3 w1 w.heap.size v1 [b]) (gV);clear gV X6;go_wp2_with (at_builtin;refine iN _ rfl (.tmp 10) (.tmp 11) 47 3 rfl gp Tryz.underlying47 w.heap.size v1 [b] rfl w7 base v l rfl (H.ar bc fun _ _=>id) HL bc.size ?_;intro v2 w2 KR aaV);go_ret;exact⟨v2,rfl,KR,bc.aG aaV fun j hj=>.inr (w7.lt j hj).1⟩
end
end Go.Proofs.YtpcfhbeakecihaaGreat
