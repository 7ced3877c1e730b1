/- Lemmas. -/
import Derived.Test.YtpcfhbeakecihaaGreatM29
import Derived.BigQuiet
set_option linter.all false
set_option maxHeartbeats 20000000
set_option maxRecDepth 100000
namespace Go.Proofs.YtpcfhbeakecihaaGreat
open Go.ChangeShapes Go.RowKit Go.WideShapes
theorem me {P:bM}{s:bu}{b:Int}(hP:P.Ok)(h:cc P s)(ho:s.often b+1≤s.now)(h0:0≤b)(h1:b<64):cc P (dM P (cC s b) b):=by
 have hm:cc P (cC s b):=⟨h.dj,h.now,fun y=>by
  show 0≤aD s.often b (s.often b+1) y∧aD s.often b (s.often b+1) y≤s.now
  unfold aD;have h2:=h.often b;have h3:=h.often y
  split<;>omega⟩
 exact iT hm (by have:=vk hP ((cC s b).often b);omega) h0 h1
def zJ (w:World)(p g eb:Nat)(P:bM)(s:bu)(q:Value)(wr:World):Prop:=
 ∃j:Nat,j+1≤P.q∧q=ah ((j:Int)+1)∧cJ wr p g eb P (aT P s j)∧af (lr p g eb) w wr
theorem cJ.drewN {w:World}{p g eb:Nat}{P:bM}{s:bu}(h:cJ w p g eb P s)(n:Nat):cJ (w.drewN n) p g eb P s:=h.ao (F:=aA) ((af.ak aA w).drewN n) id id id
section
variable {w:World}{p g eb:Nat}{P:bM}{s:bu}
theorem fk{P:Prop}(h:P:=by
 go_upto_region 4 with(go_at_call 192;refine lv.mono ?_;rintro e W1 ⟨rfl,rfl⟩)
 go_quiet (fail)
 go_wp2
 go_roundw
 case rel=>exact⟨j+1,by have:=cT.out;omega,by push_cast;rfl,by rw[HT.out,HD.out];exact HM.drewN _,HO.drewN _⟩
 case measure=>simp[intOf];have:=cT.out;omega):P:=h
theorem vj (hP:P.Ok)(h:cJ w p g eb P s)(bG:cc P s)(h1:s.now≤2000000000):
 Calls Tryz.prog 203 #[aI p] w fun e w'=>e= .returned (.tuple #[])∧cJ w' p g eb P (lT P s)∧af (lr p g eb) w w':=by
 have HH:=ae h;have HP:=ae hP;have HK:=ae bG;have HN:=ae h1;have HS:=aH (zJ w p g eb P s (ah 1) w) (⟨0,by have:=hP.q1;omega,rfl,h,af.ak _ _⟩);have E9:=hP.q8;clear h hP bG h1
 go_enter Tryz.func203,Tryz.ntmps203
 go_wp2_with fail
 go_loopw [2] (fun q wr=>zJ w p g eb P s q wr) (fun q _=>P.q - (intOf q).toNat)
 case atStart=>exact HS
 case round=>
  clear HS;obtain⟨j,hj,rfl,hm,ho⟩:=hrel;have x0:=hm.m.ptr;have x2:=hm.m.q
  by_cases aO:j+1<P.q
  ·have mO:(j:Int)+1<P.q:=ai;have wD:=il HK j ai;have HT:=aH (aT P s (j+1)=dV P (aT P s j) (j+1)) (rfl);have lv:=gU (j+1) wr hm.sp ai;rw[show((j+1:Nat):Int)=(j:Int)+1 by omega]at lv;have HM:=ae hm;have Iq:=ae wD;have HO:=ae ho;have cT:=ae aO;have yX:IntKind.i64.wrap ((j:Int)+1+1)=(j:Int)+1+1:=by rw[IntKind.wrap_i64];omega
   have DF:0≤(aT P s j).now∧(aT P s j).now≤2000000000:=by have h2:=wD.now;have h3:=HK.now;have h4:=HN.out;omega
   have nP:=ae DF;clear hm wD ho DF hj aO
   by_cases hS:(aT P s j).S (j+1)= []
   ·rw[if_pos hS]at lv;have lv:=ae lv;have HD:=ae (show dV P (aT P s j) (j+1)=aT P s j by unfold dV iL;rw[if_neg (by simp[hS])]);clear hS;exact fk
   ·rw[if_neg hS]at lv;have bI:=kA hS;have w7:=Iq.ok.dj.gr bI;have lv:=ae lv;have Q4:=ae hS;have zl:=ae (show iL (aT P s j) (j+1)=decide ((aT P s j).exp (ez ((aT P s j).S (j+1)))<(aT P s j).now) by unfold iL;simp[hS]);have rz:=aH (dV P (aT P s j) (j+1)=if iL (aT P s j) (j+1)=true then hX P (aT P s j) j (ez ((aT P s j).S (j+1)))else aT P s j) (rfl);generalize ez ((aT P s j).S (j+1))=b at *;obtain⟨n,rfl⟩:=Int.eq_ofNat_of_zero_le w7.1;have hn:n<64:=ai;have FX:=ae hn;have xe:=HM.m.exp hn;have x5:=HM.m.now;have rk:(n:Int)<64:=ai;have wF:(0:Int)≤n:=ai;clear hS bI w7 hn
    by_cases hd:(aT P s j).exp n<(aT P s j).now
    ·have HD:=ae (show dV P (aT P s j) (j+1)=hX P (aT P s j) j n by rw[rz.out,if_pos (by rw[zl.out];exact decide_eq_true hd)]);have HF:=ae<|fun q=>di (i:=j) (n:=n) (wr.drewN q) (HM.drewN q).sp (by have:=cT.out;omega) FX;generalize hex:(aT P s j).exp n=ex at *;generalize Fb:(aT P s j).now=nw at *;have B8:=ae Fb;clear hex Fb rz zl;go_upto_region 4 with(go_at_call 192;refine lv.mono ?_;rintro e W1 ⟨rfl,rfl⟩)
     go_quiet (fail)
     have Qj:ba (wr.drewN nq) p 0 (aI g):=x0;have Qb:aF (wr.drewN nq) p 2 P.q:=x2;have F2:=ae<|HF nq;have Ps:=ae<|HM.drewN nq;have Po:=ae<|HO.drewN nq;clear x0 x2 xe x5 HF lv;generalize wr.drewN nq=W1 at *;go_wp2_with (first|(go_at_call 188;refine F2.mono ?_;rintro e W2 ⟨rfl,pO,bd⟩;have pS:=ae<|Ps.step bd pO;have Ir:=ae<|oN FX HP pS (by rw[B8.out];exact nP.1) (by rw[B8.out];exact nP.2);have bR:=ae bd;clear pO bd)|(go_at_call 208;refine Ir.mono ?_;rintro e W3 ⟨rfl,Ah,bQ⟩;have lu:=ae Ah;have b7:=ae bQ;clear Ah bQ))
     go_roundw
     case rel=>exact⟨j+1,by have:=cT.out;omega,by push_cast;rfl,by rw[HT.out,HD.out];exact lu,(Po.aE bR fun k hk=>.inl hk.wW).aE b7 fun k hk=>.inl (.inl hk)⟩
     case measure=>simp[intOf];have:=cT.out;omega
    ·have HD:=ae (show dV P (aT P s j) (j+1)=aT P s j by rw[rz.out,if_neg (by rw[zl.out];simpa using hd)]);generalize hex:(aT P s j).exp n=ex at *;generalize Fb:(aT P s j).now=nw at *;clear hex Fb rz zl;have QI:nw≤ex:=ai;exact fk
  ·have he:j+1=P.q:=ai;have NF:¬((j:Int)+1<P.q):=ai;have HE:=ae (show lT P s=aT P s j by unfold lT;rw[show P.q - 1=j by omega]);have HM:=ae hm;have HO:=ae ho;have NG:decide ((j:Int)+1<P.q)=false:=by simpa using NF
   clear hm ho he hj aO;go_wp2_with fail
   go_end0
   rw[HE.out];exact⟨rfl,HM,HO⟩
theorem vi {n:Nat}(hP:P.Ok)(h:cJ w p g eb P s)(bG:cc P s)(h1:s.now≤1000000000)(hb:(n:Int)∈ar P s):
 Calls Tryz.prog 202 #[aI p,ah n] w fun e w'=>e= .returned (.bool true)∧cJ w' p g eb P (ff P s n)∧af (lr p g eb) w w':=by
 have hn:n<64:=by have:=(ej bG hb).2;omega
 have HC:=mW (n:Int) h bG.dj;rw[decide_eq_true hb]at HC;have HC:=ae HC;have x5:=h.m.now;have f5:w.frozen? ⟨p,5,none⟩=false:=Box.free h.m _;have h0:=bG.now;have GM:IntKind.i64.wrap (s.now+1)=s.now+1:=by rw[IntKind.wrap_i64];omega
 have ry:=aH (cJ (w.setCell ⟨p,5,none⟩ (ah (s.now+1))) p g eb P (aP s)) (h.mS _);have bw:=aH (af (lr p g eb) w (w.setCell ⟨p,5,none⟩ (ah (s.now+1)))) ((af.ak _ w).setCell (p:=⟨p,5,none⟩) (.inl (.inl rfl)) _);have xf:=ae bG;have HP:=ae hP;have HN:=ae hn;have nP:=aH (0≤s.now∧s.now≤1000000000) (⟨h0,h1⟩);have HB:=ae hb;have rk:(n:Int)<64:=ai;have wF:(0:Int)≤n:=ai;clear h bG hP hb h1 hn
 go_enter Tryz.func202,Tryz.ntmps202
 go_upto_region 4 with(go_at_call 199;refine HC.mono ?_;rintro e W1 ⟨rfl,rfl⟩);change Code.wp _ _ _ _ (w.setCell ⟨p,5,none⟩ (ah (s.now+1)));clear x5 f5 HC;generalize w.setCell ⟨p,5,none⟩ (ah (s.now+1))=W2 at *;have Kk:=xf.often n;have xo:aF W2.drew p (6+n) (s.often n):=ry.m.often HN;have fo:W2.drew.frozen? ⟨p,6+n,none⟩=false:=Box.free ry.m _;have GL:IntKind.i64.wrap (s.often n+1)=s.often n+1:=by have:=nP.out;rw[IntKind.wrap_i64];omega
 have lu:=aH (cJ (W2.setCell ⟨p,6+n,none⟩ (ah (s.often n+1))).drew p g eb P (cC (aP s) n)) ((ry.gP HN _).drew);have b7:=aH (af (lr p g eb) w (W2.setCell ⟨p,6+n,none⟩ (ah (s.often n+1))).drew) ((bw.setCell (p:=⟨p,6+n,none⟩) (.inl (.inl rfl)) _).drew);have Iz:=ae Kk;clear Kk;refine kb (fun w':World=>w'=W2.drew) 10 ?_ ?_
 ·rfl
 intro aX;refine eZ [0,1,2,3,4,5,6,7,8,9] ?_;refine jz ?_;clear aX;go_upto_region 5 with fail;change Code.wp _ _ _ _ (W2.setCell ⟨p,6+n,none⟩ (ah (s.often n+1))).drew;clear xo fo GL GM HC;generalize(W2.setCell ⟨p,6+n,none⟩ (ah (s.often n+1))).drew=W3 at *;have Ix:=ae<|me (b:=(n:Int)) HP (kl xf) (by have:=Iz.out;show s.often n+1≤s.now+1;omega) wF rk;have Ae:(cC (aP s) n).often n=s.often n+1:=by show aD s.often n (s.often n+1) n=_;unfold aD;rw[if_pos rfl]
 have B7:=ae<|oO HN HP lu (by have:=nP.out;show 0≤s.now+1;omega) (by have:=nP.out;show s.now+1≤2000000000;omega) (by rw[Ae];have:=Iz.out;omega) (by rw[Ae];have:=Iz.out;have:=nP.out;omega);have B8:=ae (show(dM P (cC (aP s) n) n).now≤2000000000 by have:=nP.out;show s.now+1≤2000000000;omega);clear Ae;go_wp2_with (first|(go_at_call 205;refine B7.mono ?_;rintro e W4 ⟨rfl,Ag,gB⟩;have Aw:=ae Ag;have jb:=ae<|b7.trans gB;have IL:=ae<|vj HP Ag Ix B8;clear Ag gB)|(go_at_call 203;refine IL.mono ?_;rintro e W5 ⟨rfl,Af,eD⟩));go_ret;exact⟨rfl,Af,jb.trans eD⟩
theorem tm {b:Int}(h:cJ w p g eb P s)(bG:cc P s)(hb:b∉ar P s):
 Calls Tryz.prog 202 #[aI p,ah b] w fun e w'=>e= .returned (.bool false)∧w=w':=by
 have HC:=mW b h bG.dj;rw[decide_eq_false hb]at HC;have HC:=ae HC;clear h bG hb
 go_enter Tryz.func202,Tryz.ntmps202
 go_wp2_with (go_at_call 199;refine HC.mono ?_;rintro e W1 ⟨rfl,rfl⟩);go_ret;exact⟨rfl,rfl⟩
end
theorem oV {m:Nat}{S:Nat→List Int}(h:pY m S)(k:Nat):(bA S k).length≤64:=
 ij 64 _ (iV h k) fun x hx=>by obtain⟨i,_,h2⟩:=(js S x k).1 hx;exact h.gr h2
def zD (w:World)(P:bM)(s:bu)(n i:Value)(wr:World):Prop:=∃k:Nat,k≤P.q∧i=ah k∧n=ah ((bA s.S k).length:Nat)∧wr=w
def vt (w:World)(P:bM)(s:bu)(v i:Value)(wr:World):Prop:=∃(k:Nat) (l:List Int),k≤P.q∧i=ah ((k:Int) - 1)∧aC 3 wr w.heap.size v l∧bA s.S P.q=l ++ bA s.S k∧af aA w wr
def zI (w:World)(P:bM)(s:bu)(q:Value)(wr:World):Prop:=∃k:Nat,k≤gE P s∧q=ah k∧wr=w
section
variable {w:World}{p g eb:Nat}{P:bM}{s:bu}
theorem Bf (hP:P.Ok)(h:cJ w p g eb P s)(hd:pY (P.q+1) s.S):
 Calls Tryz.prog 200 #[aI p] w fun e w'=>e= .returned (ah (ar P s).length)∧w=w':=by
 have x0:=h.m.ptr;have x2:=h.m.q;have HH:=ae h;have HD:=ae hd;have E9:=hP.q8;have HS:=aH (zD w P s (ah 0) (ah 0) w) (⟨0,eK _,rfl,rfl,rfl⟩);clear h hd hP
 go_enter Tryz.func200,Tryz.ntmps200
 go_wp2_with fail
 go_loopw [3,12] (fun n i wr=>zD w P s n i wr) (fun _ i _=>P.q - (intOf i).toNat)
 case atStart=>exact HS
 case round=>
  clear HS;obtain⟨k,hk,rfl,rfl,rfl⟩:=hrel
  by_cases aO:k<P.q
  ·have mO:(k:Int)<P.q:=ai;have HL:=ae<|eS k wr HH.sp ai;have rk:=oV HD (k+1);have HF:=ae (show(bA s.S (k+1)).length=(bA s.S k).length+(s.S k).length by rw[bA,List.length_append];omega);rw[HF.out]at rk;generalize(bA s.S k).length=a at *;generalize(s.S k).length=b at *;have hw:IntKind.i64.wrap ((a:Int)+b)=(a:Int)+b:=by rw[IntKind.wrap_i64];omega
   have cT:=ae aO;clear aO hk;go_wp2_with (go_at_call 185;refine HL.mono ?_;rintro e W1 ⟨rfl,rfl⟩)
   go_roundw
   case rel=>exact⟨k+1,cT,by go_num,by rw[HF.out];go_num,rfl⟩
   case measure=>simp[intOf];have:=cT.out;omega
  ·obtain rfl:k=P.q:=ai;have HE:=aH ((ar P s).length=(bA s.S P.q).length) (rfl);generalize(bA s.S P.q).length=a at *;clear aO hk;go_wp2_with fail;go_ret;rw[HE.out];exact⟨rfl,rfl⟩
theorem Bc {n:Nat}(h:cJ w p g eb P s)(bG:cc P s)(hb:(n:Int)∈ar P s):
 Calls Tryz.prog 201 #[aI p,ah n] w fun e w'=>e= .returned (.bool true)∧cJ w' p g eb P (lS s n)∧af (lr p g eb) w w':=by
 have HC:=mW (n:Int) h bG.dj;rw[decide_eq_true hb]at HC;have HC:=ae HC;have x0:=h.m.ptr;obtain⟨i,_,hi⟩:=bh.1 hb;have HR:=ae<|dQ (i:=i) w h.sp hi;have HH:=ae h;clear h bG hb hi
 go_enter Tryz.func201,Tryz.ntmps201
 go_wp2_with (first|(go_at_call 199;refine HC.mono ?_;rintro e W1 ⟨rfl,rfl⟩)|(go_at_call 187;refine HR.mono ?_;rintro e W2 ⟨rfl,pO,bd⟩));go_ret;exact⟨rfl,HH.step bd pO,bd.mono fun k hk=>.inl hk.wW⟩
theorem vT {i:Nat}(h:cJ w p g eb P s)(hi:i<P.q):
 Calls Tryz.prog 206 #[aI p,ah i] w fun e w'=>∃v,e= .returned v∧aC 3 w' w.heap.size v (s.S i)∧af aA w w':=by
 have x0:=h.m.ptr;have x2:=h.m.q;have HA:=ae<|nt (i:=i) w h.sp ai;have CS:(i:Int)<P.q:=ai;have CR:¬(P.q:Int)≤i:=ai;have Hc:¬P.q≤i:=ai;have N6:(0:Int)≤i:=ai;clear h
 go_enter Tryz.func206,Tryz.ntmps206
 go_wp2_with (go_at_call 189;refine HA.mono ?_;rintro e W1 ⟨v,rfl,h1,h2⟩);go_ret;exact⟨v,rfl,h1,h2⟩
theorem Bg (hP:P.Ok)(h:cJ w p g eb P s)(hd:pY (P.q+1) s.S):
 Calls Tryz.prog 198 #[aI p] w fun e w'=>∃v,e= .returned v∧aC 3 w' w.heap.size v (ar P s)∧af aA w w':=by
 have x2:=h.m.q;have HH:=ae h;have HD:=ae hd;have E9:=hP.q8;have CN:=hP.q1;have GK:IntKind.i64.wrap ((P.q:Int) - 1)=(P.q:Int) - 1:=by rw[IntKind.wrap_i64];omega
 have HS:=aH (vt w P s ey (ah ((P.q:Int) - 1)) w) (⟨P.q,[],dT _,rfl,aC.nil _ _ _,rfl,af.ak _ _⟩);clear h hd hP
 go_enter Tryz.func198,Tryz.ntmps198
 go_wp2_with fail
 go_loopw [3,4] (fun v i wr=>vt w P s v i wr) (fun _ i _=>(intOf i+1).toNat)
 case atStart=>exact HS
 case round=>
  clear HS GK;obtain⟨k,l,hk,rfl,hl,he,ho⟩:=hrel
  cases k with
  |succ k=>
   rw[show((k+1:Nat):Int) - 1=(k:Int) by omega];have QB:(0:Int)≤k:=ai;have NY:(k:Int)≤8:=ai;have HQ:=ae<|vT (i:=k) (HH.ao (F:=aA) ho id id id) ai;have HL:=ae hl;have HO:=ae ho;have HK:=ae hk;have hlen:l.length+(s.S k).length≤1000000:=by
    have h1:=oV HD P.q;rw[he,bA,List.length_append,List.length_append]at h1;omega
   have tX:=ae hlen;have HE:=ae (show bA s.S P.q=(l ++ s.S k) ++ bA s.S k by rw[he,bA,List.append_assoc]);clear hl ho he hk hlen;go_wp2_with (first|(go_at_call 206;refine HQ.mono ?_;rintro e W1 ⟨u,rfl,h1,h2⟩;have HU:=ae h1;have bw:=ae<|HO.trans h2;have Ax:=ae<|HL.ao h2 fun _ _=>id;have FK:=aH (w.heap.size≤W1.heap.size) (bw.size);clear h1 h2)|(at_builtin;refine iA _ rfl (.tmp 17) (.tmp 20) 47 3 rfl kp Tryz.underlying47 w.heap.size _ l rfl Ax _ _ (s.S k) rfl HU tX FK ?_;intro v2 W2 h3 h4;have tT:=ae h3;have bR:=ae<|bw.aE h4 fun q hq=>.inr (Ax.lt q hq).1;clear h3 h4))
   go_roundw
   case rel=>exact⟨k,l ++ s.S k,by have:=HK.out;omega,rfl,tT,HE,bR⟩
   case measure=>simp[intOf]
  |zero=>
   have HL:=ae hl;have HO:=ae ho;have HE:=ae (show ar P s=l by rw[show ar P s=bA s.S P.q from rfl,he,bA,List.append_nil]);clear hl ho he hk;rw[show((0:Nat):Int) - 1= -1 by decide];go_wp2_with fail;go_ret;rw[HE.out];exact⟨_,rfl,HL,HO⟩
theorem vU (hP:P.Ok)(h:cJ w p g eb P s)(bG:cc P s)(hne:ar P s≠[]):
 Calls Tryz.prog 204 #[aI p] w fun e w'=>e= .returned (ah (cB P s))∧cJ w' p g eb P (bt P s)∧af (lr p g eb) w w':=by
 have HM:=ae h;have HP:=ae hP;obtain⟨Ke,Kb,Kc⟩:=nj hne;have E5:=ej bG (kD hne);have Di:=ae Ke;have Pm:=ae Kc;have HV:=aH (cB P s=ez (s.S (gE P s))) (rfl);have L7:=ae Kb;have HS:=aH (zI w P s (ah 0) w) (⟨0,eK _,rfl,rfl⟩);have E9:=hP.q8;have LZ:=ae E5;have x0:=h.m.ptr;clear h hP bG hne Ke Kb Kc E5
 go_enter Tryz.func204,Tryz.ntmps204
 go_wp2_with fail
 go_loopw [3] (fun q wr=>zI w P s q wr) (fun q _=>P.q - (intOf q).toNat)
 case atStart=>exact HS
 case round=>
  clear HS;obtain⟨k,hk,rfl,rfl⟩:=hrel
  by_cases aO:k<gE P s
  ·have HL:=eS k wr HM.sp (by have:=Di.out;omega);rw[Pm.out k aO]at HL;have HL:=ae HL;have cT:=aH (k<gE P s∧gE P s<P.q) (⟨aO,Di⟩);have NY:(k:Int)≤8:=by have:=Di.out;omega
   clear hk aO;go_wp2_with (go_at_call 185;refine HL.mono ?_;rintro e W1 ⟨rfl,rfl⟩)
   go_roundw
   case rel=>exact⟨k+1,by have:=cT.out;omega,by go_num,rfl⟩
   case measure=>simp[intOf];have:=cT.out;omega
  ·obtain rfl:k=gE P s:=ai;have HL:=ae<|eS (gE P s) wr HM.sp (by have:=Di.out;omega);have lv:=gU (gE P s) wr HM.sp (by have:=Di.out;omega);rw[if_neg L7.out,←HV.out]at lv;have lv:=ae lv;have uu:0<(s.S (gE P s)).length:=List.length_pos_iff.2 L7;generalize(s.S (gE P s)).length=len at *;have Fj:((len:Int)==0)=false:=by simp;omega
   have I9:¬(len:Int)=0:=ai;have I8:¬len=0:=ai;generalize gE P s=q0 at *;clear hk aO;go_upto_region 5 with(first|(go_at_call 185;refine HL.mono ?_;rintro e W1 ⟨rfl,rfl⟩)|(go_at_call 192;refine lv.mono ?_;rintro e W1 ⟨rfl,rfl⟩));have Dp:=aH (bt P s=if P.ghost<((aR P s).S P.q).length then {aR P s with S:=lD (aR P s).S (ez ((aR P s).S P.q))} else aR P s) (rfl);have Mr:=aH (aR P s= {s with S:=nK s.S P.q (cB P s)}) (rfl);generalize CI:cB P s=v at *;obtain⟨n,rfl⟩:=Int.eq_ofNat_of_zero_le LZ.1;have LY:=ae CI;clear CI;have hn:n<64:=by have:=LZ.2;omega
   have F1:=ae<|di (i:=P.q) (n:=n) wr.drew HM.drew.sp ai hn;clear hn Fj I9 I8 uu HL lv HV;refine kb (fun w':World=>w'=wr.drew) 8 ?_ ?_
   ·rfl
   intro aX;refine eZ [0,1,2,3,4,5,7] ?_;refine lh 6 fun K hK=>?_
   go_simp;refine(gR HM.drew).mono ?_;rintro e W2 ⟨rfl,rfl⟩;refine lj hK ?_ fun aX=>?_
   ·rfl
   clear hK;refine jz ?_;clear aX;go_upto_region 6 with(go_at_call 188;refine F1.mono ?_;rintro e W2 ⟨rfl,pO,bd⟩);have nN:cJ W2 p g eb P (aR P s):=by rw[Mr.out];exact HM.drew.step bd pO
   have pS:=ae nN;have bR:=ae<|((af.ak (lr p g eb) wr).drew).aE bd fun k hk=>.inl hk.wW;have tX:=ae<|fun q=>eS P.q (W2.drewN q) (nN.drewN q).sp ai;have JM:=nN.m.ptr;have x4:=nN.m.ghost;have IC:=ae<|fun W (hm:cJ W p g eb P (aR P s))=>gU P.q W hm.sp ai;have Ip:=ae nN.sp;clear nN pO bd F1 HM Mr x0;generalize aR P s=t at *
   by_cases hg:P.ghost<(t.S P.q).length
   ·have HE:=ae<|Dp.trans (if_pos hg);have CU:(P.ghost:Int)<(t.S P.q).length:=ai;have hne:t.S P.q≠[]:=fun e=>by rw[e]at hg;simp at hg
    have JC:=ae (fun W hm=>by have:=IC.out W hm;rw[if_neg hne]at this;exact this);have bI:=kA hne;generalize ez (t.S P.q)=old at *;have hold:=Ip.gr bI;obtain⟨m,rfl⟩:=Int.eq_ofNat_of_zero_le hold.1;have tV:=ae<|fun W (hm:cJ W p g eb P t)=>dQ (i:=P.q) (n:=m) W hm.sp bI;generalize(t.S P.q).length=tl at *;clear hne bI hold IC hg
    go_quiet ((first|(go_at_call 207;exact dK (gR (pS.drewN _)))|(go_at_call 185;exact dK (tX _))))
    go_wp2_with fail;have Qk:ba (W2.drewN nq) p 0 (aI g):=JM;have lu:=ae<|pS.drewN nq;have b7:=ae<|bR.drewN nq;clear JM x4 pS bR tX Ip;generalize W2.drewN nq=W3 at *
    go_quiet ((first|(go_at_call 207;exact dK (gR (lu.drewN _)))|(go_at_call 192;exact dK (JC _ (lu.drewN _)))))
    go_wp2_with fail;refine(tV _ (lu.drewN _)).mono ?_;rintro e W4 ⟨rfl,Ac,gB⟩;go_wp2_with fail;go_ret;rw[HE.out,LY.out];exact⟨rfl,(lu.drewN _).step gB Ac,(b7.drewN _).aE gB fun k hk=>.inl hk.wW⟩
   ·have HE:=ae<|Dp.trans (if_neg hg);have CU:¬(P.ghost:Int)<(t.S P.q).length:=ai;generalize(t.S P.q).length=tl at *;have QE:tl≤P.ghost:=ai;clear hg IC Ip
    go_quiet ((first|(go_at_call 207;exact dK (gR (pS.drewN _)))|(go_at_call 185;exact dK (tX _))))
    go_wp2_with fail;go_ret;rw[HE.out,LY.out];exact⟨rfl,pS.drewN _,bR.drewN _⟩
end
theorem oP {P:bM}{s:bu}{b:Int}(h:pY (P.q+1) s.S):xp P s b=true↔∃i,b∈s.S i:=by
 unfold xp;rw[List.any_eq_true]
 constructor
 ·rintro⟨i,_,hi⟩;exact⟨i,by simpa using hi⟩
 ·rintro⟨i,hi⟩;have pX:i<P.q+1:=by
   rcases Nat.lt_or_ge i (P.q+1)with h2|h2
   ·exact h2
   ·rw[h.out i h2]at hi;cases hi
  exact⟨i,List.mem_range.2 pX,by simpa using hi⟩
section
variable {w:World}{p g eb:Nat}{P:bM}{s:bu}
def jU (p g eb:Nat)(P:bM)(s:bu)(b:Int)(w:World)(e:Ending)(w':World):Prop:=
 e= .returned (.tuple #[ah (bT P s b).2.1,.bool (bT P s b).2.2,ah 0])∧cJ w' p g eb P (bT P s b).1∧af (lr p g eb) w w'
theorem tq {n:Nat}(hP:P.Ok)(h:cJ w p g eb P s)(bG:cc P s)(h1:s.now≤1000000000)(hb:(n:Int)∈ar P s):
 Calls Tryz.prog 197 #[aI p,ah n] w (jU p g eb P s n w):=by
 have wP:=ae (show bT P s n=(ff P s n,0,false) by unfold bT;rw[if_pos hb]);have HU:=ae<|vi hP h bG h1 hb;have rk:(n:Int)<64:=(ej bG hb).2;have wF:(0:Int)≤n:=ai;clear hP h bG h1 hb
 go_enter Tryz.func197,Tryz.ntmps197
 go_wp2_with (go_at_call 202;refine HU.out.mono ?_;rintro e W1 ⟨rfl,Kp,a8⟩)
 go_ret3
 exact⟨by rw[wP.out];rfl,by rw[wP.out];exact Kp,a8⟩
theorem fW{P:Prop}(h:P:=by
 have xo:aF W5.drew p (6+n) (f.often n):=uk.out.m.often HN.out;have fo:W5.drew.frozen? ⟨p,6+n,none⟩=false:=Box.free uk.out.m _;have GL:IntKind.i64.wrap (f.often n+1)=f.often n+1:=by have:=sn.out;rw[IntKind.wrap_i64];omega
 have Cb:=aH (cJ (W5.setCell ⟨p,6+n,none⟩ (ah (f.often n+1))).drew p g eb P (cC f n)) ((uk.out.gP HN.out _).drew);have lO:=aH (af (lr p g eb) w (W5.setCell ⟨p,6+n,none⟩ (ah (f.often n+1))).drew) ((kh.out.setCell (p:=⟨p,6+n,none⟩) (.inl (.inl rfl)) _).drew);refine kb (fun w':World=>w'=W5.drew) 10 ?_ ?_
 ·rfl
 intro aX;refine eZ [0,1,2,3,4,5,6,7,8,9] ?_;refine jz ?_;clear aX;go_upto_region 14 with fail;change Code.wp _ _ _ _ (W5.setCell ⟨p,6+n,none⟩ (ah (f.often n+1))).drew;clear xo fo GL;generalize(W5.setCell ⟨p,6+n,none⟩ (ah (f.often n+1))).drew=W6 at *;have Ix:=ae<|me (b:=(n:Int)) HP.out Mw.out (by have:=sn.out;omega) wF rk;have Ae:(cC f n).often n=f.often n+1:=by show aD f.often n (f.often n+1) n=_;unfold aD;rw[if_pos rfl]
 have B7:=ae<|oO HN.out HP.out Cb.out (by have:=sn.out;show 0≤f.now;omega) (by have:=sn.out;show f.now≤2000000000;omega) (by rw[Ae];have:=sn.out;omega) (by rw[Ae];have:=sn.out;omega);have B8:=ae (show(dM P (cC f n) n).now≤2000000000 by have:=sn.out;show f.now≤2000000000;omega);clear Ae;go_wp2_with (first|(go_at_call 205;refine B7.out.mono ?_;rintro e W7 ⟨rfl,BR,pW⟩;have Mi:=ae BR;have zk:=ae<|lO.out.trans pW;have IL:=ae<|vj HP.out BR Ix.out B8.out;clear BR pW)|(go_at_call 203;refine IL.out.mono ?_;rintro e W8 ⟨rfl,Fg,NM⟩))
 go_ret3
 exact⟨by rw[wP.out];rfl,by rw[wP.out];exact Fg,zk.out.trans NM⟩):P:=h
theorem gb{P:Prop}(h:P:=by
 have y0:ba W3 p 0 (aI g):=lu.out.m.ptr;have Mw:=ae (jR tU.out (n:Int) FQ.out.1 Im.out).1;have sn:=aH ((0≤(aV P t n).often n∧(aV P t n).often n+1≤(aV P t n).now)∧0≤(aV P t n).now∧(aV P t n).now≤1000000001) (by
  obtain⟨f1,f2,f3,f4⟩:=jR tU.out (n:Int) FQ.out.1 Im.out;have h2:=FQ.out;exact⟨⟨(f1.often n).1,ai⟩,ai,ai⟩)
 by_cases bI:∃i,(n:Int)∈t.S i
 ·have Cf:=ae (show aV P t n=t by unfold aV;rw[if_pos ((oP tU.out.dj).2 bI)]);rw[Cf.out]at Mw sn;obtain⟨i,hi⟩:=bI;have wO:=ae<|oq (i:=i) W3 lu.out.sp hi;rw[Cf.out]at wP;clear hi Cf;go_upto_region 13 with(go_at_call 190;refine wO.out.mono ?_;rintro e W4 ⟨rfl,rfl⟩);obtain⟨W5,JY⟩:∃W5,W5=W3:=⟨_,rfl⟩;rw[←JY]at lu b7 ⊢;clear JY wO y0;generalize t=f at *;have uk:=aH (cJ W5 p g eb P f) (lu.out);have kh:=aH (af (lr p g eb) w W5) (b7.out);exact fW
 ·have w8:xp P t n≠true:=fun h=>bI ((oP tU.out.dj).1 h)
  have Cf:=ae (show aV P t n= {t with often:=aD t.often n 0} by unfold aV;rw[if_neg w8]);have wO:=ae<|rC W3 lu.out.sp fun i hi=>bI ⟨i,hi⟩;have yo:aF W3 p (6+n) (t.often n):=lu.out.m.often HN.out;have yf:W3.frozen? ⟨p,6+n,none⟩=false:=Box.free lu.out.m _;clear bI w8;go_upto_region 13 with(go_at_call 190;refine wO.out.mono ?_;rintro e W4 ⟨rfl,rfl⟩);have JB:=ae (show cJ (W3.setCell ⟨p,6+n,none⟩ (ah 0)) p g eb P (aV P t n) by rw[Cf.out];exact lu.out.gP HN.out 0);have Jz:=ae<|b7.out.setCell (p:=⟨p,6+n,none⟩) (.inl (show lr p g eb p from .inl rfl)) (ah 0);change Code.wp _ _ _ _ (W3.setCell ⟨p,6+n,none⟩ (ah 0));clear yo yf wO y0 Cf;generalize W3.setCell ⟨p,6+n,none⟩ (ah 0)=W5 at *;generalize aV P t n=f at *;have uk:=aH (cJ W5 p g eb P f) (JB.out);have kh:=aH (af (lr p g eb) w W5) (Jz.out);exact fW):P:=h
theorem qG {n:Nat}(hP:P.Ok)(h:cJ w p g eb P s)(hI:pR P s)(h1:s.now≤1000000000)(hn:n<64)(hb:(n:Int)∉ar P s):
 Calls Tryz.prog 197 #[aI p,ah n] w (jU p g eb P s n w):=by
 have HU:=ae<|tm h hI.ok hb;have rk:(n:Int)<64:=ai;have wF:(0:Int)≤n:=ai;have x5:=h.m.now;have f5:w.frozen? ⟨p,5,none⟩=false:=Box.free h.m _;have h0:=hI.ok.now;have GM:IntKind.i64.wrap (s.now+1)=s.now+1:=by rw[IntKind.wrap_i64];omega
 have ry:=aH (cJ (w.setCell ⟨p,5,none⟩ (ah (s.now+1))) p g eb P (aP s)) (h.mS _);have bw:=aH (af (lr p g eb) w (w.setCell ⟨p,5,none⟩ (ah (s.now+1)))) ((af.ak _ w).setCell (p:=⟨p,5,none⟩) (.inl (.inl rfl)) _);have HI:=ae hI;have HP:=ae hP;have HN:=ae hn;have nP:=aH (0≤s.now∧s.now≤1000000000) (⟨h0,h1⟩);have HB:=ae hb;have Dg:=aH (pR P (aP s)) (⟨kl hI.ok,hI.len,hI.gh⟩);have AW:=aH (∀y,(aP s).often y+1≤(aP s).now) (fun y=>by have:=(hI.ok.often y).2;show s.often y+1≤s.now+1;omega);have AX:=aH (1≤(aP s).now∧(aP s).now≤1000000001) (by show 1≤s.now+1∧s.now+1≤1000000001;omega);clear h hI hP hb h1 hn h0
 go_enter Tryz.func197,Tryz.ntmps197
 go_upto_region 8 with(go_at_call 202;refine HU.out.mono ?_;rintro e W1 ⟨rfl,rfl⟩);change Code.wp _ _ _ _ (w.setCell ⟨p,5,none⟩ (ah (s.now+1)));clear x5 f5 HU GM;generalize w.setCell ⟨p,5,none⟩ (ah (s.now+1))=W2 at *;have x1:aF W2 p 1 P.cap:=ry.out.m.cap;have xj:=aH ((ar P (aP s)).length=(ar P s).length) (rfl);have tX:=ae<|fun q=>Bf HP.out (ry.out.drewN q) Dg.out.ok.dj;rw[xj.out]at tX;have Gb:=ae (show bT P s n=if(ar P s).length=P.cap then(bU P (aV P (bt P (aP s)) n) n,cB P (aP s),true)else(bU P (aV P (aP s) n) n,0,false) by unfold bT;rw[if_neg HB.out])
 by_cases hc:(ar P s).length=P.cap
 ·have wP:=ae<|Gb.out.trans (if_pos hc);have hne:ar P (aP s)≠[]:=fun e=>by have:=HP.out.c1;have e:ar P s= []:=e;rw[e]at hc;simp at hc;omega
  have Dp:=ae<|fun W (hm:cJ W p g eb P (aP s))=>vU HP.out hm Dg.out.ok hne;obtain⟨e1,e2,e3,_,_⟩:=mr HP.out Dg.out hne;have tU:=ae e1;have FQ:=ae (show 1≤(bt P (aP s)).now∧(bt P (aP s)).now≤1000000001 by rw[e2];exact AX.out);have Im:=aH (∀y,(bt P (aP s)).often y+1≤(bt P (aP s)).now) (fun y=>by rw[e2,e3];exact AW.out y);rw[hc]at tX;clear e1 e2 e3 hne hc
  go_quiet ((go_at_call 200;exact dK (tX.out _)))
  have pS:=ae<|ry.out.drewN nq;have bR:=ae<|bw.out.drewN nq;clear x1 tX ry bw;generalize W2.drewN nq=OM at *;have Mz:=ae<|Dp.out OM pS.out;go_upto_region 10 with(go_at_call 204;refine Mz.out.mono ?_;rintro e W3 ⟨rfl,Ah,bQ⟩);have lu:=ae Ah;have b7:=ae<|bR.out.trans bQ;clear Ah bQ Mz Dp pS bR Gb;generalize cB P (aP s)=v at *;generalize bt P (aP s)=t at *;exact gb
 ·have wP:=ae<|Gb.out.trans (if_neg hc);have si:(((ar P s).length:Int)==(P.cap:Int))=false:=by simp;omega
  have xv:¬(ar P s).length=P.cap:=hc;have tU:=ae Dg.out.ok;have FQ:=ae AX.out;have Im:=ae AW.out;generalize(ar P s).length=len at *;clear hc
  go_quiet ((go_at_call 200;exact dK (tX.out _)))
  have lu:=ae<|ry.out.drewN nq;have b7:=ae<|bw.out.drewN nq;clear x1 tX ry bw Gb Dg AW AX xj;generalize W2.drewN nq=W3 at *;generalize aP s=t at *;go_upto_region 10 with fail;exact gb
theorem Bh {n:Nat}(hP:P.Ok)(h:cJ w p g eb P s)(hI:pR P s)(h1:s.now≤1000000000)(hn:n<64):
 Calls Tryz.prog 197 #[aI p,ah n] w (jU p g eb P s n w):=by
 by_cases hb:(n:Int)∈ar P s
 ·exact tq hP h hI.ok h1 hb
 ·exact qG hP h hI h1 hn hb
end
end Go.Proofs.YtpcfhbeakecihaaGreat
