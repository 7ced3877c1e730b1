/- Lemmas. -/
import Derived.Test.YtpcfhbeakecihaaGreatM28
import Derived.BigQuiet
set_option linter.all false
set_option maxHeartbeats 20000000
set_option maxRecDepth 100000
namespace Go.Proofs.YtpcfhbeakecihaaGreat
open Go.ChangeShapes Go.RowKit Go.WideShapes
theorem tI {P:cI}{s:cC}{b:Int}(hP:P.Ok)(h:dJ P s)(ho:s.often b+1≤s.now)(h0:0≤b)(h1:b<64):dJ P (ea P (cG s b) b):=by
 have hm:dJ P (cG s b):=⟨h.dj,h.now,fun y=>by
  show 0≤aV s.often b (s.often b+1) y∧aV s.often b (s.often b+1) y≤s.now
  unfold aV;have h2:=h.often b;have h3:=h.often y
  split<;>omega⟩
 exact rR hm (by have:=Li hP ((cG s b).often b);omega) h0 h1
def RE (w:World)(p g eb:Nat)(P:cI)(s:cC)(q:Value)(wr:World):Prop:=
 ∃j:Nat,j+1≤P.q∧q=ah ((j:Int)+1)∧gZ wr p g eb P (bF P s j)∧af (wY p g eb) w wr
theorem gZ.drewN {w:World}{p g eb:Nat}{P:cI}{s:cC}(h:gZ w p g eb P s)(n:Nat):gZ (w.drewN n) p g eb P s:=h.ar (F:=au) ((af.ai au w).drewN n) id id id
section
variable {w:World}{p g eb:Nat}{P:cI}{s:cC}
theorem mR{P:Prop}(h:P:=by
 go_upto_region 4 with(go_at_call 192;refine lD.mono ?_;rintro e W1 ⟨rfl,rfl⟩)
 go_quiet (fail)
 go_wp2
 go_roundw
 case rel=>exact⟨j+1,by have:=cD.out;omega,by push_cast;rfl,by rw[HT.out,HD.out];exact HM.drewN _,HO.drewN _⟩
 case measure=>simp[intOf];have:=cD.out;omega):P:=h
theorem Lh (hP:P.Ok)(h:gZ w p g eb P s)(bN:dJ P s)(h1:s.now≤2000000000):
 Calls Tryz.prog 203 #[aO p] w fun e w'=>e= .returned (.tuple #[])∧gZ w' p g eb P (xL P s)∧af (wY p g eb) w w':=by
 have HH:=ae h;have HP:=ae hP;have HK:=ae bN;have HN:=ae h1;have HS:=aq (RE w p g eb P s (ah 1) w) (⟨0,by have:=hP.q1;omega,rfl,h,af.ai _ _⟩);have MX:=hP.q8;clear h hP bN h1
 go_enter Tryz.func203,Tryz.ntmps203
 go_wp2_with fail
 go_loopw [2] (fun q wr=>RE w p g eb P s q wr) (fun q _=>P.q - (intOf q).toNat)
 case atStart=>exact HS
 case round=>
  clear HS;obtain⟨j,hj,rfl,hm,ho⟩:=hrel;have x0:=hm.m.ptr;have x2:=hm.m.q
  by_cases aY:j+1<P.q
  ·have jk:(j:Int)+1<P.q:=aj;have MW:=l3 HK j aj;have HT:=aq (bF P s (j+1)=fA P (bF P s j) (j+1)) (rfl);have lD:=p9 (j+1) wr hm.sp aj;rw[show((j+1:Nat):Int)=(j:Int)+1 by omega]at lD;have HM:=ae hm;have HSM:=ae MW;have HO:=ae ho;have cD:=ae aY;have Nz:IntKind.i64.wrap ((j:Int)+1+1)=(j:Int)+1+1:=by rw[IntKind.wrap_i64];omega
   have Dx:0≤(bF P s j).now∧(bF P s j).now≤2000000000:=by have h2:=MW.now;have h3:=HK.now;have h4:=HN.out;omega
   have uv:=ae Dx;clear hm MW ho Dx hj aY
   by_cases hS:(bF P s j).S (j+1)= []
   ·rw[if_pos hS]at lD;have lD:=ae lD;have HD:=ae (show fA P (bF P s j) (j+1)=bF P s j by unfold fA kD;rw[if_neg (by simp[hS])]);clear hS;exact mR
   ·rw[if_neg hS]at lD;have bL:=pV hS;have Jv:=HSM.ok.dj.lC bL;have lD:=ae lD;have HSN:=ae hS;have AL:=ae (show kD (bF P s j) (j+1)=decide ((bF P s j).exp (gU ((bF P s j).S (j+1)))<(bF P s j).now) by unfold kD;simp[hS]);have dZ:=aq (fA P (bF P s j) (j+1)=if kD (bF P s j) (j+1)=true then fM P (bF P s j) j (gU ((bF P s j).S (j+1)))else bF P s j) (rfl);generalize gU ((bF P s j).S (j+1))=b at *;obtain⟨n,rfl⟩:=Int.eq_ofNat_of_zero_le Jv.1;have hn:n<64:=aj;have kL:=ae hn;have xe:=HM.m.exp hn;have x5:=HM.m.now;have qM:(n:Int)<64:=aj;have yR:(0:Int)≤n:=aj;clear hS bL Jv hn
    by_cases hd:(bF P s j).exp n<(bF P s j).now
    ·have HD:=ae (show fA P (bF P s j) (j+1)=fM P (bF P s j) j n by rw[dZ.out,if_pos (by rw[AL.out];exact decide_eq_true hd)]);have HF:=ae<|fun q=>iW (i:=j) (n:=n) (wr.drewN q) (HM.drewN q).sp (by have:=cD.out;omega) kL;generalize hex:(bF P s j).exp n=ex at *;generalize Gf:(bF P s j).now=nw at *;have Ng:=ae Gf;clear hex Gf dZ AL;go_upto_region 4 with(go_at_call 192;refine lD.mono ?_;rintro e W1 ⟨rfl,rfl⟩)
     go_quiet (fail)
     have x0q:aM (wr.drewN nq) p 0 (aO g):=x0;have x2q:aF (wr.drewN nq) p 2 P.q:=x2;have Vx:=ae<|HF nq;have HMQ:=ae<|HM.drewN nq;have HOQ:=ae<|HO.drewN nq;clear x0 x2 xe x5 HF lD;generalize wr.drewN nq=W1 at *;go_wp2_with (first|(go_at_call 188;refine Vx.mono ?_;rintro e W2 ⟨rfl,uC,bq⟩;have Dj:=ae<|HMQ.step bq uC;have Sr:=ae<|B4 kL HP Dj (by rw[Ng.out];exact uv.1) (by rw[Ng.out];exact uv.2);have bu:=ae bq;clear uC bq)|(go_at_call 208;refine Sr.mono ?_;rintro e W3 ⟨rfl,Dd,bV⟩;have w9:=ae Dd;have bI:=ae bV;clear Dd bV))
     go_roundw
     case rel=>exact⟨j+1,by have:=cD.out;omega,by push_cast;rfl,by rw[HT.out,HD.out];exact w9,(HOQ.aG bu fun k hk=>.inl hk.Nt).aG bI fun k hk=>.inl (.inl hk)⟩
     case measure=>simp[intOf];have:=cD.out;omega
    ·have HD:=ae (show fA P (bF P s j) (j+1)=bF P s j by rw[dZ.out,if_neg (by rw[AL.out];simpa using hd)]);generalize hex:(bF P s j).exp n=ex at *;generalize Gf:(bF P s j).now=nw at *;clear hex Gf dZ AL;have E9:nw≤ex:=aj;exact mR
  ·have he:j+1=P.q:=aj;have hqi:¬((j:Int)+1<P.q):=aj;have HE:=ae (show xL P s=bF P s j by unfold xL;rw[show P.q - 1=j by omega]);have HM:=ae hm;have HO:=ae ho;have Wb:decide ((j:Int)+1<P.q)=false:=by simpa using hqi
   clear hm ho he hj aY;go_wp2_with fail
   go_end0
   rw[HE.out];exact⟨rfl,HM,HO⟩
theorem Lg {n:Nat}(hP:P.Ok)(h:gZ w p g eb P s)(bN:dJ P s)(h1:s.now≤1000000000)(hb:(n:Int)∈aI P s):
 Calls Tryz.prog 202 #[aO p,ah n] w fun e w'=>e= .returned (.bool true)∧gZ w' p g eb P (kC P s n)∧af (wY p g eb) w w':=by
 have hn:n<64:=by have:=(iL bN hb).2;omega
 have HC:=zu (n:Int) h bN.dj;rw[decide_eq_true hb]at HC;have HC:=ae HC;have x5:=h.m.now;have f5:w.frozen? ⟨p,5,none⟩=false:=Box.free h.m _;have h0:=bN.now;have VY:IntKind.i64.wrap (s.now+1)=s.now+1:=by rw[IntKind.wrap_i64];omega
 have Fm:=aq (gZ (w.setCell ⟨p,5,none⟩ (ah (s.now+1))) p g eb P (bt s)) (h.zn _);have bc:=aq (af (wY p g eb) w (w.setCell ⟨p,5,none⟩ (ah (s.now+1)))) ((af.ai _ w).setCell (p:=⟨p,5,none⟩) (.inl (.inl rfl)) _);have Fk:=ae bN;have HP:=ae hP;have HN:=ae hn;have uv:=aq (0≤s.now∧s.now≤1000000000) (⟨h0,h1⟩);have HB:=ae hb;have qM:(n:Int)<64:=aj;have yR:(0:Int)≤n:=aj;clear h bN hP hb h1 hn
 go_enter Tryz.func202,Tryz.ntmps202
 go_upto_region 4 with(go_at_call 199;refine HC.mono ?_;rintro e W1 ⟨rfl,rfl⟩);change Code.wp _ _ _ _ (w.setCell ⟨p,5,none⟩ (ah (s.now+1)));clear x5 f5 HC;generalize w.setCell ⟨p,5,none⟩ (ah (s.now+1))=W2 at *;have wL:=Fk.often n;have xo:aF W2.drew p (6+n) (s.often n):=Fm.m.often HN;have fo:W2.drew.frozen? ⟨p,6+n,none⟩=false:=Box.free Fm.m _;have hwo:IntKind.i64.wrap (s.often n+1)=s.often n+1:=by have:=uv.out;rw[IntKind.wrap_i64];omega
 have w9:=aq (gZ (W2.setCell ⟨p,6+n,none⟩ (ah (s.often n+1))).drew p g eb P (cG (bt s) n)) ((Fm.pX HN _).drew);have bI:=aq (af (wY p g eb) w (W2.setCell ⟨p,6+n,none⟩ (ah (s.often n+1))).drew) ((bc.setCell (p:=⟨p,6+n,none⟩) (.inl (.inl rfl)) _).drew);have NV:=ae wL;clear wL;refine gg (fun w':World=>w'=W2.drew) 10 ?_ ?_
 ·rfl
 intro aC;refine bE [0,1,2,3,4,5,6,7,8,9] ?_;refine dE ?_;clear aC;go_upto_region 5 with fail;change Code.wp _ _ _ _ (W2.setCell ⟨p,6+n,none⟩ (ah (s.often n+1))).drew;clear xo fo hwo VY HC;generalize(W2.setCell ⟨p,6+n,none⟩ (ah (s.often n+1))).drew=W3 at *;have Gq:=ae<|tI (b:=(n:Int)) HP (qz Fk) (by have:=NV.out;show s.often n+1≤s.now+1;omega) yR qM;have R4:(cG (bt s) n).often n=s.often n+1:=by show aV s.often n (s.often n+1) n=_;unfold aV;rw[if_pos rfl]
 have uZ:=ae<|B6 HN HP w9 (by have:=uv.out;show 0≤s.now+1;omega) (by have:=uv.out;show s.now+1≤2000000000;omega) (by rw[R4];have:=NV.out;omega) (by rw[R4];have:=NV.out;have:=uv.out;omega);have Ng:=ae (show(ea P (cG (bt s) n) n).now≤2000000000 by have:=uv.out;show s.now+1≤2000000000;omega);clear R4;go_wp2_with (first|(go_at_call 205;refine uZ.mono ?_;rintro e W4 ⟨rfl,QP,ey⟩;have Kd:=ae QP;have cr:=ae<|bI.trans ey;have Gv:=ae<|Lh HP QP Gq Ng;clear QP ey)|(go_at_call 203;refine Gv.mono ?_;rintro e W5 ⟨rfl,Gi,fz⟩));go_ret;exact⟨rfl,Gi,cr.trans fz⟩
theorem IG {b:Int}(h:gZ w p g eb P s)(bN:dJ P s)(hb:b∉aI P s):
 Calls Tryz.prog 202 #[aO p,ah b] w fun e w'=>e= .returned (.bool false)∧w=w':=by
 have HC:=zu b h bN.dj;rw[decide_eq_false hb]at HC;have HC:=ae HC;clear h bN hb
 go_enter Tryz.func202,Tryz.ntmps202
 go_wp2_with (go_at_call 199;refine HC.mono ?_;rintro e W1 ⟨rfl,rfl⟩);go_ret;exact⟨rfl,rfl⟩
end
theorem Cb {m:Nat}{S:Nat→List Int}(h:xH m S)(k:Nat):(bR S k).length≤64:=
 qG 64 _ (rU h k) fun x hx=>by obtain⟨i,_,h2⟩:=(sR S x k).1 hx;exact h.lC h2
def Rx (w:World)(P:cI)(s:cC)(n i:Value)(wr:World):Prop:=∃k:Nat,k≤P.q∧i=ah k∧n=ah ((bR s.S k).length:Nat)∧wr=w
def Lu (w:World)(P:cI)(s:cC)(v i:Value)(wr:World):Prop:=∃(k:Nat) (l:List Int),k≤P.q∧i=ah ((k:Int) - 1)∧aA 3 wr w.heap.size v l∧bR s.S P.q=l ++ bR s.S k∧af au w wr
def RC (w:World)(P:cI)(s:cC)(q:Value)(wr:World):Prop:=∃k:Nat,k≤mh P s∧q=ah k∧wr=w
section
variable {w:World}{p g eb:Nat}{P:cI}{s:cC}
theorem TG (hP:P.Ok)(h:gZ w p g eb P s)(hd:xH (P.q+1) s.S):
 Calls Tryz.prog 200 #[aO p] w fun e w'=>e= .returned (ah (aI P s).length)∧w=w':=by
 have x0:=h.m.ptr;have x2:=h.m.q;have HH:=ae h;have HD:=ae hd;have MX:=hP.q8;have HS:=aq (Rx w P s (ah 0) (ah 0) w) (⟨0,fH _,rfl,rfl,rfl⟩);clear h hd hP
 go_enter Tryz.func200,Tryz.ntmps200
 go_wp2_with fail
 go_loopw [3,12] (fun n i wr=>Rx w P s n i wr) (fun _ i _=>P.q - (intOf i).toNat)
 case atStart=>exact HS
 case round=>
  clear HS;obtain⟨k,hk,rfl,rfl,rfl⟩:=hrel
  by_cases aY:k<P.q
  ·have jk:(k:Int)<P.q:=aj;have HL:=ae<|my k wr HH.sp aj;have qM:=Cb HD (k+1);have HF:=ae (show(bR s.S (k+1)).length=(bR s.S k).length+(s.S k).length by rw[bR,List.length_append];omega);rw[HF.out]at qM;generalize(bR s.S k).length=a at *;generalize(s.S k).length=b at *;have hw:IntKind.i64.wrap ((a:Int)+b)=(a:Int)+b:=by rw[IntKind.wrap_i64];omega
   have cD:=ae aY;clear aY hk;go_wp2_with (go_at_call 185;refine HL.mono ?_;rintro e W1 ⟨rfl,rfl⟩)
   go_roundw
   case rel=>exact⟨k+1,cD,by go_num,by rw[HF.out];go_num,rfl⟩
   case measure=>simp[intOf];have:=cD.out;omega
  ·obtain rfl:k=P.q:=aj;have HE:=aq ((aI P s).length=(bR s.S P.q).length) (rfl);generalize(bR s.S P.q).length=a at *;clear aY hk;go_wp2_with fail;go_ret;rw[HE.out];exact⟨rfl,rfl⟩
theorem TD {n:Nat}(h:gZ w p g eb P s)(bN:dJ P s)(hb:(n:Int)∈aI P s):
 Calls Tryz.prog 201 #[aO p,ah n] w fun e w'=>e= .returned (.bool true)∧gZ w' p g eb P (ub s n)∧af (wY p g eb) w w':=by
 have HC:=zu (n:Int) h bN.dj;rw[decide_eq_true hb]at HC;have HC:=ae HC;have x0:=h.m.ptr;obtain⟨i,_,hi⟩:=cw.1 hb;have HR:=ae<|ku (i:=i) w h.sp hi;have HH:=ae h;clear h bN hb hi
 go_enter Tryz.func201,Tryz.ntmps201
 go_wp2_with (first|(go_at_call 199;refine HC.mono ?_;rintro e W1 ⟨rfl,rfl⟩)|(go_at_call 187;refine HR.mono ?_;rintro e W2 ⟨rfl,uC,bq⟩));go_ret;exact⟨rfl,HH.step bq uC,bq.mono fun k hk=>.inl hk.Nt⟩
theorem L9 {i:Nat}(h:gZ w p g eb P s)(hi:i<P.q):
 Calls Tryz.prog 206 #[aO p,ah i] w fun e w'=>∃v,e= .returned v∧aA 3 w' w.heap.size v (s.S i)∧af au w w':=by
 have x0:=h.m.ptr;have x2:=h.m.q;have HA:=ae<|zS (i:=i) w h.sp aj;have Wl:(i:Int)<P.q:=aj;have Wk:¬(P.q:Int)≤i:=aj;have hi3:¬P.q≤i:=aj;have hi0:(0:Int)≤i:=aj;clear h
 go_enter Tryz.func206,Tryz.ntmps206
 go_wp2_with (go_at_call 189;refine HA.mono ?_;rintro e W1 ⟨v,rfl,h1,h2⟩);go_ret;exact⟨v,rfl,h1,h2⟩
theorem TH (hP:P.Ok)(h:gZ w p g eb P s)(hd:xH (P.q+1) s.S):
 Calls Tryz.prog 198 #[aO p] w fun e w'=>∃v,e= .returned v∧aA 3 w' w.heap.size v (aI P s)∧af au w w':=by
 have x2:=h.m.q;have HH:=ae h;have HD:=ae hd;have MX:=hP.q8;have UN:=hP.q1;have hwq:IntKind.i64.wrap ((P.q:Int) - 1)=(P.q:Int) - 1:=by rw[IntKind.wrap_i64];omega
 have HS:=aq (Lu w P s aT (ah ((P.q:Int) - 1)) w) (⟨P.q,[],dX _,rfl,aA.nil _ _ _,rfl,af.ai _ _⟩);clear h hd hP
 go_enter Tryz.func198,Tryz.ntmps198
 go_wp2_with fail
 go_loopw [3,4] (fun v i wr=>Lu w P s v i wr) (fun _ i _=>(intOf i+1).toNat)
 case atStart=>exact HS
 case round=>
  clear HS hwq;obtain⟨k,l,hk,rfl,hl,he,ho⟩:=hrel
  cases k with
  |succ k=>
   rw[show((k+1:Nat):Int) - 1=(k:Int) by omega];have hk0:(0:Int)≤k:=aj;have hk8:(k:Int)≤8:=aj;have HQ:=ae<|L9 (i:=k) (HH.ar (F:=au) ho id id id) aj;have HL:=ae hl;have HO:=ae ho;have HK:=ae hk;have hlen:l.length+(s.S k).length≤1000000:=by
    have h1:=Cb HD P.q;rw[he,bR,List.length_append,List.length_append]at h1;omega
   have jY:=ae hlen;have HE:=ae (show bR s.S P.q=(l ++ s.S k) ++ bR s.S k by rw[he,bR,List.append_assoc]);clear hl ho he hk hlen;go_wp2_with (first|(go_at_call 206;refine HQ.mono ?_;rintro e W1 ⟨u,rfl,h1,h2⟩;have HU:=ae h1;have bc:=ae<|HO.trans h2;have Sw:=ae<|HL.ar h2 fun _ _=>id;have HZ1:=aq (w.heap.size≤W1.heap.size) (bc.size);clear h1 h2)|(at_builtin;refine iN _ rfl (.tmp 17) (.tmp 20) 47 3 rfl gp Tryz.underlying47 w.heap.size _ l rfl Sw _ _ (s.S k) rfl HU jY HZ1 ?_;intro v2 W2 h3 h4;have uW:=ae h3;have bu:=ae<|bc.aG h4 fun q hq=>.inr (Sw.lt q hq).1;clear h3 h4))
   go_roundw
   case rel=>exact⟨k,l ++ s.S k,by have:=HK.out;omega,rfl,uW,HE,bu⟩
   case measure=>simp[intOf]
  |zero=>
   have HL:=ae hl;have HO:=ae ho;have HE:=ae (show aI P s=l by rw[show aI P s=bR s.S P.q from rfl,he,bR,List.append_nil]);clear hl ho he hk;rw[show((0:Nat):Int) - 1= -1 by decide];go_wp2_with fail;go_ret;rw[HE.out];exact⟨_,rfl,HL,HO⟩
theorem gK{P:Prop}(h:P:=by have:=Dh.out;omega):P:=h
theorem Ma (hP:P.Ok)(h:gZ w p g eb P s)(bN:dJ P s)(hne:aI P s≠[]):
 Calls Tryz.prog 204 #[aO p] w fun e w'=>e= .returned (ah (dq P s))∧gZ w' p g eb P (bJ P s)∧af (wY p g eb) w w':=by
 have HM:=ae h;have HP:=ae hP;obtain⟨R3,hqs,hql⟩:=uO hne;have Z6:=iL bN (vE hne);have Dh:=ae R3;have HQL:=ae hql;have HV:=aq (dq P s=gU (s.S (mh P s))) (rfl);have HQS:=ae hqs;have HS:=aq (RC w P s (ah 0) w) (⟨0,fH _,rfl,rfl⟩);have MX:=hP.q8;have HVR:=ae Z6;have x0:=h.m.ptr;clear h hP bN hne R3 hqs hql Z6
 go_enter Tryz.func204,Tryz.ntmps204
 go_wp2_with fail
 go_loopw [3] (fun q wr=>RC w P s q wr) (fun q _=>P.q - (intOf q).toNat)
 case atStart=>exact HS
 case round=>
  clear HS;obtain⟨k,hk,rfl,rfl⟩:=hrel
  by_cases aY:k<mh P s
  ·have HL:=my k wr HM.sp gK;rw[HQL.out k aY]at HL;have HL:=ae HL;have cD:=aq (k<mh P s∧mh P s<P.q) (⟨aY,Dh⟩);have hk8:(k:Int)≤8:=by have:=Dh.out;omega
   clear hk aY;go_wp2_with (go_at_call 185;refine HL.mono ?_;rintro e W1 ⟨rfl,rfl⟩)
   go_roundw
   case rel=>exact⟨k+1,by have:=cD.out;omega,by go_num,rfl⟩
   case measure=>simp[intOf];have:=cD.out;omega
  ·obtain rfl:k=mh P s:=aj;have HL:=ae<|my (mh P s) wr HM.sp gK;have lD:=p9 (mh P s) wr HM.sp gK;rw[if_neg HQS.out,←HV.out]at lD;have lD:=ae lD;have Ks:0<(s.S (mh P s)).length:=List.length_pos_iff.2 HQS;generalize(s.S (mh P s)).length=len at *;have QQ:((len:Int)==0)=false:=by simp;omega
   have SR:¬(len:Int)=0:=aj;have aaM:¬len=0:=aj;generalize mh P s=q0 at *;clear hk aY;go_upto_region 5 with(first|(go_at_call 185;refine HL.mono ?_;rintro e W1 ⟨rfl,rfl⟩)|(go_at_call 192;refine lD.mono ?_;rintro e W1 ⟨rfl,rfl⟩));have Xz:=aq (bJ P s=if P.ghost<((bh P s).S P.q).length then {bh P s with S:=pC (bh P s).S (gU ((bh P s).S P.q))} else bh P s) (rfl);have HGH:=aq (bh P s= {s with S:=uA s.S P.q (dq P s)}) (rfl);generalize uB:dq P s=v at *;obtain⟨n,rfl⟩:=Int.eq_ofNat_of_zero_le HVR.1;have JD:=ae uB;clear uB;have hn:n<64:=by have:=HVR.2;omega
   have HFR:=ae<|iW (i:=P.q) (n:=n) wr.drew HM.drew.sp aj hn;clear hn QQ SR aaM Ks HL lD HV;refine gg (fun w':World=>w'=wr.drew) 8 ?_ ?_
   ·rfl
   intro aC;refine bE [0,1,2,3,4,5,7] ?_;refine cX 6 fun K hK=>?_
   go_simp;refine(p6 HM.drew).mono ?_;rintro e W2 ⟨rfl,rfl⟩;refine dy hK ?_ fun aC=>?_
   ·rfl
   clear hK;refine dE ?_;clear aC;go_upto_region 6 with(go_at_call 188;refine HFR.mono ?_;rintro e W2 ⟨rfl,uC,bq⟩);have wV:gZ W2 p g eb P (bh P s):=by rw[HGH.out];exact HM.drew.step bq uC
   have Dj:=ae wV;have bu:=ae<|((af.ai (wY p g eb) wr).drew).aG bq fun k hk=>.inl hk.Nt;have jY:=ae<|fun q=>my P.q (W2.drewN q) (wV.drewN q).sp aj;have x0b:=wV.m.ptr;have x4:=wV.m.ghost;have HLX:=ae<|fun W (hm:gZ W p g eb P (bh P s))=>p9 P.q W hm.sp aj;have HSP:=ae wV.sp;clear wV uC bq HFR HM HGH x0;generalize bh P s=t at *
   by_cases hg:P.ghost<(t.S P.q).length
   ·have HE:=ae<|Xz.trans (if_pos hg);have Wn:(P.ghost:Int)<(t.S P.q).length:=aj;have hne:t.S P.q≠[]:=fun e=>by rw[e]at hg;simp at hg
    have aby:=ae (fun W hm=>by have:=HLX.out W hm;rw[if_neg hne]at this;exact this);have bL:=pV hne;generalize gU (t.S P.q)=old at *;have hold:=HSP.lC bL;obtain⟨m,rfl⟩:=Int.eq_ofNat_of_zero_le hold.1;have JH:=ae<|fun W (hm:gZ W p g eb P t)=>ku (i:=P.q) (n:=m) W hm.sp bL;generalize(t.S P.q).length=tl at *;clear hne bL hold HLX hg
    go_quiet ((first|(go_at_call 207;exact gl (p6 (Dj.drewN _)))|(go_at_call 185;exact gl (jY _))))
    go_wp2_with fail;have x0c:aM (W2.drewN nq) p 0 (aO g):=x0b;have w9:=ae<|Dj.drewN nq;have bI:=ae<|bu.drewN nq;clear x0b x4 Dj bu jY HSP;generalize W2.drewN nq=W3 at *
    go_quiet ((first|(go_at_call 207;exact gl (p6 (w9.drewN _)))|(go_at_call 192;exact gl (aby _ (w9.drewN _)))))
    go_wp2_with fail;refine(JH _ (w9.drewN _)).mono ?_;rintro e W4 ⟨rfl,JX,ey⟩;go_wp2_with fail;go_ret;rw[HE.out,JD.out];exact⟨rfl,(w9.drewN _).step ey JX,(bI.drewN _).aG ey fun k hk=>.inl hk.Nt⟩
   ·have HE:=ae<|Xz.trans (if_neg hg);have Wn:¬(P.ghost:Int)<(t.S P.q).length:=aj;generalize(t.S P.q).length=tl at *;have hgn:tl≤P.ghost:=aj;clear hg HLX HSP
    go_quiet ((first|(go_at_call 207;exact gl (p6 (Dj.drewN _)))|(go_at_call 185;exact gl (jY _))))
    go_wp2_with fail;go_ret;rw[HE.out,JD.out];exact⟨rfl,Dj.drewN _,bu.drewN _⟩
end
theorem lT {P:cI}{s:cC}{b:Int}(h:xH (P.q+1) s.S):N8 P s b=true↔∃i,b∈s.S i:=by
 unfold N8;rw[List.any_eq_true]
 constructor
 ·rintro⟨i,_,hi⟩;exact⟨i,by simpa using hi⟩
 ·rintro⟨i,hi⟩;have uD:i<P.q+1:=by
   rcases Nat.lt_or_ge i (P.q+1)with h2|h2
   ·exact h2
   ·rw[h.out i h2]at hi;cases hi
  exact⟨i,List.mem_range.2 uD,by simpa using hi⟩
section
variable {w:World}{p g eb:Nat}{P:cI}{s:cC}
def tU (p g eb:Nat)(P:cI)(s:cC)(b:Int)(w:World)(e:Ending)(w':World):Prop:=
 e= .returned (.tuple #[ah (cP P s b).2.1,.bool (cP P s b).2.2,ah 0])∧gZ w' p g eb P (cP P s b).1∧af (wY p g eb) w w'
theorem IH {n:Nat}(hP:P.Ok)(h:gZ w p g eb P s)(bN:dJ P s)(h1:s.now≤1000000000)(hb:(n:Int)∈aI P s):
 Calls Tryz.prog 197 #[aO p,ah n] w (tU p g eb P s n w):=by
 have rh:=ae (show cP P s n=(kC P s n,0,false) by unfold cP;rw[if_pos hb]);have HU:=ae<|Lg hP h bN h1 hb;have qM:(n:Int)<64:=(iL bN hb).2;have yR:(0:Int)≤n:=aj;clear hP h bN h1 hb
 go_enter Tryz.func197,Tryz.ntmps197
 go_wp2_with (go_at_call 202;refine HU.out.mono ?_;rintro e W1 ⟨rfl,NC,aK⟩)
 go_ret3
 exact⟨by rw[rh.out];rfl,by rw[rh.out];exact NC,aK⟩
theorem oH{P:Prop}(h:P:=by
 have xo:aF W5.drew p (6+n) (f.often n):=Kb.out.m.often HN.out;have fo:W5.drew.frozen? ⟨p,6+n,none⟩=false:=Box.free Kb.out.m _;have hwo:IntKind.i64.wrap (f.often n+1)=f.often n+1:=by have:=Gs.out;rw[IntKind.wrap_i64];omega
 have Nh:=aq (gZ (W5.setCell ⟨p,6+n,none⟩ (ah (f.often n+1))).drew p g eb P (cG f n)) ((Kb.out.pX HN.out _).drew);have iu:=aq (af (wY p g eb) w (W5.setCell ⟨p,6+n,none⟩ (ah (f.often n+1))).drew) ((ek.out.setCell (p:=⟨p,6+n,none⟩) (.inl (.inl rfl)) _).drew);refine gg (fun w':World=>w'=W5.drew) 10 ?_ ?_
 ·rfl
 intro aC;refine bE [0,1,2,3,4,5,6,7,8,9] ?_;refine dE ?_;clear aC;go_upto_region 14 with fail;change Code.wp _ _ _ _ (W5.setCell ⟨p,6+n,none⟩ (ah (f.often n+1))).drew;clear xo fo hwo;generalize(W5.setCell ⟨p,6+n,none⟩ (ah (f.often n+1))).drew=W6 at *;have Gq:=ae<|tI (b:=(n:Int)) HP.out Sz.out (by have:=Gs.out;omega) yR qM;have R4:(cG f n).often n=f.often n+1:=by show aV f.often n (f.often n+1) n=_;unfold aV;rw[if_pos rfl]
 have uZ:=ae<|B6 HN.out HP.out Nh.out (by have:=Gs.out;show 0≤f.now;omega) (by have:=Gs.out;show f.now≤2000000000;omega) (by rw[R4];have:=Gs.out;omega) (by rw[R4];have:=Gs.out;omega);have Ng:=ae (show(ea P (cG f n) n).now≤2000000000 by have:=Gs.out;show f.now≤2000000000;omega);clear R4;go_wp2_with (first|(go_at_call 205;refine uZ.out.mono ?_;rintro e W7 ⟨rfl,NB,l4⟩;have wS:=ae NB;have pz:=ae<|iu.out.trans l4;have Gv:=ae<|Lh HP.out NB Gq.out Ng.out;clear NB l4)|(go_at_call 203;refine Gv.out.mono ?_;rintro e W8 ⟨rfl,hm8,iz⟩))
 go_ret3
 exact⟨by rw[rh.out];rfl,by rw[rh.out];exact hm8,pz.out.trans iz⟩):P:=h
theorem oO{P:Prop}(h:P:=by
 have y0:aM W3 p 0 (aO g):=w9.out.m.ptr;have Sz:=ae (lY pF.out (n:Int) JE.out.1 NT.out).1;have Gs:=aq ((0≤(bz P t n).often n∧(bz P t n).often n+1≤(bz P t n).now)∧0≤(bz P t n).now∧(bz P t n).now≤1000000001) (by
  obtain⟨f1,f2,f3,f4⟩:=lY pF.out (n:Int) JE.out.1 NT.out;have h2:=JE.out;exact⟨⟨(f1.often n).1,aj⟩,aj,aj⟩)
 by_cases bL:∃i,(n:Int)∈t.S i
 ·have Fp:=ae (show bz P t n=t by unfold bz;rw[if_pos ((lT pF.out.dj).2 bL)]);rw[Fp.out]at Sz Gs;obtain⟨i,hi⟩:=bL;have Nf:=ae<|BF (i:=i) W3 w9.out.sp hi;rw[Fp.out]at rh;clear hi Fp;go_upto_region 13 with(go_at_call 190;refine Nf.out.mono ?_;rintro e W4 ⟨rfl,rfl⟩);obtain⟨W5,hw5⟩:∃W5,W5=W3:=⟨_,rfl⟩;rw[←hw5]at w9 bI ⊢;clear hw5 Nf y0;generalize t=f at *;have Kb:=aq (gZ W5 p g eb P f) (w9.out);have ek:=aq (af (wY p g eb) w W5) (bI.out);exact oH
 ·have NA:N8 P t n≠true:=fun h=>bL ((lT pF.out.dj).1 h)
  have Fp:=ae (show bz P t n= {t with often:=aV t.often n 0} by unfold bz;rw[if_neg NA]);have Nf:=ae<|Fv W3 w9.out.sp fun i hi=>bL ⟨i,hi⟩;have yo:aF W3 p (6+n) (t.often n):=w9.out.m.often HN.out;have yf:W3.frozen? ⟨p,6+n,none⟩=false:=Box.free w9.out.m _;clear bL NA;go_upto_region 13 with(go_at_call 190;refine Nf.out.mono ?_;rintro e W4 ⟨rfl,rfl⟩);have abx:=ae (show gZ (W3.setCell ⟨p,6+n,none⟩ (ah 0)) p g eb P (bz P t n) by rw[Fp.out];exact w9.out.pX HN.out 0);have OL:=ae<|bI.out.setCell (p:=⟨p,6+n,none⟩) (.inl (show wY p g eb p from .inl rfl)) (ah 0);change Code.wp _ _ _ _ (W3.setCell ⟨p,6+n,none⟩ (ah 0));clear yo yf Nf y0 Fp;generalize W3.setCell ⟨p,6+n,none⟩ (ah 0)=W5 at *;generalize bz P t n=f at *;have Kb:=aq (gZ W5 p g eb P f) (abx.out);have ek:=aq (af (wY p g eb) w W5) (OL.out);exact oH):P:=h
theorem Eu {n:Nat}(hP:P.Ok)(h:gZ w p g eb P s)(hI:uH P s)(h1:s.now≤1000000000)(hn:n<64)(hb:(n:Int)∉aI P s):
 Calls Tryz.prog 197 #[aO p,ah n] w (tU p g eb P s n w):=by
 have HU:=ae<|IG h hI.ok hb;have qM:(n:Int)<64:=aj;have yR:(0:Int)≤n:=aj;have x5:=h.m.now;have f5:w.frozen? ⟨p,5,none⟩=false:=Box.free h.m _;have h0:=hI.ok.now;have VY:IntKind.i64.wrap (s.now+1)=s.now+1:=by rw[IntKind.wrap_i64];omega
 have Fm:=aq (gZ (w.setCell ⟨p,5,none⟩ (ah (s.now+1))) p g eb P (bt s)) (h.zn _);have bc:=aq (af (wY p g eb) w (w.setCell ⟨p,5,none⟩ (ah (s.now+1)))) ((af.ai _ w).setCell (p:=⟨p,5,none⟩) (.inl (.inl rfl)) _);have HI:=ae hI;have HP:=ae hP;have HN:=ae hn;have uv:=aq (0≤s.now∧s.now≤1000000000) (⟨h0,h1⟩);have HB:=ae hb;have AE:=aq (uH P (bt s)) (⟨qz hI.ok,hI.len,hI.gh⟩);have Br:=aq (∀y,(bt s).often y+1≤(bt s).now) (fun y=>by have:=(hI.ok.often y).2;show s.often y+1≤s.now+1;omega);have Bs:=aq (1≤(bt s).now∧(bt s).now≤1000000001) (by show 1≤s.now+1∧s.now+1≤1000000001;omega);clear h hI hP hb h1 hn h0
 go_enter Tryz.func197,Tryz.ntmps197
 go_upto_region 8 with(go_at_call 202;refine HU.out.mono ?_;rintro e W1 ⟨rfl,rfl⟩);change Code.wp _ _ _ _ (w.setCell ⟨p,5,none⟩ (ah (s.now+1)));clear x5 f5 HU VY;generalize w.setCell ⟨p,5,none⟩ (ah (s.now+1))=W2 at *;have x1:aF W2 p 1 P.cap:=Fm.out.m.cap;have Ke:=aq ((aI P (bt s)).length=(aI P s).length) (rfl);have jY:=ae<|fun q=>TG HP.out (Fm.out.drewN q) AE.out.ok.dj;rw[Ke.out]at jY;have N4:=ae (show cP P s n=if(aI P s).length=P.cap then(dV P (bz P (bJ P (bt s)) n) n,dq P (bt s),true)else(dV P (bz P (bt s) n) n,0,false) by unfold cP;rw[if_neg HB.out])
 by_cases hc:(aI P s).length=P.cap
 ·have rh:=ae<|N4.out.trans (if_pos hc);have hne:aI P (bt s)≠[]:=fun e=>by have:=HP.out.c1;have e:aI P s= []:=e;rw[e]at hc;simp at hc;omega
  have Xz:=ae<|fun W (hm:gZ W p g eb P (bt s))=>Ma HP.out hm AE.out.ok hne;obtain⟨e1,e2,e3,_,_⟩:=tP HP.out AE.out hne;have pF:=ae e1;have JE:=ae (show 1≤(bJ P (bt s)).now∧(bJ P (bt s)).now≤1000000001 by rw[e2];exact Bs.out);have NT:=aq (∀y,(bJ P (bt s)).often y+1≤(bJ P (bt s)).now) (fun y=>by rw[e2,e3];exact Br.out y);rw[hc]at jY;clear e1 e2 e3 hne hc
  go_quiet ((go_at_call 200;exact gl (jY.out _)))
  have Dj:=ae<|Fm.out.drewN nq;have bu:=ae<|bc.out.drewN nq;clear x1 jY Fm bc;generalize W2.drewN nq=W2' at *;have ks:=ae<|Xz.out W2' Dj.out;go_upto_region 10 with(go_at_call 204;refine ks.out.mono ?_;rintro e W3 ⟨rfl,Dd,bV⟩);have w9:=ae Dd;have bI:=ae<|bu.out.trans bV;clear Dd bV ks Xz Dj bu N4;generalize dq P (bt s)=v at *;generalize bJ P (bt s)=t at *;exact oO
 ·have rh:=ae<|N4.out.trans (if_neg hc);have jV:(((aI P s).length:Int)==(P.cap:Int))=false:=by simp;omega
  have GK:¬(aI P s).length=P.cap:=hc;have pF:=ae AE.out.ok;have JE:=ae Bs.out;have NT:=ae Br.out;generalize(aI P s).length=len at *;clear hc
  go_quiet ((go_at_call 200;exact gl (jY.out _)))
  have w9:=ae<|Fm.out.drewN nq;have bI:=ae<|bc.out.drewN nq;clear x1 jY Fm bc N4 AE Br Bs Ke;generalize W2.drewN nq=W3 at *;generalize bt s=t at *;go_upto_region 10 with fail;exact oO
theorem TI {n:Nat}(hP:P.Ok)(h:gZ w p g eb P s)(hI:uH P s)(h1:s.now≤1000000000)(hn:n<64):
 Calls Tryz.prog 197 #[aO p,ah n] w (tU p g eb P s n w):=by
 by_cases hb:(n:Int)∈aI P s
 ·exact IH hP h hI.ok h1 hb
 ·exact Eu hP h hI h1 hn hb
end
end Go.Proofs.YtpcfhbeakecihaaGreat
