/- Lemmas. -/
import Derived.Test.YtchofaecncibjaaGreatM29
import Derived.BigQuiet
set_option linter.all false
set_option maxHeartbeats 20000000
set_option maxRecDepth 100000
namespace Go.Proofs.YtchofaecncibjaaGreat
open Go.ChangeShapes Go.RowKit Go.WideShapes
theorem zg {P:dN}{s:dB}{b:Int}(hP:P.Ok)(h:fi P s)(ho:s.often b+1≤s.now)(h0:0≤b)(h1:b<64):fi P (fN P (dI s b) b):=by
 have hm:fi P (dI s b):=⟨h.dj,h.now,fun y=>by
  show 0≤aT s.often b (s.often b+1) y∧aT s.often b (s.often b+1) y≤s.now
  unfold aT;have h2:=h.often b;have h3:=h.often y
  split<;>omega⟩
 exact wa hm (by have:=SR hP ((dI s b).often b);omega) h0 h1
def Zn (w:World)(p g eb:Nat)(P:dN)(s:dB)(q:Value)(wr:World):Prop:=
 ∃j:Nat,j+1≤P.q∧q=ah ((j:Int)+1)∧jW wr p g eb P (ch P s j)∧ag (C6 p g eb) w wr
theorem jW.drewN {w:World}{p g eb:Nat}{P:dN}{s:dB}(h:jW w p g eb P s)(n:Nat):jW (w.drewN n) p g eb P s:=h.aA (F:=az) ((ag.aj az w).drewN n) id id id
section
variable {w:World}{p g eb:Nat}{P:dN}{s:dB}
theorem qm{P:Prop}(h:P:=by
 go_upto_region 4 with(go_at_call 129;refine mF.mono ?_;rintro e W1 ⟨rfl,rfl⟩)
 go_quiet (fail)
 go_wp2
 go_roundw
 case rel=>exact⟨j+1,by have:=bL.out;omega,by push_cast;rfl,by rw[HT.out,HD.out];exact HM.drewN _,HO.drewN _⟩
 case measure=>simp[intOf];have:=bL.out;omega):P:=h
theorem SQ (hP:P.Ok)(h:jW w p g eb P s)(cD:fi P s)(h1:s.now≤2000000000):
 Calls Tryz.prog 202 #[aO p] w fun e w'=>e= .returned (.tuple #[])∧jW w' p g eb P (DQ P s)∧ag (C6 p g eb) w w':=by
 have HH:=ae h;have HP:=ae hP;have HK:=ae cD;have HN:=ae h1;have HS:=aB (Zn w p g eb P s (ah 1) w) (⟨0,by have:=hP.q1;omega,rfl,h,ag.aj _ _⟩);have Uz:=hP.q8;clear h hP cD h1
 go_enter Tryz.func202,Tryz.ntmps202
 go_wp2_with fail
 go_loopw [2] (fun q wr=>Zn w p g eb P s q wr) (fun q _=>P.q - (intOf q).toNat)
 case atStart=>exact HS
 case round=>
  clear HS;obtain⟨j,hj,rfl,hm,ho⟩:=hrel;have x0:=hm.m.ptr;have x2:=hm.m.q
  by_cases aY:j+1<P.q
  ·have iV:(j:Int)+1<P.q:=ao;have Uy:=pn HK j ao;have HT:=aB (ch P s (j+1)=ik P (ch P s j) (j+1)) (rfl);have mF:=o7 (j+1) wr hm.sp ao;rw[show((j+1:Nat):Int)=(j:Int)+1 by omega]at mF;have HM:=ae hm;have HSM:=ae Uy;have HO:=ae ho;have bL:=ae aY;have Qd:IntKind.i64.wrap ((j:Int)+1+1)=(j:Int)+1+1:=by rw[IntKind.wrap_i64];omega
   have Ku:0≤(ch P s j).now∧(ch P s j).now≤2000000000:=by have h2:=Uy.now;have h3:=HK.now;have h4:=HN.out;omega
   have py:=ae Ku;clear hm Uy ho Ku hj aY
   by_cases hS:(ch P s j).S (j+1)= []
   ·rw[if_pos hS]at mF;have mF:=ae mF;have HD:=ae (show ik P (ch P s j) (j+1)=ch P s j by unfold ik nj;rw[if_neg (by simp[hS])]);clear hS;exact qm
   ·rw[if_neg hS]at mF;have bw:=tN hS;have uV:=HSM.ok.dj.kA bw;have mF:=ae mF;have HSN:=ae hS;have Ki:=ae (show nj (ch P s j) (j+1)=decide ((ch P s j).exp (eB ((ch P s j).S (j+1)))<(ch P s j).now) by unfold nj;simp[hS]);have eV:=aB (ik P (ch P s j) (j+1)=if nj (ch P s j) (j+1)=true then iC P (ch P s j) j (eB ((ch P s j).S (j+1)))else ch P s j) (rfl);generalize eB ((ch P s j).S (j+1))=b at *;obtain⟨n,rfl⟩:=Int.eq_ofNat_of_zero_le uV.1;have hn:n<64:=ao;have kD:=ae hn;have xe:=HM.m.exp hn;have x5:=HM.m.now;have sS:(n:Int)<64:=ao;have wJ:(0:Int)≤n:=ao;clear hS bw uV hn
    by_cases hd:(ch P s j).exp n<(ch P s j).now
    ·have HD:=ae (show ik P (ch P s j) (j+1)=iC P (ch P s j) j n by rw[eV.out,if_pos (by rw[Ki.out];exact decide_eq_true hd)]);have HF:=ae<|fun q=>kq (i:=j) (n:=n) (wr.drewN q) (HM.drewN q).sp (by have:=bL.out;omega) kD;generalize hex:(ch P s j).exp n=ex at *;generalize F1:(ch P s j).now=nw at *;have Gw:=ae F1;clear hex F1 eV Ki;go_upto_region 4 with(go_at_call 129;refine mF.mono ?_;rintro e W1 ⟨rfl,rfl⟩)
     go_quiet (fail)
     have x0q:aE (wr.drewN nq) p 0 (aO g):=x0;have x2q:aw (wr.drewN nq) p 2 P.q:=x2;have HFQ:=ae<|HF nq;have HMQ:=ae<|HM.drewN nq;have HOQ:=ae<|HO.drewN nq;clear x0 x2 xe x5 HF mF;generalize wr.drewN nq=W1 at *;go_wp2_with (first|(go_at_call 105;refine HFQ.mono ?_;rintro e W2 ⟨rfl,kC,bp⟩;have nz:=ae<|HMQ.step bp kC;have fv:=ae<|Iz kD HP nz (by rw[Gw.out];exact py.1) (by rw[Gw.out];exact py.2);have bf:=ae bp;clear kC bp)|(go_at_call 207;refine fv.mono ?_;rintro e W3 ⟨rfl,CZ,cB⟩;have oG:=ae CZ;have bn:=ae cB;clear CZ cB))
     go_roundw
     case rel=>exact⟨j+1,by have:=bL.out;omega,by push_cast;rfl,by rw[HT.out,HD.out];exact oG,(HOQ.aC bf fun k hk=>.inl hk.UU).aC bn fun k hk=>.inl (.inl hk)⟩
     case measure=>simp[intOf];have:=bL.out;omega
    ·have HD:=ae (show ik P (ch P s j) (j+1)=ch P s j by rw[eV.out,if_neg (by rw[Ki.out];simpa using hd)]);generalize hex:(ch P s j).exp n=ex at *;generalize F1:(ch P s j).now=nw at *;clear hex F1 eV Ki;have hdn:nw≤ex:=ao;exact qm
  ·have he:j+1=P.q:=ao;have hqi:¬((j:Int)+1<P.q):=ao;have HE:=ae (show DQ P s=ch P s j by unfold DQ;rw[show P.q - 1=j by omega]);have HM:=ae hm;have HO:=ae ho;have hqd:decide ((j:Int)+1<P.q)=false:=by simpa using hqi
   clear hm ho he hj aY;go_wp2_with fail
   go_end0
   rw[HE.out];exact⟨rfl,HM,HO⟩
theorem SN {n:Nat}(hP:P.Ok)(h:jW w p g eb P s)(cD:fi P s)(h1:s.now≤1000000000)(hb:(n:Int)∈aV P s):
 Calls Tryz.prog 201 #[aO p,ah n] w fun e w'=>e= .returned (.bool true)∧jW w' p g eb P (ni P s n)∧ag (C6 p g eb) w w':=by
 have hn:n<64:=by have:=(lh cD hb).2;omega
 have HC:=Fj (n:Int) h cD.dj;rw[decide_eq_true hb]at HC;have HC:=ae HC;have x5:=h.m.now;have f5:w.frozen? ⟨p,5,none⟩=false:=Box.free h.m _;have h0:=cD.now;have hwn:IntKind.i64.wrap (s.now+1)=s.now+1:=by rw[IntKind.wrap_i64];omega
 have EX:=aB (jW (w.setCell ⟨p,5,none⟩ (ah (s.now+1))) p g eb P (bI s)) (h.Ff _);have aX:=aB (ag (C6 p g eb) w (w.setCell ⟨p,5,none⟩ (ah (s.now+1)))) ((ag.aj _ w).setCell (p:=⟨p,5,none⟩) (.inl (.inl rfl)) _);have Gv:=ae cD;have HP:=ae hP;have HN:=ae hn;have py:=aB (0≤s.now∧s.now≤1000000000) (⟨h0,h1⟩);have HB:=ae hb;have sS:(n:Int)<64:=ao;have wJ:(0:Int)≤n:=ao;clear h cD hP hb h1 hn
 go_enter Tryz.func201,Tryz.ntmps201
 go_upto_region 4 with(go_at_call 198;refine HC.mono ?_;rintro e W1 ⟨rfl,rfl⟩);change Code.wp _ _ _ _ (w.setCell ⟨p,5,none⟩ (ah (s.now+1)));clear x5 f5 HC;generalize w.setCell ⟨p,5,none⟩ (ah (s.now+1))=W2 at *;have CN:=Gv.often n;have xo:aw W2.drew p (6+n) (s.often n):=EX.m.often HN;have fo:W2.drew.frozen? ⟨p,6+n,none⟩=false:=Box.free EX.m _;have hwo:IntKind.i64.wrap (s.often n+1)=s.often n+1:=by have:=py.out;rw[IntKind.wrap_i64];omega
 have oG:=aB (jW (W2.setCell ⟨p,6+n,none⟩ (ah (s.often n+1))).drew p g eb P (dI (bI s) n)) ((EX.tR HN _).drew);have bn:=aB (ag (C6 p g eb) w (W2.setCell ⟨p,6+n,none⟩ (ah (s.often n+1))).drew) ((aX.setCell (p:=⟨p,6+n,none⟩) (.inl (.inl rfl)) _).drew);have My:=ae CN;clear CN;refine oa (fun w':World=>w'=W2.drew) 10 ?_ ?_
 ·rfl
 intro aH;refine bX [0,1,2,3,4,5,6,7,8,9] ?_;refine cG ?_;clear aH;go_upto_region 5 with fail;change Code.wp _ _ _ _ (W2.setCell ⟨p,6+n,none⟩ (ah (s.often n+1))).drew;clear xo fo hwo hwn HC;generalize(W2.setCell ⟨p,6+n,none⟩ (ah (s.often n+1))).drew=W3 at *;have HPO:=ae<|zg (b:=(n:Int)) HP (uk Gv) (by have:=My.out;show s.often n+1≤s.now+1;omega) wJ sS;have AZ:(dI (bI s) n).often n=s.often n+1:=by show aT s.often n (s.often n+1) n=_;unfold aT;rw[if_pos rfl]
 have ui:=ae<|IA HN HP oG (by have:=py.out;show 0≤s.now+1;omega) (by have:=py.out;show s.now+1≤2000000000;omega) (by rw[AZ];have:=My.out;omega) (by rw[AZ];have:=My.out;have:=py.out;omega);have Gw:=ae (show(fN P (dI (bI s) n) n).now≤2000000000 by have:=py.out;show s.now+1≤2000000000;omega);clear AZ;go_wp2_with (first|(go_at_call 204;refine ui.mono ?_;rintro e W4 ⟨rfl,NI,cI⟩;have yw:=ae NI;have bK:=ae<|bn.trans cI;have HAG:=ae<|SQ HP NI HPO Gw;clear NI cI)|(go_at_call 202;refine HAG.mono ?_;rintro e W5 ⟨rfl,ZG,cA⟩));go_ret;exact⟨rfl,ZG,bK.trans cA⟩
theorem Pc {b:Int}(h:jW w p g eb P s)(cD:fi P s)(hb:b∉aV P s):
 Calls Tryz.prog 201 #[aO p,ah b] w fun e w'=>e= .returned (.bool false)∧w=w':=by
 have HC:=Fj b h cD.dj;rw[decide_eq_false hb]at HC;have HC:=ae HC;clear h cD hb
 go_enter Tryz.func201,Tryz.ntmps201
 go_wp2_with (go_at_call 198;refine HC.mono ?_;rintro e W1 ⟨rfl,rfl⟩);go_ret;exact⟨rfl,rfl⟩
end
theorem IH {m:Nat}{S:Nat→List Int}(h:DP m S)(k:Nat):(cL S k).length≤64:=
 uA 64 _ (wk h k) fun x hx=>by obtain⟨i,_,h2⟩:=(xH S x k).1 hx;exact h.kA h2
def Zg (w:World)(P:dN)(s:dB)(n i:Value)(wr:World):Prop:=∃k:Nat,k≤P.q∧i=ah k∧n=ah ((cL s.S k).length:Nat)∧wr=w
def Tb (w:World)(P:dN)(s:dB)(v i:Value)(wr:World):Prop:=∃(k:Nat) (l:List Int),k≤P.q∧i=ah ((k:Int) - 1)∧aF 3 wr w.heap.size v l∧cL s.S P.q=l ++ cL s.S k∧ag az w wr
def Zm (w:World)(P:dN)(s:dB)(q:Value)(wr:World):Prop:=∃k:Nat,k≤pB P s∧q=ah k∧wr=w
section
variable {w:World}{p g eb:Nat}{P:dN}{s:dB}
theorem SP (hP:P.Ok)(h:jW w p g eb P s)(hd:DP (P.q+1) s.S):
 Calls Tryz.prog 199 #[aO p] w fun e w'=>e= .returned (ah (aV P s).length)∧w=w':=by
 have x0:=h.m.ptr;have x2:=h.m.q;have HH:=ae h;have HD:=ae hd;have Uz:=hP.q8;have HS:=aB (Zg w P s (ah 0) (ah 0) w) (⟨0,dT _,rfl,rfl,rfl⟩);clear h hd hP
 go_enter Tryz.func199,Tryz.ntmps199
 go_wp2_with fail
 go_loopw [3,12] (fun n i wr=>Zg w P s n i wr) (fun _ i _=>P.q - (intOf i).toNat)
 case atStart=>exact HS
 case round=>
  clear HS;obtain⟨k,hk,rfl,rfl,rfl⟩:=hrel
  by_cases aY:k<P.q
  ·have iV:(k:Int)<P.q:=ao;have HL:=ae<|pL k wr HH.sp ao;have sS:=IH HD (k+1);have HF:=ae (show(cL s.S (k+1)).length=(cL s.S k).length+(s.S k).length by rw[cL,List.length_append];omega);rw[HF.out]at sS;generalize(cL s.S k).length=a at *;generalize(s.S k).length=b at *;have hw:IntKind.i64.wrap ((a:Int)+b)=(a:Int)+b:=by rw[IntKind.wrap_i64];omega
   have bL:=ae aY;clear aY hk;go_wp2_with (go_at_call 193;refine HL.mono ?_;rintro e W1 ⟨rfl,rfl⟩)
   go_roundw
   case rel=>exact⟨k+1,bL,by go_num,by rw[HF.out];go_num,rfl⟩
   case measure=>simp[intOf];have:=bL.out;omega
  ·obtain rfl:k=P.q:=ao;have HE:=aB ((aV P s).length=(cL s.S P.q).length) (rfl);generalize(cL s.S P.q).length=a at *;clear aY hk;go_wp2_with fail;go_ret;rw[HE.out];exact⟨rfl,rfl⟩
theorem abC {n:Nat}(h:jW w p g eb P s)(cD:fi P s)(hb:(n:Int)∈aV P s):
 Calls Tryz.prog 200 #[aO p,ah n] w fun e w'=>e= .returned (.bool true)∧jW w' p g eb P (zO s n)∧ag (C6 p g eb) w w':=by
 have HC:=Fj (n:Int) h cD.dj;rw[decide_eq_true hb]at HC;have HC:=ae HC;have x0:=h.m.ptr;obtain⟨i,_,hi⟩:=dz.1 hb;have HR:=ae<|kP (i:=i) w h.sp hi;have HH:=ae h;clear h cD hb hi
 go_enter Tryz.func200,Tryz.ntmps200
 go_wp2_with (first|(go_at_call 198;refine HC.mono ?_;rintro e W1 ⟨rfl,rfl⟩)|(go_at_call 130;refine HR.mono ?_;rintro e W2 ⟨rfl,kC,bp⟩));go_ret;exact⟨rfl,HH.step bp kC,bp.mono fun k hk=>.inl hk.UU⟩
theorem TI {i:Nat}(h:jW w p g eb P s)(hi:i<P.q):
 Calls Tryz.prog 205 #[aO p,ah i] w fun e w'=>∃v,e= .returned v∧aF 3 w' w.heap.size v (s.S i)∧ag az w w':=by
 have x0:=h.m.ptr;have x2:=h.m.q;have HA:=ae<|AU (i:=i) w h.sp ao;have C4:(i:Int)<P.q:=ao;have J6:¬(P.q:Int)≤i:=ao;have hi3:¬P.q≤i:=ao;have F4:(0:Int)≤i:=ao;clear h
 go_enter Tryz.func205,Tryz.ntmps205
 go_wp2_with (go_at_call 128;refine HA.mono ?_;rintro e W1 ⟨v,rfl,h1,h2⟩);go_ret;exact⟨v,rfl,h1,h2⟩
theorem abF (hP:P.Ok)(h:jW w p g eb P s)(hd:DP (P.q+1) s.S):
 Calls Tryz.prog 197 #[aO p] w fun e w'=>∃v,e= .returned v∧aF 3 w' w.heap.size v (aV P s)∧ag az w w':=by
 have x2:=h.m.q;have HH:=ae h;have HD:=ae hd;have Uz:=hP.q8;have hq1:=hP.q1;have hwq:IntKind.i64.wrap ((P.q:Int) - 1)=(P.q:Int) - 1:=by rw[IntKind.wrap_i64];omega
 have HS:=aB (Tb w P s aJ (ah ((P.q:Int) - 1)) w) (⟨P.q,[],dm _,rfl,aF.nil _ _ _,rfl,ag.aj _ _⟩);clear h hd hP
 go_enter Tryz.func197,Tryz.ntmps197
 go_wp2_with fail
 go_loopw [3,4] (fun v i wr=>Tb w P s v i wr) (fun _ i _=>(intOf i+1).toNat)
 case atStart=>exact HS
 case round=>
  clear HS hwq;obtain⟨k,l,hk,rfl,hl,he,ho⟩:=hrel
  cases k with
  |succ k=>
   rw[show((k+1:Nat):Int) - 1=(k:Int) by omega];have EO:(0:Int)≤k:=ao;have hk8:(k:Int)≤8:=ao;have HQ:=ae<|TI (i:=k) (HH.aA (F:=az) ho id id id) ao;have HL:=ae hl;have HO:=ae ho;have HK:=ae hk;have hlen:l.length+(s.S k).length≤1000000:=by
    have h1:=IH HD P.q;rw[he,cL,List.length_append,List.length_append]at h1;omega
   have nA:=ae hlen;have HE:=ae (show cL s.S P.q=(l ++ s.S k) ++ cL s.S k by rw[he,cL,List.append_assoc]);clear hl ho he hk hlen;go_wp2_with (first|(go_at_call 205;refine HQ.mono ?_;rintro e W1 ⟨u,rfl,h1,h2⟩;have HU:=ae h1;have aX:=ae<|HO.trans h2;have zJ:=ae<|HL.aA h2 fun _ _=>id;have HZ1:=aB (w.heap.size≤W1.heap.size) (aX.size);clear h1 h2)|(at_builtin;refine lp _ rfl (.tmp 17) (.tmp 20) 61 3 rfl iD Tryz.underlying61 w.heap.size _ l rfl zJ _ _ (s.S k) rfl HU nA HZ1 ?_;intro v2 W2 h3 h4;have CS:=ae h3;have bf:=ae<|aX.aC h4 fun q hq=>.inr (zJ.lt q hq).1;clear h3 h4))
   go_roundw
   case rel=>exact⟨k,l ++ s.S k,by have:=HK.out;omega,rfl,CS,HE,bf⟩
   case measure=>simp[intOf]
  |zero=>
   have HL:=ae hl;have HO:=ae ho;have HE:=ae (show aV P s=l by rw[show aV P s=cL s.S P.q from rfl,he,cL,List.append_nil]);clear hl ho he hk;rw[show((0:Nat):Int) - 1= -1 by decide];go_wp2_with fail;go_ret;rw[HE.out];exact⟨_,rfl,HL,HO⟩
theorem jA{P:Prop}(h:P:=by have:=JR.out;omega):P:=h
theorem TJ (hP:P.Ok)(h:jW w p g eb P s)(cD:fi P s)(hne:aV P s≠[]):
 Calls Tryz.prog 203 #[aO p] w fun e w'=>e= .returned (ah (eR P s))∧jW w' p g eb P (cC P s)∧ag (C6 p g eb) w w':=by
 have HM:=ae h;have HP:=ae hP;obtain⟨wI,hqs,hql⟩:=AK hne;have Zw:=lh cD (BO hne);have JR:=ae wI;have HQL:=ae hql;have HV:=aB (eR P s=eB (s.S (pB P s))) (rfl);have HQS:=ae hqs;have HS:=aB (Zm w P s (ah 0) w) (⟨0,dT _,rfl,rfl⟩);have Uz:=hP.q8;have HVR:=ae Zw;have x0:=h.m.ptr;clear h hP cD hne wI hqs hql Zw
 go_enter Tryz.func203,Tryz.ntmps203
 go_wp2_with fail
 go_loopw [3] (fun q wr=>Zm w P s q wr) (fun q _=>P.q - (intOf q).toNat)
 case atStart=>exact HS
 case round=>
  clear HS;obtain⟨k,hk,rfl,rfl⟩:=hrel
  by_cases aY:k<pB P s
  ·have HL:=pL k wr HM.sp jA;rw[HQL.out k aY]at HL;have HL:=ae HL;have bL:=aB (k<pB P s∧pB P s<P.q) (⟨aY,JR⟩);have hk8:(k:Int)≤8:=by have:=JR.out;omega
   clear hk aY;go_wp2_with (go_at_call 193;refine HL.mono ?_;rintro e W1 ⟨rfl,rfl⟩)
   go_roundw
   case rel=>exact⟨k+1,by have:=bL.out;omega,by go_num,rfl⟩
   case measure=>simp[intOf];have:=bL.out;omega
  ·obtain rfl:k=pB P s:=ao;have HL:=ae<|pL (pB P s) wr HM.sp jA;have mF:=o7 (pB P s) wr HM.sp jA;rw[if_neg HQS.out,←HV.out]at mF;have mF:=ae mF;have s6:0<(s.S (pB P s)).length:=List.length_pos_iff.2 HQS;generalize(s.S (pB P s)).length=len at *;have ye:((len:Int)==0)=false:=by simp;omega
   have aau:¬(len:Int)=0:=ao;have afa:¬len=0:=ao;generalize pB P s=q0 at *;clear hk aY;go_upto_region 5 with(first|(go_at_call 193;refine HL.mono ?_;rintro e W1 ⟨rfl,rfl⟩)|(go_at_call 129;refine mF.mono ?_;rintro e W1 ⟨rfl,rfl⟩));have HEV:=aB (cC P s=if P.ghost<((bC P s).S P.q).length then {bC P s with S:=s7 (bC P s).S (eB ((bC P s).S P.q))} else bC P s) (rfl);have HGH:=aB (bC P s= {s with S:=Ax s.S P.q (eR P s)}) (rfl);generalize Qe:eR P s=v at *;obtain⟨n,rfl⟩:=Int.eq_ofNat_of_zero_le HVR.1;have HVV:=ae Qe;clear Qe;have hn:n<64:=by have:=HVR.2;omega
   have Ge:=ae<|kq (i:=P.q) (n:=n) wr.drew HM.drew.sp ao hn;clear hn ye aau afa s6 HL mF HV;refine oa (fun w':World=>w'=wr.drew) 8 ?_ ?_
   ·rfl
   intro aH;refine bX [0,1,2,3,4,5,7] ?_;refine cM 6 fun K hK=>?_
   go_simp;refine(tT HM.drew).mono ?_;rintro e W2 ⟨rfl,rfl⟩;refine jS hK ?_ fun aH=>?_
   ·rfl
   clear hK;refine cG ?_;clear aH;go_upto_region 6 with(go_at_call 105;refine Ge.mono ?_;rintro e W2 ⟨rfl,kC,bp⟩);have pY:jW W2 p g eb P (bC P s):=by rw[HGH.out];exact HM.drew.step bp kC
   have nz:=ae pY;have bf:=ae<|((ag.aj (C6 p g eb) wr).drew).aC bp fun k hk=>.inl hk.UU;have nA:=ae<|fun q=>pL P.q (W2.drewN q) (pY.drewN q).sp ao;have x0b:=pY.m.ptr;have x4:=pY.m.ghost;have iA:=ae<|fun W (hm:jW W p g eb P (bC P s))=>o7 P.q W hm.sp ao;have HSP:=ae pY.sp;clear pY kC bp Ge HM HGH x0;generalize bC P s=t at *
   by_cases hg:P.ghost<(t.S P.q).length
   ·have HE:=ae<|HEV.trans (if_pos hg);have hgi:(P.ghost:Int)<(t.S P.q).length:=ao;have hne:t.S P.q≠[]:=fun e=>by rw[e]at hg;simp at hg
    have af0:=ae (fun W hm=>by have:=iA.out W hm;rw[if_neg hne]at this;exact this);have bw:=tN hne;generalize eB (t.S P.q)=old at *;have hold:=HSP.kA bw;obtain⟨m,rfl⟩:=Int.eq_ofNat_of_zero_le hold.1;have Qw:=ae<|fun W (hm:jW W p g eb P t)=>kP (i:=P.q) (n:=m) W hm.sp bw;generalize(t.S P.q).length=tl at *;clear hne bw hold iA hg
    go_quiet ((first|(go_at_call 206;exact ki (tT (nz.drewN _)))|(go_at_call 193;exact ki (nA _))))
    go_wp2_with fail;have x0c:aE (W2.drewN nq) p 0 (aO g):=x0b;have oG:=ae<|nz.drewN nq;have bn:=ae<|bf.drewN nq;clear x0b x4 nz bf nA HSP;generalize W2.drewN nq=W3 at *
    go_quiet ((first|(go_at_call 206;exact ki (tT (oG.drewN _)))|(go_at_call 129;exact ki (af0 _ (oG.drewN _)))))
    go_wp2_with fail;refine(Qw _ (oG.drewN _)).mono ?_;rintro e W4 ⟨rfl,ZC,cI⟩;go_wp2_with fail;go_ret;rw[HE.out,HVV.out];exact⟨rfl,(oG.drewN _).step cI ZC,(bn.drewN _).aC cI fun k hk=>.inl hk.UU⟩
   ·have HE:=ae<|HEV.trans (if_neg hg);have hgi:¬(P.ghost:Int)<(t.S P.q).length:=ao;generalize(t.S P.q).length=tl at *;have hgn:tl≤P.ghost:=ao;clear hg iA HSP
    go_quiet ((first|(go_at_call 206;exact ki (tT (nz.drewN _)))|(go_at_call 193;exact ki (nA _))))
    go_wp2_with fail;go_ret;rw[HE.out,HVV.out];exact⟨rfl,nz.drewN _,bf.drewN _⟩
end
theorem oZ {P:dN}{s:dB}{b:Int}(h:DP (P.q+1) s.S):VD P s b=true↔∃i,b∈s.S i:=by
 unfold VD;rw[List.any_eq_true]
 constructor
 ·rintro⟨i,_,hi⟩;exact⟨i,by simpa using hi⟩
 ·rintro⟨i,hi⟩;have CQ:i<P.q+1:=by
   rcases Nat.lt_or_ge i (P.q+1)with h2|h2
   ·exact h2
   ·rw[h.out i h2]at hi;cases hi
  exact⟨i,List.mem_range.2 CQ,by simpa using hi⟩
section
variable {w:World}{p g eb:Nat}{P:dN}{s:dB}
def zx (p g eb:Nat)(P:dN)(s:dB)(b:Int)(w:World)(e:Ending)(w':World):Prop:=
 e= .returned (.tuple #[ah (ey P s b).2.1,.bool (ey P s b).2.2,ah 0])∧jW w' p g eb P (ey P s b).1∧ag (C6 p g eb) w w'
theorem Pd {n:Nat}(hP:P.Ok)(h:jW w p g eb P s)(cD:fi P s)(h1:s.now≤1000000000)(hb:(n:Int)∈aV P s):
 Calls Tryz.prog 196 #[aO p,ah n] w (zx p g eb P s n w):=by
 have vf:=ae (show ey P s n=(ni P s n,0,false) by unfold ey;rw[if_pos hb]);have HU:=ae<|SN hP h cD h1 hb;have sS:(n:Int)<64:=(lh cD hb).2;have wJ:(0:Int)≤n:=ao;clear hP h cD h1 hb
 go_enter Tryz.func196,Tryz.ntmps196
 go_wp2_with (go_at_call 201;refine HU.out.mono ?_;rintro e W1 ⟨rfl,AA,aR⟩)
 go_ret3
 exact⟨by rw[vf.out];rfl,by rw[vf.out];exact AA,aR⟩
theorem sC{P:Prop}(h:P:=by
 have xo:aw W5.drew p (6+n) (f.often n):=Ra.out.m.often HN.out;have fo:W5.drew.frozen? ⟨p,6+n,none⟩=false:=Box.free Ra.out.m _;have hwo:IntKind.i64.wrap (f.often n+1)=f.often n+1:=by have:=NX.out;rw[IntKind.wrap_i64];omega
 have Qy:=aB (jW (W5.setCell ⟨p,6+n,none⟩ (ah (f.often n+1))).drew p g eb P (dI f n)) ((Ra.out.tR HN.out _).drew);have cZ:=aB (ag (C6 p g eb) w (W5.setCell ⟨p,6+n,none⟩ (ah (f.often n+1))).drew) ((bM.out.setCell (p:=⟨p,6+n,none⟩) (.inl (.inl rfl)) _).drew);refine oa (fun w':World=>w'=W5.drew) 10 ?_ ?_
 ·rfl
 intro aH;refine bX [0,1,2,3,4,5,6,7,8,9] ?_;refine cG ?_;clear aH;go_upto_region 14 with fail;change Code.wp _ _ _ _ (W5.setCell ⟨p,6+n,none⟩ (ah (f.often n+1))).drew;clear xo fo hwo;generalize(W5.setCell ⟨p,6+n,none⟩ (ah (f.often n+1))).drew=W6 at *;have HPO:=ae<|zg (b:=(n:Int)) HP.out wL.out (by have:=NX.out;omega) wJ sS;have AZ:(dI f n).often n=f.often n+1:=by show aT f.often n (f.often n+1) n=_;unfold aT;rw[if_pos rfl]
 have ui:=ae<|IA HN.out HP.out Qy.out (by have:=NX.out;show 0≤f.now;omega) (by have:=NX.out;show f.now≤2000000000;omega) (by rw[AZ];have:=NX.out;omega) (by rw[AZ];have:=NX.out;omega);have Gw:=ae (show(fN P (dI f n) n).now≤2000000000 by have:=NX.out;show f.now≤2000000000;omega);clear AZ;go_wp2_with (first|(go_at_call 204;refine ui.out.mono ?_;rintro e W7 ⟨rfl,hm7,dL⟩;have NV:=ae hm7;have fC:=ae<|cZ.out.trans dL;have HAG:=ae<|SQ HP.out hm7 HPO.out Gw.out;clear hm7 dL)|(go_at_call 202;refine HAG.out.mono ?_;rintro e W8 ⟨rfl,hm8,eT⟩))
 go_ret3
 exact⟨by rw[vf.out];rfl,by rw[vf.out];exact hm8,fC.out.trans eT⟩):P:=h
theorem q7{P:Prop}(h:P:=by
 have y0:aE W3 p 0 (aO g):=oG.out.m.ptr;have wL:=ae (pj vE.out (n:Int) lF.out.1 Vp.out).1;have NX:=aB ((0≤(bP P t n).often n∧(bP P t n).often n+1≤(bP P t n).now)∧0≤(bP P t n).now∧(bP P t n).now≤1000000001) (by
  obtain⟨f1,f2,f3,f4⟩:=pj vE.out (n:Int) lF.out.1 Vp.out;have h2:=lF.out;exact⟨⟨(f1.often n).1,ao⟩,ao,ao⟩)
 by_cases bw:∃i,(n:Int)∈t.S i
 ·have JT:=ae (show bP P t n=t by unfold bP;rw[if_pos ((oZ vE.out.dj).2 bw)]);rw[JT.out]at wL NX;obtain⟨i,hi⟩:=bw;have Qx:=ae<|BD (i:=i) W3 oG.out.sp hi;rw[JT.out]at vf;clear hi JT;go_upto_region 13 with(go_at_call 146;refine Qx.out.mono ?_;rintro e W4 ⟨rfl,rfl⟩);obtain⟨W5,hw5⟩:∃W5,W5=W3:=⟨_,rfl⟩;rw[←hw5]at oG bn ⊢;clear hw5 Qx y0;generalize t=f at *;have Ra:=aB (jW W5 p g eb P f) (oG.out);have bM:=aB (ag (C6 p g eb) w W5) (bn.out);exact sC
 ·have hnf:VD P t n≠true:=fun h=>bw ((oZ vE.out.dj).1 h)
  have JT:=ae (show bP P t n= {t with often:=aT t.often n 0} by unfold bP;rw[if_neg hnf]);have Qx:=ae<|MH W3 oG.out.sp fun i hi=>bw ⟨i,hi⟩;have yo:aw W3 p (6+n) (t.often n):=oG.out.m.often HN.out;have yf:W3.frozen? ⟨p,6+n,none⟩=false:=Box.free oG.out.m _;clear bw hnf;go_upto_region 13 with(go_at_call 146;refine Qx.out.mono ?_;rintro e W4 ⟨rfl,rfl⟩);have afZ:=ae (show jW (W3.setCell ⟨p,6+n,none⟩ (ah 0)) p g eb P (bP P t n) by rw[JT.out];exact oG.out.tR HN.out 0);have afT:=ae<|bn.out.setCell (p:=⟨p,6+n,none⟩) (.inl (show C6 p g eb p from .inl rfl)) (ah 0);change Code.wp _ _ _ _ (W3.setCell ⟨p,6+n,none⟩ (ah 0));clear yo yf Qx y0 JT;generalize W3.setCell ⟨p,6+n,none⟩ (ah 0)=W5 at *;generalize bP P t n=f at *;have Ra:=aB (jW W5 p g eb P f) (afZ.out);have bM:=aB (ag (C6 p g eb) w W5) (afT.out);exact sC):P:=h
theorem LA {n:Nat}(hP:P.Ok)(h:jW w p g eb P s)(hI:AE P s)(h1:s.now≤1000000000)(hn:n<64)(hb:(n:Int)∉aV P s):
 Calls Tryz.prog 196 #[aO p,ah n] w (zx p g eb P s n w):=by
 have HU:=ae<|Pc h hI.ok hb;have sS:(n:Int)<64:=ao;have wJ:(0:Int)≤n:=ao;have x5:=h.m.now;have f5:w.frozen? ⟨p,5,none⟩=false:=Box.free h.m _;have h0:=hI.ok.now;have hwn:IntKind.i64.wrap (s.now+1)=s.now+1:=by rw[IntKind.wrap_i64];omega
 have EX:=aB (jW (w.setCell ⟨p,5,none⟩ (ah (s.now+1))) p g eb P (bI s)) (h.Ff _);have aX:=aB (ag (C6 p g eb) w (w.setCell ⟨p,5,none⟩ (ah (s.now+1)))) ((ag.aj _ w).setCell (p:=⟨p,5,none⟩) (.inl (.inl rfl)) _);have HI:=ae hI;have HP:=ae hP;have HN:=ae hn;have py:=aB (0≤s.now∧s.now≤1000000000) (⟨h0,h1⟩);have HB:=ae hb;have C7:=aB (AE P (bI s)) (⟨uk hI.ok,hI.len,hI.gh⟩);have GQ:=aB (∀y,(bI s).often y+1≤(bI s).now) (fun y=>by have:=(hI.ok.often y).2;show s.often y+1≤s.now+1;omega);have GR:=aB (1≤(bI s).now∧(bI s).now≤1000000001) (by show 1≤s.now+1∧s.now+1≤1000000001;omega);clear h hI hP hb h1 hn h0
 go_enter Tryz.func196,Tryz.ntmps196
 go_upto_region 8 with(go_at_call 201;refine HU.out.mono ?_;rintro e W1 ⟨rfl,rfl⟩);change Code.wp _ _ _ _ (w.setCell ⟨p,5,none⟩ (ah (s.now+1)));clear x5 f5 HU hwn;generalize w.setCell ⟨p,5,none⟩ (ah (s.now+1))=W2 at *;have x1:aw W2 p 1 P.cap:=EX.out.m.cap;have Gd:=aB ((aV P (bI s)).length=(aV P s).length) (rfl);have nA:=ae<|fun q=>SP HP.out (EX.out.drewN q) C7.out.ok.dj;rw[Gd.out]at nA;have VB:=ae (show ey P s n=if(aV P s).length=P.cap then(fF P (bP P (cC P (bI s)) n) n,eR P (bI s),true)else(fF P (bP P (bI s) n) n,0,false) by unfold ey;rw[if_neg HB.out])
 by_cases hc:(aV P s).length=P.cap
 ·have vf:=ae<|VB.out.trans (if_pos hc);have hne:aV P (bI s)≠[]:=fun e=>by have:=HP.out.c1;have e:aV P s= []:=e;rw[e]at hc;simp at hc;omega
  have HEV:=ae<|fun W (hm:jW W p g eb P (bI s))=>TJ HP.out hm C7.out.ok hne;obtain⟨e1,e2,e3,_,_⟩:=zt HP.out C7.out hne;have vE:=ae e1;have lF:=ae (show 1≤(cC P (bI s)).now∧(cC P (bI s)).now≤1000000001 by rw[e2];exact GR.out);have Vp:=aB (∀y,(cC P (bI s)).often y+1≤(cC P (bI s)).now) (fun y=>by rw[e2,e3];exact GQ.out y);rw[hc]at nA;clear e1 e2 e3 hne hc
  go_quiet ((go_at_call 199;exact ki (nA.out _)))
  have nz:=ae<|EX.out.drewN nq;have bf:=ae<|aX.out.drewN nq;clear x1 nA EX aX;generalize W2.drewN nq=W2' at *;have nF:=ae<|HEV.out W2' nz.out;go_upto_region 10 with(go_at_call 203;refine nF.out.mono ?_;rintro e W3 ⟨rfl,CZ,cB⟩);have oG:=ae CZ;have bn:=ae<|bf.out.trans cB;clear CZ cB nF HEV nz bf VB;generalize eR P (bI s)=v at *;generalize cC P (bI s)=t at *;exact q7
 ·have vf:=ae<|VB.out.trans (if_neg hc);have fL:(((aV P s).length:Int)==(P.cap:Int))=false:=by simp;omega
  have acW:¬(aV P s).length=P.cap:=hc;have vE:=ae C7.out.ok;have lF:=ae GR.out;have Vp:=ae GQ.out;generalize(aV P s).length=len at *;clear hc
  go_quiet ((go_at_call 199;exact ki (nA.out _)))
  have oG:=ae<|EX.out.drewN nq;have bn:=ae<|aX.out.drewN nq;clear x1 nA EX aX VB C7 GQ GR Gd;generalize W2.drewN nq=W3 at *;generalize bI s=t at *;go_upto_region 10 with fail;exact q7
theorem abG {n:Nat}(hP:P.Ok)(h:jW w p g eb P s)(hI:AE P s)(h1:s.now≤1000000000)(hn:n<64):
 Calls Tryz.prog 196 #[aO p,ah n] w (zx p g eb P s n w):=by
 by_cases hb:(n:Int)∈aV P s
 ·exact Pd hP h hI.ok h1 hb
 ·exact LA hP h hI h1 hn hb
end
end Go.Proofs.YtchofaecncibjaaGreat
