/- Lemmas. -/
import Derived.Test.YtpcfhbeakecihaaGreatM10
import Derived.Deep.CutRange
set_option linter.all false
set_option maxHeartbeats 20000000
set_option maxRecDepth 100000
namespace Go.Proofs.YtpcfhbeakecihaaGreat
open Go.RowKit
structure adv (c:aQ):Prop where
 p0:1≤c.f 0∧c.f 0≤4
 p1:1≤c.f 1∧c.f 1≤4
 p2:1≤c.f 2∧c.f 2≤32
 p3:1≤c.f 3∧c.f 3≤16
structure adw (c:aQ):Prop where
 q:adv c
 p4:1≤c.f 4∧c.f 4≤3
 p5:0≤c.f 5∧c.f 5≤2
 pp:c.f 5=0∨c.f 4=2
structure adx (c:aQ)(k:Nat):Prop where
 q:adw c
 l:∀t,t<k→(1≤c.f (6+t)∧c.f (6+t)≤2)∧(1≤c.f (9+t)∧c.f (9+t)≤16)
structure ady (c:aQ):Prop where
 q:adx c 3
 QD:1≤c.f 12∧c.f 12≤8
 UA:1≤c.f 13∧c.f 13≤100
 Uz:0≤c.f 14∧c.f 14≤16
 p15:1≤c.f 15∧c.f 15≤16
theorem ady.of {c:aQ}(p:dp c):ady c:=⟨⟨⟨⟨p.p0,p.p1,p.p2,p.p3⟩,p.p4,p.p5,p.pp⟩,fun t ht=>⟨p.pl t ht,p.pc t ht⟩⟩,p.QD,p.UA,p.Uz,p.p15⟩
theorem ady.cfg {c:aQ}(h:ady c)(hh:c.f 5=2∨c.h.length=0)(hs:cT (c.f 2) c.h):dp c:=
 ⟨h.q.q.q.p0,h.q.q.q.p1,h.q.q.q.p2,h.q.q.q.p3,h.q.q.p4,h.q.q.p5,h.q.q.pp,fun t ht=>(h.q.l t ht).1,fun t ht=>(h.q.l t ht).2,h.QD,h.UA,h.Uz,h.p15,hh,hs⟩
def aeX (c:aQ)(w1:World)(ok i:Value)(wr:World):Prop:=
 ∃(t:Nat) (b:Bool),t≤3∧i=ah t∧ok= .bool b∧(b=true↔adx c t)∧wr=w1
section
theorem aeq{P:Prop}(h:P:=by
 have Hb2:=aq (xj c=lz (c.f 2) c.h) (by
  rw[Bool.eq_iff_iff,vV,rS];exact⟨fun p=>p.hs,fun p=>HP.cfg HZ p⟩)
 go_wp2_with fail;refine(ae5 A n cp c.h (c.f 2) _ (H.keep HO) HQ.1 HQ.2).mono ?_;rintro e w6 ⟨rfl,fI⟩;have Ho6:=ae<|HO.cE fI;clear fI;go_wp2_with fail;go_ret;exact⟨by rw[Hb2.out];rfl,Ho6⟩):P:=h
theorem aer{P:Prop}(h:P:=by
 go_wp2_with fail
 go_meet
 exact⟨false,rfl,⟨fun h=>Bool.noConfusion h,fun h=>absurd (Hb.2 h.q) Bool.false_ne_true⟩,rfl⟩):P:=h
theorem aeO (A:Option Addr)(n cp:Nat)(c:aQ)(w:World)(h:aX w A n cp c.h):
 Calls Tryz.prog 21 #[.agg (ao c (.slice A n cp))] w fun e w'=>e= .returned (.bool (xj c))∧af au w w':=by
 have H:=ae h;clear h;have HO:=aq (af au w (w.alloc (.cells (ao c (.slice A n cp)) 25))) ((af.ai _ _).alloc _);have HB:=ae<|Box.fresh w 25 (ao c (.slice A n cp));have x0:=HB.ag (aL c (.slice A n cp) (i:=0) aj);have x1:=HB.ag (aL c (.slice A n cp) (i:=1) aj);have x2:=HB.ag (aL c (.slice A n cp) (i:=2) aj);have x3:=HB.ag (aL c (.slice A n cp) (i:=3) aj);have x4:=HB.ag (aL c (.slice A n cp) (i:=4) aj);have x5:=HB.ag (aL c (.slice A n cp) (i:=5) aj);have x12:=HB.ag (aL c (.slice A n cp) (i:=12) aj);have x13:=HB.ag (aL c (.slice A n cp) (i:=13) aj);have x14:=HB.ag (aL c (.slice A n cp) (i:=14) aj);have x15:=HB.ag (aL c (.slice A n cp) (i:=15) aj);have x16:=HB.ag (kX c (.slice A n cp))
 go_enter Tryz.func21,Tryz.ntmps21
 go_upto_region 1 with fail;generalize Nz:w.alloc (.cells (ao c (.slice A n cp)) 25)=w1 at *;have Hw1:=ae Nz;clear Nz
 go_cut [3]from 5 to 22 (fun s3 wx=>∃b:Bool,s3= .bool b∧(b=true↔adv c)∧wx=w1)
 case first=>
  go_wp2_with fail
  by_cases hh:1≤c.f 0∧c.f 0≤4
  rotate_left
  ·refine(adP hh _).mono ?_;rintro e w5 ⟨rfl,e5⟩;rw[←e5];clear e5;have HN:=ae hh;clear hh;go_wp2_with fail
   go_meet
   exact⟨false,rfl,⟨fun h=>Bool.noConfusion h,fun h=>absurd h.p0 HN⟩,rfl⟩
  have H0:=ae hh;refine(adN hh _).mono ?_;rintro e w5 ⟨rfl,e5⟩;rw[←e5];clear e5 hh;go_wp2_with fail
  by_cases hh:1≤c.f 1∧c.f 1≤4
  rotate_left
  ·refine(adP hh _).mono ?_;rintro e w5 ⟨rfl,e5⟩;rw[←e5];clear e5;have HN:=ae hh;clear hh;go_wp2_with fail
   go_meet
   exact⟨false,rfl,⟨fun h=>Bool.noConfusion h,fun h=>absurd h.p1 HN⟩,rfl⟩
  have H1:=ae hh;refine(adN hh _).mono ?_;rintro e w5 ⟨rfl,e5⟩;rw[←e5];clear e5 hh;go_wp2_with fail
  by_cases hh:1≤c.f 2∧c.f 2≤32
  rotate_left
  ·refine(adP hh _).mono ?_;rintro e w5 ⟨rfl,e5⟩;rw[←e5];clear e5;have HN:=ae hh;clear hh;go_wp2_with fail
   go_meet
   exact⟨false,rfl,⟨fun h=>Bool.noConfusion h,fun h=>absurd h.p2 HN⟩,rfl⟩
  have H2:=ae hh;refine(adN hh _).mono ?_;rintro e w5 ⟨rfl,e5⟩;rw[←e5];clear e5 hh;go_wp2_with fail
  by_cases hh:1≤c.f 3∧c.f 3≤16
  rotate_left
  ·refine(adP hh _).mono ?_;rintro e w5 ⟨rfl,e5⟩;rw[←e5];clear e5;have HN:=ae hh;clear hh;go_wp2_with fail
   go_meet
   exact⟨false,rfl,⟨fun h=>Bool.noConfusion h,fun h=>absurd h.p3 HN⟩,rfl⟩
  have H3:=ae hh;refine(adN hh _).mono ?_;rintro e w5 ⟨rfl,e5⟩;rw[←e5];clear e5 hh;go_wp2_with fail
  go_meet
  exact⟨true,rfl,⟨fun _=>⟨H0,H1,H2,H3⟩,fun _=>rfl⟩,rfl⟩
 case rest=>
  obtain⟨b,rfl,hb,rfl⟩:=hcut;have Hb:=ae hb;clear hb;go_upto_region 2 with fail
  go_cut [3]from 23 to 43 (fun s3 wx=>∃b:Bool,s3= .bool b∧(b=true↔adw c)∧wx=wc)
  case first=>
   cases b with
   |false=>
    exact aer
   |true=>
    have HP:=ae<|Hb.1 rfl;go_wp2_with fail
    by_cases hh:1≤c.f 4∧c.f 4≤3
    rotate_left
    ·refine(adP hh _).mono ?_;rintro e w5 ⟨rfl,e5⟩;rw[←e5];clear e5;have HN:=ae hh;clear hh;go_wp2_with fail
     go_meet
     exact⟨false,rfl,⟨fun h=>Bool.noConfusion h,fun h=>absurd h.p4 HN⟩,rfl⟩
    have H4:=ae hh;refine(adN hh _).mono ?_;rintro e w5 ⟨rfl,e5⟩;rw[←e5];clear e5 hh;go_wp2_with fail
    by_cases hh:0≤c.f 5∧c.f 5≤2
    rotate_left
    ·refine(adP hh _).mono ?_;rintro e w5 ⟨rfl,e5⟩;rw[←e5];clear e5;have HN:=ae hh;clear hh;go_wp2_with fail
     go_meet
     exact⟨false,rfl,⟨fun h=>Bool.noConfusion h,fun h=>absurd h.p5 HN⟩,rfl⟩
    have H5:=ae hh;refine(adN hh _).mono ?_;rintro e w5 ⟨rfl,e5⟩;rw[←e5];clear e5 hh
    by_cases hz:c.f 5=0
    ·have HZ:=aq (c.f 5=0∨c.f 4=2) (.inl hz);have g5:(c.f 5==0)=true:=by simp[hz]
     clear hz;go_wp2_with fail
     go_meet
     exact⟨true,rfl,⟨fun _=>⟨HP,H4,H5,HZ⟩,fun _=>rfl⟩,rfl⟩
    ·by_cases hm:c.f 4=2
     ·have HZ:=aq (c.f 5=0∨c.f 4=2) (.inr hm);have g5:(c.f 5==0)=false:=by simp[hz]
      have g4:(c.f 4==2)=true:=by simp[hm]
      clear hz hm;go_wp2_with fail
      go_meet
      exact⟨true,rfl,⟨fun _=>⟨HP,H4,H5,HZ⟩,fun _=>rfl⟩,rfl⟩
     ·have HN:=aq (¬(c.f 5=0∨c.f 4=2)) (fun h=>h.elim hz hm);have g5:(c.f 5==0)=false:=by simp[hz]
      have g4:(c.f 4==2)=false:=by simp[hm]
      clear hz hm;go_wp2_with fail
      go_meet
      exact⟨false,rfl,⟨fun h=>Bool.noConfusion h,fun h=>absurd h.pp HN⟩,rfl⟩
  case rest=>
   clear Hb;obtain⟨b,rfl,hb,rfl⟩:=hcut;have Hb:=ae hb;clear hb;go_wp2_with fail
   go_loopw [3,4] (fun ok i wr=>aeX c wc ok i wr) (fun _ i _=>3 - (intOf i).toNat)
   case atStart=>exact⟨0,b,aj,rfl,rfl,Hb.trans ⟨fun h=>⟨h,fun j hj=>absurd hj aj⟩,fun h=>h.q⟩,rfl⟩
   case round=>
    clear Hb;obtain⟨t,b,ht,rfl,rfl,hb,rfl⟩:=hrel;have Hb:=ae hb;clear hb
    by_cases aY:t<3
    ·have x6:aF wr w.heap.size (6+t) (c.f (6+t)):=HB.ag (aL c _ aj);have x9:aF wr w.heap.size (9+t) (c.f (9+t)):=HB.ag (aL c _ aj);have Bm:(t:Int)<3:=aj
     cases b with
     |false=>
      go_wp2_with fail;have HR:=aq (aeX c wr (.bool false) (ah ((t:Int)+1)) wr) (⟨t+1,false,aY,by simp,rfl,⟨fun h=>Bool.noConfusion h,fun h=>absurd (Hb.2 ⟨h.q,fun j hj=>h.l j aj⟩) Bool.false_ne_true⟩,rfl⟩);exact nc
     |true=>
      have HP:=ae<|Hb.1 rfl;go_wp2_with fail
      by_cases hh:1≤c.f (6+t)∧c.f (6+t)≤2
      rotate_left
      ·refine(adP hh _).mono ?_;rintro e w5 ⟨rfl,e5⟩;rw[←e5];clear e5;have HN:=ae hh;clear hh;go_wp2_with fail;have HR:=aq (aeX c wr (.bool false) (ah ((t:Int)+1)) wr) (⟨t+1,false,aY,by simp,rfl,⟨fun h=>Bool.noConfusion h,fun h=>absurd (h.l t aj).1 HN⟩,rfl⟩);exact nc
      have G6:=ae hh;refine(adN hh _).mono ?_;rintro e w5 ⟨rfl,e5⟩;rw[←e5];clear e5 hh;go_wp2_with fail
      by_cases hh:1≤c.f (9+t)∧c.f (9+t)≤16
      rotate_left
      ·refine(adP hh _).mono ?_;rintro e w5 ⟨rfl,e5⟩;rw[←e5];clear e5;have HN:=ae hh;clear hh;go_wp2_with fail;have HR:=aq (aeX c wr (.bool false) (ah ((t:Int)+1)) wr) (⟨t+1,false,aY,by simp,rfl,⟨fun h=>Bool.noConfusion h,fun h=>absurd (h.l t aj).2 HN⟩,rfl⟩);exact nc
      have G9:=ae hh;refine(adN hh _).mono ?_;rintro e w5 ⟨rfl,e5⟩;rw[←e5];clear e5 hh;go_wp2_with fail;have HR:=aq (aeX c wr (.bool true) (ah ((t:Int)+1)) wr) (⟨t+1,true,aY,by simp,rfl,⟨fun _=>⟨HP.q,fun j hj=>by
       rcases Nat.lt_or_ge j t with h|h
       ·exact HP.l j h
       ·obtain rfl:j=t:=aj;exact⟨G6.out,G9.out⟩⟩,fun _=>rfl⟩,rfl⟩)
      exact nc
    ·obtain rfl:t=3:=aj;clear ht aY;go_upto_region 7 with fail
     go_cut [3]from 63 to 83 (fun s3 wx=>∃b:Bool,s3= .bool b∧(b=true↔ady c)∧wx=wr)
     case first=>
      cases b with
      |false=>
       exact aer
      |true=>
       have HP:=ae<|Hb.1 rfl;go_wp2_with fail
       by_cases hh:1≤c.f 12∧c.f 12≤8
       rotate_left
       ·refine(adP hh _).mono ?_;rintro e w5 ⟨rfl,e5⟩;rw[←e5];clear e5;have HN:=ae hh;clear hh;go_wp2_with fail
        go_meet
        exact⟨false,rfl,⟨fun h=>Bool.noConfusion h,fun h=>absurd h.QD HN⟩,rfl⟩
       have H12:=ae hh;refine(adN hh _).mono ?_;rintro e w5 ⟨rfl,e5⟩;rw[←e5];clear e5 hh;go_wp2_with fail
       by_cases hh:1≤c.f 13∧c.f 13≤100
       rotate_left
       ·refine(adP hh _).mono ?_;rintro e w5 ⟨rfl,e5⟩;rw[←e5];clear e5;have HN:=ae hh;clear hh;go_wp2_with fail
        go_meet
        exact⟨false,rfl,⟨fun h=>Bool.noConfusion h,fun h=>absurd h.UA HN⟩,rfl⟩
       have H13:=ae hh;refine(adN hh _).mono ?_;rintro e w5 ⟨rfl,e5⟩;rw[←e5];clear e5 hh;go_wp2_with fail
       by_cases hh:0≤c.f 14∧c.f 14≤16
       rotate_left
       ·refine(adP hh _).mono ?_;rintro e w5 ⟨rfl,e5⟩;rw[←e5];clear e5;have HN:=ae hh;clear hh;go_wp2_with fail
        go_meet
        exact⟨false,rfl,⟨fun h=>Bool.noConfusion h,fun h=>absurd h.Uz HN⟩,rfl⟩
       have H14:=ae hh;refine(adN hh _).mono ?_;rintro e w5 ⟨rfl,e5⟩;rw[←e5];clear e5 hh;go_wp2_with fail
       by_cases hh:1≤c.f 15∧c.f 15≤16
       rotate_left
       ·refine(adP hh _).mono ?_;rintro e w5 ⟨rfl,e5⟩;rw[←e5];clear e5;have HN:=ae hh;clear hh;go_wp2_with fail
        go_meet
        exact⟨false,rfl,⟨fun h=>Bool.noConfusion h,fun h=>absurd h.p15 HN⟩,rfl⟩
       have H15:=ae hh;refine(adN hh _).mono ?_;rintro e w5 ⟨rfl,e5⟩;rw[←e5];clear e5 hh;go_wp2_with fail
       go_meet
       exact⟨true,rfl,⟨fun _=>⟨HP,H12,H13,H14,H15⟩,fun _=>rfl⟩,rfl⟩
     case rest=>
      clear Hb;obtain⟨b,rfl,hb,rfl⟩:=hcut;have Hb:=ae hb;clear hb
      cases b with
      |false=>
       have Hr:=ae<|eG (c:=c) fun p=>absurd (Hb.2 (ady.of p)) Bool.false_ne_true;go_wp2_with fail;go_ret;exact⟨by rw[Hr.out];rfl,HO⟩
      |true=>
       have HP:=ae<|Hb.1 rfl;have HQ:=ae HP.q.q.q.p2
       by_cases h5:c.f 5=2
       ·have HZ:=aq (c.f 5=2∨c.h.length=0) (.inl h5);have g5:(c.f 5==2)=true:=by simp[h5]
        clear h5;exact aeq
       ·by_cases h2:c.h.length=0
        ·have HZ:=aq (c.f 5=2∨c.h.length=0) (.inr h2);have g5:(c.f 5==2)=false:=by simp[h5]
         have g2:((n:Int)==0)=true:=by have:=H.len;rw[beq_iff_eq];omega
         clear h5 h2;exact aeq
        ·have HN:=ae<|And.intro h5 h2;have g5:(c.f 5==2)=false:=by simp[h5]
         have g2:((n:Int)==0)=false:=by have:=H.len;rw[beq_eq_false_iff_ne];omega
         clear h5 h2;have Hr:=ae<|eG (c:=c) fun p=>p.ph.elim HN.1 HN.2;go_wp2_with fail;go_ret;exact⟨by rw[Hr.out];rfl,HO⟩
end
end Go.Proofs.YtpcfhbeakecihaaGreat
