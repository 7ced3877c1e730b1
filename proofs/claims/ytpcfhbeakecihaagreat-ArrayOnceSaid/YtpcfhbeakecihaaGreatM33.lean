/- Lemmas. -/
import Derived.Test.YtpcfhbeakecihaaGreatM10
import Derived.Deep.CutRange
import Derived.Laws.CopyOwn
set_option linter.all false
set_option maxHeartbeats 20000000
set_option maxRecDepth 100000
namespace Go.Proofs.YtpcfhbeakecihaaGreat
open Go.ChangeShapes Go.RowKit Go.WideShapes
theorem cE (l:List Int):(bytes l).length=l.length:=List.length_map ..
def iq (V:Nat→Value):Array Value:=Array.ofFn (n:=64) fun i=>V i.1
theorem rK (V:Nat→Value){i:Nat}(hi:i<64):(iq V)[i]? =some (V i):=by
 simp only[iq,Array.getElem?_ofFn,hi,dite_true]
theorem vF (V:Nat→Value){i:Nat}(v:Value):(iq V).setIfInBounds i v=iq (fun j=>if j=i then v else V j):=by
 refine Array.ext (by simp[iq]) fun j h1 h2=>?_
 have hj:j<64:=by simpa [iq] using h2
 rw[Array.getElem_setIfInBounds (by simpa [iq] using hj)];simp only[iq,Array.getElem_ofFn]
 by_cases e:i=j
 ·subst e;simp
 ·rw[if_neg e,if_neg (fun e'=>e e'.symm)]
def gN (db lb:Nat)(V:Nat→Value):Nat→Prop:=fun k=>k=db∨k=lb∨∃i,i<64∧aJ (V i) k
structure dH where
 sec:Nat→List Int
 b9:Int
 down:Bool
def dH.write (d:dH)(i:Nat)(l:List Int):dH×Int:=
 if d.down=true then(d,8)else if d.b9=0 then({d with down:=true},8)else({d with b9:=if d.b9 - 1< -1 then -1 else d.b9 - 1,sec:=fun j=>if j=i then l else d.sec j},0)
structure dI (w:World)(db lb:Nat)(V:Nat→Value)(d:dH):Prop where
 az:Box w db 66 #[.slice (some ⟨lb,0,none⟩) 64 64,.int .i64 d.b9,.bool d.down]
 row:Box w lb 35 (iq V)
 nR:∀i,i<64→b8 w (V i) (d.sec i)
 small:∀i,i<64→(d.sec i).length≤64
 off:∀i,i<64→∀k,aJ (V i) k→k≠db∧k≠lb∧k<w.heap.size
 ne:db≠lb
 u8:∀i,i<64→∀k,aJ (V i) k→∃cs,Box w k 5 cs
section
variable {w w':World}{db lb:Nat}{V:Nat→Value}{d:dH}{S:Nat→Prop}
theorem dI.ao (h:dI w db lb V d)(ho:af S w w')(hS:∀k,gN db lb V k→¬S k):dI w' db lb V d:=
 {az:=ho.az h.az (hS _ (.inl rfl)),row:=ho.az h.row (hS _ (.inr (.inl rfl))),nR:=fun i hi=>(h.nR i hi).ao ho fun k hk=>hS k (.inr (.inr ⟨i,hi,hk⟩)),small:=h.small,off:=fun i hi k hk=>by have:=h.off i hi k hk;exact⟨this.1,this.2.1,Nat.lt_of_lt_of_le this.2.2 ho.size⟩,ne:=h.ne,u8:=fun i hi k hk=>by obtain⟨cs,hb⟩:=h.u8 i hi k hk;exact⟨cs,ho.az hb (hS k (.inr (.inr ⟨i,hi,hk⟩)))⟩}
theorem dI.keep (h:dI w db lb V d)(ho:af aA w w'):dI w' db lb V d:=h.ao ho fun _ _=>id
theorem dI.lt (h:dI w db lb V d){k:Nat}(hk:gN db lb V k):k<w.heap.size:=by
 rcases hk with rfl|rfl|⟨i,hi,hk⟩
 ·exact h.az.lt
 ·exact h.row.lt
 ·exact(h.off i hi k hk).2.2
end
section
theorem xP:(Tryz.prog.info? 35).map (fun i=>(i.zero,i.size,i.bytes))=some (some (.slice none 0 0),1,24):=by kernel_rfl
theorem nA (w:World):(Instr.makeSlice 60 (.int .i64 64) (.int .i64 64)).run Tryz.prog w= .ok (.slice (some ⟨w.heap.size,0,none⟩) 64 64) (w.alloc (.cells (iq fun _=>.slice none 0 0) 35)):=by
 have h:=run_make_row' (P:=Tryz.prog) 60 35 _ 24 Tryz.underlying60 xP rfl .i64 .i64 64 av av w;have e:madeCells #[Value.slice none 0 0] 64=iq fun _=>.slice none 0 0:=by
  apply Array.toList_inj.1;rw[toList_madeCells_one];rfl
 rw[e]at h;exact h
theorem xN (w:World):Calls Tryz.prog 9 #[.int .i64 64] w fun e w'=>∃db lb,e= .returned (.pointer (some ⟨db,0,none⟩))∧dI w' db lb (fun _=>.slice none 0 0) ⟨fun _=>[],-1,false⟩∧w.heap.size≤lb∧w.heap.size≤db∧af aA w w':=by
 have nM:=nA
 go_enter Tryz.func9,Tryz.ntmps9
 go_wp2_with fail;go_ret;have ku:=(af.ak aA w).alloc (.cells (iq fun _=>.slice none 0 0) 35);have dq:=Box.fresh w 35 (iq fun _=>.slice none 0 0);have nS:=(af.ak aA (w.alloc (.cells (iq fun _=>.slice none 0 0) 35))).alloc (.cells #[.slice (some ⟨w.heap.size,0,none⟩) 64 64,.int .i64 (-1),.bool false] 66);refine⟨w.heap.size+1,w.heap.size,rfl,⟨?_,nS.az dq id,fun i hi=>⟨none,0,rfl,dT _,eK _,Src.kv _ _⟩,fun i hi=>Nat.zero_le _,fun i hi k hk=>(bq hk).elim,ai,fun i hi k hk=>(bq hk).elim⟩,dT _,Nat.le_succ _,ku.trans nS⟩;have h:=Box.fresh (w.alloc (.cells (iq fun _=>.slice none 0 0) 35)) 66 #[.slice (some ⟨w.heap.size,0,none⟩) 64 64,.int .i64 (-1),.bool false];simpa using h
section
variable {w:World}{db lb:Nat}{V:Nat→Value}{d:dH}
theorem xO (h:dI w db lb V d):Calls Tryz.prog 55 #[.pointer (some ⟨db,0,none⟩)] w fun e w'=>e= .returned (.int .i64 64)∧w=w':=by
 have x0:ba w db 0 (.slice (some ⟨lb,0,none⟩) 64 64):=h.az.ag rfl;clear h
 go_enter Tryz.func55,Tryz.ntmps55
 go_wp2_with fail;go_ret;exact⟨rfl,rfl⟩
theorem jL {at_:Nat}(hi:at_<64)(h:dI w db lb V d):Calls Tryz.prog 123 #[.pointer (some ⟨db,0,none⟩),.int .i64 at_] w fun e w'=>e= .returned (.bool true)∧w=w':=by
 have x0:ba w db 0 (.slice (some ⟨lb,0,none⟩) 64 64):=h.az.ag rfl;clear h;have h1:(0:Int)≤at_:=ai;have h2:(at_:Int)<64:=ai
 go_enter Tryz.func123,Tryz.ntmps123
 go_wp2_with fail;go_ret;exact⟨rfl,rfl⟩
theorem vE {at_:Nat}(hi:at_<64)(h:dI w db lb V d):
 Calls Tryz.prog 115 #[.pointer (some ⟨db,0,none⟩),.int .i64 at_] w fun e w'=>∃v,e= .returned (.tuple #[v,.int .i64 0])∧Row 5 w' v (bytes (d.sec at_))∧af aA w w'∧∀k,aJ v k→w.heap.size≤k:=by
 have x0:ba w db 0 (.slice (some ⟨lb,0,none⟩) 64 64):=h.az.ag rfl;have x1:ba w lb at_ (V at_):=h.row.ag (rK V hi);have HT:=ae<|jL hi h;have HC:=ae<|cI (V at_) (d.sec at_) w (h.nR at_ hi);clear h;generalize V at_=v at *;have h1:(0:Int)≤at_:=ai;have h2:(at_:Int)<64:=ai
 go_enter Tryz.func115,Tryz.ntmps115
 go_wp2_with (first|(go_at_call 123;refine HT.mono ?_;rintro e W1 ⟨rfl,rfl⟩)|(go_at_call 60;refine HC.mono ?_;rintro e W1 ⟨u,rfl,hr,ho,hk⟩));go_ret2;exact⟨u,rfl,hr,ho,hk⟩
theorem dH.Ck (d:dH)(i:Nat)(l:List Int)(j:Nat):(d.write i l).1.sec j=l∧j=i∨(d.write i l).1.sec j=d.sec j:=by
 unfold dH.write
 split
 ·exact .inr rfl
 ·split
  ·exact .inr rfl
  ·by_cases e:j=i
   ·exact .inl ⟨if_pos e,e⟩
   ·exact .inr (if_neg e)
def nc (w:World)(db lb:Nat)(V:Nat→Value)(d:dH)(i:Nat)(l:List Int)(e:Ending)(w':World):Prop:=
 ∃V',e= .returned (.int .i64 (d.write i l).2)∧dI w' db lb V' (d.write i l).1∧af (fun k=>k=db∨k=lb) w w'∧∀k,gN db lb V' k→gN db lb V k∨w.heap.size≤k
theorem pq {v:Value}{l:List Int}{i:Nat}(hd:d.down=true)(h:dI w db lb V d):Calls Tryz.prog 100 #[.pointer (some ⟨db,0,none⟩),.int .i64 i,v] w (nc w db lb V d i l):=by
 have x2:ba w db 2 (.bool true):=h.az.ag (by rw[←hd];rfl);have e:d.write i l=(d,8):=by unfold dH.write;rw[if_pos hd]
 have HE:=ae e;have HH:=ae h;clear h hd e
 go_enter Tryz.func100,Tryz.ntmps100
 go_wp2_with fail;go_ret;exact⟨V,by rw[HE.out];rfl,by rw[HE.out];exact HH,af.ak _ _,fun k hk=>.inl hk⟩
theorem pn {A:Option Addr}{c:Nat}{l:List Int}{i:Nat}(hi:i<64)(hl:l.length≤64)(hd:d.down=false)(hf:d.b9=0)(h:dI w db lb V d):
 Calls Tryz.prog 100 #[.pointer (some ⟨db,0,none⟩),.int .i64 i,.slice A l.length c] w (nc w db lb V d i l):=by
 have x2:ba w db 2 (.bool false):=h.az.ag (by rw[←hd];rfl);have x1:aF w db 1 0:=h.az.ag (by rw[←hf];rfl);have f2:w.frozen? ⟨db,2,none⟩=false:=h.az.free _;have e:d.write i l=({d with down:=true},8):=by unfold dH.write;rw[if_neg (by rw[hd];decide),if_pos hf]
 have HE:=ae e;have HH:=ae h;have HT:=ae<|jL hi h;have NX:¬(64:Int)<l.length:=ai;clear h hd e hf hi
 go_enter Tryz.func100,Tryz.ntmps100
 go_wp2_with (go_at_call 123;refine HT.mono ?_;rintro e W1 ⟨rfl,rfl⟩);go_ret;have j:af (fun k=>k=db∨k=lb) w (w.setCell ⟨db,2,none⟩ (.bool true)):=(af.ak _ w).setCell (p:=⟨db,2,none⟩) (.inl (.inl rfl)) _;refine⟨V,by rw[HE.out];rfl,?_,j,fun k hk=>.inl hk⟩;rw[HE.out];have j1:af (aM db) w (w.setCell ⟨db,2,none⟩ (.bool true)):=(af.ak _ w).setCell (p:=⟨db,2,none⟩) (.inl (show aM db db from rfl)) _;exact {az:=HH.az.store 2 (.bool true),row:=j1.az HH.row fun e=>HH.ne e.symm,nR:=fun i hi=>(HH.nR i hi).ao j1 fun k hk e=>(HH.off i hi k hk).1 e,small:=HH.small,off:=fun i hi k hk=>by have:=HH.off i hi k hk;exact⟨this.1,this.2.1,Nat.lt_of_lt_of_le this.2.2 j1.size⟩,ne:=HH.ne,u8:=fun i hi k hk=>by obtain⟨cs,hb⟩:=HH.u8 i hi k hk;exact⟨cs,j1.az hb (HH.off i hi k hk).1⟩}
theorem jy {w:World}{ops:Array Oper}{rest:List Oper}{o:Oper}{a:Act}{Q:Exit→Act→World→Prop}(jX:o.guard=none)(d s:Operand)
 (ho:o.op= .call {callee:=.builtin .copy,args:=#[d,s],argTypes:=#[35,35]}) (l:List Int) (A:Option Addr) (c g:Nat) (hd:a.eval d= .slice (some ⟨g,0,none⟩) l.length l.length)
 (hs:a.eval s= .slice A l.length c) (hg:w.heap[g]? =some (.cells (List.replicate l.length (Value.int .u8 0)).toArray 5 (0,0))) (hb:b8 w (.slice A l.length c) l) (B:Nat) (w1:World) (hB:Below B w1 w) (Oo:B≤g)
 (h:∀w',Hid (Box w' g 5 (bytes l).toArray)→Below B w1 w'→wpList Tryz.prog ops Q rest (a.put o.dst (goInt l.length)) w'):wpList Tryz.prog ops Q (o :: rest) a w:=by
 have hn:(bytes l).length=Nat.min l.length l.length:=by rw[show Nat.min l.length l.length=l.length from Nat.min_self _];simp
 refine wpList_copy_splice jX d s 35 35 ho 5 Tryz.underlying35 bJ (some ⟨g,0,none⟩) A l.length l.length l.length c hd hs g 0 (List.replicate l.length (Value.int .u8 0)) 5 hg (bytes l) hn (fun hp=>?_) (by simp) (mz l) B w1 hB Oo (fun w' h1 h2=>?_)
 ·obtain⟨A',c',e,h1,h2,h3⟩:=hb;injection e with e1 _ _;subst e1;obtain⟨g',o',hA,_⟩:=h3 0 _ (List.getElem?_eq_getElem hp);refine⟨rfl,⟨g',o',none⟩,hA,fun j v hj=>?_⟩;obtain⟨g2,o2,FE,hc⟩:=h3 j v hj;rw[hA]at FE;injection FE with FE;injection FE with e1 e2 _;subst e1 e2;rw[Addr.add_lit];exact hc
 ·have e:splice (List.replicate l.length (Value.int .u8 0)) 0 (bytes l)=bytes l:=by
   unfold splice;simp
  rw[e]at h1;have h3:=h w' h1 h2;simpa using h3
theorem sO {A:Option Addr}{c:Nat}{l:List Int}{i:Nat}(hi:i<64)(hl:l.length≤64)(hd:d.down=false)(hf:d.b9≠0)(Fq: -1≤d.b9)(Fp:d.b9≤9223372036854775807)(h:dI w db lb V d)(hb:b8 w (.slice A l.length c) l)(Fx:∀k,aJ (.slice A l.length c) k→k≠db):
 Calls Tryz.prog 100 #[.pointer (some ⟨db,0,none⟩),.int .i64 i,.slice A l.length c] w (nc w db lb V d i l):=by
 have x2:ba w db 2 (.bool false):=h.az.ag (by rw[←hd];rfl);have x1:aF w db 1 d.b9:=h.az.ag rfl;have f1:w.frozen? ⟨db,1,none⟩=false:=h.az.free _;have e:d.write i l=({d with b9:=if d.b9 - 1< -1 then -1 else d.b9 - 1,sec:=fun j=>if j=i then l else d.sec j},0):=by unfold dH.write;rw[if_neg (by rw[hd];decide),if_neg hf]
 have HE:=ae e;have HH:=ae h;have HB:=ae hb;have PJ:=ae Fx;have HT:=ae<|jL hi h;have HI:=ae hi;have NX:¬(64:Int)<l.length:=ai;have jd:(d.b9==0)=false:=by simpa using hf
 have GJ:IntKind.i64.wrap (d.b9 - 1)=d.b9 - 1:=by rw[IntKind.wrap_i64];omega
 have Q8:=ae Fq;generalize Fo:d.b9=fu at *;have Mu:=ae Fo;clear h hd e hf hi hb Fx Fo Fq Fp
 go_enter Tryz.func100,Tryz.ntmps100
 go_upto_region 13 with(go_at_call 123;refine HT.mono ?_;rintro e W1 ⟨rfl,rfl⟩);have j1:af (aM db) w (w.setCell ⟨db,1,none⟩ (.int .i64 (if fu - 1< -1 then -1 else fu - 1))):=(af.ak (aM db) w).setCell (p:=⟨db,1,none⟩) (.inl (show aM db db from rfl)) _;have cQ:=aH (Box (w.setCell ⟨db,1,none⟩ (.int .i64 (if fu - 1< -1 then -1 else fu - 1))) db 66 #[.slice (some ⟨lb,0,none⟩) 64 64,.int .i64 (if fu - 1< -1 then -1 else fu - 1),.bool d.down]) (HH.az.store 1 _);have zj:=ae<|j1.az HH.row fun e=>HH.ne e.symm;have FL:=ae<|HB.ao j1 fun k hk e=>PJ k hk e;have bw:=ae j1;clear j1 x1 x2 f1;generalize w8:(if fu - 1< -1 then -1 else fu - 1)=nf at *;have IA:=ae w8;generalize w.setCell ⟨db,1,none⟩ (.int .i64 nf)=W1 at *;clear w8 jd GJ;have nM:∀w,(Instr.makeSlice 35 (.int .i64 l.length) (.int .i64 l.length)).run Tryz.prog w= .ok (.slice (some ⟨w.heap.size,0,none⟩) l.length l.length) (w.alloc (.cells (madeCells #[.int .u8 0] l.length) 5)):=fun w=>
  run_make_row' (P:=Tryz.prog) 35 5 _ 1 Tryz.underlying35 cP rfl .i64 .i64 l.length ai ai w
 have HL:=ae hl;clear hl;go_upto_region 14 with fail;clear nM;have nS:=(af.ak aA W1).alloc (.cells (madeCells #[.int .u8 0] l.length) 5);have KK:=Box.fresh W1 5 (madeCells #[.int .u8 0] l.length);have HG:=aH ((W1.alloc (.cells (madeCells #[.int .u8 0] l.length) 5)).heap[W1.heap.size]? =some (.cells (List.replicate l.length (Value.int .u8 0)).toArray 5 (0,0))) (by
  have:madeCells #[.int .u8 0] l.length=(List.replicate l.length (Value.int .u8 0)).toArray:=by
   apply Array.toList_inj.1;rw[toList_madeCells_one]
  rw[←this];exact KK)
 have L4:=ae<|FL.ao nS fun _ _=>id;have wQ:=aH (Below W1.heap.size W1 (W1.alloc (.cells (madeCells #[.int .u8 0] l.length) 5))) ((Below.refl _ _).alloc (dT _) _);clear nS KK;generalize W1.alloc (.cells (madeCells #[.int .u8 0] l.length) 5)=W2 at *;have iw:=ae<|dT W1.heap.size;have Q7:=aH ((W1.heap.size)<W2.heap.size) ((Array.getElem?_eq_some_iff.1 HG).1);go_upto_region 15 with(refine jy rfl (.tmp 46) (.tmp 47) rfl l A c W1.heap.size rfl rfl HG L4 W1.heap.size W1 wQ iw ?_;intro W3 CV KP);obtain⟨j3,zB⟩:af aA W1 W3∧Box W3 W1.heap.size 5 (bytes l).toArray:=⟨af.vQ KP,CV.out⟩;have x0:ba W3 db 0 (.slice (some ⟨lb,0,none⟩) 64 64):=(j3.az cQ id).ag rfl;have xi:ba W3 lb i (V i):=(j3.az zj id).ag (rK V HI);have fi:W3.frozen? ⟨lb,i,none⟩=false:=(j3.az zj id).free _;have Cd:=ae j3;have FO:=ae zB;have CS:(i:Int)<64:=by have:=HI.out;omega
 clear j3 zB CV KP wQ HG L4;go_wp2_with fail;go_ret;have j4:af (aM lb) W3 (W3.setCell ⟨lb,i,none⟩ (.slice (some ⟨W1.heap.size,0,none⟩) l.length l.length)):=(af.ak (aM lb) W3).setCell (p:=⟨lb,i,none⟩) (.inl (show aM lb lb from rfl)) _;have hn:=HH.ne;have hg:db<W1.heap.size∧lb<W1.heap.size:=⟨cQ.lt,zj.lt⟩;have hw:w.heap.size≤W1.heap.size:=bw.size;have dr:Box (W3.setCell ⟨lb,i,none⟩ (.slice (some ⟨W1.heap.size,0,none⟩) l.length l.length)) lb 35 (iq fun j=>if j=i then .slice (some ⟨W1.heap.size,0,none⟩) l.length l.length else V j):=by
  rw[←vF];exact(Cd.az zj id).store i _
 have qa:Box (W3.setCell ⟨lb,i,none⟩ (.slice (some ⟨W1.heap.size,0,none⟩) l.length l.length)) W1.heap.size 5 (bytes l).toArray:=j4.az FO (show¬W1.heap.size=lb by omega);refine⟨fun j=>if j=i then .slice (some ⟨W1.heap.size,0,none⟩) l.length l.length else V j,by rw[HE.out];rfl,?_,((bw.mono (S':=fun k=>k=db∨k=lb) fun k hk=>.inl (.inl hk)).aE Cd fun k hk=>hk.elim).aE j4 fun k hk=>.inl (.inr hk),fun k hk=>?_⟩
 ·rw[HE.out];refine {az:=j4.az (Cd.az cQ id) hn,row:=dr,nR:=fun j hj=>?_,small:=fun j hj=>?_,off:=fun j hj k hk=>?_,ne:=hn,u8:=fun j hj k hk=>?_}
  ·by_cases e:j=i
   ·rw[if_pos e]
    show b8 _ _ (if j=i then l else d.sec j)
    rw[if_pos e];exact Row.nR (.inr ⟨W1.heap.size,l.length,(bytes l).toArray,by rw[cE],qa,by rw[cE];omega,by simp,by have:=HL.out;unfold maxLen;omega,by rw[cE];exact List.take_of_length_le (Nat.le_of_eq (cE l))⟩) (by have:=HL.out;omega)
   ·rw[if_neg e]
    show b8 _ _ (if j=i then l else d.sec j)
    rw[if_neg e];have ho:=HH.off j hj;exact(((HH.nR j hj).ao bw fun k hk e'=>(ho k hk).1 e').ao Cd fun _ _=>id).ao j4 fun k hk e'=>(ho k hk).2.1 e'
  ·show(if j=i then l else d.sec j).length≤64
   split
   ·exact HL
   ·exact HH.small j hj
  ·by_cases e:j=i
   ·rw[if_pos e]at hk;have hk:=aq.1 hk;subst hk;exact⟨ai,ai,qa.lt⟩
   ·rw[if_neg e]at hk;have ho:=HH.off j hj k hk;exact⟨ho.1,ho.2.1,by have h1:=Cd.size;have h2:=j4.size;omega⟩
  ·by_cases e:j=i
   ·rw[if_pos e]at hk;have hk:=aq.1 hk;subst hk;exact⟨_,qa⟩
   ·rw[if_neg e]at hk;have ho:=HH.off j hj k hk;obtain⟨cs,hc⟩:=HH.u8 j hj k hk;exact⟨cs,j4.az (Cd.az (bw.az hc ho.1) id) ho.2.1⟩
 ·rcases hk with rfl|rfl|⟨j,hj,hk⟩
  ·exact .inl (.inl rfl)
  ·exact .inl (.inr (.inl rfl))
  ·by_cases e:j=i
   ·simp only[if_pos e]at hk;have hk:=aq.1 hk;exact .inr ai
   ·simp only[if_neg e]at hk;exact .inl (.inr (.inr ⟨j,hj,hk⟩))
theorem Cp {A:Option Addr}{n c:Nat}{l:List Int}{i:Nat}(hi:i<64)(hl:l.length≤64)(Fq: -1≤d.b9)(Fp:d.b9≤9223372036854775807)(h:dI w db lb V d)(hb:b8 w (.slice A n c) l)(Fx:∀k,aJ (.slice A n c) k→k≠db):
 Calls Tryz.prog 100 #[.pointer (some ⟨db,0,none⟩),.int .i64 i,.slice A n c] w (nc w db lb V d i l):=by
 obtain rfl:=hb.len.1
 cases hd:d.down with
 |true=>exact pq hd h
 |false=>
  by_cases hf:d.b9=0
  ·exact pn hi hl hd hf h
  ·exact sO hi hl hd hf Fq Fp h hb Fx
end
end
end Go.Proofs.YtpcfhbeakecihaaGreat
