/- Lemmas. -/
import Derived.Test.YtpcfhbeakecihaaGreatM10
import Derived.Deep.CutRange
import Derived.Laws.CopyOwn
set_option linter.all false
set_option maxHeartbeats 20000000
set_option maxRecDepth 100000
namespace Go.Proofs.YtpcfhbeakecihaaGreat
open Go.ChangeShapes Go.RowKit Go.WideShapes
theorem b7 (l:List Int):(bytes l).length=l.length:=List.length_map ..
def qT (V:Nat→Value):Array Value:=Array.ofFn (n:=64) fun i=>V i.1
theorem FH (V:Nat→Value){i:Nat}(hi:i<64):(qT V)[i]? =some (V i):=by
 simp only[qT,Array.getElem?_ofFn,hi,dite_true]
theorem LJ (V:Nat→Value){i:Nat}(v:Value):(qT V).setIfInBounds i v=qT (fun j=>if j=i then v else V j):=by
 refine Array.ext (by simp[qT]) fun j h1 h2=>?_
 have hj:j<64:=by simpa [qT] using h2
 rw[Array.getElem_setIfInBounds (by simpa [qT] using hj)];simp only[qT,Array.getElem_ofFn]
 by_cases e:i=j
 ·subst e;simp
 ·rw[if_neg e,if_neg (fun e'=>e e'.symm)]
def eE (db lb:Nat)(V:Nat→Value):Nat→Prop:=fun k=>k=db∨k=lb∨∃i,i<64∧aJ (V i) k
structure bC where
 sec:Nat→List Int
 cA:Int
 down:Bool
def bC.write (d:bC)(i:Nat)(l:List Int):bC×Int:=
 if d.down=true then(d,8)else if d.cA=0 then({d with down:=true},8)else({d with cA:=if d.cA - 1< -1 then -1 else d.cA - 1,sec:=fun j=>if j=i then l else d.sec j},0)
structure eD (w:World)(db lb:Nat)(V:Nat→Value)(d:bC):Prop where
 ak:Box w db 66 #[.slice (some ⟨lb,0,none⟩) 64 64,.int .i64 d.cA,.bool d.down]
 row:Box w lb 35 (qT V)
 sa:∀i,i<64→cH w (V i) (d.sec i)
 small:∀i,i<64→(d.sec i).length≤64
 off:∀i,i<64→∀k,aJ (V i) k→k≠db∧k≠lb∧k<w.heap.size
 ne:db≠lb
 u8:∀i,i<64→∀k,aJ (V i) k→∃cs,Box w k 5 cs
section
variable {w w':World}{db lb:Nat}{V:Nat→Value}{d:bC}{S:Nat→Prop}
theorem eD.ar (h:eD w db lb V d)(ho:af S w w')(hS:∀k,eE db lb V k→¬S k):eD w' db lb V d:=
 {ak:=ho.ak h.ak (hS _ (.inl rfl)),row:=ho.ak h.row (hS _ (.inr (.inl rfl))),sa:=fun i hi=>(h.sa i hi).ar ho fun k hk=>hS k (.inr (.inr ⟨i,hi,hk⟩)),small:=h.small,off:=fun i hi k hk=>by have:=h.off i hi k hk;exact⟨this.1,this.2.1,Nat.lt_of_lt_of_le this.2.2 ho.size⟩,ne:=h.ne,u8:=fun i hi k hk=>by obtain⟨cs,hb⟩:=h.u8 i hi k hk;exact⟨cs,ho.ak hb (hS k (.inr (.inr ⟨i,hi,hk⟩)))⟩}
theorem eD.keep (h:eD w db lb V d)(ho:af au w w'):eD w' db lb V d:=h.ar ho fun _ _=>id
theorem eD.lt (h:eD w db lb V d){k:Nat}(hk:eE db lb V k):k<w.heap.size:=by
 rcases hk with rfl|rfl|⟨i,hi,hk⟩
 ·exact h.ak.lt
 ·exact h.row.lt
 ·exact(h.off i hi k hk).2.2
end
section
theorem O4:(Tryz.prog.info? 35).map (fun i=>(i.zero,i.size,i.bytes))=some (some (.slice none 0 0),1,24):=by kernel_rfl
theorem zZ (w:World):(Instr.makeSlice 60 (.int .i64 64) (.int .i64 64)).run Tryz.prog w= .ok (.slice (some ⟨w.heap.size,0,none⟩) 64 64) (w.alloc (.cells (qT fun _=>.slice none 0 0) 35)):=by
 have h:=run_make_row' (P:=Tryz.prog) 60 35 _ 24 Tryz.underlying60 O4 rfl .i64 .i64 64 aE aE w;have e:madeCells #[Value.slice none 0 0] 64=qT fun _=>.slice none 0 0:=by
  apply Array.toList_inj.1;rw[toList_madeCells_one];rfl
 rw[e]at h;exact h
theorem O3 (w:World):Calls Tryz.prog 9 #[.int .i64 64] w fun e w'=>∃db lb,e= .returned (.pointer (some ⟨db,0,none⟩))∧eD w' db lb (fun _=>.slice none 0 0) ⟨fun _=>[],-1,false⟩∧w.heap.size≤lb∧w.heap.size≤db∧af au w w':=by
 have tc:=zZ
 go_enter Tryz.func9,Tryz.ntmps9
 go_wp2_with fail;go_ret;have l8:=(af.ai au w).alloc (.cells (qT fun _=>.slice none 0 0) 35);have ei:=Box.fresh w 35 (qT fun _=>.slice none 0 0);have s9:=(af.ai au (w.alloc (.cells (qT fun _=>.slice none 0 0) 35))).alloc (.cells #[.slice (some ⟨w.heap.size,0,none⟩) 64 64,.int .i64 (-1),.bool false] 66);refine⟨w.heap.size+1,w.heap.size,rfl,⟨?_,s9.ak ei id,fun i hi=>⟨none,0,rfl,dX _,fH _,Src.lJ _ _⟩,fun i hi=>Nat.zero_le _,fun i hi k hk=>(bo hk).elim,aj,fun i hi k hk=>(bo hk).elim⟩,dX _,Nat.le_succ _,l8.trans s9⟩;have h:=Box.fresh (w.alloc (.cells (qT fun _=>.slice none 0 0) 35)) 66 #[.slice (some ⟨w.heap.size,0,none⟩) 64 64,.int .i64 (-1),.bool false];simpa using h
section
variable {w:World}{db lb:Nat}{V:Nat→Value}{d:bC}
theorem FG (h:eD w db lb V d):Calls Tryz.prog 55 #[.pointer (some ⟨db,0,none⟩)] w fun e w'=>e= .returned (.int .i64 64)∧w=w':=by
 have x0:aM w db 0 (.slice (some ⟨lb,0,none⟩) 64 64):=h.ak.ag rfl;clear h
 go_enter Tryz.func55,Tryz.ntmps55
 go_wp2_with fail;go_ret;exact⟨rfl,rfl⟩
theorem tA {at_:Nat}(hi:at_<64)(h:eD w db lb V d):Calls Tryz.prog 123 #[.pointer (some ⟨db,0,none⟩),.int .i64 at_] w fun e w'=>e= .returned (.bool true)∧w=w':=by
 have x0:aM w db 0 (.slice (some ⟨lb,0,none⟩) 64 64):=h.ak.ag rfl;clear h;have h1:(0:Int)≤at_:=aj;have h2:(at_:Int)<64:=aj
 go_enter Tryz.func123,Tryz.ntmps123
 go_wp2_with fail;go_ret;exact⟨rfl,rfl⟩
theorem LH {at_:Nat}(hi:at_<64)(h:eD w db lb V d):
 Calls Tryz.prog 115 #[.pointer (some ⟨db,0,none⟩),.int .i64 at_] w fun e w'=>∃v,e= .returned (.tuple #[v,.int .i64 0])∧Row 5 w' v (bytes (d.sec at_))∧af au w w'∧∀k,aJ v k→w.heap.size≤k:=by
 have x0:aM w db 0 (.slice (some ⟨lb,0,none⟩) 64 64):=h.ak.ag rfl;have x1:aM w lb at_ (V at_):=h.row.ag (FH V hi);have HT:=ae<|tA hi h;have HC:=ae<|gX (V at_) (d.sec at_) w (h.sa at_ hi);clear h;generalize V at_=v at *;have h1:(0:Int)≤at_:=aj;have h2:(at_:Int)<64:=aj
 go_enter Tryz.func115,Tryz.ntmps115
 go_wp2_with (first|(go_at_call 123;refine HT.mono ?_;rintro e W1 ⟨rfl,rfl⟩)|(go_at_call 60;refine HC.mono ?_;rintro e W1 ⟨u,rfl,hr,ho,hk⟩));go_ret2;exact⟨u,rfl,hr,ho,hk⟩
theorem bC.GW (d:bC)(i:Nat)(l:List Int)(j:Nat):(d.write i l).1.sec j=l∧j=i∨(d.write i l).1.sec j=d.sec j:=by
 unfold bC.write
 split
 ·exact .inr rfl
 ·split
  ·exact .inr rfl
  ·by_cases e:j=i
   ·exact .inl ⟨if_pos e,e⟩
   ·exact .inr (if_neg e)
def zA (w:World)(db lb:Nat)(V:Nat→Value)(d:bC)(i:Nat)(l:List Int)(e:Ending)(w':World):Prop:=
 ∃V',e= .returned (.int .i64 (d.write i l).2)∧eD w' db lb V' (d.write i l).1∧af (fun k=>k=db∨k=lb) w w'∧∀k,eE db lb V' k→eE db lb V k∨w.heap.size≤k
theorem CD {v:Value}{l:List Int}{i:Nat}(hd:d.down=true)(h:eD w db lb V d):Calls Tryz.prog 100 #[.pointer (some ⟨db,0,none⟩),.int .i64 i,v] w (zA w db lb V d i l):=by
 have x2:aM w db 2 (.bool true):=h.ak.ag (by rw[←hd];rfl);have e:d.write i l=(d,8):=by unfold bC.write;rw[if_pos hd]
 have HE:=ae e;have HH:=ae h;clear h hd e
 go_enter Tryz.func100,Tryz.ntmps100
 go_wp2_with fail;go_ret;exact⟨V,by rw[HE.out];rfl,by rw[HE.out];exact HH,af.ai _ _,fun k hk=>.inl hk⟩
theorem CC {A:Option Addr}{c:Nat}{l:List Int}{i:Nat}(hi:i<64)(hl:l.length≤64)(hd:d.down=false)(hf:d.cA=0)(h:eD w db lb V d):
 Calls Tryz.prog 100 #[.pointer (some ⟨db,0,none⟩),.int .i64 i,.slice A l.length c] w (zA w db lb V d i l):=by
 have x2:aM w db 2 (.bool false):=h.ak.ag (by rw[←hd];rfl);have x1:aF w db 1 0:=h.ak.ag (by rw[←hf];rfl);have f2:w.frozen? ⟨db,2,none⟩=false:=h.ak.free _;have e:d.write i l=({d with down:=true},8):=by unfold bC.write;rw[if_neg (by rw[hd];decide),if_pos hf]
 have HE:=ae e;have HH:=ae h;have HT:=ae<|tA hi h;have hl':¬(64:Int)<l.length:=aj;clear h hd e hf hi
 go_enter Tryz.func100,Tryz.ntmps100
 go_wp2_with (go_at_call 123;refine HT.mono ?_;rintro e W1 ⟨rfl,rfl⟩);go_ret;have j:af (fun k=>k=db∨k=lb) w (w.setCell ⟨db,2,none⟩ (.bool true)):=(af.ai _ w).setCell (p:=⟨db,2,none⟩) (.inl (.inl rfl)) _;refine⟨V,by rw[HE.out];rfl,?_,j,fun k hk=>.inl hk⟩;rw[HE.out];have j1:af (az db) w (w.setCell ⟨db,2,none⟩ (.bool true)):=(af.ai _ w).setCell (p:=⟨db,2,none⟩) (.inl (show az db db from rfl)) _;exact {ak:=HH.ak.store 2 (.bool true),row:=j1.ak HH.row fun e=>HH.ne e.symm,sa:=fun i hi=>(HH.sa i hi).ar j1 fun k hk e=>(HH.off i hi k hk).1 e,small:=HH.small,off:=fun i hi k hk=>by have:=HH.off i hi k hk;exact⟨this.1,this.2.1,Nat.lt_of_lt_of_le this.2.2 j1.size⟩,ne:=HH.ne,u8:=fun i hi k hk=>by obtain⟨cs,hb⟩:=HH.u8 i hi k hk;exact⟨cs,j1.ak hb (HH.off i hi k hk).1⟩}
theorem s6 {w:World}{ops:Array Oper}{rest:List Oper}{o:Oper}{a:Act}{Q:Exit→Act→World→Prop}(qw:o.guard=none)(d s:Operand)
 (ho:o.op= .call {callee:=.builtin .copy,args:=#[d,s],argTypes:=#[35,35]}) (l:List Int) (A:Option Addr) (c g:Nat) (hd:a.eval d= .slice (some ⟨g,0,none⟩) l.length l.length)
 (hs:a.eval s= .slice A l.length c) (hg:w.heap[g]? =some (.cells (List.replicate l.length (Value.int .u8 0)).toArray 5 (0,0))) (hb:cH w (.slice A l.length c) l) (B:Nat) (w1:World) (hB:Below B w1 w) (hBg:B≤g)
 (h:∀w',Hid (Box w' g 5 (bytes l).toArray)→Below B w1 w'→wpList Tryz.prog ops Q rest (a.put o.dst (goInt l.length)) w'):wpList Tryz.prog ops Q (o :: rest) a w:=by
 have hn:(bytes l).length=Nat.min l.length l.length:=by rw[show Nat.min l.length l.length=l.length from Nat.min_self _];simp
 refine wpList_copy_splice qw d s 35 35 ho 5 Tryz.underlying35 aS (some ⟨g,0,none⟩) A l.length l.length l.length c hd hs g 0 (List.replicate l.length (Value.int .u8 0)) 5 hg (bytes l) hn (fun hp=>?_) (by simp) (qK l) B w1 hB hBg (fun w' h1 h2=>?_)
 ·obtain⟨A',c',e,h1,h2,h3⟩:=hb;injection e with e1 _ _;subst e1;obtain⟨g',o',hA,_⟩:=h3 0 _ (List.getElem?_eq_getElem hp);refine⟨rfl,⟨g',o',none⟩,hA,fun j v hj=>?_⟩;obtain⟨g2,o2,hA',hc⟩:=h3 j v hj;rw[hA]at hA';injection hA' with hA';injection hA' with e1 e2 _;subst e1 e2;rw[Addr.add_lit];exact hc
 ·have e:splice (List.replicate l.length (Value.int .u8 0)) 0 (bytes l)=bytes l:=by
   unfold splice;simp
  rw[e]at h1;have h3:=h w' h1 h2;simpa using h3
theorem Ib {A:Option Addr}{c:Nat}{l:List Int}{i:Nat}(hi:i<64)(hl:l.length≤64)(hd:d.down=false)(hf:d.cA≠0)(hf0: -1≤d.cA)(UX:d.cA≤9223372036854775807)(h:eD w db lb V d)(hb:cH w (.slice A l.length c) l)(UZ:∀k,aJ (.slice A l.length c) k→k≠db):
 Calls Tryz.prog 100 #[.pointer (some ⟨db,0,none⟩),.int .i64 i,.slice A l.length c] w (zA w db lb V d i l):=by
 have x2:aM w db 2 (.bool false):=h.ak.ag (by rw[←hd];rfl);have x1:aF w db 1 d.cA:=h.ak.ag rfl;have f1:w.frozen? ⟨db,1,none⟩=false:=h.ak.free _;have e:d.write i l=({d with cA:=if d.cA - 1< -1 then -1 else d.cA - 1,sec:=fun j=>if j=i then l else d.sec j},0):=by unfold bC.write;rw[if_neg (by rw[hd];decide),if_neg hf]
 have HE:=ae e;have HH:=ae h;have HB:=ae hb;have HBO:=ae UZ;have HT:=ae<|tA hi h;have HI:=ae hi;have hl':¬(64:Int)<l.length:=aj;have iQ:(d.cA==0)=false:=by simpa using hf
 have RZ:IntKind.i64.wrap (d.cA - 1)=d.cA - 1:=by rw[IntKind.wrap_i64];omega
 have HF0:=ae hf0;generalize hfu:d.cA=fu at *;have HFU:=ae hfu;clear h hd e hf hi hb UZ hfu hf0 UX
 go_enter Tryz.func100,Tryz.ntmps100
 go_upto_region 13 with(go_at_call 123;refine HT.mono ?_;rintro e W1 ⟨rfl,rfl⟩);have j1:af (az db) w (w.setCell ⟨db,1,none⟩ (.int .i64 (if fu - 1< -1 then -1 else fu - 1))):=(af.ai (az db) w).setCell (p:=⟨db,1,none⟩) (.inl (show az db db from rfl)) _;have b8:=aq (Box (w.setCell ⟨db,1,none⟩ (.int .i64 (if fu - 1< -1 then -1 else fu - 1))) db 66 #[.slice (some ⟨lb,0,none⟩) 64 64,.int .i64 (if fu - 1< -1 then -1 else fu - 1),.bool d.down]) (HH.ak.store 1 _);have cy:=ae<|j1.ak HH.row fun e=>HH.ne e.symm;have HY1:=ae<|HB.ar j1 fun k hk e=>HBO k hk e;have bc:=ae j1;clear j1 x1 x2 f1;generalize NA:(if fu - 1< -1 then -1 else fu - 1)=nf at *;have ta:=ae NA;generalize w.setCell ⟨db,1,none⟩ (.int .i64 nf)=W1 at *;clear NA iQ RZ;have tc:∀w,(Instr.makeSlice 35 (.int .i64 l.length) (.int .i64 l.length)).run Tryz.prog w= .ok (.slice (some ⟨w.heap.size,0,none⟩) l.length l.length) (w.alloc (.cells (madeCells #[.int .u8 0] l.length) 5)):=fun w=>
  run_make_row' (P:=Tryz.prog) 35 5 _ 1 Tryz.underlying35 fC rfl .i64 .i64 l.length aj aj w
 have HL:=ae hl;clear hl;go_upto_region 14 with fail;clear tc;have s9:=(af.ai au W1).alloc (.cells (madeCells #[.int .u8 0] l.length) 5);have hbf:=Box.fresh W1 5 (madeCells #[.int .u8 0] l.length);have HG:=aq ((W1.alloc (.cells (madeCells #[.int .u8 0] l.length) 5)).heap[W1.heap.size]? =some (.cells (List.replicate l.length (Value.int .u8 0)).toArray 5 (0,0))) (by
  have:madeCells #[.int .u8 0] l.length=(List.replicate l.length (Value.int .u8 0)).toArray:=by
   apply Array.toList_inj.1;rw[toList_madeCells_one]
  rw[←this];exact hbf)
 have QZ:=ae<|HY1.ar s9 fun _ _=>id;have sg:=aq (Below W1.heap.size W1 (W1.alloc (.cells (madeCells #[.int .u8 0] l.length) 5))) ((Below.refl _ _).alloc (dX _) _);clear s9 hbf;generalize W1.alloc (.cells (madeCells #[.int .u8 0] l.length) 5)=W2 at *;have lh:=ae<|dX W1.heap.size;have HGZ:=aq ((W1.heap.size)<W2.heap.size) ((Array.getElem?_eq_some_iff.1 HG).1);go_upto_region 15 with(refine s6 rfl (.tmp 46) (.tmp 47) rfl l A c W1.heap.size rfl rfl HG QZ W1.heap.size W1 sg lh ?_;intro W3 Wo hb3);obtain⟨j3,Ro⟩:af au W1 W3∧Box W3 W1.heap.size 5 (bytes l).toArray:=⟨af.L8 hb3,Wo.out⟩;have x0:aM W3 db 0 (.slice (some ⟨lb,0,none⟩) 64 64):=(j3.ak b8 id).ag rfl;have xi:aM W3 lb i (V i):=(j3.ak cy id).ag (FH V HI);have fi:W3.frozen? ⟨lb,i,none⟩=false:=(j3.ak cy id).free _;have Vu:=ae j3;have Vf:=ae Ro;have Wl:(i:Int)<64:=by have:=HI.out;omega
 clear j3 Ro Wo hb3 sg HG QZ;go_wp2_with fail;go_ret;have j4:af (az lb) W3 (W3.setCell ⟨lb,i,none⟩ (.slice (some ⟨W1.heap.size,0,none⟩) l.length l.length)):=(af.ai (az lb) W3).setCell (p:=⟨lb,i,none⟩) (.inl (show az lb lb from rfl)) _;have hn:=HH.ne;have hg:db<W1.heap.size∧lb<W1.heap.size:=⟨b8.lt,cy.lt⟩;have hw:w.heap.size≤W1.heap.size:=bc.size;have gY:Box (W3.setCell ⟨lb,i,none⟩ (.slice (some ⟨W1.heap.size,0,none⟩) l.length l.length)) lb 35 (qT fun j=>if j=i then .slice (some ⟨W1.heap.size,0,none⟩) l.length l.length else V j):=by
  rw[←LJ];exact(Vu.ak cy id).store i _
 have Dy:Box (W3.setCell ⟨lb,i,none⟩ (.slice (some ⟨W1.heap.size,0,none⟩) l.length l.length)) W1.heap.size 5 (bytes l).toArray:=j4.ak Vf (show¬W1.heap.size=lb by omega);refine⟨fun j=>if j=i then .slice (some ⟨W1.heap.size,0,none⟩) l.length l.length else V j,by rw[HE.out];rfl,?_,((bc.mono (S':=fun k=>k=db∨k=lb) fun k hk=>.inl (.inl hk)).aG Vu fun k hk=>hk.elim).aG j4 fun k hk=>.inl (.inr hk),fun k hk=>?_⟩
 ·rw[HE.out];refine {ak:=j4.ak (Vu.ak b8 id) hn,row:=gY,sa:=fun j hj=>?_,small:=fun j hj=>?_,off:=fun j hj k hk=>?_,ne:=hn,u8:=fun j hj k hk=>?_}
  ·by_cases e:j=i
   ·rw[if_pos e]
    show cH _ _ (if j=i then l else d.sec j)
    rw[if_pos e];exact Row.sa (.inr ⟨W1.heap.size,l.length,(bytes l).toArray,by rw[b7],Dy,by rw[b7];omega,by simp,by have:=HL.out;unfold maxLen;omega,by rw[b7];exact List.take_of_length_le (Nat.le_of_eq (b7 l))⟩) eZ
   ·rw[if_neg e]
    show cH _ _ (if j=i then l else d.sec j)
    rw[if_neg e];have ho:=HH.off j hj;exact(((HH.sa j hj).ar bc fun k hk e'=>(ho k hk).1 e').ar Vu fun _ _=>id).ar j4 fun k hk e'=>(ho k hk).2.1 e'
  ·show(if j=i then l else d.sec j).length≤64
   split
   ·exact HL
   ·exact HH.small j hj
  ·by_cases e:j=i
   ·rw[if_pos e]at hk;have hk:=aD.1 hk;subst hk;exact⟨aj,aj,Dy.lt⟩
   ·rw[if_neg e]at hk;have ho:=HH.off j hj k hk;exact⟨ho.1,ho.2.1,by have h1:=Vu.size;have h2:=j4.size;omega⟩
  ·by_cases e:j=i
   ·rw[if_pos e]at hk;have hk:=aD.1 hk;subst hk;exact⟨_,Dy⟩
   ·rw[if_neg e]at hk;have ho:=HH.off j hj k hk;obtain⟨cs,hc⟩:=HH.u8 j hj k hk;exact⟨cs,j4.ak (Vu.ak (bc.ak hc ho.1) id) ho.2.1⟩
 ·rcases hk with rfl|rfl|⟨j,hj,hk⟩
  ·exact .inl (.inl rfl)
  ·exact .inl (.inr (.inl rfl))
  ·by_cases e:j=i
   ·simp only[if_pos e]at hk;have hk:=aD.1 hk;exact .inr aj
   ·simp only[if_neg e]at hk;exact .inl (.inr (.inr ⟨j,hj,hk⟩))
theorem Ia {A:Option Addr}{n c:Nat}{l:List Int}{i:Nat}(hi:i<64)(hl:l.length≤64)(hf0: -1≤d.cA)(UX:d.cA≤9223372036854775807)(h:eD w db lb V d)(hb:cH w (.slice A n c) l)(UZ:∀k,aJ (.slice A n c) k→k≠db):
 Calls Tryz.prog 100 #[.pointer (some ⟨db,0,none⟩),.int .i64 i,.slice A n c] w (zA w db lb V d i l):=by
 obtain rfl:=hb.len.1
 cases hd:d.down with
 |true=>exact CD hd h
 |false=>
  by_cases hf:d.cA=0
  ·exact CC hi hl hd hf h
  ·exact Ib hi hl hd hf hf0 UX h hb UZ
end
end
end Go.Proofs.YtpcfhbeakecihaaGreat
