/- Lemmas. -/
import Derived.Deep.RegionHeld
import Derived.StillTail
import Derived.WalkKit
set_option linter.all false
set_option maxHeartbeats 20000000
set_option maxRecDepth 100000
namespace Go.Proofs.YtpcfhbeakecihaaGreat
section
variable {P:Program}{ops:Array Oper}{Q:Exit→Act→World→Prop}{md:Region.Mode}{S:World→Prop}
def cV (P:Program)(md:Region.Mode)(ops:Array Oper)(Q:Exit→Act→World→Prop)(S:World→Prop)(n:Nat)(L:Array Bool→Act→World→Prop):Nat→Array Bool→Act→World→Prop
 |0,listed,a,w=>L listed a w
 |f+1,listed,a,w=>Region.ready md ops listed≠[]∧∀i∈Region.ready md ops listed,i<n∧wpOp P ops Q i (fun a' w'=>S w'∧cV P md ops Q S n L f (listed.setIfInBounds i true) a' w') a w
theorem j8 {n g:Nat}{L:Array Bool→Act→World→Prop}(hL:∀listed a w,L listed a w→wpAny P md ops Q g listed a w):
 ∀(f:Nat) (listed:Array Bool) (a:Act) (w:World),cV P md ops Q S n L f listed a w→wpAny P md ops Q (f+g) listed a w
 |0,listed,a,w,h=>by rw[Nat.zero_add];exact hL _ _ _ h
 |f+1,listed,a,w,h=>by
  rw[show f+1+g=(f+g)+1 by omega];exact⟨fun h0=>absurd h0 h.1,fun i hi=>wpOp_mono (fun a' w' h'=>j8 hL f _ a' w' h'.2) (h.2 i hi).2⟩
theorem qj {n i:Nat}{oi:Oper}{v:Value}{L:Array Bool→Act→World→Prop}(hi:ops[i]? =some oi)(xq:∀(j:Nat) (o:Oper) cs b,ops[j]? =some o→o.op≠ .select cs b)
 (hs:Region.sinkB md ops n=true) (hc:Region.chainB md ops n=true) (hn:n<ops.size) (bI:i<n)
 (Eg:∀listed a w,L listed a w→∀j∈Region.ready md ops listed,n≤j)
 (hQ:∀c a w,Q (.panic c) (a.put oi.dst v) w→Q (.panic c) a w):
 ∀(f:Nat) (listed:Array Bool) (a:Act) (w:World),HeadInv md ops n listed→
  (∀j oj,ops[j]? =some oj→j≠i→listed.getD j true=false→(∀e∈oj.after,Region.binds md e=true→e.on≠i)→oi.apart ops oj=true)→
  i∈Region.ready md ops listed→YieldsIf P ops S oi v a→S w→
  cV P md ops Q S n L f (listed.setIfInBounds i true) (a.put oi.dst v) w→cV P md ops Q S n L (f+1) listed a w:=by
 intro f
 induction f with
 |zero=>
  intro listed a w inv _ hr hy hS H;have zZ:=(mem_ready.1 hr).1;refine⟨fun h=>(by rw[h]at hr;cases hr),fun j hj=>?_⟩;have Fl:j<n:=by
   rcases Nat.lt_or_ge j n with h|h
   ·exact h
   ·exact absurd hj (tail_waits hs hc hn inv _ i rfl bI zZ j h)
  refine⟨Fl,?_⟩
  by_cases ze:j=i
  ·subst ze;exact hy.wpOp hi hS ⟨hS,H⟩
  ·have:=Eg _ _ _ H j (ready_mono hj ze);omega
 |succ f ih=>
  intro listed a w inv gH hr hy hS H;have zZ:=(mem_ready.1 hr).1;refine⟨fun h=>(by rw[h]at hr;cases hr),fun j hj=>?_⟩;have Fl:j<n:=by
   rcases Nat.lt_or_ge j n with h|h
   ·exact h
   ·exact absurd hj (tail_waits hs hc hn inv _ i rfl bI zZ j h)
  refine⟨Fl,?_⟩
  by_cases ze:j=i
  ·subst ze;exact hy.wpOp hi hS ⟨hS,H⟩
  ·have h1:=(H.2 j (ready_mono hj ze)).2;obtain⟨DK,oj,GV,AM⟩:=mem_ready.1 hj;have xt:∀e∈oj.after,Region.binds md e=true→e.on≠i:=fun e he hb heq=>by
    have h1:=AM e he hb;rw[heq,getD_both zZ]at h1
    cases h1
   have h2:=wpOp_putIf GV (gH j oj GV ze DK xt) (fun cs b=>xq i oi cs b hi) (fun cs b=>xq j oj cs b GV) hQ hy h1;have Bj:∀k ok,ops[k]? =some ok→k≠i→(listed.setIfInBounds j true).getD k true=false→
    (∀e∈ok.after,Region.binds md e=true→e.on≠i)→oi.apart ops ok=true:=fun k ok hk pP zZ ll=>by
    refine gH k ok hk pP ?_ ll
    by_cases Ku:j=k
    ·subst Ku;exact DK
    ·rw[getD_set_ne true Ku]at zZ;exact zZ
   refine wpOp_mono (fun a' w' h3=>⟨h3.2.1,ih (listed.setIfInBounds j true) a' w' (inv.set hj Fl) Bj (ready_mono hr (Ne.symm ze)) h3.1 h3.2.1 ?_⟩) h2;rw[Array.setIfInBounds_comm _ _ ze];exact h3.2.2
def sw (md:Region.Mode)(ops:Array Oper)(n:Nat)(listed:Array Bool):Bool:=
 decide (listed.size=ops.size)&&((List.range ops.size).all fun j=>match ops[j]? with
  |none=>true
  |some oj=> !listed.getD j false||oj.after.all fun e=> !Region.binds md e||listed.getD e.on false)&&((List.range ops.size).all fun t=>decide (t<n)|| !listed.getD t true)
theorem tv {n:Nat}{listed:Array Bool}(h:sw md ops n listed=true):HeadInv md ops n listed:=by
 simp only[sw,Bool.and_eq_true,decide_eq_true_eq,List.all_eq_true,List.mem_range,Bool.or_eq_true,Bool.not_eq_true']at h;obtain⟨⟨h1,h2⟩,h3⟩:=h;refine⟨h1,fun j oj hj hl e he hb=>?_,fun t ht Aa=>?_⟩
 ·have:=h2 j (Array.getElem?_eq_some_iff.1 hj).1;rw[hj]at this;dsimp only at this;simp only[Bool.or_eq_true,Bool.not_eq_true',hl,Bool.true_eq_false,false_or]at this;have:=Array.all_eq_true'.1 this e he;simpa [hb] using this
 ·rcases h3 t Aa with h|h
  ·omega
  ·exact h
def lQ (ops:Array Oper)(n:Nat):Bool:=Region.noSelect ops&&decide (n<ops.size)&&Region.sinkB .any ops n&&Region.chainB .any ops n
def Lq (P:Program)(ops:Array Oper)(Q:Exit→Act→World→Prop)(n:Nat)(l:List Oper):Array Bool→Act→World→Prop:=
 fun listed a w=>Region.seqB .any ops l.length n listed=true∧wpList P ops Q l a w
theorem bj {n i:Nat}{oi:Oper}{v:Value}{l:List Oper}{f:Nat}{listed:Array Bool}{a:Act}{w:World}(hB:lQ ops n=true)(hi:ops[i]? =some oi)
 (bG:(sw .any ops n listed&&Region.free .any ops listed i&&(Region.ready .any ops listed).contains i&&decide (i<n))=true)
 (hQ:∀c a w,Q (.panic c) (a.put oi.dst v) w→Q (.panic c) a w) (hy:YieldsIf P ops S oi v a) (hS:S w)
 (h:cV P .any ops Q S n (Lq P ops Q n l) f (listed.setIfInBounds i true) (a.put oi.dst v) w):cV P .any ops Q S n (Lq P ops Q n l) (f+1) listed a w:=by
 simp only[lQ,Bool.and_eq_true,decide_eq_true_eq]at hB bG;obtain⟨⟨⟨xq,hn⟩,hs⟩,hc⟩:=hB;obtain⟨⟨⟨h1,h2⟩,h3⟩,h4⟩:=bG;exact qj hi (Region.noSelect_spec xq) hs hc hn h4 (fun _ _ _ hL=>seqB_ready hL.1) hQ f listed a w (tv h1) (Region.free_spec hi h2) (by simpa using h3) hy hS h
theorem vw {n i:Nat}{oi:Oper}{l:List Oper}{f:Nat}{listed:Array Bool}{a:Act}{w:World}(hi:ops[i]? =some oi)
 (bG:(decide (Region.ready .any ops listed= [i])&&decide (i<n))=true)
 (h:∀K:Act→World→Prop,Shut (∀a w,S w→(S w→cV P .any ops Q S n (Lq P ops Q n l) f (listed.setIfInBounds i true) a w)→K a w)→
  if Region.wanted oi (yielded ops a.tmps)=true then Oper.wp P oi a w K Q else K (a.put oi.dst undef) w):cV P .any ops Q S n (Lq P ops Q n l) (f+1) listed a w:=by
 simp only[Bool.and_eq_true,decide_eq_true_eq]at bG;obtain⟨h1,h2⟩:=bG;refine⟨by rw[h1];simp,fun j hj=>?_⟩;rw[h1]at hj;obtain rfl:j=i:=by simpa using hj
 exact⟨h2,wpOp_step hi fun K hK=>h K fun a w hS hW=>hK a w ⟨hS,hW hS⟩⟩
theorem vx {n:Nat}{l:List Oper}{listed:Array Bool}{a:Act}{w:World}(bG:Region.seqB .any ops l.length n listed=true)(h:wpList P ops Q l a w):cV P .any ops Q S n (Lq P ops Q n l) 0 listed a w:=⟨bG,h⟩
theorem hD {id:Nat}{a:Act}{w:World}{l:List Oper}(n:Nat)(hm:P.follows .mixedOrders=true)(hn:(decide (n<l.length))=true)(hS:S w.drew)
 (h:S w.drew→cV P .any l.toArray Q S n (Lq P l.toArray Q n (l.drop n)) n (Array.replicate l.length false) a w.drew):(Code.region id l.toArray true).wp P Q a w:=by
 have ks:n<l.length:=of_decide_eq_true hn;refine wp_region_any hm ?_;have Oc:(l.drop n).length=l.length - n:=by simp
 have:=j8 (Q:=Q) (S:=S) (n:=n) (g:=l.length - n) (L:=Lq P l.toArray Q n (l.drop n)) (fun listed a' w' hL=>by
  have:=wpAny_of_seq (md:=.any) (Q':=Q) (l.drop n) n listed a' w' (fun j=>by simp[List.getElem?_drop]) hL.1 hL.2;rwa [Oc]at this) n _ a w.drew (h hS)
 rw[show n+(l.length - n)=l.length by omega]at this;simpa using this
end
section
variable {P:Program}{ops:Array Oper}{Q:Exit→Act→World→Prop}{md:Region.Mode}{S:World→Prop}
def ix (P:Program)(ops:Array Oper)(Q:Exit→Act→World→Prop)(S:World→Prop)(n:Nat)(l:List Oper)(QY:List Nat)(f:Nat)(listed:Array Bool)(a:Act)(w:World):Prop:=
 lQ ops n=true→(∀c a d v w,Q (.panic c) (Act.put a d v) w→Q (.panic c) a w)→S w→cV P .any ops Q S n (Lq P ops Q n l) f listed a w
theorem JG (is:List Nat){n:Nat}{l:List Oper}{f:Nat}{listed:Array Bool}{a:Act}{w:World}(hB:lQ ops n=true)(hQ:∀c a d v w,Q (.panic c) (Act.put a d v) w→Q (.panic c) a w)(hS:S w)
 (h:ix P ops Q S n l is f listed a w):cV P .any ops Q S n (Lq P ops Q n l) f listed a w:=h hB hQ hS
theorem jJ {n:Nat}{l:List Oper}{f:Nat}{listed:Array Bool}{a:Act}{w:World}(h:cV P .any ops Q S n (Lq P ops Q n l) f listed a w):ix P ops Q S n l [] f listed a w:=fun _ _ _=>h
theorem kO {n i:Nat}{is:List Nat}{oi:Oper}{v:Value}{l:List Oper}{f:Nat}{listed:Array Bool}{a:Act}{w:World}(hi:ops[i]? =some oi)
 (bG:(sw .any ops n listed&&Region.free .any ops listed i&&(Region.ready .any ops listed).contains i&&decide (i<n))=true)
 (hy:YieldsIf P ops S oi v a)
 (h:ix P ops Q S n l is f (listed.setIfInBounds i true) (a.put oi.dst v) w):ix P ops Q S n l (i :: is) (f+1) listed a w:=
 fun hB hQ hS=>bj hB hi bG (fun c a w h=>hQ c a oi.dst v w h) hy hS (h hB hQ hS)
end
section
variable {P:Program}{ops:Array Oper}{Q:Exit→Act→World→Prop}{md:Region.Mode}{S:World→Prop}
theorem Ql (is:List Nat){n:Nat}{l:List Oper}{f:Nat}{listed:Array Bool}{a:Act}{w:World}(hS:S w)(h:ix P ops Q S n l is f listed a w)(hB:lQ ops n=true:=by kernel_rfl)(hQ:∀c a d v w,Q (.panic c) (Act.put a d v) w→Q (.panic c) a w:=by(intro _ _ d _ _ h;cases d<;>exact h)):
 cV P .any ops Q S n (Lq P ops Q n l) f listed a w:=h hB hQ hS
theorem JO {n i:Nat}{is:List Nat}{oi:Oper}{v:Value}{l:List Oper}{f:Nat}{listed:Array Bool}{a a':Act}{w:World}(h:ix P ops Q S n l is f (listed.setIfInBounds i true) a' w)(hi:ops[i]? =some oi:=by rfl)
 (bG:(sw .any ops n listed&&Region.free .any ops listed i&&(Region.ready .any ops listed).contains i&&decide (i<n))=true:=by kernel_rfl) (hw:Region.wanted oi (yielded ops a.tmps)=true:=by rfl)
 (hv:∀w,S w→(execOp a.eval oi).run P w= .ok (.value v) w:=by(intro w hSw;(try dsimp only at hSw);go_simp;(try with_reducible rfl))) (ha:a.put oi.dst v=a':=by((try simp only[Act.put,List.getElem_toArray,List.getElem_cons_succ,List.getElem_cons_zero,List.setIfInBounds_toArray,List.set_cons_zero,List.set_cons_succ]);rfl)):ix P ops Q S n l (i :: is) (f+1) listed a w:=kO hi bG (.inl ⟨hw,hv⟩) (ha▸h)
theorem JN {n i:Nat}{is:List Nat}{oi:Oper}{l:List Oper}{f:Nat}{listed:Array Bool}{a a':Act}{w:World}(h:ix P ops Q S n l is f (listed.setIfInBounds i true) a' w)(hi:ops[i]? =some oi:=by rfl)
 (bG:(sw .any ops n listed&&Region.free .any ops listed i&&(Region.ready .any ops listed).contains i&&decide (i<n))=true:=by kernel_rfl) (hw:Region.wanted oi (yielded ops a.tmps)=false:=by rfl) (ha:a.put oi.dst undef=a':=by((try simp only[Act.put,List.getElem_toArray,List.getElem_cons_succ,List.getElem_cons_zero,List.setIfInBounds_toArray,List.set_cons_zero,List.set_cons_succ]);rfl)):ix P ops Q S n l (i :: is) (f+1) listed a w:=kO hi bG (.inr ⟨hw,rfl⟩) (ha▸h)
theorem lj {K:Act→World→Prop}{L:Array Bool→Act→World→Prop}{n f:Nat}{listed:Array Bool}{a a':Act}{w:World}(hK:Shut (∀a w,S w→(S w→cV P .any ops Q S n L f listed a w)→K a w))(h1:S w)(h:S w→cV P .any ops Q S n L f listed a' w)
 (ha:a=a':=by((try simp only[Act.put,List.getElem_toArray,List.getElem_cons_succ,List.getElem_cons_zero,List.setIfInBounds_toArray,List.set_cons_zero,List.set_cons_succ]);rfl)):K a w:=hK.out a w h1 fun s=>ha▸h s
theorem lh {n:Nat}(i:Nat){oi:Oper}{l:List Oper}{f:Nat}{listed:Array Bool}{a:Act}{w:World}
 (h:∀K:Act→World→Prop,Shut (∀a w,S w→(S w→cV P .any ops Q S n (Lq P ops Q n l) f (listed.setIfInBounds i true) a w)→K a w)→
  if Region.wanted oi (yielded ops a.tmps)=true then Oper.wp P oi a w K Q else K (a.put oi.dst undef) w)
 (hi:ops[i]? =some oi:=by rfl) (bG:(decide (Region.ready .any ops listed= [i])&&decide (i<n))=true:=by kernel_rfl):cV P .any ops Q S n (Lq P ops Q n l) (f+1) listed a w:=vw hi bG h
theorem jz {n:Nat}{l:List Oper}{listed:Array Bool}{a:Act}{w:World}(h:wpList P ops Q l a w)(bG:Region.seqB .any ops l.length n listed=true:=by kernel_rfl):cV P .any ops Q S n (Lq P ops Q n l) 0 listed a w:=vx bG h
theorem kb (S:World→Prop)(n:Nat){id:Nat}{a:Act}{w:World}{l:List Oper}(hS:S w.drew)
 (h:S w.drew→cV P .any l.toArray Q S n (Lq P l.toArray Q n (l.drop n)) n (Array.replicate l.length false) a w.drew) (hm:P.follows .mixedOrders=true:=by kernel_rfl) (hn:(decide (n<l.length))=true:=by kernel_rfl):
 (Code.region id l.toArray true).wp P Q a w:=hD n hm hn hS h
theorem JQ {K:Act→World→Prop}{L:Array Bool→Act→World→Prop}{n f:Nat}{listed:Array Bool}{a a':Act}{w:World}(hK:Shut (∀a w,S w→(S w→cV P .any ops Q S n L f listed a w)→K a w))(h:S w→cV P .any ops Q S n L f listed a' w)(h1:S w:=by and_intros<;>assumption)
 (ha:a=a':=by((try simp only[Act.put,List.getElem_toArray,List.getElem_cons_succ,List.getElem_cons_zero,List.setIfInBounds_toArray,List.set_cons_zero,List.set_cons_succ]);rfl)):K a w:=hK.out a w h1 fun s=>ha▸h s
theorem JP (S:World→Prop)(n:Nat){id:Nat}{a:Act}{w:World}{l:List Oper}
 (h:S w.drew→cV P .any l.toArray Q S n (Lq P l.toArray Q n (l.drop n)) n (Array.replicate l.length false) a w.drew) (hS:S w.drew:=by and_intros<;>assumption) (hm:P.follows .mixedOrders=true:=by kernel_rfl) (hn:(decide (n<l.length))=true:=by kernel_rfl):
 (Code.region id l.toArray true).wp P Q a w:=hD n hm hn hS h
def EU (_:List Nat):Prop:=True
theorem GC {is:List Nat}(t:EU is){n:Nat}{l:List Oper}{f:Nat}{listed:Array Bool}{a:Act}{w:World}(hS:S w)(h:ix P ops Q S n l is f listed a w)(hB:lQ ops n=true:=by kernel_rfl)(hQ:∀c a d v w,Q (.panic c) (Act.put a d v) w→Q (.panic c) a w:=by(intro _ _ d _ _ h;cases d<;>exact h)):
 cV P .any ops Q S n (Lq P ops Q n l) f listed a w:=h hB hQ hS
theorem eZ {G3 G:Prop}(is:List Nat)(h:G3)(H:EU is→G3→G:=by(intro t h;refine GC t aX ?_;(repeat refine JO ?_);exact jJ h)):G:=H trivial h
theorem Qn {G3 G:Prop}(is:List Nat)(h:G3)(H:EU is→G3→G:=by(intro t h;refine GC t aX ?_;(repeat refine JN ?_);exact jJ h)):G:=H trivial h
theorem JR {G3 G:Prop}(is:List Nat)(h:G3)(H:EU is→G3→G:=by(intro t h;refine GC t aX ?_;(repeat(first|refine JO ?_|refine JN ?_));exact jJ h)):G:=H trivial h
theorem sd {G3 G:Prop}(h:G3)(H:G3→G:=by(intro h;(try simp only[Act.put,List.getElem_toArray,List.getElem_cons_succ,List.getElem_cons_zero,List.setIfInBounds_toArray,List.set_cons_zero,List.set_cons_succ]);exact h)):G:=H h
theorem Qm {P:Program}{c:Code}{Q:Exit→Act→World→Prop}{a:Act}(w:World)(h:c.wp P Q a w):c.wp P Q a w:=h
end
section
variable {P:Program}{ops:Array Oper}{Q:Exit→Act→World→Prop}{S:World→Prop}
theorem vu {n i j:Nat}{oi oj:Oper}{l:List Oper}{f:Nat}{listed:Array Bool}{a:Act}{w:World}(hi:ops[i]? =some oi)(hj:ops[j]? =some oj)
 (bG:(decide (Region.ready .any ops listed= [i,j])&&decide (i<n)&&decide (j<n))=true)
 (h1:∀K:Act→World→Prop,Shut (∀a w,S w→(S w→cV P .any ops Q S n (Lq P ops Q n l) f (listed.setIfInBounds i true) a w)→K a w)→
  if Region.wanted oi (yielded ops a.tmps)=true then Oper.wp P oi a w K Q else K (a.put oi.dst undef) w)
 (h2:∀K:Act→World→Prop,Shut (∀a w,S w→(S w→cV P .any ops Q S n (Lq P ops Q n l) f (listed.setIfInBounds j true) a w)→K a w)→
  if Region.wanted oj (yielded ops a.tmps)=true then Oper.wp P oj a w K Q else K (a.put oj.dst undef) w):cV P .any ops Q S n (Lq P ops Q n l) (f+1) listed a w:=by
 simp only[Bool.and_eq_true,decide_eq_true_eq]at bG;obtain⟨⟨h3,h4⟩,h5⟩:=bG;refine⟨by rw[h3];simp,fun k hk=>?_⟩;rw[h3]at hk;simp only[List.mem_cons,List.not_mem_nil,or_false]at hk;rcases hk with rfl|rfl
 ·exact⟨h4,wpOp_step hi fun K hK=>h1 K fun a w hS hW=>hK a w ⟨hS,hW hS⟩⟩
 ·exact⟨h5,wpOp_step hj fun K hK=>h2 K fun a w hS hW=>hK a w ⟨hS,hW hS⟩⟩
end
end Go.Proofs.YtpcfhbeakecihaaGreat
