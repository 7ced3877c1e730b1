/- Lemmas. -/
import Derived.Deep.RegionHeld
import Derived.StillTail
import Derived.WalkKit
set_option linter.all false
set_option maxHeartbeats 20000000
set_option maxRecDepth 100000
namespace Go.Proofs.YtpcfhbeakecihaaGreat
section
variable {P:Program}{ops:Array Oper}{Q:Exit→Act→World→Prop}{md:Region.Mode}{S:World→Prop}
def iB (P:Program)(md:Region.Mode)(ops:Array Oper)(Q:Exit→Act→World→Prop)(S:World→Prop)(n:Nat)(L:Array Bool→Act→World→Prop):Nat→Array Bool→Act→World→Prop
 |0,listed,a,w=>L listed a w
 |f+1,listed,a,w=>Region.ready md ops listed≠[]∧∀i∈Region.ready md ops listed,i<n∧wpOp P ops Q i (fun a' w'=>S w'∧iB P md ops Q S n L f (listed.setIfInBounds i true) a' w') a w
theorem uf {n g:Nat}{L:Array Bool→Act→World→Prop}(hL:∀listed a w,L listed a w→wpAny P md ops Q g listed a w):
 ∀(f:Nat) (listed:Array Bool) (a:Act) (w:World),iB P md ops Q S n L f listed a w→wpAny P md ops Q (f+g) listed a w
 |0,listed,a,w,h=>by rw[Nat.zero_add];exact hL _ _ _ h
 |f+1,listed,a,w,h=>by
  rw[show f+1+g=(f+g)+1 by omega];exact⟨fun h0=>absurd h0 h.1,fun i hi=>wpOp_mono (fun a' w' h'=>uf hL f _ a' w' h'.2) (h.2 i hi).2⟩
theorem DV {n i:Nat}{oi:Oper}{v:Value}{L:Array Bool→Act→World→Prop}(hi:ops[i]? =some oi)(N9:∀(j:Nat) (o:Oper) cs b,ops[j]? =some o→o.op≠ .select cs b)
 (hs:Region.sinkB md ops n=true) (hc:Region.chainB md ops n=true) (hn:n<ops.size) (bL:i<n)
 (mL:∀listed a w,L listed a w→∀j∈Region.ready md ops listed,n≤j)
 (hQ:∀c a w,Q (.panic c) (a.put oi.dst v) w→Q (.panic c) a w):
 ∀(f:Nat) (listed:Array Bool) (a:Act) (w:World),HeadInv md ops n listed→
  (∀j oj,ops[j]? =some oj→j≠i→listed.getD j true=false→(∀e∈oj.after,Region.binds md e=true→e.on≠i)→oi.apart ops oj=true)→
  i∈Region.ready md ops listed→YieldsIf P ops S oi v a→S w→
  iB P md ops Q S n L f (listed.setIfInBounds i true) (a.put oi.dst v) w→iB P md ops Q S n L (f+1) listed a w:=by
 intro f
 induction f with
 |zero=>
  intro listed a w inv _ hr hy hS H;have R0:=(mem_ready.1 hr).1;refine⟨fun h=>(by rw[h]at hr;cases hr),fun j hj=>?_⟩;have hjn:j<n:=by
   rcases Nat.lt_or_ge j n with h|h
   ·exact h
   ·exact absurd hj (tail_waits hs hc hn inv _ i rfl bL R0 j h)
  refine⟨hjn,?_⟩
  by_cases QR:j=i
  ·subst QR;exact hy.wpOp hi hS ⟨hS,H⟩
  ·have:=mL _ _ _ H j (ready_mono hj QR);omega
 |succ f ih=>
  intro listed a w inv pN hr hy hS H;have R0:=(mem_ready.1 hr).1;refine⟨fun h=>(by rw[h]at hr;cases hr),fun j hj=>?_⟩;have hjn:j<n:=by
   rcases Nat.lt_or_ge j n with h|h
   ·exact h
   ·exact absurd hj (tail_waits hs hc hn inv _ i rfl bL R0 j h)
  refine⟨hjn,?_⟩
  by_cases QR:j=i
  ·subst QR;exact hy.wpOp hi hS ⟨hS,H⟩
  ·have h1:=(H.2 j (ready_mono hj QR)).2;obtain⟨X5,oj,hoj,S0⟩:=mem_ready.1 hj;have Og:∀e∈oj.after,Region.binds md e=true→e.on≠i:=fun e he hb heq=>by
    have h1:=S0 e he hb;rw[heq,getD_both R0]at h1
    cases h1
   have h2:=wpOp_putIf hoj (pN j oj hoj QR X5 Og) (fun cs b=>N9 i oi cs b hi) (fun cs b=>N9 j oj cs b hoj) hQ hy h1;have TL:∀k ok,ops[k]? =some ok→k≠i→(listed.setIfInBounds j true).getD k true=false→
    (∀e∈ok.after,Region.binds md e=true→e.on≠i)→oi.apart ops ok=true:=fun k ok hk xC R0 pH=>by
    refine pN k ok hk xC ?_ pH
    by_cases hjk:j=k
    ·subst hjk;exact X5
    ·rw[getD_set_ne true hjk]at R0;exact R0
   refine wpOp_mono (fun a' w' h3=>⟨h3.2.1,ih (listed.setIfInBounds j true) a' w' (inv.set hj hjn) TL (ready_mono hr (Ne.symm QR)) h3.1 h3.2.1 ?_⟩) h2;rw[Array.setIfInBounds_comm _ _ QR];exact h3.2.2
def GH (md:Region.Mode)(ops:Array Oper)(n:Nat)(listed:Array Bool):Bool:=
 decide (listed.size=ops.size)&&((List.range ops.size).all fun j=>match ops[j]? with
  |none=>true
  |some oj=> !listed.getD j false||oj.after.all fun e=> !Region.binds md e||listed.getD e.on false)&&((List.range ops.size).all fun t=>decide (t<n)|| !listed.getD t true)
theorem IL {n:Nat}{listed:Array Bool}(h:GH md ops n listed=true):HeadInv md ops n listed:=by
 simp only[GH,Bool.and_eq_true,decide_eq_true_eq,List.all_eq_true,List.mem_range,Bool.or_eq_true,Bool.not_eq_true']at h;obtain⟨⟨h1,h2⟩,h3⟩:=h;refine⟨h1,fun j oj hj hl e he hb=>?_,fun t ht R1=>?_⟩
 ·have:=h2 j (Array.getElem?_eq_some_iff.1 hj).1;rw[hj]at this;dsimp only at this;simp only[Bool.or_eq_true,Bool.not_eq_true',hl,Bool.true_eq_false,false_or]at this;have:=Array.all_eq_true'.1 this e he;simpa [hb] using this
 ·rcases h3 t R1 with h|h
  ·omega
  ·exact h
def xI (ops:Array Oper)(n:Nat):Bool:=Region.noSelect ops&&decide (n<ops.size)&&Region.sinkB .any ops n&&Region.chainB .any ops n
def Lq (P:Program)(ops:Array Oper)(Q:Exit→Act→World→Prop)(n:Nat)(l:List Oper):Array Bool→Act→World→Prop:=
 fun listed a w=>Region.seqB .any ops l.length n listed=true∧wpList P ops Q l a w
theorem aB {n i:Nat}{oi:Oper}{v:Value}{l:List Oper}{f:Nat}{listed:Array Bool}{a:Act}{w:World}(hB:xI ops n=true)(hi:ops[i]? =some oi)
 (bN:(GH .any ops n listed&&Region.free .any ops listed i&&(Region.ready .any ops listed).contains i&&decide (i<n))=true)
 (hQ:∀c a w,Q (.panic c) (a.put oi.dst v) w→Q (.panic c) a w) (hy:YieldsIf P ops S oi v a) (hS:S w)
 (h:iB P .any ops Q S n (Lq P ops Q n l) f (listed.setIfInBounds i true) (a.put oi.dst v) w):iB P .any ops Q S n (Lq P ops Q n l) (f+1) listed a w:=by
 simp only[xI,Bool.and_eq_true,decide_eq_true_eq]at hB bN;obtain⟨⟨⟨N9,hn⟩,hs⟩,hc⟩:=hB;obtain⟨⟨⟨h1,h2⟩,h3⟩,h4⟩:=bN;exact DV hi (Region.noSelect_spec N9) hs hc hn h4 (fun _ _ _ hL=>seqB_ready hL.1) hQ f listed a w (IL h1) (Region.free_spec hi h2) (by simpa using h3) hy hS h
theorem Lw {n i:Nat}{oi:Oper}{l:List Oper}{f:Nat}{listed:Array Bool}{a:Act}{w:World}(hi:ops[i]? =some oi)
 (bN:(decide (Region.ready .any ops listed= [i])&&decide (i<n))=true)
 (h:∀K:Act→World→Prop,Shut (∀a w,S w→(S w→iB P .any ops Q S n (Lq P ops Q n l) f (listed.setIfInBounds i true) a w)→K a w)→
  if Region.wanted oi (yielded ops a.tmps)=true then Oper.wp P oi a w K Q else K (a.put oi.dst undef) w):iB P .any ops Q S n (Lq P ops Q n l) (f+1) listed a w:=by
 simp only[Bool.and_eq_true,decide_eq_true_eq]at bN;obtain⟨h1,h2⟩:=bN;refine⟨by rw[h1];simp,fun j hj=>?_⟩;rw[h1]at hj;obtain rfl:j=i:=by simpa using hj
 exact⟨h2,wpOp_step hi fun K hK=>h K fun a w hS hW=>hK a w ⟨hS,hW hS⟩⟩
theorem Lx {n:Nat}{l:List Oper}{listed:Array Bool}{a:Act}{w:World}(bN:Region.seqB .any ops l.length n listed=true)(h:wpList P ops Q l a w):iB P .any ops Q S n (Lq P ops Q n l) 0 listed a w:=⟨bN,h⟩
theorem qo {id:Nat}{a:Act}{w:World}{l:List Oper}(n:Nat)(hm:P.follows .mixedOrders=true)(hn:(decide (n<l.length))=true)(hS:S w.drew)
 (h:S w.drew→iB P .any l.toArray Q S n (Lq P l.toArray Q n (l.drop n)) n (Array.replicate l.length false) a w.drew):(Code.region id l.toArray true).wp P Q a w:=by
 have uT:n<l.length:=of_decide_eq_true hn;refine wp_region_any hm ?_;have hdl:(l.drop n).length=l.length - n:=by simp
 have:=uf (Q:=Q) (S:=S) (n:=n) (g:=l.length - n) (L:=Lq P l.toArray Q n (l.drop n)) (fun listed a' w' hL=>by
  have:=wpAny_of_seq (md:=.any) (Q':=Q) (l.drop n) n listed a' w' (fun j=>by simp[List.getElem?_drop]) hL.1 hL.2;rwa [hdl]at this) n _ a w.drew (h hS)
 rw[show n+(l.length - n)=l.length by omega]at this;simpa using this
end
section
variable {P:Program}{ops:Array Oper}{Q:Exit→Act→World→Prop}{md:Region.Mode}{S:World→Prop}
def ri (P:Program)(ops:Array Oper)(Q:Exit→Act→World→Prop)(S:World→Prop)(n:Nat)(l:List Oper)(_is:List Nat)(f:Nat)(listed:Array Bool)(a:Act)(w:World):Prop:=
 xI ops n=true→(∀c a d v w,Q (.panic c) (Act.put a d v) w→Q (.panic c) a w)→S w→iB P .any ops Q S n (Lq P ops Q n l) f listed a w
theorem tw {n:Nat}{l:List Oper}{f:Nat}{listed:Array Bool}{a:Act}{w:World}(h:iB P .any ops Q S n (Lq P ops Q n l) f listed a w):ri P ops Q S n l [] f listed a w:=fun _ _ _=>h
theorem we {n i:Nat}{is:List Nat}{oi:Oper}{v:Value}{l:List Oper}{f:Nat}{listed:Array Bool}{a:Act}{w:World}(hi:ops[i]? =some oi)
 (bN:(GH .any ops n listed&&Region.free .any ops listed i&&(Region.ready .any ops listed).contains i&&decide (i<n))=true)
 (hy:YieldsIf P ops S oi v a)
 (h:ri P ops Q S n l is f (listed.setIfInBounds i true) (a.put oi.dst v) w):ri P ops Q S n l (i :: is) (f+1) listed a w:=
 fun hB hQ hS=>aB hB hi bN (fun c a w h=>hQ c a oi.dst v w h) hy hS (h hB hQ hS)
end
section
variable {P:Program}{ops:Array Oper}{Q:Exit→Act→World→Prop}{md:Region.Mode}{S:World→Prop}
theorem wTz {n i:Nat}{is:List Nat}{oi:Oper}{v:Value}{l:List Oper}{f:Nat}{listed:Array Bool}{a a':Act}{w:World}(h:ri P ops Q S n l is f (listed.setIfInBounds i true) a' w)(hi:ops[i]? =some oi:=by rfl)
 (bN:(GH .any ops n listed&&Region.free .any ops listed i&&(Region.ready .any ops listed).contains i&&decide (i<n))=true:=by kernel_rfl) (hw:Region.wanted oi (yielded ops a.tmps)=true:=by rfl)
 (hv:∀w,S w→(execOp a.eval oi).run P w= .ok (.value v) w:=by(intro w hSw;(try dsimp only at hSw);go_simp;(try with_reducible rfl))) (ha:a.put oi.dst v=a':=by((try simp only[Act.put,List.getElem_toArray,List.getElem_cons_succ,List.getElem_cons_zero,List.setIfInBounds_toArray,List.set_cons_zero,List.set_cons_succ]);rfl)):ri P ops Q S n l (i :: is) (f+1) listed a w:=we hi bN (.inl ⟨hw,hv⟩) (ha▸h)
theorem wUz {n i:Nat}{is:List Nat}{oi:Oper}{l:List Oper}{f:Nat}{listed:Array Bool}{a a':Act}{w:World}(h:ri P ops Q S n l is f (listed.setIfInBounds i true) a' w)(hi:ops[i]? =some oi:=by rfl)
 (bN:(GH .any ops n listed&&Region.free .any ops listed i&&(Region.ready .any ops listed).contains i&&decide (i<n))=true:=by kernel_rfl) (hw:Region.wanted oi (yielded ops a.tmps)=false:=by rfl) (ha:a.put oi.dst undef=a':=by((try simp only[Act.put,List.getElem_toArray,List.getElem_cons_succ,List.getElem_cons_zero,List.setIfInBounds_toArray,List.set_cons_zero,List.set_cons_succ]);rfl)):ri P ops Q S n l (i :: is) (f+1) listed a w:=we hi bN (.inr ⟨hw,rfl⟩) (ha▸h)
theorem dy {K:Act→World→Prop}{L:Array Bool→Act→World→Prop}{n f:Nat}{listed:Array Bool}{a a':Act}{w:World}(hK:Shut (∀a w,S w→(S w→iB P .any ops Q S n L f listed a w)→K a w))(h1:S w)(h:S w→iB P .any ops Q S n L f listed a' w)
 (ha:a=a':=by((try simp only[Act.put,List.getElem_toArray,List.getElem_cons_succ,List.getElem_cons_zero,List.setIfInBounds_toArray,List.set_cons_zero,List.set_cons_succ]);rfl)):K a w:=hK.out a w h1 fun s=>ha▸h s
theorem cX {n:Nat}(i:Nat){oi:Oper}{l:List Oper}{f:Nat}{listed:Array Bool}{a:Act}{w:World}
 (h:∀K:Act→World→Prop,Shut (∀a w,S w→(S w→iB P .any ops Q S n (Lq P ops Q n l) f (listed.setIfInBounds i true) a w)→K a w)→
  if Region.wanted oi (yielded ops a.tmps)=true then Oper.wp P oi a w K Q else K (a.put oi.dst undef) w)
 (hi:ops[i]? =some oi:=by rfl) (bN:(decide (Region.ready .any ops listed= [i])&&decide (i<n))=true:=by kernel_rfl):iB P .any ops Q S n (Lq P ops Q n l) (f+1) listed a w:=Lw hi bN h
theorem dE {n:Nat}{l:List Oper}{listed:Array Bool}{a:Act}{w:World}(h:wpList P ops Q l a w)(bN:Region.seqB .any ops l.length n listed=true:=by kernel_rfl):iB P .any ops Q S n (Lq P ops Q n l) 0 listed a w:=Lx bN h
theorem gg (S:World→Prop)(n:Nat){id:Nat}{a:Act}{w:World}{l:List Oper}(hS:S w.drew)
 (h:S w.drew→iB P .any l.toArray Q S n (Lq P l.toArray Q n (l.drop n)) n (Array.replicate l.length false) a w.drew) (hm:P.follows .mixedOrders=true:=by kernel_rfl) (hn:(decide (n<l.length))=true:=by kernel_rfl):
 (Code.region id l.toArray true).wp P Q a w:=qo n hm hn hS h
theorem Ai {K:Act→World→Prop}{L:Array Bool→Act→World→Prop}{n f:Nat}{listed:Array Bool}{a a':Act}{w:World}(hK:Shut (∀a w,S w→(S w→iB P .any ops Q S n L f listed a w)→K a w))(h:S w→iB P .any ops Q S n L f listed a' w)(h1:S w:=by and_intros<;>assumption)
 (ha:a=a':=by((try simp only[Act.put,List.getElem_toArray,List.getElem_cons_succ,List.getElem_cons_zero,List.setIfInBounds_toArray,List.set_cons_zero,List.set_cons_succ]);rfl)):K a w:=hK.out a w h1 fun s=>ha▸h s
theorem pG (S:World→Prop)(n:Nat){id:Nat}{a:Act}{w:World}{l:List Oper}
 (h:S w.drew→iB P .any l.toArray Q S n (Lq P l.toArray Q n (l.drop n)) n (Array.replicate l.length false) a w.drew) (hS:S w.drew:=by and_intros<;>assumption) (hm:P.follows .mixedOrders=true:=by kernel_rfl) (hn:(decide (n<l.length))=true:=by kernel_rfl):
 (Code.region id l.toArray true).wp P Q a w:=qo n hm hn hS h
def Z0 (_:List Nat):Prop:=True
theorem wLy {is:List Nat}(t:Z0 is){n:Nat}{l:List Oper}{f:Nat}{listed:Array Bool}{a:Act}{w:World}(hS:S w)(h:ri P ops Q S n l is f listed a w)(hB:xI ops n=true:=by kernel_rfl)(hQ:∀c a d v w,Q (.panic c) (Act.put a d v) w→Q (.panic c) a w:=by(intro _ _ d _ _ h;cases d<;>exact h)):
 iB P .any ops Q S n (Lq P ops Q n l) f listed a w:=h hB hQ hS
theorem bE {G3 G:Prop}(is:List Nat)(h:G3)(H:Z0 is→G3→G:=by(intro t h;refine wLy t aC ?_;(repeat refine wTz ?_);exact tw h)):G:=H trivial h
theorem wAx {G3 G:Prop}(is:List Nat)(h:G3)(H:Z0 is→G3→G:=by(intro t h;refine wLy t aC ?_;(repeat refine wUz ?_);exact tw h)):G:=H trivial h
theorem Dk {G3 G:Prop}(is:List Nat)(h:G3)(H:Z0 is→G3→G:=by(intro t h;refine wLy t aC ?_;(repeat(first|refine wTz ?_|refine wUz ?_));exact tw h)):G:=H trivial h
theorem dU {G3 G:Prop}(h:G3)(H:G3→G:=by(intro h;(try simp only[Act.put,List.getElem_toArray,List.getElem_cons_succ,List.getElem_cons_zero,List.setIfInBounds_toArray,List.set_cons_zero,List.set_cons_succ]);exact h)):G:=H h
end
section
variable {P:Program}{ops:Array Oper}{Q:Exit→Act→World→Prop}{S:World→Prop}
theorem kE {n i j:Nat}{oi oj:Oper}{l:List Oper}{f:Nat}{listed:Array Bool}{a:Act}{w:World}(hi:ops[i]? =some oi)(hj:ops[j]? =some oj)
 (bN:(decide (Region.ready .any ops listed= [i,j])&&decide (i<n)&&decide (j<n))=true)
 (h1:∀K:Act→World→Prop,Shut (∀a w,S w→(S w→iB P .any ops Q S n (Lq P ops Q n l) f (listed.setIfInBounds i true) a w)→K a w)→
  if Region.wanted oi (yielded ops a.tmps)=true then Oper.wp P oi a w K Q else K (a.put oi.dst undef) w)
 (h2:∀K:Act→World→Prop,Shut (∀a w,S w→(S w→iB P .any ops Q S n (Lq P ops Q n l) f (listed.setIfInBounds j true) a w)→K a w)→
  if Region.wanted oj (yielded ops a.tmps)=true then Oper.wp P oj a w K Q else K (a.put oj.dst undef) w):iB P .any ops Q S n (Lq P ops Q n l) (f+1) listed a w:=by
 simp only[Bool.and_eq_true,decide_eq_true_eq]at bN;obtain⟨⟨h3,h4⟩,h5⟩:=bN;refine⟨by rw[h3];simp,fun k hk=>?_⟩;rw[h3]at hk;simp only[List.mem_cons,List.not_mem_nil,or_false]at hk;rcases hk with rfl|rfl
 ·exact⟨h4,wpOp_step hi fun K hK=>h1 K fun a w hS hW=>hK a w ⟨hS,hW hS⟩⟩
 ·exact⟨h5,wpOp_step hj fun K hK=>h2 K fun a w hS hW=>hK a w ⟨hS,hW hS⟩⟩
end
end Go.Proofs.YtpcfhbeakecihaaGreat
