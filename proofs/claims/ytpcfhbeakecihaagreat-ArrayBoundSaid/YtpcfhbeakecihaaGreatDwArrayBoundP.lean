/- ArrayBound holds for every configuration and every list of acts: never does the cache have more blocks than its capacity; what is told of a read is in the cache then in an inclusive or a lone tier, and isn't in an exclusive one, but of level 3. No condition. -/
import Derived.Test.YtpcfhbeakecihaaGreatM7
import Derived.SizedLaws
import Derived.Test.YtpcfhbeakecihaaGreatDwArgZ
import Derived.Test.YtpcfhbeakecihaaGreatM6
import Derived.Test.YtpcfhbeakecihaaGreatDwAbn
import Derived.Test.YtpcfhbeakecihaaGreatM3
import Derived.Test.YtpcfhbeakecihaaGreatM2
import Derived.Test.YtpcfhbeakecihaaGreatM1
import Derived.Test.YtpcfhbeakecihaaGreatM4
import Derived.Test.YtpcfhbeakecihaaGreatM5
set_option linter.all false
set_option maxHeartbeats 20000000
set_option maxRecDepth 100000
namespace Go.Proofs.YtpcfhbeakecihaaGreat.arrayBound
open Go.ChangeShapes Go.WideShapes Go.ChangeAt Go.RowKit Go.Joins
theorem lifted (os:Os)(started:os.Started)(H:Type)(enc:TypeId×Value→H):
 ReturnsInHanded {} Tryz.checked os 4 .any (Rows.arrayBoundSpec.pre6 enc Tryz.prog Tryz.f4 Rows.arrayBoundRow.domain false) (Rows.arrayBoundSpec.post enc Tryz.prog Tryz.f4 false true false false):=by
 refine returnsInHanded_of_change_sized (C:=Tryz.checked) own started (by kernel_rfl) Tryz.func4
  (ChangeSpec.witness6 (enc:=enc) (C:=Tryz.checked) false ⟨#[],#[.agg #[ah 0,ah 0,ah 0,ah 0,ah 0,ah 0,ah 0,ah 0,ah 0,ah 0,ah 0,ah 0,ah 0,ah 0,ah 0,ah 0,ey],ey],[]⟩ 8 (by kernel_rfl) (by kernel_rfl) (by kernel_rfl) (by kernel_rfl)) ?_
 intro W base args ds gs before hval0 hW hcnd hsz0 _;have hval:∀(j:Nat) t v,Tryz.f4.params[j]? =some t→args[j]? =some v→Value.okWide Tryz.prog W .any base t v:=hval0;have hW':=hW;obtain⟨p,q,hA0,hVZq,rfl,hfz,wE⟩:=hW;have hA:DataW.TrodAll enc Tryz.prog W 0 (fun _=>true) true Tryz.f4.params.toList args.toList ds p:=hA0;rw[Tryz.params4]at hA hval;have hsz:(DataW.weightsEach Tryz.prog (Tryz.f4.params.toList ++ Rows.arrayBoundSpec.plain.varTypes Tryz.prog) (ds ++ gs)).all (·≤reachBytes)=true:=hsz0;rw[Tryz.params4]at hsz;have hAll:=hA;obtain⟨v0,vs0,d0,ds0,p0,q0,hargs,rfl,rfl,h0,r0Zq⟩:=trodAll_cons hA;obtain⟨v1,vs1,d1,ds1,p1,q1,rfl,rfl,rfl,h1,r1⟩:=trodAll_cons r0Zq;obtain⟨rfl,rfl,rfl⟩:=trodAll_nil r1;obtain rfl:args=#[v0,v1]:=by cases args;simp_all
 obtain⟨rfl,rfl⟩:=trodVars_none hVZq;obtain⟨c,A,m,rfl,On⟩:=Gt (hval 0 25 v0 rfl rfl) h0 (iN hsz (j:=0) rfl rfl);obtain⟨B,n,L,rfl,hAA,hAB⟩:=yactsb_val (hval 1 26 v1 rfl rfl) h1 (iN hsz (j:=1) rfl rfl);have key:Calls Tryz.prog 4 #[.agg (aj c (.slice A c.h.length m)),.slice B L.length n] W (Q0 (.bool true) aA W):=by
  exact(abound_walk c L A B m n W On hAA hAB).mono fun e w' h=>h
 refine key.mono fun e W' ⟨he,ho⟩=>?_
 subst he;have bel:Below W.heap.size W W':=ho.below (fun _ h=>h.elim) (Nat.le_refl _);exact⟨_,rfl,_,_,_,[],_,[],hW',trodAll_mk1 (shut_bool Tryz.underlying4 _),wT laidOut bel _ _ _ _ (by decide +kernel) hAll,rfl,bel.frame _,fun h=>by cases h⟩
theorem and_t {a b:Bool}(ha:a=true)(hb:b=true):(a&&b)=true:=by rw[ha,hb];rfl
set_option maxHeartbeats 40000000 in
theorem closed:joinedFacts Tryz.pinned.checked.prog 4 Tryz.f4 Rows.arrayBoundSpec Rows.arrayBoundRow=true:=by
 unfold joinedFacts
 repeat' (with_reducible refine and_t ?_ ?_)
 all_goals as_aux_lemma=>kernel_rfl
theorem over:Rows.arrayBoundRow.holds Tryz.pinned (OpenSpec.ofChange Rows.arrayBoundSpec):=
 OpenClaim.holds_of_wide 4 Tryz.f4 rfl rfl rfl rfl rfl rfl rfl ⟨rfl,rfl,rfl,rfl,rfl⟩ rfl rfl rfl rfl rfl (by kernel_rfl) Tryz.func4 closed
  (of_decide_eq_true (by kernel_rfl)) (by unfold Func.isWrapper;first|(rw[if_pos (by decide +kernel)];kernel_rfl)|(rw[if_neg (by decide +kernel)];exact⟨rfl,rfl⟩))
  (fun os started H enc _=>lifted os started H enc)
theorem proved:Rows.ArrayBoundSaid:=over
#print axioms proved
end Go.Proofs.YtpcfhbeakecihaaGreat.arrayBound
