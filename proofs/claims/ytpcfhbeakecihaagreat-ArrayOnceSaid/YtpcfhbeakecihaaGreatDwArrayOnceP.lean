/- ArrayOnce holds for every configuration, every list of acts and every message: a write that is heard again is answered as it was, but without Grant, and changes nothing. No condition. -/
import Derived.Test.YtpcfhbeakecihaaGreatM7
import Derived.SizedLaws
import Derived.Test.YtpcfhbeakecihaaGreatDwArgZ
import Derived.Test.YtpcfhbeakecihaaGreatM6
import Derived.Test.YtpcfhbeakecihaaGreatDwAon
import Derived.Test.YtpcfhbeakecihaaGreatM3
import Derived.Test.YtpcfhbeakecihaaGreatM2
import Derived.Test.YtpcfhbeakecihaaGreatM1
import Derived.Test.YtpcfhbeakecihaaGreatM4
import Derived.Test.YtpcfhbeakecihaaGreatM5
set_option linter.all false
set_option maxHeartbeats 20000000
set_option maxRecDepth 100000
namespace Go.Proofs.YtpcfhbeakecihaaGreat.arrayOnce
open Go.ChangeShapes Go.WideShapes Go.ChangeAt Go.RowKit Go.Joins
theorem lifted (os:Os)(started:os.Started)(H:Type)(enc:TypeId×Value→H):
 ReturnsInHanded {} Tryz.checked os 5 .any (Rows.arrayOnceSpec.pre6 enc Tryz.prog Tryz.f5 Rows.arrayOnceRow.domain false) (Rows.arrayOnceSpec.post enc Tryz.prog Tryz.f5 false true false false):=by
 refine returnsInHanded_of_change_sized (C:=Tryz.checked) own started (by kernel_rfl) Tryz.func5
  (ChangeSpec.witness6 (enc:=enc) (C:=Tryz.checked) false ⟨#[],#[.agg #[ah 0,ah 0,ah 0,ah 0,ah 0,ah 0,ah 0,ah 0,ah 0,ah 0,ah 0,ah 0,ah 0,ah 0,ah 0,ah 0,ey],ey,.agg #[ah 0,ah 0,ah 0,ah 0,ah 0,ah 0,ah 0,ah 0,ah 0,.bool false,ey]],[]⟩ 8 (by kernel_rfl) (by kernel_rfl) (by kernel_rfl) (by kernel_rfl)) ?_
 intro W base args ds gs before hval0 hW hcnd hsz0 _;have hval:∀(j:Nat) t v,Tryz.f5.params[j]? =some t→args[j]? =some v→Value.okWide Tryz.prog W .any base t v:=hval0;have hW':=hW;obtain⟨p,q,hA0,hVZq,rfl,hfz,wE⟩:=hW;have hA:DataW.TrodAll enc Tryz.prog W 0 (fun _=>true) true Tryz.f5.params.toList args.toList ds p:=hA0;rw[Tryz.params5]at hA hval;have hsz:(DataW.weightsEach Tryz.prog (Tryz.f5.params.toList ++ Rows.arrayOnceSpec.plain.varTypes Tryz.prog) (ds ++ gs)).all (·≤reachBytes)=true:=hsz0;rw[Tryz.params5]at hsz;have hAll:=hA;obtain⟨v0,vs0,d0,ds0,p0,q0,hargs,rfl,rfl,h0,r0Zq⟩:=trodAll_cons hA;obtain⟨v1,vs1,d1,ds1,p1,q1,rfl,rfl,rfl,h1,r1⟩:=trodAll_cons r0Zq;obtain⟨v2,vs2,d2,ds2,p2,q2,rfl,rfl,rfl,h2,r2⟩:=trodAll_cons r1;obtain⟨rfl,rfl,rfl⟩:=trodAll_nil r2;obtain rfl:args=#[v0,v1,v2]:=by cases args;simp_all
 obtain⟨rfl,rfl⟩:=trodVars_none hVZq;obtain⟨c,A,m,rfl,On⟩:=Gt (hval 0 25 v0 rfl rfl) h0 (iN hsz (j:=0) rfl rfl);obtain⟨B,n,L,rfl,hAA,hAB⟩:=yactsb_val (hval 1 26 v1 rfl rfl) h1 (iN hsz (j:=1) rfl rfl);obtain⟨mm,E,q,md,rfl,hDD,hDI⟩:=msg_valB (hval 2 37 v2 rfl rfl) h2 (iN hsz (j:=2) rfl rfl);have key:Calls Tryz.prog 5 #[.agg (aj c (.slice A c.h.length m)),.slice B L.length n,.agg (bc mm (.slice E md.length q))] W (Q0 (.bool true) aA W):=by
  exact(aonce_walk c L A B m n mm md E q W On hAA hAB hDD hDI).mono fun e w' h=>h
 refine key.mono fun e W' ⟨he,ho⟩=>?_
 subst he;have bel:Below W.heap.size W W':=ho.below (fun _ h=>h.elim) (Nat.le_refl _);exact⟨_,rfl,_,_,_,[],_,[],hW',trodAll_mk1 (shut_bool Tryz.underlying4 _),wT laidOut bel _ _ _ _ (by decide +kernel) hAll,rfl,bel.frame _,fun h=>by cases h⟩
theorem and_t {a b:Bool}(ha:a=true)(hb:b=true):(a&&b)=true:=by rw[ha,hb];rfl
set_option maxHeartbeats 40000000 in
theorem closed:joinedFacts Tryz.pinned.checked.prog 5 Tryz.f5 Rows.arrayOnceSpec Rows.arrayOnceRow=true:=by
 unfold joinedFacts
 repeat' (with_reducible refine and_t ?_ ?_)
 all_goals as_aux_lemma=>kernel_rfl
theorem over:Rows.arrayOnceRow.holds Tryz.pinned (OpenSpec.ofChange Rows.arrayOnceSpec):=
 OpenClaim.holds_of_wide 5 Tryz.f5 rfl rfl rfl rfl rfl rfl rfl ⟨rfl,rfl,rfl,rfl,rfl⟩ rfl rfl rfl rfl rfl (by kernel_rfl) Tryz.func5 closed
  (of_decide_eq_true (by kernel_rfl)) (by unfold Func.isWrapper;first|(rw[if_pos (by decide +kernel)];kernel_rfl)|(rw[if_neg (by decide +kernel)];exact⟨rfl,rfl⟩))
  (fun os started H enc _=>lifted os started H enc)
theorem proved:Rows.ArrayOnceSaid:=over
#print axioms proved
end Go.Proofs.YtpcfhbeakecihaaGreat.arrayOnce
