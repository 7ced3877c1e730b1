/- ArrayHears holds for every configuration and every list of acts: what is told, what the cache and the store have, and how often that was read, is what the document says. No condition. -/
import Derived.Test.YtpcfhbeakecihaaGreatM7
import Derived.Test.YtpcfhbeakecihaaGreatM32
import Derived.Test.YtpcfhbeakecihaaGreatM52
set_option linter.all false
set_option maxHeartbeats 20000000
set_option maxRecDepth 100000
namespace Go.Proofs.YtpcfhbeakecihaaGreat.arrayHears
open Go.ChangeShapes Go.WideShapes Go.ChangeAt Go.RowKit Go.Joins
theorem lifted (os:Os)(started:os.Started)(H:Type)(enc:TypeId×Value→H):
 ReturnsInHanded {} Tryz.checked os 6 .any (Rows.arrayHearsSpec.pre6 enc Tryz.prog Tryz.f6 Rows.arrayHearsRow.domain false) (Rows.arrayHearsSpec.post enc Tryz.prog Tryz.f6 false true false false):=by
 refine returnsInHanded_of_change_sized (C:=Tryz.checked) own started (by kernel_rfl) Tryz.func6
  (ChangeSpec.witness6 (enc:=enc) (C:=Tryz.checked) false ⟨#[],#[.agg #[ah 0,ah 0,ah 0,ah 0,ah 0,ah 0,ah 0,ah 0,ah 0,ah 0,ah 0,ah 0,ah 0,ah 0,ah 0,ah 0,aT],aT],[]⟩ 8 (by kernel_rfl) (by kernel_rfl) (by kernel_rfl) (by kernel_rfl)) ?_
 intro W base args ds gs before ag1 hW hcnd ahb _;have hval:∀(j:Nat) t v,Tryz.f6.params[j]? =some t→args[j]? =some v→Value.okWide Tryz.prog W .any base t v:=ag1;have hW':=hW;obtain⟨p,q,QU,adL,rfl,Dm,Gg⟩:=hW;have hA:DataW.TrodAll enc Tryz.prog W 0 (fun _=>true) true Tryz.f6.params.toList args.toList ds p:=QU;rw[Tryz.params6]at hA hval;have hsz:(DataW.weightsEach Tryz.prog (Tryz.f6.params.toList ++ Rows.arrayHearsSpec.plain.varTypes Tryz.prog) (ds ++ gs)).all (·≤reachBytes)=true:=ahb;rw[Tryz.params6]at hsz;have ahe:=hA;obtain⟨v0,vs0,d0,ds0,p0,q0,aho,rfl,rfl,h0,adM⟩:=trodAll_cons hA;obtain⟨v1,vs1,d1,ds1,p1,q1,rfl,rfl,rfl,h1,r1⟩:=trodAll_cons adM;obtain⟨rfl,rfl,rfl⟩:=trodAll_nil r1;obtain rfl:args=#[v0,v1]:=by cases args;simp_all
 obtain⟨rfl,rfl⟩:=trodVars_none adL;obtain⟨c,A,m,rfl,hHA⟩:=aan (hval 0 25 v0 rfl rfl) h0 (rM hsz (j:=0) rfl rfl);obtain⟨B,n,L,rfl,hAA,hAB⟩:=Ug (hval 1 26 v1 rfl rfl) h1 (rM hsz (j:=1) rfl rfl);have key:Calls Tryz.prog 6 #[.agg (ao c (.slice A c.h.length m)),.slice B L.length n] W (Ret (.bool true) au W):=by
  exact(ae0 c L A B m n W hHA hAA hAB).mono fun e w' h=>h
 refine key.mono fun e W' ⟨he,ho⟩=>?_
 subst he;have bel:Below W.heap.size W W':=ho.below (fun _ h=>h.elim) (Nat.le_refl _);exact⟨_,rfl,_,_,_,[],_,[],hW',trodAll_mk1 (shut_bool Tryz.underlying4 _),Nn laidOut bel _ _ _ _ (by decide +kernel) ahe,rfl,bel.frame _,fun h=>by cases h⟩
theorem and_t {a b:Bool}(ha:a=true)(hb:b=true):(a&&b)=true:=by rw[ha,hb];rfl
set_option maxHeartbeats 40000000 in
theorem closed:joinedFacts Tryz.pinned.checked.prog 6 Tryz.f6 Rows.arrayHearsSpec Rows.arrayHearsRow=true:=by
 unfold joinedFacts
 repeat' (with_reducible refine and_t ?_ ?_)
 all_goals as_aux_lemma=>kernel_rfl
theorem over:Rows.arrayHearsRow.holds Tryz.pinned (OpenSpec.ofChange Rows.arrayHearsSpec):=
 OpenClaim.holds_of_wide 6 Tryz.f6 rfl rfl rfl rfl rfl rfl rfl ⟨rfl,rfl,rfl,rfl,rfl⟩ rfl rfl rfl rfl rfl (by kernel_rfl) Tryz.func6 closed
  (of_decide_eq_true (by kernel_rfl)) (by unfold Func.isWrapper;first|(rw[if_pos (by decide +kernel)];kernel_rfl)|(rw[if_neg (by decide +kernel)];exact⟨rfl,rfl⟩))
  (fun os started H enc _=>lifted os started H enc)
theorem proved:Rows.ArrayHearsSaid:=over
#print axioms proved
end Go.Proofs.YtpcfhbeakecihaaGreat.arrayHears
