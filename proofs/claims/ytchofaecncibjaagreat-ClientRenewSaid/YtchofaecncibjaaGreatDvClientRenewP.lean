/- ClientRenew holds for every two configurations and every list of acts: a client whose slots are all free is of another configuration with as many slots, if it is told to, has nothing then and goes on counting; another one changes nothing. No condition. -/
import Derived.Test.YtchofaecncibjaaGreatM7
import Derived.SizedLaws
import Derived.Test.YtchofaecncibjaaGreatM15
import Derived.Test.YtchofaecncibjaaGreatM6
import Derived.Test.YtchofaecncibjaaGreatDvLrn
import Derived.Test.YtchofaecncibjaaGreatM3
import Derived.Test.YtchofaecncibjaaGreatM2
import Derived.Test.YtchofaecncibjaaGreatM1
import Derived.Test.YtchofaecncibjaaGreatM4
import Derived.Test.YtchofaecncibjaaGreatM5
set_option linter.all false
set_option maxHeartbeats 20000000
set_option maxRecDepth 100000
namespace Go.Proofs.YtchofaecncibjaaGreat.clientRenew
open Go.ChangeShapes Go.WideShapes Go.ChangeAt Go.RowKit Go.Joins
theorem lifted (os:Os)(started:os.Started)(H:Type)(enc:TypeId×Value→H):
 ReturnsInHanded {} Tryz.checked os 8 .any (Rows.clientRenewSpec.pre6 enc Tryz.prog Tryz.f8 Rows.clientRenewRow.domain false) (Rows.clientRenewSpec.post enc Tryz.prog Tryz.f8 false true false false):=by
 refine returnsInHanded_of_change_sized (C:=Tryz.checked) own started (by kernel_rfl) Tryz.func8
  (ChangeSpec.witness6 (enc:=enc) (C:=Tryz.checked) false ⟨#[],#[.agg #[ah 0,ah 0,ah 0,ah 0,ah 0,ah 0,ah 0,ah 0,ah 0,ah 0,ah 0,ah 0,ah 0,ah 0,ah 0,ah 0,aJ],.agg #[ah 0,ah 0,ah 0,ah 0,ah 0,ah 0,ah 0,ah 0,ah 0,ah 0,ah 0,ah 0,ah 0,ah 0,ah 0,ah 0,aJ],aJ],[]⟩ 8 (by kernel_rfl) (by kernel_rfl) (by kernel_rfl) (by kernel_rfl)) ?_
 intro W base args ds gs before xj hW hcnd E6 _;have hval:∀(j:Nat) t v,Tryz.f8.params[j]? =some t→args[j]? =some v→Value.okWide Tryz.prog W .any base t v:=xj;have Ve:=hW;obtain⟨p,q,F9,hV,rfl,DB,zB⟩:=hW;have hA:DataW.TrodAll enc Tryz.prog W 0 (fun _=>true) true Tryz.f8.params.toList args.toList ds p:=F9;rw[Tryz.params8]at hA hval;have hsz:(DataW.weightsEach Tryz.prog (Tryz.f8.params.toList ++ Rows.clientRenewSpec.plain.varTypes Tryz.prog) (ds ++ gs)).all (·≤reachBytes)=true:=E6;rw[Tryz.params8]at hsz;have E7:=hA;obtain⟨v0,vs0,d0,ds0,p0,q0,MK,rfl,rfl,h0,r0⟩:=trodAll_cons hA;obtain⟨v1,vs1,d1,ds1,p1,q1,rfl,rfl,rfl,h1,r1⟩:=trodAll_cons r0;obtain⟨v2,vs2,d2,ds2,p2,q2,rfl,rfl,rfl,h2,r2⟩:=trodAll_cons r1;obtain⟨rfl,rfl,rfl⟩:=trodAll_nil r2;obtain rfl:args=#[v0,v1,v2]:=by cases args;simp_all
 obtain⟨rfl,rfl⟩:=trodVars_none hV;obtain⟨c,A,m,rfl,QW⟩:=xy (hval 0 25 v0 rfl rfl) h0 (dZ hsz (j:=0) rfl rfl);obtain⟨t,D,q,rfl,hHT⟩:=xy (hval 1 25 v1 rfl rfl) h1 (dZ hsz (j:=1) rfl rfl);obtain⟨B,n,L,rfl,Vj⟩:=pf (hval 2 26 v2 rfl rfl) h2 (dZ hsz (j:=2) rfl rfl);have key:Calls Tryz.prog 8 #[.agg (ak c (.slice A c.h.length m)),.agg (ak t (.slice D t.h.length q)),.slice B L.length n] W (Ret (.bool true) az W):=by
  exact(crenew_walk c t L A B D m n q W QW hHT Vj).mono fun e w' h=>h
 refine key.mono fun e W' ⟨he,ho⟩=>?_
 subst he;have Ms:Below W.heap.size W W':=ho.below (fun _ h=>h.elim) (Nat.le_refl _);exact⟨_,rfl,_,_,_,[],_,[],Ve,trodAll_mk1 (shut_bool Tryz.underlying4 _),ja laidOut Ms _ _ _ _ (by decide +kernel) E7,rfl,Ms.frame _,fun h=>by cases h⟩
theorem and_t {a b:Bool}(ha:a=true)(hb:b=true):(a&&b)=true:=by rw[ha,hb];rfl
set_option maxHeartbeats 40000000 in
theorem closed:joinedFacts Tryz.pinned.checked.prog 8 Tryz.f8 Rows.clientRenewSpec Rows.clientRenewRow=true:=by
 unfold joinedFacts
 repeat' (with_reducible refine and_t ?_ ?_)
 all_goals as_aux_lemma=>kernel_rfl
theorem over:Rows.clientRenewRow.holds Tryz.pinned (OpenSpec.ofChange Rows.clientRenewSpec):=
 OpenClaim.holds_of_wide 8 Tryz.f8 rfl rfl rfl rfl rfl rfl rfl ⟨rfl,rfl,rfl,rfl,rfl⟩ rfl rfl rfl rfl rfl (by kernel_rfl) Tryz.func8 closed
  (of_decide_eq_true (by kernel_rfl)) (by unfold Func.isWrapper;first|(rw[if_pos (by decide +kernel)];kernel_rfl)|(rw[if_neg (by decide +kernel)];exact⟨rfl,rfl⟩))
  (fun os started H enc _=>lifted os started H enc)
theorem proved:Rows.ClientRenewSaid:=over
#print axioms proved
end Go.Proofs.YtchofaecncibjaaGreat.clientRenew
