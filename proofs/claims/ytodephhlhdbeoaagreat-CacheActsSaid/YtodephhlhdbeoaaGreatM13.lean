/- Several texts, one behind the other: Spd Spe. -/
import Derived.Test.YtodephhlhdbeoaaGreatM12
import Derived.Test.YtodephhlhdbeoaaGreatM7
import Derived.Test.YtodephhlhdbeoaaGreatM1
import Derived.Deep.DeepCutAuto
namespace Go.Proofs.YtodephhlhdbeoaaGreat
open Go.RowKit Go.ChangeShapes Go.WideShapes
set_option linter.unusedVariables false
set_option linter.unusedSimpArgs false
theorem nodup_len : ∀ (n : Nat) (L : List Int), L.Nodup → (∀ x ∈ L, 0 ≤ x ∧ x < n) → L.length ≤ n
  | 0, L, _, h => by
    cases L with
    | nil => exact Nat.zero_le _
    | cons a L => have := h a (List.mem_cons_self ..); omega
  | n + 1, L, hn, h => by
    by_cases hm : (n : Int) ∈ L
    · have h1 := nodup_len n (L.erase n) (hn.erase _) fun x hx => by
        have h2 := h x (List.mem_of_mem_erase hx)
        have h3 : x ≠ n := fun e => (List.Nodup.not_mem_erase hn) (e ▸ hx)
        omega
      rw [List.length_erase_of_mem hm] at h1
      omega
    · have h1 := nodup_len n L hn fun x hx => by
        have h2 := h x hx
        have h3 : x ≠ n := fun e => hm (e ▸ hx)
        omega
      omega
theorem Rep.len {m : Nat} {N : Int → Nd} {E : Nat → En} {S : Nat → List Int} (h : Rep m N E S) (i : Nat) : (S i).length ≤ 64 := nodup_len 64 _ (h.nodup i) fun _ hx => h.rng hx
def nC (n : Nd) : Array Value := #[.int .i64 n.l, .int .i64 n.a, .int .i64 n.b]
theorem nC_one (n : Nd) : (nC n).all (·.oneCell') = true := by simp [nC, Value.oneCell']
def Two (g eb : Nat) : Nat → Prop := fun k => k = g ∨ k = eb
def n1N (N : Int → Nd) (b : Int) : Int → Nd := if (N b).a = -1 then N else updI N (N b).a { N (N b).a with b := (N b).b }
def n2N (N : Int → Nd) (n : Nd) : Int → Nd := if n.b = -1 then N else updI N n.b { N n.b with a := n.a }
def e1E (E : Nat → En) (i : Nat) (n : Nd) : Nat → En := if n.a = -1 then updN E i { E i with f := n.b } else E
def e2E (E : Nat → En) (i : Nat) (n : Nd) : Nat → En := if n.b = -1 then updN E i { E i with k := n.a } else E
theorem outN_eq (N : Int → Nd) (b : Int) : outN N b = updI (n2N (n1N N b) (N b)) b { n2N (n1N N b) (N b) b with l := -1 } := rfl
theorem outE_eq (E : Nat → En) (i : Nat) (n : Nd) : outE E i n = updN (e2E (e1E E i n) i n) i { e2E (e1E E i n) i n i with m := (E i).m - 1 } := by
  funext x
  unfold outE e2E e1E updN
  split
  · subst x
    split <;> split <;> simp_all [updN]
  · split <;> split <;> simp_all [updN]
theorem e2E_m (E : Nat → En) (i : Nat) (n : Nd) : (e2E (e1E E i n) i n i).m = (E i).m := by
  unfold e2E e1E updN
  split <;> split <;> simp_all [updN]
section
set_option maxHeartbeats 4000000
set_option maxRecDepth 100000
theorem out_any {g eb m : Nat} {N : Int → Nd} {E : Nat → En} {i : Nat} {n : Nat} (w : World) (h : SpM w g eb m N E) (hn : n < 64) (hi : i < m) (hl : (N n).l = i)
    (ha : (N n).a = -1 ∨ ∃ a : Nat, a < 64 ∧ (N n).a = a) (hb : (N n).b = -1 ∨ ∃ a : Nat, a < 64 ∧ (N n).b = a) (hm : 0 ≤ (E i).m ∧ (E i).m ≤ 64) :
    Calls Tryz.prog 298 #[.pointer (some ⟨g, 0, none⟩), .int .i64 n] w fun e w' => e = .returned (.tuple #[]) ∧ SpM w' g eb m (outN N n) (outE E i (N n)) ∧ Only (Two g eb) w w' := by
  have c0 : w.cell? ⟨g, n * 3, none⟩ = some (.int .i64 (N n).l) := h.node (b := n) (j := 0) hn (by decide)
  have c1 : w.cell? ⟨g, n * 3 + 1, none⟩ = some (.int .i64 (N n).a) := h.node (b := n) (j := 1) hn (by decide)
  have c2 : w.cell? ⟨g, n * 3 + 2, none⟩ = some (.int .i64 (N n).b) := h.node (b := n) (j := 2) hn (by decide)
  have H := Lib.hid h
  have hni : (n : Int) < 64 := by omega
  have him : (i : Int) < m := by omega
  clear h
  generalize hnd : N n = nd at *
  have HND := Lib.hid hnd
  have HL := Lib.hid hl
  have HM := Lib.hid hm
  have HA := Lib.hid ha
  have HB := Lib.hid hb
  clear hnd hl hm ha hb
  go_enter Tryz.func298, Tryz.ntmps298
  go_upto_region 1 with (refine wpList_store_row rfl 331 _ _ rfl w.heap.size (nC nd) rfl rfl 331 _ (Box.fresh w 331 #[.int .i64 0, .int .i64 0, .int .i64 0]) (by kernel_rfl) rfl (nC_one nd) ?_)
  have ho1 : Only Non w ((w.alloc (.cells #[.int .i64 0, .int .i64 0, .int .i64 0] 331)).setRow w.heap.size (nC nd)) := ((Only.refl Non w).alloc _).setRow' (.inr (Nat.le_refl _)) _
  have HB1 := Lib.hid ((Box.fresh w 331 #[.int .i64 0, .int .i64 0, .int .i64 0]).setRow' (nC nd))
  have HNB := Lib.hid (show w.heap.size ≠ g ∧ w.heap.size ≠ eb from ⟨fun e => by have := H.out.1.lt; omega, fun e => by have := H.out.2.lt; omega⟩)
  have H1 := Lib.hid (H.out.only ho1 id id)
  have HO1 := Lib.hid (ho1.mono (S' := Two g eb) fun _ h => h.elim)
  change Code.wp _ _ _ _ ((w.alloc (.cells #[.int .i64 0, .int .i64 0, .int .i64 0] 331)).setRow w.heap.size (nC nd))
  clear ho1 H c0 c1 c2
  generalize (w.alloc (.cells #[.int .i64 0, .int .i64 0, .int .i64 0] 331)).setRow w.heap.size (nC nd) = W1 at *
  generalize w.heap.size = nb at *
  obtain ⟨l, a, b⟩ := nd
  have hl := HL.out
  dsimp only at hl
  subst hl
  have b0 : W1.cell? ⟨nb, 0, none⟩ = some (.int .i64 i) := HB1.out.cellAt rfl
  have b1 : W1.cell? ⟨nb, 1, none⟩ = some (.int .i64 a) := HB1.out.cellAt rfl
  have b2 : W1.cell? ⟨nb, 2, none⟩ = some (.int .i64 b) := HB1.out.cellAt rfl
  have hh := H1.out.hd
  refine wp_region_tail (S := (fun w' : World => w' = W1.drew)) 7 (by kernel_rfl) (by kernel_rfl) ?_ ?_
  · rfl
  intro hSS
  refine wpHd_take (i := 0) (v := ?_) (by kernel_rfl) rfl (by kernel_rfl) (fun _ _ _ h => h) (.inl ⟨by rfl, ?_⟩) hSS ?_
  rotate_left
  · intro w hSw; (try dsimp only at hSw); go_simp; (try with_reducible rfl)
  refine wpHd_take (i := 1) (v := ?_) (by kernel_rfl) rfl (by kernel_rfl) (fun _ _ _ h => h) (.inl ⟨by rfl, ?_⟩) hSS ?_
  rotate_left
  · intro w hSw; (try dsimp only at hSw); go_simp; (try with_reducible rfl)
  refine wpHd_take (i := 2) (v := ?_) (by kernel_rfl) rfl (by kernel_rfl) (fun _ _ _ h => h) (.inl ⟨by rfl, ?_⟩) hSS ?_
  rotate_left
  · intro w hSw; (try dsimp only at hSw); go_simp; (try with_reducible rfl)
  refine wpHd_take (i := 3) (v := ?_) (by kernel_rfl) rfl (by kernel_rfl) (fun _ _ _ h => h) (.inl ⟨by rfl, ?_⟩) hSS ?_
  rotate_left
  · intro w hSw; (try dsimp only at hSw); go_simp; (try with_reducible rfl)
  refine wpHd_take (i := 4) (v := ?_) (by kernel_rfl) rfl (by kernel_rfl) (fun _ _ _ h => h) (.inl ⟨by rfl, ?_⟩) hSS ?_
  rotate_left
  · intro w hSw; (try dsimp only at hSw); go_simp; (try with_reducible rfl)
  try simp only [Act.put, List.getElem_toArray, List.getElem_cons_succ, List.getElem_cons_zero, List.setIfInBounds_toArray, List.set_cons_zero, List.set_cons_succ]
  refine wpHd_take (i := 5) (v := ?_) (by kernel_rfl) rfl (by kernel_rfl) (fun _ _ _ h => h) (.inl ⟨by rfl, ?_⟩) hSS ?_
  rotate_left
  · intro w hSw; (try dsimp only at hSw); go_simp; (try with_reducible rfl)
  refine wpHd_take (i := 6) (v := ?_) (by kernel_rfl) rfl (by kernel_rfl) (fun _ _ _ h => h) (.inl ⟨by rfl, ?_⟩) hSS ?_
  rotate_left
  · intro w hSw; (try dsimp only at hSw); go_simp; (try with_reducible rfl)
  try simp only [Act.put, List.getElem_toArray, List.getElem_cons_succ, List.getElem_cons_zero, List.setIfInBounds_toArray, List.set_cons_zero, List.set_cons_succ]
  refine wpHd_end (by kernel_rfl) ?_
  go_upto_region 2 with fail
  have H2 := Lib.hid (show SpM W1.drew g eb m N E from H1.out)
  have HB2 := Lib.hid (show Box W1.drew nb 331 (nC ⟨i, a, b⟩) from HB1.out)
  have HO2 := Lib.hid HO1.out.drew
  clear b0 b1 b2 hh H1 HB1 HO1 HL
  generalize W1.drew = W2 at *
  have b0 : W2.cell? ⟨nb, 0, none⟩ = some (.int .i64 i) := HB2.out.cellAt rfl
  have b1 : W2.cell? ⟨nb, 1, none⟩ = some (.int .i64 a) := HB2.out.cellAt rfl
  have b2 : W2.cell? ⟨nb, 2, none⟩ = some (.int .i64 b) := HB2.out.cellAt rfl
  go_upto_if 21 with fail
  go_cut [] (fun wx => SpM wx g eb m (n1N N n) (e1E E i ⟨i, a, b⟩) ∧ Only (Two g eb) W2 wx)
  case first =>
    have ha := HA.out
    clear HA HB HM
    rcases ha with ha | ⟨a', ha', ha⟩
    · dsimp only at ha
      subst ha
      have e1 := Lib.hid (show n1N N n = N by unfold n1N; rw [HND.out]; rfl)
      have e2 := Lib.hid (show e1E E i ⟨i, -1, b⟩ = updN E i { E i with f := b } from rfl)
      have f := H2.out.2.free (i * 3)
      have ce : W2.cell? ⟨eb, i * 3, none⟩ = some (.int .i64 (E i).f) := H2.out.end_ (b := i) (j := 0) hi (by decide)
      go_wp2
      go_meet
      case rel =>
        refine ⟨?_, Only.setCell (p := ⟨eb, i * 3, none⟩) (Only.refl _ _) (.inl (.inr rfl)) _⟩
        rw [e1.out, e2.out]
        exact H2.out.setE hi (j := 0) (by decide) _ _ fun k hk => by
          rcases (show k = 0 ∨ k = 1 ∨ k = 2 by omega) with rfl | rfl | rfl <;> rfl
    · dsimp only at ha
      subst ha
      have e : ¬ ((a' : Int) = -1) := by omega
      have e1 := Lib.hid (show n1N N n = updI N a' { N a' with b := b } by unfold n1N; rw [HND.out]; exact if_neg e)
      have e2 := Lib.hid (show e1E E i ⟨i, a', b⟩ = E from if_neg e)
      clear e
      have f := H2.out.1.free (a' * 3 + 2)
      have hai : (a' : Int) < 64 := by omega
      have ca : W2.cell? ⟨g, a' * 3 + 2, none⟩ = some (.int .i64 (N a').b) := H2.out.node (b := a') (j := 2) ha' (by decide)
      go_upto_region 4 with fail
      refine wp_region_tail (S := (fun w' : World => w' = W2.drew)) 9 (by kernel_rfl) (by kernel_rfl) ?_ ?_
      · rfl
      intro hSS
      refine wpHd_take (i := 0) (v := ?_) (by kernel_rfl) rfl (by kernel_rfl) (fun _ _ _ h => h) (.inl ⟨by rfl, ?_⟩) hSS ?_
      rotate_left
      · intro w hSw; (try dsimp only at hSw); go_simp; (try with_reducible rfl)
      refine wpHd_take (i := 1) (v := ?_) (by kernel_rfl) rfl (by kernel_rfl) (fun _ _ _ h => h) (.inl ⟨by rfl, ?_⟩) hSS ?_
      rotate_left
      · intro w hSw; (try dsimp only at hSw); go_simp; (try with_reducible rfl)
      refine wpHd_take (i := 2) (v := ?_) (by kernel_rfl) rfl (by kernel_rfl) (fun _ _ _ h => h) (.inl ⟨by rfl, ?_⟩) hSS ?_
      rotate_left
      · intro w hSw; (try dsimp only at hSw); go_simp; (try with_reducible rfl)
      refine wpHd_take (i := 3) (v := ?_) (by kernel_rfl) rfl (by kernel_rfl) (fun _ _ _ h => h) (.inl ⟨by rfl, ?_⟩) hSS ?_
      rotate_left
      · intro w hSw; (try dsimp only at hSw); go_simp; (try with_reducible rfl)
      refine wpHd_take (i := 4) (v := ?_) (by kernel_rfl) rfl (by kernel_rfl) (fun _ _ _ h => h) (.inl ⟨by rfl, ?_⟩) hSS ?_
      rotate_left
      · intro w hSw; (try dsimp only at hSw); go_simp; (try with_reducible rfl)
      try simp only [Act.put, List.getElem_toArray, List.getElem_cons_succ, List.getElem_cons_zero, List.setIfInBounds_toArray, List.set_cons_zero, List.set_cons_succ]
      refine wpHd_take (i := 5) (v := ?_) (by kernel_rfl) rfl (by kernel_rfl) (fun _ _ _ h => h) (.inl ⟨by rfl, ?_⟩) hSS ?_
      rotate_left
      · intro w hSw; (try dsimp only at hSw); go_simp; (try with_reducible rfl)
      refine wpHd_take (i := 6) (v := ?_) (by kernel_rfl) rfl (by kernel_rfl) (fun _ _ _ h => h) (.inl ⟨by rfl, ?_⟩) hSS ?_
      rotate_left
      · intro w hSw; (try dsimp only at hSw); go_simp; (try with_reducible rfl)
      refine wpHd_take (i := 7) (v := ?_) (by kernel_rfl) rfl (by kernel_rfl) (fun _ _ _ h => h) (.inl ⟨by rfl, ?_⟩) hSS ?_
      rotate_left
      · intro w hSw; (try dsimp only at hSw); go_simp; (try with_reducible rfl)
      refine wpHd_take (i := 8) (v := ?_) (by kernel_rfl) rfl (by kernel_rfl) (fun _ _ _ h => h) (.inl ⟨by rfl, ?_⟩) hSS ?_
      rotate_left
      · intro w hSw; (try dsimp only at hSw); go_simp; (try with_reducible rfl)
      try simp only [Act.put, List.getElem_toArray, List.getElem_cons_succ, List.getElem_cons_zero, List.setIfInBounds_toArray, List.set_cons_zero, List.set_cons_succ]
      refine wpHd_end (by kernel_rfl) ?_
      clear hSS
      go_wp2
      go_meet
      case rel =>
        refine ⟨?_, (Only.setCell (p := ⟨g, a' * 3 + 2, none⟩) ((Only.refl _ _).drew) (.inl (.inl rfl)) _)⟩
        rw [e1.out, e2.out]
        exact (show SpM W2.drew g eb m N E from H2.out).setN ha' (j := 2) (by decide) _ _ fun k hk => by
          rcases (show k = 0 ∨ k = 1 ∨ k = 2 by omega) with rfl | rfl | rfl <;> rfl
  case rest =>
    obtain ⟨h3, ho3⟩ := hcut
    obtain ⟨W3, e3⟩ : ∃ W3, W3 = wc := ⟨_, rfl⟩
    subst e3
    have H3 := Lib.hid h3
    have HB3 := Lib.hid (ho3.box HB2.out (fun h => h.elim HNB.out.1 HNB.out.2))
    have HO3 := Lib.hid (HO2.out.trans ho3)
    have HB := HB
    clear h3 ho3 b0 b1 b2 H2 HO2 HB2
    have HQN := Lib.hid (outN_eq N n)
    have HQE := Lib.hid (outE_eq E i ⟨i, a, b⟩)
    have hq : (e2E (e1E E i ⟨i, a, b⟩) i ⟨i, a, b⟩ i).m = (E i).m := e2E_m E i ⟨i, a, b⟩
    rw [HND.out] at HQN
    generalize n1N N n = N1 at *
    generalize e1E E i ⟨i, a, b⟩ = E1 at *
    have HQM := Lib.hid hq
    clear hq
    have b0 : W3.cell? ⟨nb, 0, none⟩ = some (.int .i64 i) := HB3.out.cellAt rfl
    have b1 : W3.cell? ⟨nb, 1, none⟩ = some (.int .i64 a) := HB3.out.cellAt rfl
    have b2 : W3.cell? ⟨nb, 2, none⟩ = some (.int .i64 b) := HB3.out.cellAt rfl
    go_upto_if 38 with fail
    go_cut [] (fun wx => SpM wx g eb m (n2N N1 ⟨i, a, b⟩) (e2E E1 i ⟨i, a, b⟩) ∧ Only (Two g eb) W3 wx)
    case first =>
      have hb := HB.out
      clear HA HB HM HQN HQE HQM
      rcases hb with hb | ⟨b', hb', hb⟩
      · dsimp only at hb
        subst hb
        have e1 := Lib.hid (show n2N N1 ⟨i, a, -1⟩ = N1 from rfl)
        have e2 := Lib.hid (show e2E E1 i ⟨i, a, -1⟩ = updN E1 i { E1 i with k := a } from rfl)
        have f := H3.out.2.free (i * 3 + 1)
        have ce : W3.cell? ⟨eb, i * 3 + 1, none⟩ = some (.int .i64 (E1 i).k) := H3.out.end_ (b := i) (j := 1) hi (by decide)
        go_wp2
        go_meet
        case rel =>
          refine ⟨?_, Only.setCell (p := ⟨eb, i * 3 + 1, none⟩) (Only.refl _ _) (.inl (.inr rfl)) _⟩
          rw [e1.out, e2.out]
          exact H3.out.setE hi (j := 1) (by decide) _ _ fun k hk => by
            rcases (show k = 0 ∨ k = 1 ∨ k = 2 by omega) with rfl | rfl | rfl <;> rfl
      · dsimp only at hb
        subst hb
        have e : ¬ ((b' : Int) = -1) := by omega
        have e1 := Lib.hid (show n2N N1 ⟨i, a, b'⟩ = updI N1 b' { N1 b' with a := a } from if_neg e)
        have e2 := Lib.hid (show e2E E1 i ⟨i, a, b'⟩ = E1 from if_neg e)
        clear e
        have f := H3.out.1.free (b' * 3 + 1)
        have hbi : (b' : Int) < 64 := by omega
        have ca : W3.cell? ⟨g, b' * 3 + 1, none⟩ = some (.int .i64 (N1 b').a) := H3.out.node (b := b') (j := 1) hb' (by decide)
        go_upto_region 7 with fail
        refine wp_region_tail (S := (fun w' : World => w' = W3.drew)) 9 (by kernel_rfl) (by kernel_rfl) ?_ ?_
        · rfl
        intro hSS
        refine wpHd_take (i := 0) (v := ?_) (by kernel_rfl) rfl (by kernel_rfl) (fun _ _ _ h => h) (.inl ⟨by rfl, ?_⟩) hSS ?_
        rotate_left
        · intro w hSw; (try dsimp only at hSw); go_simp; (try with_reducible rfl)
        refine wpHd_take (i := 1) (v := ?_) (by kernel_rfl) rfl (by kernel_rfl) (fun _ _ _ h => h) (.inl ⟨by rfl, ?_⟩) hSS ?_
        rotate_left
        · intro w hSw; (try dsimp only at hSw); go_simp; (try with_reducible rfl)
        refine wpHd_take (i := 2) (v := ?_) (by kernel_rfl) rfl (by kernel_rfl) (fun _ _ _ h => h) (.inl ⟨by rfl, ?_⟩) hSS ?_
        rotate_left
        · intro w hSw; (try dsimp only at hSw); go_simp; (try with_reducible rfl)
        refine wpHd_take (i := 3) (v := ?_) (by kernel_rfl) rfl (by kernel_rfl) (fun _ _ _ h => h) (.inl ⟨by rfl, ?_⟩) hSS ?_
        rotate_left
        · intro w hSw; (try dsimp only at hSw); go_simp; (try with_reducible rfl)
        refine wpHd_take (i := 4) (v := ?_) (by kernel_rfl) rfl (by kernel_rfl) (fun _ _ _ h => h) (.inl ⟨by rfl, ?_⟩) hSS ?_
        rotate_left
        · intro w hSw; (try dsimp only at hSw); go_simp; (try with_reducible rfl)
        try simp only [Act.put, List.getElem_toArray, List.getElem_cons_succ, List.getElem_cons_zero, List.setIfInBounds_toArray, List.set_cons_zero, List.set_cons_succ]
        refine wpHd_take (i := 5) (v := ?_) (by kernel_rfl) rfl (by kernel_rfl) (fun _ _ _ h => h) (.inl ⟨by rfl, ?_⟩) hSS ?_
        rotate_left
        · intro w hSw; (try dsimp only at hSw); go_simp; (try with_reducible rfl)
        refine wpHd_take (i := 6) (v := ?_) (by kernel_rfl) rfl (by kernel_rfl) (fun _ _ _ h => h) (.inl ⟨by rfl, ?_⟩) hSS ?_
        rotate_left
        · intro w hSw; (try dsimp only at hSw); go_simp; (try with_reducible rfl)
        refine wpHd_take (i := 7) (v := ?_) (by kernel_rfl) rfl (by kernel_rfl) (fun _ _ _ h => h) (.inl ⟨by rfl, ?_⟩) hSS ?_
        rotate_left
        · intro w hSw; (try dsimp only at hSw); go_simp; (try with_reducible rfl)
        refine wpHd_take (i := 8) (v := ?_) (by kernel_rfl) rfl (by kernel_rfl) (fun _ _ _ h => h) (.inl ⟨by rfl, ?_⟩) hSS ?_
        rotate_left
        · intro w hSw; (try dsimp only at hSw); go_simp; (try with_reducible rfl)
        try simp only [Act.put, List.getElem_toArray, List.getElem_cons_succ, List.getElem_cons_zero, List.setIfInBounds_toArray, List.set_cons_zero, List.set_cons_succ]
        refine wpHd_end (by kernel_rfl) ?_
        clear hSS
        go_wp2
        go_meet
        case rel =>
          refine ⟨?_, (Only.setCell (p := ⟨g, b' * 3 + 1, none⟩) ((Only.refl _ _).drew) (.inl (.inl rfl)) _)⟩
          rw [e1.out, e2.out]
          exact (show SpM W3.drew g eb m N1 E1 from H3.out).setN hb' (j := 1) (by decide) _ _ fun k hk => by
            rcases (show k = 0 ∨ k = 1 ∨ k = 2 by omega) with rfl | rfl | rfl <;> rfl
    case rest =>
      obtain ⟨h4, ho4⟩ := hcut
      clear b0 b1 b2 HB3 H3
      have HO4 := Lib.hid (HO3.out.trans ho4)
      clear HO3 ho4
      obtain ⟨W4, e4⟩ : ∃ W4, W4 = wc := ⟨_, rfl⟩
      subst e4
      generalize n2N N1 ⟨i, a, b⟩ = N2 at *
      generalize e2E E1 i ⟨i, a, b⟩ = E2 at *
      have H4 := Lib.hid h4
      clear h4
      have hm := HM.out
      rw [← HQM.out] at hm
      have ce := H4.out.end_ (b := i) (j := 2) hi (by decide)
      replace ce : W4.cell? ⟨eb, i * 3 + 2, none⟩ = some (.int .i64 (E2 i).m) := ce
      have cn : W4.cell? ⟨g, n * 3, none⟩ = some (.int .i64 (N2 n).l) := H4.out.node (b := n) (j := 0) hn (by decide)
      have f1 := H4.out.2.free (i * 3 + 2)
      have f2 := H4.out.1.free (n * 3)
      have hq := HQM.out
      generalize hmm : (E2 i).m = q at *
      have HMM := Lib.hid hmm
      have hw : IntKind.i64.wrap (q - 1) = q - 1 := by rw [IntKind.wrap_i64]; omega
      have HM2 := Lib.hid hm
      have hge : eb ≠ g := fun e => H4.out.ne e.symm
      have hge' : g ≠ eb := H4.out.ne
      clear hmm hm hq HA HB
      go_wp2
      go_end0
      refine ⟨rfl, ?_, (HO4.out.setCell (p := ⟨eb, i * 3 + 2, none⟩) (.inl (.inr rfl)) _).setCell (p := ⟨g, n * 3, none⟩) (.inl (.inl rfl)) _⟩
      rw [HQN.out, HQE.out, ← HQM.out]
      have s1 := H4.out.setE hi (j := 2) (by decide) (.int .i64 (q - 1)) { E2 i with m := q - 1 } fun k hk => by
        rcases (show k = 0 ∨ k = 1 ∨ k = 2 by omega) with rfl | rfl | rfl <;> rfl
      exact s1.setN hn (j := 0) (by decide) (.int .i64 (-1)) { N2 n with l := -1 } fun k hk => by
        rcases (show k = 0 ∨ k = 1 ∨ k = 2 by omega) with rfl | rfl | rfl <;> rfl
def remS (S : Nat → List Int) (b : Int) : Nat → List Int := fun j => (S j).erase b
theorem Rep.rem_in {m : Nat} {N : Int → Nd} {E : Nat → En} {S : Nat → List Int} (h : Rep m N E S) {i : Nat} {b : Int} (hb : b ∈ S i) : outS S i b = remS S b := by
  funext j
  unfold outS remS updN
  split
  · rename_i e; rw [e]
  · rename_i e
    exact (List.erase_of_not_mem fun h2 => e (h.dj h2 hb)).symm
theorem rem_no {S : Nat → List Int} {b : Int} (hb : ∀ i, b ∉ S i) : remS S b = S := funext fun j => List.erase_of_not_mem (hb j)
theorem Rep.node {m : Nat} {N : Int → Nd} {E : Nat → En} {S : Nat → List Int} (h : Rep m N E S) {i : Nat} {b : Int} (hb : b ∈ S i) :
    ((N b).a = -1 ∨ ∃ a : Nat, a < 64 ∧ (N b).a = a) ∧ ((N b).b = -1 ∨ ∃ a : Nat, a < 64 ∧ (N b).b = a) := by
  have key : ∀ x : Int, x ∈ S i → ∃ a : Nat, a < 64 ∧ x = a := fun x hx => by
    obtain ⟨h1, h2⟩ := h.rng hx
    exact ⟨x.toNat, by omega, by omega⟩
  rw [h.in_ hb]
  exact ⟨(prv_or (S i) b (h.rng hb).1).imp id fun h2 => key _ h2, (nxt_or (S i) b).imp id fun h2 => key _ h2⟩
theorem SpB.out_in {g eb m : Nat} {S : Nat → List Int} {i n : Nat} {w : World} (h : SpB w g eb m S) (hb : (n : Int) ∈ S i) :
    Calls Tryz.prog 298 #[.pointer (some ⟨g, 0, none⟩), .int .i64 n] w fun e w' => e = .returned (.tuple #[]) ∧ SpB w' g eb m (remS S n) ∧ Only (Two g eb) w w' := by
  obtain ⟨N, E, hm, hr, h1, h2⟩ := h
  have hn := (hr.rng hb).2
  have hi := hr.lt hb
  obtain ⟨ha, hb'⟩ := hr.node hb
  have hlen := hr.len i
  refine (out_any w hm (by omega) hi (by rw [hr.in_ hb]) ha hb' (by rw [hr.ends i hi]; constructor <;> (try dsimp only) <;> omega)).mono fun e w' ⟨h3, h4, h5⟩ => ⟨h3, ⟨_, _, h4, ?_, h1, h2⟩, h5⟩
  rw [← hr.rem_in hb]
  exact hr.outs hb
theorem list_yes {g eb m : Nat} {S : Nat → List Int} {i : Nat} {w : World} (h : SpB w g eb m S) (hi : i < m) : Calls Tryz.prog 296 #[.pointer (some ⟨g, 0, none⟩), .int .i64 i] w fun e w' => e = .returned (.bool true) ∧ w = w' := by
  have := list_any (i : Int) w h
  rwa [show (decide (0 ≤ (i : Int)) && decide ((i : Int) < m)) = true by simp; omega] at this
theorem block_yes (g : Nat) {n : Nat} (w : World) (hn : n < 64) : Calls Tryz.prog 297 #[.pointer (some ⟨g, 0, none⟩), .int .i64 n] w fun e w' => e = .returned (.bool true) ∧ w = w' := by
  have := block_any g n w
  rwa [show (decide (0 ≤ (n : Int)) && decide ((n : Int) < 64)) = true by simp; omega] at this
theorem ready_ok {g eb m : Nat} {S : Nat → List Int} {i n : Nat} (w : World) (h : SpB w g eb m S) (hi : i < m) (hn : n < 64) :
    Calls Tryz.prog 273 #[.pointer (some ⟨g, 0, none⟩), .int .i64 i, .int .i64 n] w fun e w' => e = .returned (.int .i64 0) ∧ SpB w' g eb m (remS S n) ∧ Only (Two g eb) w w' := by
  have hni : (n : Int) < 64 := by omega
  have him : (i : Int) < m := by omega
  by_cases hb : ∃ k, (n : Int) ∈ S k
  · obtain ⟨k, hb⟩ := hb
    have HC := Lib.hid (h.out_in hb)
    have HLI := Lib.hid (list_yes h hi)
    have HBL := Lib.hid (block_yes g w hn)
    obtain ⟨N, E, hm, hr, _⟩ := h
    have hc : w.cell? ⟨g, n * 3, none⟩ = some (.int .i64 (N n).l) := hm.node (b := n) (j := 0) hn (by decide)
    rw [hr.in_ hb] at hc
    have hh := hm.hd
    dsimp only at hc
    clear hm hr hb
    go_enter Tryz.func273, Tryz.ntmps273
    go_wp2_with (first | (go_at_call 298; refine HC.out.mono ?_; rintro e W1 ⟨rfl, h1, ho1⟩) | (go_at_call 296; refine HLI.out.mono ?_; rintro e W0 ⟨rfl, rfl⟩) | (go_at_call 297; refine HBL.out.mono ?_; rintro e W0 ⟨rfl, rfl⟩))
    go_ret
    exact ⟨rfl, h1, ho1⟩
  · have hb : ∀ k, (n : Int) ∉ S k := fun k hk => hb ⟨k, hk⟩
    rw [rem_no hb]
    have H := Lib.hid h
    obtain ⟨N, E, hm, hr, _⟩ := h
    have hc : w.cell? ⟨g, n * 3, none⟩ = some (.int .i64 (N n).l) := hm.node (b := n) (j := 0) hn (by decide)
    rw [hr.no (by omega) (by omega) hb] at hc
    have hh := hm.hd
    clear hm hr hb
    go_enter Tryz.func273, Tryz.ntmps273
    go_wp2
    go_ret
    exact ⟨rfl, H.out, Only.refl _ _⟩
theorem ready_bad {g eb m : Nat} {S : Nat → List Int} {l b : Int} (w : World) (h : SpB w g eb m S) (hb : ¬ (0 ≤ l ∧ l < m ∧ 0 ≤ b ∧ b < 64)) :
    Calls Tryz.prog 273 #[.pointer (some ⟨g, 0, none⟩), .int .i64 l, .int .i64 b] w fun e w' => e = .returned (.int .i64 3) ∧ w = w' := by
  obtain ⟨N, E, hm, hr, _⟩ := h
  have hh := hm.hd
  clear hm hr
  by_cases h1 : 0 ≤ l
  · by_cases h2 : l < m
    · by_cases h3 : 0 ≤ b
      · have h4 : ¬ b < 64 := fun h4 => hb ⟨h1, h2, h3, h4⟩
        clear hb
        go_enter Tryz.func273, Tryz.ntmps273
        go_wp2
        go_ret
        exact ⟨rfl, rfl⟩
      · clear hb
        go_enter Tryz.func273, Tryz.ntmps273
        go_wp2
        go_ret
        exact ⟨rfl, rfl⟩
    · clear hb
      go_enter Tryz.func273, Tryz.ntmps273
      go_wp2
      go_ret
      exact ⟨rfl, rfl⟩
  · clear hb
    go_enter Tryz.func273, Tryz.ntmps273
    go_wp2
    go_ret
    exact ⟨rfl, rfl⟩
theorem remove_in {g eb m : Nat} {S : Nat → List Int} {i n : Nat} (w : World) (h : SpB w g eb m S) (hb : (n : Int) ∈ S i) :
    Calls Tryz.prog 276 #[.pointer (some ⟨g, 0, none⟩), .int .i64 n] w fun e w' => e = .returned (.int .i64 0) ∧ SpB w' g eb m (remS S n) ∧ Only (Two g eb) w w' := by
  have HC := Lib.hid (h.out_in hb)
  obtain ⟨N, E, hm, hr, _⟩ := h
  have hn := (hr.rng hb).2
  have HBL := Lib.hid (block_yes g (n := n) w (by omega))
  have hc : w.cell? ⟨g, n * 3, none⟩ = some (.int .i64 (N n).l) := hm.node (b := n) (j := 0) (by omega) (by decide)
  rw [hr.in_ hb] at hc
  dsimp only at hc
  clear hm hr hb
  go_enter Tryz.func276, Tryz.ntmps276
  go_wp2_with (first | (go_at_call 298; refine HC.out.mono ?_; rintro e W1 ⟨rfl, h1, ho1⟩) | (go_at_call 297; refine HBL.out.mono ?_; rintro e W0 ⟨rfl, rfl⟩))
  go_ret
  exact ⟨rfl, h1, ho1⟩
end
theorem updI_updI {α : Type} (f : Int → α) (k : Int) (u v : α) : updI (updI f k u) k v = updI f k v := by
  funext x
  unfold updI
  split <;> rfl
theorem updN_updN {α : Type} (f : Nat → α) (k : Nat) (u v : α) : updN (updN f k u) k v = updN f k v := by
  funext x
  unfold updN
  split <;> rfl
theorem updI_self {α : Type} (f : Int → α) (k : Int) (u : α) : updI f k u k = u := by simp [updI]
theorem updN_self {α : Type} (f : Nat → α) (k : Nat) (u : α) : updN f k u k = u := by simp [updN]
def f2N (N : Int → Nd) (n f : Int) : Int → Nd := if f = -1 then N else updI N f { N f with a := n }
def f1E (E : Nat → En) (i : Nat) (n f : Int) : Nat → En := if f = -1 then updN E i { E i with k := n } else E
theorem frontN_eq (N : Int → Nd) (E : Nat → En) (i : Nat) (n : Int) : frontN N E i n = f2N (updI N n ⟨i, -1, (E i).f⟩) n (E i).f := rfl
theorem frontE_eq (E : Nat → En) (i : Nat) (n : Int) : frontE E i n = updN (f1E E i n (E i).f) i ⟨n, (f1E E i n (E i).f i).k, (E i).m + 1⟩ := by
  funext x
  unfold frontE f1E updN
  split
  · split <;> simp_all [updN]
  · split <;> simp_all [updN]
theorem f1E_m (E : Nat → En) (i : Nat) (n f : Int) : (f1E E i n f i).m = (E i).m := by
  unfold f1E updN
  split <;> simp_all
theorem f1E_f (E : Nat → En) (i : Nat) (n f : Int) : (f1E E i n f i).f = (E i).f := by
  unfold f1E updN
  split <;> simp_all
section
set_option maxHeartbeats 4000000
set_option maxRecDepth 100000
theorem SpM.setRow3 {w : World} {g eb m : Nat} {N : Int → Nd} {E : Nat → En} (h : SpM w g eb m N E) {b : Nat} (hb : b < 64) (n : Nd) :
    SpM (((w.setCell ⟨g, b * 3, none⟩ (.int .i64 n.l)).setCell ⟨g, b * 3 + 1, none⟩ (.int .i64 n.a)).setCell ⟨g, b * 3 + 2, none⟩ (.int .i64 n.b)) g eb m (updI N b n) E := by
  have s1 := h.setN hb (j := 0) (by decide) (.int .i64 n.l) { N b with l := n.l } fun k hk => by
    rcases (show k = 0 ∨ k = 1 ∨ k = 2 by omega) with rfl | rfl | rfl <;> rfl
  have s2 := s1.setN hb (j := 1) (by decide) (.int .i64 n.a) { N b with l := n.l, a := n.a } fun k hk => by
    rw [updI_self]
    rcases (show k = 0 ∨ k = 1 ∨ k = 2 by omega) with rfl | rfl | rfl <;> rfl
  have s3 := s2.setN hb (j := 2) (by decide) (.int .i64 n.b) n fun k hk => by
    rw [updI_self]
    rcases (show k = 0 ∨ k = 1 ∨ k = 2 by omega) with rfl | rfl | rfl <;> rfl
  rw [updI_updI, updI_updI] at s3
  exact s3
theorem front_ok {g eb m : Nat} {S : Nat → List Int} {i n : Nat} (w : World) (h : SpB w g eb m S) (hi : i < m) (hn : n < 64) :
    Calls Tryz.prog 226 #[.pointer (some ⟨g, 0, none⟩), .int .i64 i, .int .i64 n] w fun e w' => e = .returned (.int .i64 0) ∧ SpB w' g eb m (frontS (remS S n) i n) ∧ Only (Two g eb) w w' := by
  have hni : (n : Int) < 64 := by omega
  have him : (i : Int) < m := by omega
  have HR := Lib.hid (ready_ok w h hi hn)
  have hnot : ∀ j, (n : Int) ∉ remS S n j := by
    obtain ⟨N, E, hm, hr, _⟩ := h
    exact fun j => List.Nodup.not_mem_erase (hr.nodup j)
  generalize remS S n = S1 at *
  have HNOT := Lib.hid hnot
  clear h hnot
  go_enter Tryz.func226, Tryz.ntmps226
  go_upto_region 4 with (go_at_call 273; refine HR.out.mono ?_; rintro e W1 ⟨rfl, h1, ho1⟩)
  clear HR
  obtain ⟨N, E, hm, hr, hm0, hm40⟩ := h1
  have hres := hr.fronts hi (by omega) hni HNOT.out
  have hfne : ∀ x : Nat, hd (S1 i) = x → x ≠ n ∧ x < 64 := fun x hx => by
    have hxm : hd (S1 i) ∈ S1 i := hd_mem (by omega)
    rw [hx] at hxm
    have := hr.rng hxm
    exact ⟨fun e => HNOT.out i (e ▸ hxm), by omega⟩
  have hfor : hd (S1 i) = -1 ∨ ∃ a : Nat, hd (S1 i) = a := by
    by_cases e : hd (S1 i) = -1
    · exact .inl e
    · have := hr.rng (hd_mem e)
      exact .inr ⟨(hd (S1 i)).toNat, by omega⟩
  have hlen := hr.len i
  have hE := hr.ends i hi
  have hEm : 0 ≤ (E i).m ∧ (E i).m ≤ 64 := by rw [hE]; constructor <;> (try dsimp only) <;> omega
  have hEf : (E i).f = hd (S1 i) := by rw [hE]
  rw [← hEf] at hfne hfor
  have HRES := Lib.hid hres
  have H1 := Lib.hid hm
  have HO1 := Lib.hid ho1
  have HFN := Lib.hid hfne
  have HFO := Lib.hid hfor
  have HEM := Lib.hid hEm
  have HM := Lib.hid (show 0 < m ∧ m ≤ 40 from ⟨hm0, hm40⟩)
  clear hm hr hm0 hm40 hres hfne hfor hlen hE hEm hEf ho1
  have hh := H1.out.hd
  have ce : W1.cell? ⟨eb, i * 3, none⟩ = some (.int .i64 (E i).f) := H1.out.end_ (b := i) (j := 0) hi (by decide)
  have c0 : W1.cell? ⟨g, n * 3, none⟩ = some (.int .i64 (N n).l) := H1.out.node (b := n) (j := 0) hn (by decide)
  have c1 : W1.cell? ⟨g, n * 3 + 1, none⟩ = some (.int .i64 (N n).a) := H1.out.node (b := n) (j := 1) hn (by decide)
  have c2 : W1.cell? ⟨g, n * 3 + 2, none⟩ = some (.int .i64 (N n).b) := H1.out.node (b := n) (j := 2) hn (by decide)
  have f0 := H1.out.1.free (n * 3)
  have f1 := H1.out.1.free (n * 3 + 1)
  have f2 := H1.out.1.free (n * 3 + 2)
  have HFQ := Lib.hid (frontN_eq N E i n)
  have HEQ := Lib.hid (frontE_eq E i n)
  have hq1 := f1E_m E i n (E i).f
  have hq2 := f1E_f E i n (E i).f
  generalize hf : (E i).f = f at *
  have HF := Lib.hid hf
  have HQ1 := Lib.hid hq1
  have HQ2 := Lib.hid hq2
  clear hf hq1 hq2
  go_upto_region 5 with fail
  refine wp_region_tail (S := (fun w' : World => w' = W1.drew)) 11 (by kernel_rfl) (by kernel_rfl) ?_ ?_
  · rfl
  intro hSS
  refine wpHd_take (i := 0) (v := ?_) (by kernel_rfl) rfl (by kernel_rfl) (fun _ _ _ h => h) (.inl ⟨by rfl, ?_⟩) hSS ?_
  rotate_left
  · intro w hSw; (try dsimp only at hSw); go_simp; (try with_reducible rfl)
  refine wpHd_take (i := 1) (v := ?_) (by kernel_rfl) rfl (by kernel_rfl) (fun _ _ _ h => h) (.inl ⟨by rfl, ?_⟩) hSS ?_
  rotate_left
  · intro w hSw; (try dsimp only at hSw); go_simp; (try with_reducible rfl)
  refine wpHd_take (i := 2) (v := ?_) (by kernel_rfl) rfl (by kernel_rfl) (fun _ _ _ h => h) (.inl ⟨by rfl, ?_⟩) hSS ?_
  rotate_left
  · intro w hSw; (try dsimp only at hSw); go_simp; (try with_reducible rfl)
  refine wpHd_take (i := 3) (v := ?_) (by kernel_rfl) rfl (by kernel_rfl) (fun _ _ _ h => h) (.inl ⟨by rfl, ?_⟩) hSS ?_
  rotate_left
  · intro w hSw; (try dsimp only at hSw); go_simp; (try with_reducible rfl)
  refine wpHd_take (i := 4) (v := ?_) (by kernel_rfl) rfl (by kernel_rfl) (fun _ _ _ h => h) (.inl ⟨by rfl, ?_⟩) hSS ?_
  rotate_left
  · intro w hSw; (try dsimp only at hSw); go_simp; (try with_reducible rfl)
  try simp only [Act.put, List.getElem_toArray, List.getElem_cons_succ, List.getElem_cons_zero, List.setIfInBounds_toArray, List.set_cons_zero, List.set_cons_succ]
  refine wpHd_take (i := 5) (v := ?_) (by kernel_rfl) rfl (by kernel_rfl) (fun _ _ _ h => h) (.inl ⟨by rfl, ?_⟩) hSS ?_
  rotate_left
  · intro w hSw; (try dsimp only at hSw); go_simp; (try with_reducible rfl)
  refine wpHd_take (i := 6) (v := ?_) (by kernel_rfl) rfl (by kernel_rfl) (fun _ _ _ h => h) (.inl ⟨by rfl, ?_⟩) hSS ?_
  rotate_left
  · intro w hSw; (try dsimp only at hSw); go_simp; (try with_reducible rfl)
  refine wpHd_take (i := 7) (v := ?_) (by kernel_rfl) rfl (by kernel_rfl) (fun _ _ _ h => h) (.inl ⟨by rfl, ?_⟩) hSS ?_
  rotate_left
  · intro w hSw; (try dsimp only at hSw); go_simp; (try with_reducible rfl)
  refine wpHd_take (i := 8) (v := ?_) (by kernel_rfl) rfl (by kernel_rfl) (fun _ _ _ h => h) (.inl ⟨by rfl, ?_⟩) hSS ?_
  rotate_left
  · intro w hSw; (try dsimp only at hSw); go_simp; (try with_reducible rfl)
  refine wpHd_take (i := 9) (v := ?_) (by kernel_rfl) rfl (by kernel_rfl) (fun _ _ _ h => h) (.inl ⟨by rfl, ?_⟩) hSS ?_
  rotate_left
  · intro w hSw; (try dsimp only at hSw); go_simp; (try with_reducible rfl)
  try simp only [Act.put, List.getElem_toArray, List.getElem_cons_succ, List.getElem_cons_zero, List.setIfInBounds_toArray, List.set_cons_zero, List.set_cons_succ]
  refine wpHd_take (i := 10) (v := ?_) (by kernel_rfl) rfl (by kernel_rfl) (fun _ _ _ h => h) (.inl ⟨by rfl, ?_⟩) hSS ?_
  rotate_left
  · intro w hSw; (try dsimp only at hSw); go_simp; (try with_reducible rfl)
  try simp only [Act.put, List.getElem_toArray, List.getElem_cons_succ, List.getElem_cons_zero, List.setIfInBounds_toArray, List.set_cons_zero, List.set_cons_succ]
  refine wpHd_end (by kernel_rfl) ?_
  clear hSS
  go_upto_region 6 with fail
  have H2 := Lib.hid (show SpM (((W1.drew.setCell ⟨g, n * 3, none⟩ (.int .i64 i)).setCell ⟨g, n * 3 + 1, none⟩ (.int .i64 (-1))).setCell ⟨g, n * 3 + 2, none⟩ (.int .i64 f)) g eb m (updI N n ⟨i, -1, f⟩) E from (show SpM W1.drew g eb m N E from H1.out).setRow3 hn ⟨i, -1, f⟩)
  have HO2 := Lib.hid (show Only (Two g eb) w (((W1.drew.setCell ⟨g, n * 3, none⟩ (.int .i64 i)).setCell ⟨g, n * 3 + 1, none⟩ (.int .i64 (-1))).setCell ⟨g, n * 3 + 2, none⟩ (.int .i64 f)) from ((HO1.out.drew.setCell (p := ⟨g, n * 3, none⟩) (.inl (.inl rfl)) (.int .i64 i)).setCell (p := ⟨g, n * 3 + 1, none⟩) (.inl (.inl rfl)) (.int .i64 (-1))).setCell (p := ⟨g, n * 3 + 2, none⟩) (.inl (.inl rfl)) (.int .i64 f))
  change Code.wp _ _ _ _ (((W1.drew.setCell ⟨g, n * 3, none⟩ (.int .i64 i)).setCell ⟨g, n * 3 + 1, none⟩ (.int .i64 (-1))).setCell ⟨g, n * 3 + 2, none⟩ (.int .i64 f))
  clear hh ce c0 c1 c2 f0 f1 f2 H1 HO1
  generalize (((W1.drew.setCell ⟨g, n * 3, none⟩ (.int .i64 i)).setCell ⟨g, n * 3 + 1, none⟩ (.int .i64 (-1))).setCell ⟨g, n * 3 + 2, none⟩ (.int .i64 f)) = W2 at *
  generalize updI N n ⟨i, -1, f⟩ = N1 at *
  have ce : W2.cell? ⟨eb, i * 3, none⟩ = some (.int .i64 f) := by
    have := H2.out.end_ (b := i) (j := 0) hi (by decide)
    rw [← HF.out]; exact this
  go_upto_if 37 with fail
  go_cut [] (fun wx => SpM wx g eb m (f2N N1 n f) (f1E E i n f) ∧ Only (Two g eb) W2 wx)
  case first =>
    have hf := HFO.out
    have hf2 := HFN.out
    clear HFO HFN HQ1 HQ2 HFQ HEQ HF
    rcases hf with hf | ⟨a, hf⟩
    · subst hf
      have e1 := Lib.hid (show f2N N1 n (-1) = N1 from rfl)
      have e2 := Lib.hid (show f1E E i n (-1) = updN E i { E i with k := n } from rfl)
      have f1 := H2.out.2.free (i * 3 + 1)
      have ck : W2.cell? ⟨eb, i * 3 + 1, none⟩ = some (.int .i64 (E i).k) := H2.out.end_ (b := i) (j := 1) hi (by decide)
      clear hf2
      go_wp2
      go_meet
      case rel =>
        refine ⟨?_, Only.setCell (p := ⟨eb, i * 3 + 1, none⟩) (Only.refl _ _) (.inl (.inr rfl)) _⟩
        rw [e1.out, e2.out]
        exact H2.out.setE hi (j := 1) (by decide) _ _ fun k hk => by
          rcases (show k = 0 ∨ k = 1 ∨ k = 2 by omega) with rfl | rfl | rfl <;> rfl
    · obtain ⟨han, ha64⟩ := hf2 a hf
      subst hf
      have e : ¬ ((a : Int) = -1) := by omega
      have e1 := Lib.hid (show f2N N1 n a = updI N1 a { N1 a with a := n } from if_neg e)
      have e2 := Lib.hid (show f1E E i n a = E from if_neg e)
      clear e hf2 han
      have f1 := H2.out.1.free (a * 3 + 1)
      have hai : (a : Int) < 64 := by omega
      have ca : W2.cell? ⟨g, a * 3 + 1, none⟩ = some (.int .i64 (N1 a).a) := H2.out.node (b := a) (j := 1) ha64 (by decide)
      go_upto_region 8 with fail
      refine wp_region_tail (S := (fun w' : World => w' = W2.drew)) 10 (by kernel_rfl) (by kernel_rfl) ?_ ?_
      · rfl
      intro hSS
      refine wpHd_take (i := 0) (v := ?_) (by kernel_rfl) rfl (by kernel_rfl) (fun _ _ _ h => h) (.inl ⟨by rfl, ?_⟩) hSS ?_
      rotate_left
      · intro w hSw; (try dsimp only at hSw); go_simp; (try with_reducible rfl)
      refine wpHd_take (i := 1) (v := ?_) (by kernel_rfl) rfl (by kernel_rfl) (fun _ _ _ h => h) (.inl ⟨by rfl, ?_⟩) hSS ?_
      rotate_left
      · intro w hSw; (try dsimp only at hSw); go_simp; (try with_reducible rfl)
      refine wpHd_take (i := 2) (v := ?_) (by kernel_rfl) rfl (by kernel_rfl) (fun _ _ _ h => h) (.inl ⟨by rfl, ?_⟩) hSS ?_
      rotate_left
      · intro w hSw; (try dsimp only at hSw); go_simp; (try with_reducible rfl)
      refine wpHd_take (i := 3) (v := ?_) (by kernel_rfl) rfl (by kernel_rfl) (fun _ _ _ h => h) (.inl ⟨by rfl, ?_⟩) hSS ?_
      rotate_left
      · intro w hSw; (try dsimp only at hSw); go_simp; (try with_reducible rfl)
      refine wpHd_take (i := 4) (v := ?_) (by kernel_rfl) rfl (by kernel_rfl) (fun _ _ _ h => h) (.inl ⟨by rfl, ?_⟩) hSS ?_
      rotate_left
      · intro w hSw; (try dsimp only at hSw); go_simp; (try with_reducible rfl)
      try simp only [Act.put, List.getElem_toArray, List.getElem_cons_succ, List.getElem_cons_zero, List.setIfInBounds_toArray, List.set_cons_zero, List.set_cons_succ]
      refine wpHd_take (i := 5) (v := ?_) (by kernel_rfl) rfl (by kernel_rfl) (fun _ _ _ h => h) (.inl ⟨by rfl, ?_⟩) hSS ?_
      rotate_left
      · intro w hSw; (try dsimp only at hSw); go_simp; (try with_reducible rfl)
      refine wpHd_take (i := 6) (v := ?_) (by kernel_rfl) rfl (by kernel_rfl) (fun _ _ _ h => h) (.inl ⟨by rfl, ?_⟩) hSS ?_
      rotate_left
      · intro w hSw; (try dsimp only at hSw); go_simp; (try with_reducible rfl)
      refine wpHd_take (i := 7) (v := ?_) (by kernel_rfl) rfl (by kernel_rfl) (fun _ _ _ h => h) (.inl ⟨by rfl, ?_⟩) hSS ?_
      rotate_left
      · intro w hSw; (try dsimp only at hSw); go_simp; (try with_reducible rfl)
      refine wpHd_take (i := 8) (v := ?_) (by kernel_rfl) rfl (by kernel_rfl) (fun _ _ _ h => h) (.inl ⟨by rfl, ?_⟩) hSS ?_
      rotate_left
      · intro w hSw; (try dsimp only at hSw); go_simp; (try with_reducible rfl)
      refine wpHd_take (i := 9) (v := ?_) (by kernel_rfl) rfl (by kernel_rfl) (fun _ _ _ h => h) (.inl ⟨by rfl, ?_⟩) hSS ?_
      rotate_left
      · intro w hSw; (try dsimp only at hSw); go_simp; (try with_reducible rfl)
      try simp only [Act.put, List.getElem_toArray, List.getElem_cons_succ, List.getElem_cons_zero, List.setIfInBounds_toArray, List.set_cons_zero, List.set_cons_succ]
      refine wpHd_end (by kernel_rfl) ?_
      clear hSS
      go_wp2
      go_meet
      case rel =>
        refine ⟨?_, (Only.setCell (p := ⟨g, a * 3 + 1, none⟩) ((Only.refl _ _).drew) (.inl (.inl rfl)) _)⟩
        rw [e1.out, e2.out]
        exact (show SpM W2.drew g eb m N1 E from H2.out).setN ha64 (j := 1) (by decide) _ _ fun k hk => by
          rcases (show k = 0 ∨ k = 1 ∨ k = 2 by omega) with rfl | rfl | rfl <;> rfl
  case rest =>
    obtain ⟨h3, ho3⟩ := hcut
    obtain ⟨W3, e3⟩ : ∃ W3, W3 = wc := ⟨_, rfl⟩
    subst e3
    have HO3 := Lib.hid (HO2.out.trans ho3)
    have H3 := Lib.hid h3
    clear h3 ho3 ce HO2 H2
    generalize f2N N1 n f = N2 at *
    generalize f1E E i n f = E2 at *
    have ce : W3.cell? ⟨eb, i * 3, none⟩ = some (.int .i64 (E2 i).f) := H3.out.end_ (b := i) (j := 0) hi (by decide)
    have cm : W3.cell? ⟨eb, i * 3 + 2, none⟩ = some (.int .i64 (E2 i).m) := H3.out.end_ (b := i) (j := 2) hi (by decide)
    have f0 := H3.out.2.free (i * 3)
    have f2 := H3.out.2.free (i * 3 + 2)
    have hm := HEM.out
    have hq := HQ1.out
    rw [← hq] at hm
    generalize hmm : (E2 i).m = q at *
    have HMM := Lib.hid hmm
    have hw : IntKind.i64.wrap (q + 1) = q + 1 := by rw [IntKind.wrap_i64]; omega
    clear hm hq hmm HEM
    go_wp2
    go_ret
    refine ⟨rfl, ⟨_, _, ?_, HRES.out, HM.out.1, HM.out.2⟩, (HO3.out.setCell (p := ⟨eb, i * 3, none⟩) (.inl (.inr rfl)) _).setCell (p := ⟨eb, i * 3 + 2, none⟩) (.inl (.inr rfl)) _⟩
    rw [HFQ.out, HEQ.out, ← HQ1.out]
    have s1 := H3.out.setE hi (j := 0) (by decide) (.int .i64 n) { E2 i with f := n } fun k hk => by
      rcases (show k = 0 ∨ k = 1 ∨ k = 2 by omega) with rfl | rfl | rfl <;> rfl
    have s2 := s1.setE hi (j := 2) (by decide) (.int .i64 (q + 1)) ⟨n, (E2 i).k, q + 1⟩ fun k hk => by
      rw [updN_self]
      rcases (show k = 0 ∨ k = 1 ∨ k = 2 by omega) with rfl | rfl | rfl <;> rfl
    rw [updN_updN] at s2
    exact s2
end
end Go.Proofs.YtodephhlhdbeoaaGreat
